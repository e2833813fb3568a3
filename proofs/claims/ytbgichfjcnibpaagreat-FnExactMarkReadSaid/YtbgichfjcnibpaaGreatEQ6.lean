/- Printed by gen.py: plain functions for Go functions, and that the walks keep to them. -/
import Derived.Test.YtbgichfjcnibpaaGreatEQ5
set_option autoImplicit false
set_option linter.unusedVariables false
set_option linter.unusedSimpArgs false
set_option maxRecDepth 100000
namespace Go.Proofs.YtbgichfjcnibpaaGreat
open Go Go.Abs
attribute [local irreducible] AW Ops OpsD Y3n
def Zev (l28 : List Int) : Option (List Int) := some l28
def Zew (x15 : Int) (l26 : List Int) : Option ((List Int × Int) ⊕ ((List Int))) := some (.inl (l26, (IntKind.i64.wrap (x15 + 1))))
def Zex (p0 : Y96) (l14 : List Int) (x15 : Int) : Option ((List Int × Int) ⊕ ((List Int))) := cond (decide (x15 < (p0.graph.events.length : Int))) ((getI p0.graph.events x15).bind fun e17 => cond ((Option.getD (mget p0.refused e17.id) 0) == 0) ((chk (decide ((l14.length + [e17.id].length) * 8 ≤ 140737488355328))).bind fun u23 => Zew x15 (l14 ++ [e17.id])) (Zew x15 l14)) (some (.inr l14))
def Zey (p0 : Y96) : Option (List Int) := (iter (fun z30 => Zex p0 z30.1 z30.2) big (([] : List Int), 0)).bind fun y31 => Zev y31
set_option maxHeartbeats 1000000 in
theorem Zez (p0 : Y96) (r : List Int) (h : Zey p0 = some r) : Ok Tryz.prog 137 [C.ip [C.int p0.graph.room, C.im Y98 9 p0.graph.events, C.im Y98 9 p0.graph.parked, C.imap .i64 Y9l p0.depth, C.imap .i64 Y9m p0.before, C.imap .i64 Y9m p0.after, C.imap .i64 Y9l p0.refused]] [] (fun c qs => ∃ (v29 : Value), c = C.val v29 ∧ qs = [Obj.arr v29 2 kI64 1 r]) := by
 refine Ok.of_body (rs := [.tmp 2]) Tryz.func137 rfl rfl rfl rfl rfl fun X => ?_
 unfold Zey at h
 refine zw ?_
 refine Ops.h (ns := []) rfl rfl (Y39 (k := kI64) (ys := ([] : List Int)) Ya6 .nil rfl rfl rfl) ?_
 rintro _ _ ⟨b1, rfl, rfl⟩
 refine Ops.v rfl (Yr rfl rfl) ?_
 refine Ops.nil ?_
 refine AW.seq ?_
 refine AW.cut (τ := List Int × Value) (fun (l28, v27) => ⟨[(3, C.val v27)], [Obj.arr v27 2 kI64 1 l28]⟩) (fun (l28, v27) => Zev l28 = some r) ?_ ?_
 ·
  refine zw ?_
  refine AW.lp h (fun (l14, x15) (v13 : Value) => ⟨[(0, C.ip [C.int p0.graph.room, C.im Y98 9 p0.graph.events, C.im Y98 9 p0.graph.parked, C.imap .i64 Y9l p0.depth, C.imap .i64 Y9m p0.before, C.imap .i64 Y9m p0.after, C.imap .i64 Y9l p0.refused]), (3, C.val v13), (11, C.im Y98 9 p0.graph.events), (12, C.int (p0.graph.events.length : Int)), (13, C.int x15)], [Obj.arr v13 2 kI64 1 l14]⟩) (gb [0]) ?_
  rintro ⟨l14, x15⟩ v13 y37 h
  refine zw ?_
  refine cnd h (fun hb16 h => ?_) fun hb16 h => ?_
  ·
   refine AW.ct hb16 rfl ?_
   refine zw ?_
   refine oi h fun e17 g18 h => ?_
   refine zw ?_
   refine Ops.h (ns := []) rfl rfl (Y1p (cs := [C.int 0, C.int 0, C.int 0, C.int 0, C.int 0, C.int 0, C.str ByteArray.empty, C.val s0, C.int 0]) Ya7 (Y42 rfl rfl) rfl) ?_
   rintro _ _ ⟨b19, rfl, rfl⟩
   refine Ops.hd (ns := [0]) rfl rfl (Y1u (gs := [C.int e17.id, C.int e17.room, C.int e17.author, C.int e17.kind, C.int e17.key, C.int e17.n, C.str e17.text, C.im kI64 1 e17.prev, C.int e17.time]) Yao.h rfl rfl rfl rfl rfl) ?_
   refine zw ?_
   refine AW.regionD (L := [3, 5, 6]) (Lt := []) (k := dec [0,3,6,10,12,16,19,21]) (ns := [0, 0]) (by kernel_rfl) (by kernel_rfl) (by kernel_rfl) (by kernel_rfl) rfl ?_
   refine zw ?_
   refine OpsD.v rfl rfl (Y8a (kc := Y9l) (z0 := 0) Yd9 zv_2 (fun _ _ => rfl) rfl rfl rfl) ?_
   refine zw ?_
   refine cnd h (fun hb20 h => ?_) fun hb20 h => ?_
   ·
    refine AW.ct hb20 rfl ?_
    refine zw ?_
    refine Ops.h (ns := []) rfl rfl (Y39 (k := kI64) (ys := [e17.id]) Ya6 (.one rfl (One.val rfl) rfl rfl .nil) rfl rfl rfl) ?_
    rintro _ _ ⟨b21, rfl, rfl⟩
    refine ob' h fun u23 c22 h => ?_
    refine Ops.h (ns := [2, 0]) rfl rfl (Y2s Ya6 rfl rfl (of_decide_eq_true (Y3t c22)) (Y3w (by decide) c22) rfl) ?_
    rintro _ _ ⟨v24, rfl, rfl⟩
    exact go
   exact go
  exact go
 rintro ⟨l28, v27⟩ h
 replace h : Zev l28 = some r := h
 unfold Zev at h
 refine zw ?_
 refine AW.ret ?_
 rw [← Option.some.inj h]
 exact ⟨[C.val v27], _, Y21.refl _, (.cons (.tmp rfl) .nil), [0], _, _, rfl, ⟨v27, rfl, rfl⟩⟩
instance Zez' (p0 : Y96) : Sp Tryz.prog 137 [C.ip [C.int p0.graph.room, C.im Y98 9 p0.graph.events, C.im Y98 9 p0.graph.parked, C.imap .i64 Y9l p0.depth, C.imap .i64 Y9m p0.before, C.imap .i64 Y9m p0.after, C.imap .i64 Y9l p0.refused]] (Zey p0) (fun r => C.im kI64 1 r) := ⟨fun r h => Ok.freeze (Zez p0 r h) (by rintro c qs ⟨v29, rfl, rfl⟩; exact Frz.arr)⟩

def Zf0 (p0 : Y97) (p1 : Int) : Option Y96 := (getI p0.rooms (IntKind.i64.wrap (p1 - 1))).bind fun e1 => some e1
theorem Zf1 {b00 : Nat} {w01 : Value} (p0 : Y97) (p1 : Int) (r : Y96) (h : Zf0 p0 p1 = some r) : Ok Tryz.prog 138 [pt b00, C.int p1] [Obj.box b00 145 [C.im Y9d 3 p0.hub.rooms, C.im Y9a 2 p0.hub.stream, C.val w01], Obj.arr w01 186 Y9o 1 p0.rooms] (fun c qs => c = C.ip [C.int r.graph.room, C.im Y98 9 r.graph.events, C.im Y98 9 r.graph.parked, C.imap .i64 Y9l r.depth, C.imap .i64 Y9m r.before, C.imap .i64 Y9m r.after, C.imap .i64 Y9l r.refused] ∧ qs = [Obj.box b00 145 [C.im Y9d 3 p0.hub.rooms, C.im Y9a 2 p0.hub.stream, C.val w01], Obj.arr w01 186 Y9o 1 p0.rooms]) := by
 refine Ok.of_body (rs := [.tmp 4]) Tryz.func138 rfl rfl rfl rfl rfl fun X => ?_
 unfold Zf0 at h
 refine zw ?_
 refine ob' h fun e1 g2 h => ?_
 refine Ops.v rfl (Y2x (p := 1) Ydg.h rfl rfl rfl g2 rfl) ?_
 refine Ops.v rfl (Y30 (p := 1) Yd5.h rfl rfl (Y29 g2).2.2 rfl rfl) ?_
 refine zw ?_
 refine AW.ret ?_
 rw [← Option.some.inj h]
 exact ⟨[C.ip [C.int e1.graph.room, C.im Y98 9 e1.graph.events, C.im Y98 9 e1.graph.parked, C.imap .i64 Y9l e1.depth, C.imap .i64 Y9m e1.before, C.imap .i64 Y9m e1.after, C.imap .i64 Y9l e1.refused]], _, Y21.refl _, (.cons (.tmp rfl) .nil), [0, 0], _, _, rfl, ⟨rfl, rfl⟩⟩

def Zf2 (x2 : Bool) : Option Bool := some x2
def Zf3 (p0 : Int) (q0 : Y96) (q1 : List ((Int × Int) × Bool)) (q2 : Y8y) : Option Bool := cond ((Option.getD (mget q0.refused p0) 0) == 0) (Zf2 (!(Option.getD (pget q1 (q2.room, p0)) false))) (Zf2 false)
set_option maxHeartbeats 1000000 in
theorem Zf4 {b00 : Nat} {b01 : Nat} {b02 : Nat} {b03 : Nat} (p0 : Int) (q0 : Y96) (q1 : List ((Int × Int) × Bool)) (q2 : Y8y) (r : Bool) (h : Zf3 p0 q0 q1 q2 = some r) : Ok Tryz.prog 141 [C.int p0, pt b00, pt b01, pt b03] [Obj.box b00 186 [C.ip [C.int q0.graph.room, C.im Y98 9 q0.graph.events, C.im Y98 9 q0.graph.parked, C.imap .i64 Y9l q0.depth, C.imap .i64 Y9m q0.before, C.imap .i64 Y9m q0.after, C.imap .i64 Y9l q0.refused]], Obj.box b01 189 [mt b02], Abs.Obj.pmap b02 Y9n q1, Obj.box b03 142 [C.int q2.room, C.int q2.id]] (fun c qs => c = C.bool r ∧ qs = [Obj.box b00 186 [C.ip [C.int q0.graph.room, C.im Y98 9 q0.graph.events, C.im Y98 9 q0.graph.parked, C.imap .i64 Y9l q0.depth, C.imap .i64 Y9m q0.before, C.imap .i64 Y9m q0.after, C.imap .i64 Y9l q0.refused]], Obj.box b01 189 [mt b02], Abs.Obj.pmap b02 Y9n q1, Obj.box b03 142 [C.int q2.room, C.int q2.id]]) := by
 refine Ok.of_body (rs := [.tmp 5]) Tryz.func141 rfl rfl rfl rfl rfl fun X => ?_
 unfold Zf3 at h
 refine AW.seq ?_
 refine AW.region ?_
 refine Ops.v rfl (Yr rfl rfl) ?_
 refine Ops.nil ?_
 refine AW.seq ?_
 refine AW.cut (τ := Bool) (fun x2 => ⟨[(5, C.bool x2)], [Obj.box b00 186 [C.ip [C.int q0.graph.room, C.im Y98 9 q0.graph.events, C.im Y98 9 q0.graph.parked, C.imap .i64 Y9l q0.depth, C.imap .i64 Y9m q0.before, C.imap .i64 Y9m q0.after, C.imap .i64 Y9l q0.refused]], Obj.box b01 189 [mt b02], Abs.Obj.pmap b02 Y9n q1, Obj.box b03 142 [C.int q2.room, C.int q2.id]]⟩) (fun x2 => Zf2 x2 = some r) ?_ ?_
 ·
  refine zw ?_
  refine Ops.v rfl (Y8a (kc := Y9l) (z0 := 0) Yd9 zv_2 (fun _ _ => rfl) rfl rfl rfl) ?_
  refine zw ?_
  refine cnd h (fun hb1 h => ?_) fun hb1 h => ?_
  ·
   refine zw ?_
   refine Ops.gv rfl rfl rfl rfl hb1 (Y38 (ds := [C.int q2.room, C.int p0]) Ydo Yb3 (Y42 rfl rfl) (.one rfl (One.val rfl) rfl rfl (.one rfl (One.val rfl) rfl rfl .nil)) rfl) ?_
   refine Ops.gv rfl rfl rfl rfl hb1 (Y8m (p := 2) (j := (q2.room, p0)) (kc := Y9n) (z0 := false) Ydm zv_4 (fun _ _ => rfl) rfl rfl rfl rfl) ?_
   refine zw ?_
   exact ⟨(!(Option.getD (pget q1 (q2.room, p0)) false)), h, Y21.both (ns := [0, 0, 0, 0]) rfl rfl⟩
  refine zw ?_
  exact ⟨false, h, Y21.both (ns := [0, 0, 0, 0]) rfl rfl⟩
 intro x2 h
 replace h : Zf2 x2 = some r := h
 unfold Zf2 at h
 refine AW.ret ?_
 rw [← Option.some.inj h]
 exact ⟨[C.bool x2], _, Y21.refl _, (.cons (.tmp rfl) .nil), [0, 0, 0, 0], _, _, rfl, ⟨rfl, rfl⟩⟩

def Zf5 : Option Int := some (-1)
def Zf6 (p0 : List Int) (p1_0 : Y96) (p1_1 : List ((Int × Int) × Bool)) (p1_2 : Y8y) (x7 : Int) : Option (Int ⊕ (Int ⊕ Unit)) := cond (decide (x7 < (p0.length : Int))) ((getI p0 x7).bind fun e9 => (Zf3 e9 p1_0 p1_1 p1_2).bind fun r11 => cond r11 (some (.inr (.inl x7))) (some (.inl (IntKind.i64.wrap (x7 + 1))))) (some (.inr (.inr ())))
def Zf7 (p0 : List Int) (p1_0 : Y96) (p1_1 : List ((Int × Int) × Bool)) (p1_2 : Y8y) : Option Int := (iter (Zf6 p0 p1_0 p1_1 p1_2) big 0).bind (fun z15 => match z15 with | .inl y14 => some y14 | .inr () => Zf5)
set_option maxHeartbeats 1000000 in
theorem Zf8 {b00 : Nat} {b01 : Nat} {b02 : Nat} {b03 : Nat} (p0 : List Int) (p1_0 : Y96) (p1_1 : List ((Int × Int) × Bool)) (p1_2 : Y8y) (r : Int) (h : Zf7 p0 p1_0 p1_1 p1_2 = some r) : Ok Tryz.prog 194 [C.im kI64 1 p0, C.clo 141 [pt b00, pt b01, pt b03]] [Obj.box b00 186 [C.ip [C.int p1_0.graph.room, C.im Y98 9 p1_0.graph.events, C.im Y98 9 p1_0.graph.parked, C.imap .i64 Y9l p1_0.depth, C.imap .i64 Y9m p1_0.before, C.imap .i64 Y9m p1_0.after, C.imap .i64 Y9l p1_0.refused]], Obj.box b01 189 [mt b02], Abs.Obj.pmap b02 Y9n p1_1, Obj.box b03 142 [C.int p1_2.room, C.int p1_2.id]] (fun c qs => c = C.int r ∧ qs = [Obj.box b00 186 [C.ip [C.int p1_0.graph.room, C.im Y98 9 p1_0.graph.events, C.im Y98 9 p1_0.graph.parked, C.imap .i64 Y9l p1_0.depth, C.imap .i64 Y9m p1_0.before, C.imap .i64 Y9m p1_0.after, C.imap .i64 Y9l p1_0.refused]], Obj.box b01 189 [mt b02], Abs.Obj.pmap b02 Y9n p1_1, Obj.box b03 142 [C.int p1_2.room, C.int p1_2.id]]) := by
 refine Ok.of_body (rs := [.tmp 4]) Tryz.func194 rfl rfl rfl rfl rfl fun X => ?_
 unfold Zf7 at h
 refine AW.seq ?_
 refine AW.region ?_
 refine Ops.v rfl (Yr rfl rfl) ?_
 refine Ops.nil ?_
 refine AW.seq ?_
 refine AW.cut (τ := Unit) (fun (_ : Unit) => ⟨[], [Obj.box b00 186 [C.ip [C.int p1_0.graph.room, C.im Y98 9 p1_0.graph.events, C.im Y98 9 p1_0.graph.parked, C.imap .i64 Y9l p1_0.depth, C.imap .i64 Y9m p1_0.before, C.imap .i64 Y9m p1_0.after, C.imap .i64 Y9l p1_0.refused]], Obj.box b01 189 [mt b02], Abs.Obj.pmap b02 Y9n p1_1, Obj.box b03 142 [C.int p1_2.room, C.int p1_2.id]]⟩) (fun (_ : Unit) => Zf5 = some r) ?_ ?_
 ·
  refine zw ?_
  refine AW.lp (v := ()) h (fun x7 (_ : Unit) => ⟨[(0, C.im kI64 1 p0), (1, C.clo 141 [pt b00, pt b01, pt b03]), (7, C.int (p0.length : Int)), (8, C.int x7)], [Obj.box b00 186 [C.ip [C.int p1_0.graph.room, C.im Y98 9 p1_0.graph.events, C.im Y98 9 p1_0.graph.parked, C.imap .i64 Y9l p1_0.depth, C.imap .i64 Y9m p1_0.before, C.imap .i64 Y9m p1_0.after, C.imap .i64 Y9l p1_0.refused]], Obj.box b01 189 [mt b02], Abs.Obj.pmap b02 Y9n p1_1, Obj.box b03 142 [C.int p1_2.room, C.int p1_2.id]]⟩) (gb [0, 0, 0, 0]) ?_
  rintro x7 _ y21 h
  refine zw ?_
  refine cnd h (fun hb8 h => ?_) fun hb8 h => ?_
  ·
   refine AW.ct hb8 rfl ?_
   refine zw ?_
   refine oi h fun e9 g10 h => ?_
   refine zw ?_
   refine ob' h fun r11 g12 h => ?_
   refine Ops.hd (ns := [0, 0, 0, 0]) rfl rfl (Y6s (cs := [_]) (ds := [_, _, _]) rfl (Zf4 e9 p1_0 p1_1 p1_2 _ g12) rfl rfl) ?_
   refine zw ?_
   refine cnd h (fun hb13 h => ?_) fun hb13 h => ?_
   ·
    refine AW.ct hb13 rfl ?_
    refine zw ?_
    refine AW.ret ?_
    refine lx h fun h => ?_
    rw [← Option.some.inj h]
    exact ⟨[C.int x7], _, Y21.refl _, (.cons (.tmp rfl) .nil), [0, 0, 0, 0], _, _, rfl, ⟨rfl, rfl⟩⟩
   refine AW.cf hb13 rfl ?_
   refine zw ?_
   exact lu h (gb [0, 0, 0, 0])
  refine AW.cf hb8 rfl ?_
  refine AW.exit ?_
  refine lx h fun h => ?_
  exact ⟨(), h, Y21.both (ns := [0, 0, 0, 0]) rfl rfl⟩
 rintro ⟨⟩ h
 replace h : Zf5 = some r := h
 unfold Zf5 at h
 refine zw ?_
 refine AW.ret ?_
 rw [← Option.some.inj h]
 exact ⟨[C.int (-1)], _, Y21.refl _, (.cons (.tmp rfl) .nil), [0, 0, 0, 0], _, _, rfl, ⟨rfl, rfl⟩⟩

def Zf9 (p0 : List Int) (p1_0 : Y96) (p1_1 : List ((Int × Int) × Bool)) (p1_2 : Y8y) : Option Bool := (Zf7 p0 p1_0 p1_1 p1_2).bind fun r1 => some (decide (r1 ≥ 0))
theorem Zfa {b00 : Nat} {b01 : Nat} {b02 : Nat} {b03 : Nat} (p0 : List Int) (p1_0 : Y96) (p1_1 : List ((Int × Int) × Bool)) (p1_2 : Y8y) (r : Bool) (h : Zf9 p0 p1_0 p1_1 p1_2 = some r) : Ok Tryz.prog 140 [C.im kI64 1 p0, C.clo 141 [pt b00, pt b01, pt b03]] [Obj.box b00 186 [C.ip [C.int p1_0.graph.room, C.im Y98 9 p1_0.graph.events, C.im Y98 9 p1_0.graph.parked, C.imap .i64 Y9l p1_0.depth, C.imap .i64 Y9m p1_0.before, C.imap .i64 Y9m p1_0.after, C.imap .i64 Y9l p1_0.refused]], Obj.box b01 189 [mt b02], Abs.Obj.pmap b02 Y9n p1_1, Obj.box b03 142 [C.int p1_2.room, C.int p1_2.id]] (fun c qs => c = C.bool r ∧ qs = [Obj.box b00 186 [C.ip [C.int p1_0.graph.room, C.im Y98 9 p1_0.graph.events, C.im Y98 9 p1_0.graph.parked, C.imap .i64 Y9l p1_0.depth, C.imap .i64 Y9m p1_0.before, C.imap .i64 Y9m p1_0.after, C.imap .i64 Y9l p1_0.refused]], Obj.box b01 189 [mt b02], Abs.Obj.pmap b02 Y9n p1_1, Obj.box b03 142 [C.int p1_2.room, C.int p1_2.id]]) := by
 refine Ok.of_body (rs := [.tmp 4]) Tryz.func140 rfl rfl rfl rfl rfl fun X => ?_
 unfold Zf9 at h
 refine zw ?_
 refine ob' h fun r1 g2 h => ?_
 refine Ops.hd (ns := [0, 0, 0, 0]) rfl rfl (Y24 (Zf8 p0 p1_0 p1_1 p1_2 _ g2) rfl rfl) ?_
 refine zw ?_
 refine AW.ret ?_
 rw [← Option.some.inj h]
 exact ⟨[C.bool (decide (r1 ≥ 0))], _, Y21.refl _, (.cons (.tmp rfl) .nil), [0, 0, 0, 0], _, _, rfl, ⟨rfl, rfl⟩⟩

def Zfb (p0 : Y91) (l100 : List Y96) (x101 : Int) : Option (Y97 × Bool) := cond (x101 == (p0.stream.length : Int)) (some ((Y97.mk p0 l100), (x101 == (p0.stream.length : Int)))) (some ((Y97.mk (Y91.mk [] []) []), (x101 == (p0.stream.length : Int))))
def Zfc (m178 : List ((Int × Int) × Bool)) (x179 : Int) (e181 : Y8y) (x252 : Bool) : Option (((List ((Int × Int) × Bool)) × Int) ⊕ ((Y97 × Bool) ⊕ Unit)) := cond x252 (some (.inr (.inl ((Y97.mk (Y91.mk [] []) []), false)))) (some (.inl ((pset m178 (e181.room, e181.id) true), (IntKind.i64.wrap (x179 + 1)))))
def Zfd (m178 : List ((Int × Int) × Bool)) (x179 : Int) (e181 : Y8y) (r189 : Y96) (x196 : Int) (x197 : Int) (x198 : Int) (x199 : Int) (x200 : Int) (x201 : Int) (x202 : ByteArray) (l203 : List Int) (x204 : Int) (x205 : Bool) : Option (((List ((Int × Int) × Bool)) × Int) ⊕ ((Y97 × Bool) ⊕ Unit)) := cond x205 (cond ((Option.getD (mget r189.refused e181.id) 0) != 0) (Zfc m178 x179 e181 true) ((Zf9 l203 r189 m178 e181).bind fun r244 => Zfc m178 x179 e181 r244)) (Zfc m178 x179 e181 true)
def Zfe (p0 : Y91) (l100 : List Y96) (m178 : List ((Int × Int) × Bool)) (x179 : Int) (e181 : Y8y) (x187 : Bool) : Option (((List ((Int × Int) × Bool)) × Int) ⊕ ((Y97 × Bool) ⊕ Unit)) := cond x187 (some (.inr (.inl ((Y97.mk (Y91.mk [] []) []), false)))) ((Zf0 (Y97.mk p0 l100) e181.room).bind fun r189 => (Zbu r189.graph e181.id).bind fun r192 => Zfd m178 x179 e181 r189 r192.1.id r192.1.room r192.1.author r192.1.kind r192.1.key r192.1.n r192.1.text r192.1.prev r192.1.time r192.2)
def Zff (p0 : Y91) (l100 : List Y96) (m178 : List ((Int × Int) × Bool)) (x179 : Int) : Option (((List ((Int × Int) × Bool)) × Int) ⊕ ((Y97 × Bool) ⊕ Unit)) := cond (decide (x179 < (p0.stream.length : Int))) ((getI p0.stream x179).bind fun e181 => (Z7r e181.room).bind fun r184 => cond r184 (Zfe p0 l100 m178 x179 e181 (Option.getD (pget m178 (e181.room, e181.id)) false)) (Zfe p0 l100 m178 x179 e181 true)) (some (.inr (.inr ())))
def Zfg (p0 : Y91) (l100 : List Y96) (x101 : Int) : Option (Y97 × Bool) := (iter (fun z255 => Zff p0 l100 z255.1 z255.2) big (([] : List ((Int × Int) × Bool)), 0)).bind (fun z257 => match z257 with | .inl y256 => some y256 | .inr () => Zfb p0 l100 x101)
def Zfh (l57 : List Y96) (x58 : Int) (x59 : Int) (e61 : Y90) (x67 : Bool) : Option ((List Y96 × Int × Int) ⊕ ((Y97 × Bool) ⊕ (List Y96 × Int))) := cond x67 (some (.inr (.inl ((Y97.mk (Y91.mk [] []) []), false)))) ((Zet e61).bind fun r83 => (chk (decide ((l57.length + [r83].length) * 8 ≤ 140737488355328))).bind fun u92 => (getI (l57 ++ [r83]) x59).bind fun e95 => (Zey e95).bind fun r97 => some (.inl ((l57 ++ [r83]), (IntKind.i64.wrap (x58 + (r97.length : Int))), (IntKind.i64.wrap (x59 + 1)))))
def Zfi (p0 : Y91) (l57 : List Y96) (x58 : Int) (x59 : Int) : Option ((List Y96 × Int × Int) ⊕ ((Y97 × Bool) ⊕ (List Y96 × Int))) := cond (decide (x59 < (p0.rooms.length : Int))) ((getI p0.rooms x59).bind fun e61 => (Zab e61).bind fun r64 => cond r64 (Zfh l57 x58 x59 e61 (e61.room != (IntKind.i64.wrap (x59 + 1)))) (Zfh l57 x58 x59 e61 true)) (some (.inr (.inr (l57, x58))))
def Zfj (p0 : Y91) (x3 : Bool) : Option (Y97 × Bool) := cond x3 (some ((Y97.mk (Y91.mk [] []) []), false)) ((iter (fun z258 => Zfi p0 z258.1 z258.2.1 z258.2.2) big ([], 0, 0)).bind (fun z262 => match z262 with | .inl y259 => some y259 | .inr (y260, y261) => Zfg p0 y260 y261))
def Zfk (p0 : Y91) : Option (Y97 × Bool) := cond ((p0.rooms.length : Int) != 3) (Zfj p0 true) (Zfj p0 (decide ((p0.stream.length : Int) > 120)))
set_option maxHeartbeats 1000000 in
theorem Zfl (p0 : Y91) (r : Y97 × Bool) (h : Zfk p0 = some r) : Ok Tryz.prog 73 [C.agg [C.im Y9d 3 p0.rooms, C.im Y9a 2 p0.stream]] [] (fun c qs => (r.2 = true ∧ c = C.tup [C.ip [C.im Y9d 3 r.1.hub.rooms, C.im Y9a 2 r.1.hub.stream, C.im Y9o 1 r.1.rooms], C.bool r.2] ∧ qs = []) ∨ (r.2 = false ∧ c = C.tup [C.any, C.bool r.2] ∧ qs = [])) := by
 refine Ok.of_body (rs := [.tmp 2, .tmp 3]) Tryz.func73 rfl rfl rfl rfl rfl fun X => ?_
 unfold Zfk at h
 refine zw ?_
 refine ox fun b1 => ?_
 refine Ops.v rfl (Yr rfl rfl) ?_
 refine Ops.v rfl (Yr rfl rfl) ?_
 refine Ops.nil ?_
 refine AW.seq ?_
 refine AW.seq ?_
 refine AW.cut (τ := Bool) (fun x3 => ⟨[(1, pt b1), (23, C.bool x3)], [Obj.box b1 32 [C.im Y9d 3 p0.rooms, C.im Y9a 2 p0.stream]]⟩) (fun x3 => Zfj p0 x3 = some r) go fun x3 h => ?_
 replace h : Zfj p0 x3 = some r := h
 unfold Zfj at h
 refine cnd h (fun hb4 h => ?_) fun hb4 h => ?_
 ·
  refine AW.ct hb4 rfl ?_
  refine zw ?_
  refine AW.ret ?_
  rw [← Option.some.inj h]
  exact ⟨[C.any, C.bool false], _, Y21.imp (t := 2) rfl (Imp.any _), (.cons (.tmp rfl) (.cons (.tmp rfl) .nil)), [], _, _, rfl, .inr ⟨rfl, rfl, rfl⟩⟩
 refine AW.cf hb4 rfl ?_
 refine zw ?_
 refine Ops.v rfl (Y38 (ds := [C.im Y9d 3 p0.rooms, C.im Y9a 2 p0.stream, C.val s0]) Ydh Ydi (Y42 rfl rfl) (.agg rfl rfl rfl .nil) rfl) ?_
 refine ox fun b5 => ?_
 refine Ops.v rfl (Yr rfl rfl) ?_
 refine Ops.v rfl (Yr rfl rfl) ?_
 refine Ops.nil ?_
 refine AW.seq ?_
 refine AW.cut (τ := List Y96 × Int × Value) (fun (l100, x101, v99) => ⟨[(1, pt b1), (4, pt b5), (5, C.int x101)], [Obj.box b1 32 [C.im Y9d 3 p0.rooms, C.im Y9a 2 p0.stream], Obj.box b5 145 [C.im Y9d 3 p0.rooms, C.im Y9a 2 p0.stream, C.val v99], Obj.arr v99 186 Y9o 1 l100]⟩) (fun (l100, x101, v99) => Zfg p0 l100 x101 = some r) ?_ ?_
 ·
  refine zw ?_
  refine AW.lp h (fun (l57, x58, x59) (v56 : Value) => ⟨[(1, pt b1), (4, pt b5), (5, C.int x58), (28, C.im Y9d 3 p0.rooms), (29, C.int (p0.rooms.length : Int)), (30, C.int x59)], [Obj.box b1 32 [C.im Y9d 3 p0.rooms, C.im Y9a 2 p0.stream], Obj.box b5 145 [C.im Y9d 3 p0.rooms, C.im Y9a 2 p0.stream, C.val v56], Obj.arr v56 186 Y9o 1 l57]⟩) ((Y21.nil 186 Y9o 1).trans (Y21.both (ns := [2, 1, 0]) rfl rfl)) ?_
  rintro ⟨l57, x58, x59⟩ v56 y275 h
  refine zw ?_
  refine cnd h (fun hb60 h => ?_) fun hb60 h => ?_
  ·
   refine AW.ct hb60 rfl ?_
   refine zw ?_
   refine oi h fun e61 g62 h => ?_
   refine zw ?_
   refine Ops.h (ns := []) rfl rfl (Y1p (cs := [C.int 0, C.val s0, C.val s0]) Yat (Y42 rfl rfl) rfl) ?_
   rintro _ _ ⟨b63, rfl, rfl⟩
   refine zw ?_
   refine Ops.hd (ns := [0]) rfl rfl (Y1u (gs := [C.int e61.room, C.im Y98 9 e61.events, C.im Y98 9 e61.parked]) Yaz.h rfl rfl rfl rfl rfl) ?_
   refine Ops.nil ?_
   refine AW.seq ?_
   refine AW.seq ?_
   refine AW.cut (τ := Bool) (fun x67 => ⟨[(1, pt b1), (4, pt b5), (5, C.int x58), (6, C.int x59), (7, pt b63), (28, C.im Y9d 3 p0.rooms), (29, C.int (p0.rooms.length : Int)), (30, C.int x59), (44, C.bool x67)], [Obj.box b1 32 [C.im Y9d 3 p0.rooms, C.im Y9a 2 p0.stream], Obj.box b5 145 [C.im Y9d 3 p0.rooms, C.im Y9a 2 p0.stream, C.val v56], Obj.arr v56 186 Y9o 1 l57, Obj.box b63 139 [C.int e61.room, C.im Y98 9 e61.events, C.im Y98 9 e61.parked]]⟩) (fun x67 => Zfh l57 x58 x59 e61 x67 = some y275) ?_ ?_
   ·
    refine zw ?_
    refine oc h fun r64 g65 h => ?_
    refine zw ?_
    refine cnd h (fun hb66 h => ?_) fun hb66 h => ?_
    ·
     refine zw ?_
     exact ⟨(e61.room != (IntKind.i64.wrap (x59 + 1))), h, Y21.both (ns := [1, 1, 1, 0]) rfl rfl⟩
    refine zw ?_
    exact ⟨true, h, Y21.both (ns := [1, 1, 1, 0]) rfl rfl⟩
   intro x67 h
   replace h : Zfh l57 x58 x59 e61 x67 = some y275 := h
   unfold Zfh at h
   refine cnd h (fun hb68 h => ?_) fun hb68 h => ?_
   ·
    refine AW.ct hb68 rfl ?_
    refine zw ?_
    refine AW.ret ?_
    refine lx h fun h => ?_
    rw [← Option.some.inj h]
    exact ⟨[C.any, C.bool false], _, Y21.imp (t := 2) rfl (Imp.any _), (.cons (.tmp rfl) (.cons (.tmp rfl) .nil)), [], _, _, rfl, .inr ⟨rfl, rfl, rfl⟩⟩
   refine AW.cf hb68 rfl ?_
   refine zw ?_
   refine AW.regionD (L := [4, 5]) (Lt := [11]) (k := .light 0 false (.light 1 false (.light 2 false (.light 3 false (.light 4 true (.light 5 true (.one 6 (.one 7 (.one 8 (.light 9 false (.light 10 false (.late 11 (.done))))))))))))) (ns := [0, 0, 1]) (by kernel_rfl) (by kernel_rfl) (by kernel_rfl) (by kernel_rfl) rfl ?_
   refine zw ?_
   refine ob' h fun r83 g84 h => ?_
   refine Y3n.h (ns := []) rfl rfl rfl (Y23 (Zeu _ _ g84) rfl rfl) ?_
   rintro _ _ ⟨_, ⟨b85, b86, b87, b88, b89, rfl, rfl⟩, rfl⟩
   refine OpsD.one ?_
   refine Y3n.h (ns := [0, 0, 0, 0, 0]) rfl rfl rfl (HOp.frz (t := 51) rfl (Frz.box (FrzL.cons (os := []) (Frz.same _) (FrzL.cons (os := []) (Frz.same _) (FrzL.cons (os := []) (Frz.same _) (FrzL.cons (os := [_]) Frz.map (FrzL.cons (os := [_]) Frz.map (FrzL.cons (os := [_]) Frz.map (FrzL.cons (os := [_]) Frz.map FrzL.nil)))))))) (Y39 (k := Y9o) (ys := [r83]) Ydj (.one rfl One.ip rfl rfl .nil) rfl rfl rfl)) ?_
   rintro _ _ ⟨b90, rfl, rfl⟩
   refine zw ?_
   refine ob' h fun u92 c91 h => ?_
   refine Y3n.h (ns := [1, 0]) rfl rfl rfl (Y2s Ydj rfl rfl (of_decide_eq_true (Y3t c91)) (Y3w (by decide) c91) rfl) ?_
   rintro _ _ ⟨v93, rfl, rfl⟩
   refine OpsD.v rfl rfl (Y14 rfl rfl) ?_
   refine OpsD.v rfl rfl (Y1b Yde.h rfl rfl) ?_
   refine OpsD.learn (Sim.arr_one (p := 3) rfl) fun n94 => ?_
   refine OpsD.late (ns := [1]) rfl rfl rfl (Y1t (gs := [C.im Y9d 3 p0.rooms, C.im Y9a 2 p0.stream, C.val v93]) Ydf.h rfl rfl (One.val n94) rfl rfl) ?_
   rintro _ _ ⟨rfl, rfl⟩
   refine zw ?_
   refine ob' h fun e95 g96 h => ?_
   refine Ops.v rfl (Y2x (p := 3) Ydg.h rfl rfl rfl g96 rfl) ?_
   refine Ops.v rfl (Y30 (p := 3) Yd5.h rfl rfl (Y29 g96).2.2 rfl rfl) ?_
   exact go
  exact go
 rintro ⟨l100, x101, v99⟩ h
 replace h : Zfg p0 l100 x101 = some r := h
 unfold Zfg at h
 refine zw ?_
 refine Ops.h (ns := []) rfl rfl (Y8k (kc := Y9n) rfl) ?_
 rintro _ _ ⟨b102, rfl, rfl⟩
 refine Ops.h (ns := []) rfl rfl (Y1p (cs := [C.val (.map none)]) Ydk (Y42 rfl rfl) rfl) ?_
 rintro _ _ ⟨b103, rfl, rfl⟩
 refine Ops.hd (ns := [0]) rfl rfl (Y1t (gs := [mt b102]) Ydl.h rfl rfl (One.val rfl) rfl rfl) ?_
 refine Ops.nil ?_
 refine AW.seq ?_
 refine AW.cut (τ := Unit) (fun (_ : Unit) => ⟨[(1, pt b1), (4, pt b5), (5, C.int x101)], [Obj.box b1 32 [C.im Y9d 3 p0.rooms, C.im Y9a 2 p0.stream], Obj.box b5 145 [C.im Y9d 3 p0.rooms, C.im Y9a 2 p0.stream, C.val v99], Obj.arr v99 186 Y9o 1 l100]⟩) (fun (_ : Unit) => Zfb p0 l100 x101 = some r) ?_ ?_
 ·
  refine zw ?_
  refine AW.lp (v := ()) h (fun (m178, x179) (_ : Unit) => ⟨[(1, pt b1), (4, pt b5), (5, C.int x101), (8, pt b103), (70, C.im Y9a 2 p0.stream), (71, C.int (p0.stream.length : Int)), (72, C.int x179)], [Obj.box b1 32 [C.im Y9d 3 p0.rooms, C.im Y9a 2 p0.stream], Obj.box b5 145 [C.im Y9d 3 p0.rooms, C.im Y9a 2 p0.stream, C.val v99], Obj.arr v99 186 Y9o 1 l100, Obj.box b103 189 [mt b102], Abs.Obj.pmap b102 Y9n m178]⟩) (gb [2, 2, 2, 0, 0]) ?_
  rintro ⟨m178, x179⟩ _ y268 h
  refine zw ?_
  refine cnd h (fun hb180 h => ?_) fun hb180 h => ?_
  ·
   refine AW.ct hb180 rfl ?_
   refine zw ?_
   refine oi h fun e181 g182 h => ?_
   refine zw ?_
   refine Ops.h (ns := []) rfl rfl (Y1p (cs := [C.int 0, C.int 0]) Yb3 (Y42 rfl rfl) rfl) ?_
   rintro _ _ ⟨b183, rfl, rfl⟩
   refine Ops.hd (ns := [0]) rfl rfl (Y1u (gs := [C.int e181.room, C.int e181.id]) Yb8.h rfl rfl rfl rfl rfl) ?_
   refine Ops.nil ?_
   refine AW.seq ?_
   refine AW.seq ?_
   refine AW.cut (τ := Bool) (fun x187 => ⟨[(1, pt b1), (4, pt b5), (5, C.int x101), (8, pt b103), (10, pt b183), (70, C.im Y9a 2 p0.stream), (71, C.int (p0.stream.length : Int)), (72, C.int x179), (84, C.bool x187)], [Obj.box b1 32 [C.im Y9d 3 p0.rooms, C.im Y9a 2 p0.stream], Obj.box b5 145 [C.im Y9d 3 p0.rooms, C.im Y9a 2 p0.stream, C.val v99], Obj.arr v99 186 Y9o 1 l100, Obj.box b103 189 [mt b102], Abs.Obj.pmap b102 Y9n m178, Obj.box b183 142 [C.int e181.room, C.int e181.id]]⟩) (fun x187 => Zfe p0 l100 m178 x179 e181 x187 = some y268) ?_ ?_
   ·
    refine zw ?_
    refine oc h fun r184 g185 h => ?_
    refine zw ?_
    refine cnd h (fun hb186 h => ?_) fun hb186 h => ?_
    ·
     refine Ops.gv rfl rfl rfl rfl (Y3u hb186) (Y1k (p := 4) Ydl.h rfl rfl rfl rfl) ?_
     refine zw ?_
     refine Ops.gv rfl rfl rfl rfl (Y3u hb186) (Y8m (p := 5) (j := (e181.room, e181.id)) (kc := Y9n) (z0 := false) Ydm zv_4 (fun _ _ => rfl) rfl rfl rfl rfl) ?_
     refine zw ?_
     exact ⟨(Option.getD (pget m178 (e181.room, e181.id)) false), h, Y21.both (ns := [1, 1, 1, 1, 1, 0]) rfl rfl⟩
    refine zw ?_
    exact ⟨true, h, Y21.both (ns := [1, 1, 1, 1, 1, 0]) rfl rfl⟩
   intro x187 h
   replace h : Zfe p0 l100 m178 x179 e181 x187 = some y268 := h
   unfold Zfe at h
   refine cnd h (fun hb188 h => ?_) fun hb188 h => ?_
   ·
    refine AW.ct hb188 rfl ?_
    refine zw ?_
    refine AW.ret ?_
    refine lx h fun h => ?_
    rw [← Option.some.inj h]
    exact ⟨[C.any, C.bool false], _, Y21.imp (t := 2) rfl (Imp.any _), (.cons (.tmp rfl) (.cons (.tmp rfl) .nil)), [], _, _, rfl, .inr ⟨rfl, rfl, rfl⟩⟩
   refine AW.cf hb188 rfl ?_
   refine AW.skip ?_
   refine AW.seq ?_
   refine AW.region ?_
   refine Ops.v rfl (Yq rfl rfl) ?_
   refine Ops.v rfl (Y1b Yb5.h rfl rfl) ?_
   refine Ops.v rfl (Y1k (p := 5) ld_2.h rfl rfl rfl rfl) ?_
   refine ob' h fun r189 g190 h => ?_
   refine Ops.hd (ns := [1, 1]) rfl rfl (Y24 (Zf1 (Y97.mk p0 l100) e181.room _ g190) rfl rfl) ?_
   refine Ops.h (ns := []) rfl rfl (Y1p (cs := [C.val (.pointer none)]) Ydn (Y42 rfl rfl) rfl) ?_
   rintro _ _ ⟨b191, rfl, rfl⟩
   refine Ops.hd (ns := [0]) rfl rfl (Y1t (gs := [C.ip [C.int r189.graph.room, C.im Y98 9 r189.graph.events, C.im Y98 9 r189.graph.parked, C.imap .i64 Y9l r189.depth, C.imap .i64 Y9m r189.before, C.imap .i64 Y9m r189.after, C.imap .i64 Y9l r189.refused]]) Yd5.h rfl rfl One.ip rfl rfl) ?_
   refine Ops.nil ?_
   refine AW.seq ?_
   refine AW.cut (τ := Int × Int × Int × Int × Int × Int × ByteArray × List Int × Int × Bool × Nat) (fun (x196, x197, x198, x199, x200, x201, x202, l203, x204, x205, b195) => ⟨[(1, pt b1), (4, pt b5), (5, C.int x101), (8, pt b103), (10, pt b183), (11, pt b191), (12, pt b195), (13, C.bool x205), (70, C.im Y9a 2 p0.stream), (71, C.int (p0.stream.length : Int)), (72, C.int x179)], [Obj.box b1 32 [C.im Y9d 3 p0.rooms, C.im Y9a 2 p0.stream], Obj.box b5 145 [C.im Y9d 3 p0.rooms, C.im Y9a 2 p0.stream, C.val v99], Obj.arr v99 186 Y9o 1 l100, Obj.box b103 189 [mt b102], Abs.Obj.pmap b102 Y9n m178, Obj.box b183 142 [C.int e181.room, C.int e181.id], Obj.box b191 186 [C.ip [C.int r189.graph.room, C.im Y98 9 r189.graph.events, C.im Y98 9 r189.graph.parked, C.imap .i64 Y9l r189.depth, C.imap .i64 Y9m r189.before, C.imap .i64 Y9m r189.after, C.imap .i64 Y9l r189.refused]], Obj.box b195 136 [C.int x196, C.int x197, C.int x198, C.int x199, C.int x200, C.int x201, C.str x202, C.im kI64 1 l203, C.int x204]]⟩) (fun (x196, x197, x198, x199, x200, x201, x202, l203, x204, x205, b195) => Zfd m178 x179 e181 r189 x196 x197 x198 x199 x200 x201 x202 l203 x204 x205 = some y268) ?_ ?_
   ·
    refine AW.regionD (L := [0, 3, 5]) (Lt := [11]) (k := .light 0 true (.light 1 false (.light 2 false (.light 3 true (.light 4 false (.light 5 true (.two 6 10 (.light 7 false (.light 8 false (.light 9 false (.one 10 (.late 11 (.light 12 false .done)))))) (.one 6 (.light 7 false (.light 8 false (.light 9 false (.late 11 (.light 12 false .done))))))))))))) (ns := [0, 0, 0, 0, 0, 0, 0]) (by kernel_rfl) (by kernel_rfl) (by kernel_rfl) (by kernel_rfl) rfl ?_
    refine OpsD.v rfl rfl (Y1k (p := 0) Yd5.h rfl rfl rfl rfl) ?_
    refine OpsD.v rfl rfl (Y15 rfl rfl) ?_
    refine OpsD.v rfl rfl (Y1c Yd6.h rfl rfl rfl) ?_
    refine OpsD.v rfl rfl (Y1i Yaz.h rfl rfl rfl rfl) ?_
    refine OpsD.v rfl rfl (Y1b Yb7.h rfl rfl) ?_
    refine OpsD.v rfl rfl (Y1k (p := 6) ld_2.h rfl rfl rfl rfl) ?_
    refine ob' h fun r192 g193 h => ?_
    refine OpsD.two ?_ ?_
    ·
     refine Y3n.h (ns := []) rfl rfl rfl (Y24 ((Zbv _ _).h _ g193) rfl rfl) ?_
     rintro _ _ ⟨rfl, rfl⟩
     refine OpsD.v rfl rfl (Yq rfl rfl) ?_
     refine OpsD.v rfl rfl (Y13 rfl rfl rfl) ?_
     refine OpsD.v rfl rfl (Y13 rfl rfl rfl) ?_
     refine OpsD.one ?_
     refine Y3n.h (ns := []) rfl rfl rfl (Y1p (cs := [C.int 0, C.int 0, C.int 0, C.int 0, C.int 0, C.int 0, C.str ByteArray.empty, C.val s0, C.int 0]) Ya7 (Y42 rfl rfl) rfl) ?_
     rintro _ _ ⟨b194, rfl, rfl⟩
     refine OpsD.late (ns := [7]) rfl rfl rfl (Y1u (gs := [C.int r192.1.id, C.int r192.1.room, C.int r192.1.author, C.int r192.1.kind, C.int r192.1.key, C.int r192.1.n, C.str r192.1.text, C.im kI64 1 r192.1.prev, C.int r192.1.time]) Yao.h rfl rfl rfl rfl rfl) ?_
     rintro _ _ ⟨rfl, rfl⟩
     refine zw ?_
     exact ⟨(r192.1.id, r192.1.room, r192.1.author, r192.1.kind, r192.1.key, r192.1.n, r192.1.text, r192.1.prev, r192.1.time, r192.2, b194), h, Y21.both (ns := [4, 2, 2, 2, 2, 2, 1, 0]) rfl rfl⟩
    refine Y3n.h (ns := []) rfl rfl rfl (Y1p (cs := [C.int 0, C.int 0, C.int 0, C.int 0, C.int 0, C.int 0, C.str ByteArray.empty, C.val s0, C.int 0]) Ya7 (Y42 rfl rfl) rfl) ?_
    rintro _ _ ⟨b194, rfl, rfl⟩
    refine OpsD.one ?_
    refine Y3n.h (ns := []) rfl rfl rfl (Y24 ((Zbv _ _).h _ g193) rfl rfl) ?_
    rintro _ _ ⟨rfl, rfl⟩
    refine zw ?_
    refine OpsD.late (ns := [7]) rfl rfl rfl (Y1u (gs := [C.int r192.1.id, C.int r192.1.room, C.int r192.1.author, C.int r192.1.kind, C.int r192.1.key, C.int r192.1.n, C.str r192.1.text, C.im kI64 1 r192.1.prev, C.int r192.1.time]) Yao.h rfl rfl rfl rfl rfl) ?_
    rintro _ _ ⟨rfl, rfl⟩
    refine zw ?_
    exact ⟨(r192.1.id, r192.1.room, r192.1.author, r192.1.kind, r192.1.key, r192.1.n, r192.1.text, r192.1.prev, r192.1.time, r192.2, b194), h, Y21.both (ns := [4, 2, 2, 2, 2, 2, 1, 0]) rfl rfl⟩
   rintro ⟨x196, x197, x198, x199, x200, x201, x202, l203, x204, x205, b195⟩ h
   replace h : Zfd m178 x179 e181 r189 x196 x197 x198 x199 x200 x201 x202 l203 x204 x205 = some y268 := h
   unfold Zfd at h
   refine AW.seq ?_
   refine AW.seq ?_
   refine AW.cut (τ := Bool) (fun x252 => ⟨[(1, pt b1), (4, pt b5), (5, C.int x101), (8, pt b103), (10, pt b183), (70, C.im Y9a 2 p0.stream), (71, C.int (p0.stream.length : Int)), (72, C.int x179), (116, C.bool x252)], [Obj.box b1 32 [C.im Y9d 3 p0.rooms, C.im Y9a 2 p0.stream], Obj.box b5 145 [C.im Y9d 3 p0.rooms, C.im Y9a 2 p0.stream, C.val v99], Obj.arr v99 186 Y9o 1 l100, Obj.box b103 189 [mt b102], Abs.Obj.pmap b102 Y9n m178, Obj.box b183 142 [C.int e181.room, C.int e181.id]]⟩) (fun x252 => Zfc m178 x179 e181 x252 = some y268) ?_ ?_
   ·
    refine AW.regionD (L := [3, 6, 8, 9, 14]) (Lt := []) (k := .light 0 false (.light 1 false (.light 2 false (.light 7 false (.two 3 8 (.light 4 false (.light 5 false (.two 6 8 (.one 8 (.one 9 (.light 10 false (.light 11 false (.light 12 false (.light 13 false (.light 15 false (.one 14 (.one 16 (.light 17 false .done)))))))))) (.one 6 (.one 9 (.light 10 false (.light 11 false (.light 12 false (.light 13 false (.light 15 false (.one 14 (.one 16 (.light 17 false .done))))))))))))) (.one 3 (.light 4 false (.light 5 false (.one 6 (.one 9 (.light 10 false (.light 11 false (.light 12 false (.light 13 false (.light 15 false (.one 14 (.one 16 (.light 17 false .done)))))))))))))))))) (ns := [0, 0, 0, 4]) (by kernel_rfl) (by kernel_rfl) (by kernel_rfl) (by kernel_rfl) rfl ?_
    refine zw ?_
    refine cnd h (fun hb242 h => ?_) fun hb242 h => ?_
    ·
     refine zw ?_
     refine OpsD.two ?_ ?_
     ·
      refine Y3n.gv rfl rfl rfl rfl rfl (Y3u hb242) (Y1k (p := 7) Yd5.h rfl rfl rfl rfl) ?_
      refine zw ?_
      refine OpsD.two ?_ ?_
      ·
       refine Y3n.gv rfl rfl rfl rfl rfl (Y3u hb242) (Y1h Yd8.h rfl rfl) ?_
       refine OpsD.one ?_
       refine Y3n.gv rfl rfl rfl rfl rfl (Y3u hb242) (Y1k (p := 6) ld_2.h rfl rfl rfl rfl) ?_
       refine OpsD.one ?_
       refine Y3n.gv rfl rfl rfl rfl rfl (Y3u hb242) (Y8a (kc := Y9l) (z0 := 0) Yd9 zv_2 (fun _ _ => rfl) rfl rfl rfl) ?_
       refine zw ?_
       refine cnd h (fun hb243 h => ?_) fun hb243 h => ?_
       ·
        refine OpsD.gs rfl rfl rfl rfl (.b rfl hb243) rfl rfl ?_
        refine OpsD.gs rfl rfl rfl rfl (.b rfl hb243) rfl rfl ?_
        refine OpsD.one ?_
        refine Y3n.gs rfl rfl rfl rfl (.b rfl hb243) rfl rfl ?_
        refine OpsD.one ?_
        refine Y3n.gs rfl rfl rfl rfl (.b rfl hb243) rfl rfl ?_
        refine zw ?_
        exact ⟨true, h, Y21.both (ns := [0, 0, 0, 1, 1, 1]) rfl rfl⟩
       refine zw ?_
       refine OpsD.gv rfl rfl rfl rfl rfl hb243 (Y6q rfl rfl) ?_
       refine OpsD.one ?_
       refine Y3n.gv rfl rfl rfl rfl rfl hb243 (Y1k (p := 3) Y9s.h rfl rfl rfl rfl) ?_
       refine zw ?_
       refine ob' h fun r244 g245 h => ?_
       refine Y3n.gh (ns := [3, 0, 0, 0]) rfl rfl rfl rfl rfl hb243 rfl (Y24 (Zfa l203 r189 m178 e181 _ g245) rfl rfl) ?_
       rintro _ _ ⟨rfl, rfl⟩
       refine zw ?_
       exact ⟨r244, h, Y21.both (ns := [0, 0, 0, 2, 2, 2]) rfl rfl⟩
      refine Y3n.gv rfl rfl rfl rfl rfl (Y3u hb242) (Y1k (p := 6) ld_2.h rfl rfl rfl rfl) ?_
      refine OpsD.one ?_
      refine Y3n.gv rfl rfl rfl rfl rfl (Y3u hb242) (Y1h Yd8.h rfl rfl) ?_
      refine OpsD.one ?_
      refine Y3n.gv rfl rfl rfl rfl rfl (Y3u hb242) (Y8a (kc := Y9l) (z0 := 0) Yd9 zv_2 (fun _ _ => rfl) rfl rfl rfl) ?_
      refine zw ?_
      refine cnd h (fun hb246 h => ?_) fun hb246 h => ?_
      ·
       refine OpsD.gs rfl rfl rfl rfl (.b rfl hb246) rfl rfl ?_
       refine OpsD.gs rfl rfl rfl rfl (.b rfl hb246) rfl rfl ?_
       refine OpsD.one ?_
       refine Y3n.gs rfl rfl rfl rfl (.b rfl hb246) rfl rfl ?_
       refine OpsD.one ?_
       refine Y3n.gs rfl rfl rfl rfl (.b rfl hb246) rfl rfl ?_
       refine zw ?_
       exact ⟨true, h, Y21.both (ns := [0, 0, 0, 1, 1, 1]) rfl rfl⟩
      refine zw ?_
      refine OpsD.gv rfl rfl rfl rfl rfl hb246 (Y6q rfl rfl) ?_
      refine OpsD.one ?_
      refine Y3n.gv rfl rfl rfl rfl rfl hb246 (Y1k (p := 3) Y9s.h rfl rfl rfl rfl) ?_
      refine zw ?_
      refine ob' h fun r247 g248 h => ?_
      refine Y3n.gh (ns := [3, 0, 0, 0]) rfl rfl rfl rfl rfl hb246 rfl (Y24 (Zfa l203 r189 m178 e181 _ g248) rfl rfl) ?_
      rintro _ _ ⟨rfl, rfl⟩
      refine zw ?_
      exact ⟨r247, h, Y21.both (ns := [0, 0, 0, 2, 2, 2]) rfl rfl⟩
     refine Y3n.gv rfl rfl rfl rfl rfl (Y3u hb242) (Y1k (p := 6) ld_2.h rfl rfl rfl rfl) ?_
     refine OpsD.one ?_
     refine Y3n.gv rfl rfl rfl rfl rfl (Y3u hb242) (Y1k (p := 7) Yd5.h rfl rfl rfl rfl) ?_
     refine OpsD.gv rfl rfl rfl rfl rfl (Y3u hb242) (Y15 rfl rfl) ?_
     refine OpsD.gv rfl rfl rfl rfl rfl (Y3u hb242) (Y1c Ydb.h rfl rfl rfl) ?_
     refine OpsD.one ?_
     refine Y3n.gv rfl rfl rfl rfl rfl (Y3u hb242) (Y1h Yd8.h rfl rfl) ?_
     refine OpsD.one ?_
     refine Y3n.gv rfl rfl rfl rfl rfl (Y3u hb242) (Y8a (kc := Y9l) (z0 := 0) Yd9 zv_2 (fun _ _ => rfl) rfl rfl rfl) ?_
     refine zw ?_
     refine cnd h (fun hb249 h => ?_) fun hb249 h => ?_
     ·
      refine OpsD.gs rfl rfl rfl rfl (.b rfl hb249) rfl rfl ?_
      refine OpsD.gs rfl rfl rfl rfl (.b rfl hb249) rfl rfl ?_
      refine OpsD.one ?_
      refine Y3n.gs rfl rfl rfl rfl (.b rfl hb249) rfl rfl ?_
      refine OpsD.one ?_
      refine Y3n.gs rfl rfl rfl rfl (.b rfl hb249) rfl rfl ?_
      refine zw ?_
      exact ⟨true, h, Y21.both (ns := [0, 0, 0, 1, 1, 1]) rfl rfl⟩
     refine zw ?_
     refine OpsD.gv rfl rfl rfl rfl rfl hb249 (Y6q rfl rfl) ?_
     refine OpsD.one ?_
     refine Y3n.gv rfl rfl rfl rfl rfl hb249 (Y1k (p := 3) Y9s.h rfl rfl rfl rfl) ?_
     refine zw ?_
     refine ob' h fun r250 g251 h => ?_
     refine Y3n.gh (ns := [3, 0, 0, 0]) rfl rfl rfl rfl rfl hb249 rfl (Y24 (Zfa l203 r189 m178 e181 _ g251) rfl rfl) ?_
     rintro _ _ ⟨rfl, rfl⟩
     refine zw ?_
     exact ⟨r250, h, Y21.both (ns := [0, 0, 0, 2, 2, 2]) rfl rfl⟩
    refine zw ?_
    refine OpsD.two ?_ ?_
    ·
     refine Y3n.gs rfl rfl rfl rfl (.b rfl (Y3v hb242)) rfl rfl ?_
     refine zw ?_
     refine OpsD.two ?_ ?_
     ·
      refine Y3n.gs rfl rfl rfl rfl (.b rfl (Y3v hb242)) rfl rfl ?_
      refine OpsD.one ?_
      refine Y3n.gs rfl rfl rfl rfl (.b rfl (Y3v hb242)) rfl rfl ?_
      refine OpsD.one ?_
      refine Y3n.gs rfl rfl rfl rfl (.b rfl (Y3v hb242)) rfl rfl ?_
      refine OpsD.gs rfl rfl rfl rfl (.b rfl (Y3v hb242)) rfl rfl ?_
      refine OpsD.v rfl rfl (Ys rfl (Y3v hb242) rfl rfl) ?_
      refine OpsD.v rfl rfl (Yq rfl rfl) ?_
      refine OpsD.gs rfl rfl rfl rfl (.b rfl rfl) rfl rfl ?_
      refine OpsD.gs rfl rfl rfl rfl (.b rfl rfl) rfl rfl ?_
      refine OpsD.one ?_
      refine Y3n.gs rfl rfl rfl rfl (.b rfl rfl) rfl rfl ?_
      refine OpsD.one ?_
      refine Y3n.gs rfl rfl rfl rfl (.b rfl rfl) rfl rfl ?_
      refine zw ?_
      exact ⟨true, h, Y21.both (ns := [0, 0, 0, 1, 1, 1]) rfl rfl⟩
     refine Y3n.gs rfl rfl rfl rfl (.b rfl (Y3v hb242)) rfl rfl ?_
     refine OpsD.one ?_
     refine Y3n.gs rfl rfl rfl rfl (.b rfl (Y3v hb242)) rfl rfl ?_
     refine OpsD.one ?_
     refine Y3n.gs rfl rfl rfl rfl (.b rfl (Y3v hb242)) rfl rfl ?_
     refine OpsD.gs rfl rfl rfl rfl (.b rfl (Y3v hb242)) rfl rfl ?_
     refine OpsD.v rfl rfl (Ys rfl (Y3v hb242) rfl rfl) ?_
     refine OpsD.v rfl rfl (Yq rfl rfl) ?_
     refine OpsD.gs rfl rfl rfl rfl (.b rfl rfl) rfl rfl ?_
     refine OpsD.gs rfl rfl rfl rfl (.b rfl rfl) rfl rfl ?_
     refine OpsD.one ?_
     refine Y3n.gs rfl rfl rfl rfl (.b rfl rfl) rfl rfl ?_
     refine OpsD.one ?_
     refine Y3n.gs rfl rfl rfl rfl (.b rfl rfl) rfl rfl ?_
     refine zw ?_
     exact ⟨true, h, Y21.both (ns := [0, 0, 0, 1, 1, 1]) rfl rfl⟩
    refine Y3n.gs rfl rfl rfl rfl (.b rfl (Y3v hb242)) rfl rfl ?_
    refine OpsD.one ?_
    refine Y3n.gs rfl rfl rfl rfl (.b rfl (Y3v hb242)) rfl rfl ?_
    refine OpsD.gs rfl rfl rfl rfl (.b rfl (Y3v hb242)) rfl rfl ?_
    refine OpsD.gs rfl rfl rfl rfl (.b rfl (Y3v hb242)) rfl rfl ?_
    refine OpsD.one ?_
    refine Y3n.gs rfl rfl rfl rfl (.b rfl (Y3v hb242)) rfl rfl ?_
    refine OpsD.one ?_
    refine Y3n.gs rfl rfl rfl rfl (.b rfl (Y3v hb242)) rfl rfl ?_
    refine OpsD.gs rfl rfl rfl rfl (.b rfl (Y3v hb242)) rfl rfl ?_
    refine OpsD.v rfl rfl (Ys rfl (Y3v hb242) rfl rfl) ?_
    refine OpsD.v rfl rfl (Yq rfl rfl) ?_
    refine OpsD.gs rfl rfl rfl rfl (.b rfl rfl) rfl rfl ?_
    refine OpsD.gs rfl rfl rfl rfl (.b rfl rfl) rfl rfl ?_
    refine OpsD.one ?_
    refine Y3n.gs rfl rfl rfl rfl (.b rfl rfl) rfl rfl ?_
    refine OpsD.one ?_
    refine Y3n.gs rfl rfl rfl rfl (.b rfl rfl) rfl rfl ?_
    refine zw ?_
    exact ⟨true, h, Y21.both (ns := [0, 0, 0, 1, 1, 1]) rfl rfl⟩
   intro x252 h
   replace h : Zfc m178 x179 e181 x252 = some y268 := h
   unfold Zfc at h
   refine cnd h (fun hb253 h => ?_) fun hb253 h => ?_
   ·
    refine AW.ct hb253 rfl ?_
    refine zw ?_
    refine AW.ret ?_
    refine lx h fun h => ?_
    rw [← Option.some.inj h]
    exact ⟨[C.any, C.bool false], _, Y21.imp (t := 2) rfl (Imp.any _), (.cons (.tmp rfl) (.cons (.tmp rfl) .nil)), [], _, _, rfl, .inr ⟨rfl, rfl, rfl⟩⟩
   refine AW.cf hb253 rfl ?_
   refine AW.skip ?_
   refine AW.region ?_
   refine Ops.v rfl (Y1k (p := 3) Ydl.h rfl rfl rfl rfl) ?_
   refine Ops.v rfl (Y1l (p := 5) (ds := [C.int e181.room, C.int e181.id]) Yb8.h rfl rfl rfl rfl rfl) ?_
   refine Ops.hd (ns := [4]) rfl rfl (Y8n (j := (e181.room, e181.id)) (kc := Y9n) (v := true) Ydm rfl rfl rfl rfl) ?_
   refine zw ?_
   exact lu h (gb [1, 1, 1, 1, 0])
  exact go
 rintro ⟨⟩ h
 replace h : Zfb p0 l100 x101 = some r := h
 unfold Zfb at h
 refine zw ?_
 refine AW.regionD (L := [3]) (Lt := []) (k := dec [0,3,6,10,12,15,18,21]) (ns := [0, 0, 0]) (by kernel_rfl) (by kernel_rfl) (by kernel_rfl) (by kernel_rfl) rfl ?_
 refine zw ?_
 refine AW.ret ?_
 refine cnd h (fun hb254 h => ?_) fun hb254 h => ?_
 ·
  rw [← Option.some.inj h]
  exact ⟨[C.ip [C.im Y9d 3 p0.rooms, C.im Y9a 2 p0.stream, C.im Y9o 1 l100], C.bool (x101 == (p0.stream.length : Int))], _, Y21.freezeBy (ns := [1, 1]) (t := 2) rfl rfl (Frz.box (FrzL.cons (os := []) (Frz.same _) (FrzL.cons (os := []) (Frz.same _) (FrzL.cons (os := [_]) Frz.arr FrzL.nil)))), (.cons (.tmp rfl) (.cons (.tmp rfl) .nil)), [], _, _, rfl, .inl ⟨hb254, rfl, rfl⟩⟩
 rw [← Option.some.inj h]
 exact ⟨[C.any, C.bool (x101 == (p0.stream.length : Int))], _, Y21.imp (t := 2) rfl (Imp.any _), (.cons (.tmp rfl) (.cons (.tmp rfl) .nil)), [], _, _, rfl, .inr ⟨hb254, rfl, rfl⟩⟩

def Zfm (p0 : Int) : Option Bool := (Z7p p0 0 120).bind fun r1 => some (!r1)
instance Zfn (p0 : Int) : Sp Tryz.prog 158 [C.int p0] (Zfm p0) C.bool := sp Tryz.func158 rfl rfl fun r X h => go

def Zfo : Option Int := some (-1)
def Zfp (p0 : List Int) (x7 : Int) : Option (Int ⊕ (Int ⊕ Unit)) := cond (decide (x7 < (p0.length : Int))) ((getI p0 x7).bind fun e9 => (Zfm e9).bind fun r11 => cond r11 (some (.inr (.inl x7))) (some (.inl (IntKind.i64.wrap (x7 + 1))))) (some (.inr (.inr ())))
def Zfq (p0 : List Int) : Option Int := (iter (Zfp p0) big 0).bind (fun z15 => match z15 with | .inl y14 => some y14 | .inr () => Zfo)
set_option maxHeartbeats 1000000 in
instance Zfr (p0 : List Int) : Sp Tryz.prog 194 [C.im kI64 1 p0, C.val (.func (.func 158) #[] #[])] (Zfq p0) C.int := sp Tryz.func194 rfl rfl fun r X h => by
 unfold Zfq at h
 refine zw ?_
 refine AW.lp (v := ()) h (fun x7 (_ : Unit) => ⟨[(0, C.im kI64 1 p0), (1, C.val (.func (.func 158) #[] #[])), (7, C.int (p0.length : Int)), (8, C.int x7)], []⟩) (gb []) ?_
 rintro x7 _ y21 h
 refine zw ?_
 refine cnd h (fun hb8 h => ?_) fun hb8 h => ?_
 ·
  refine AW.ct hb8 rfl ?_
  refine zw ?_
  refine oi h fun e9 g10 h => ?_
  refine zw ?_
  refine ob' h fun r11 g12 h => ?_
  refine Ops.h (ns := []) rfl rfl (Y26 (cs := [_]) rfl rfl ((Zfn _).h _ g12) rfl rfl) ?_
  rintro _ _ ⟨_, ⟨rfl, rfl⟩, rfl⟩
  exact go
 exact go

def Zfs (p0 : List Int) : Option Bool := (Zfq p0).bind fun r1 => some (decide (r1 ≥ 0))
instance Zft (p0 : List Int) : Sp Tryz.prog 140 [C.im kI64 1 p0, C.val (.func (.func 158) #[] #[])] (Zfs p0) C.bool := sp Tryz.func140 rfl rfl fun r X h => go

def Zfu (x8 : Bool) : Option Bool := some x8
def Zfv (p0 : Y8z) : Option Bool := (Z7v p0.user).bind fun r2 => cond r2 (cond ((p0.at_.length : Int) == 3) ((Zfs p0.at_).bind fun r6 => Zfu (!r6)) (Zfu false)) (Zfu false)
set_option maxHeartbeats 1000000 in
instance Zfw (p0 : Y8z) : Sp Tryz.prog 105 [C.agg [C.int p0.user, C.im kI64 1 p0.at_]] (Zfv p0) C.bool := sp Tryz.func105 rfl rfl fun r X h => by
 unfold Zfv at h
 refine zw ?_
 refine ox fun b1 => ?_
 refine zw ?_
 refine oc h fun r2 g3 h => ?_
 refine zw ?_
 refine cnd h (fun hb4 h => ?_) fun hb4 h => ?_
 ·
  refine zw ?_
  refine cnd h (fun hb5 h => ?_) fun hb5 h => ?_
  ·
   refine zw ?_
   refine ob' h fun r6 g7 h => ?_
   refine Ops.ghd (ns := []) rfl rfl rfl rfl hb5 rfl (Y24 ((Zft _).h _ g7) rfl rfl) ?_
   exact go
  exact go
 exact go

def Zfx : Option Int := some (-1)
def Zfy (p0 : List Y8y) (p1 : Y8y) (x6 : Int) : Option (Int ⊕ (Int ⊕ Unit)) := cond (decide (x6 < (p0.length : Int))) ((getI p0 x6).bind fun e8 => cond ((p1.room == e8.room) && ((p1.id == e8.id) && true)) (some (.inr (.inl x6))) (some (.inl (IntKind.i64.wrap (x6 + 1))))) (some (.inr (.inr ())))
def Zfz (p0 : List Y8y) (p1 : Y8y) : Option Int := (iter (Zfy p0 p1) big 0).bind (fun z12 => match z12 with | .inl y11 => some y11 | .inr () => Zfx)
set_option maxHeartbeats 1000000 in
instance Zg0 (p0 : List Y8y) (p1 : Y8y) : Sp Tryz.prog 166 [C.im Y9a 2 p0, C.agg [C.int p1.room, C.int p1.id]] (Zfz p0 p1) C.int := sp Tryz.func166 rfl rfl fun r X h => by
 unfold Zfz at h
 refine zw ?_
 refine ox fun b1 => ?_
 refine zw ?_
 refine AW.lp (v := ()) h (fun x6 (_ : Unit) => ⟨[(0, C.im Y9a 2 p0), (3, pt b1), (7, C.int (p0.length : Int)), (8, C.int x6)], [Obj.box b1 142 [C.int p1.room, C.int p1.id]]⟩) (gb [0]) ?_
 rintro x6 _ y18 h
 refine zw ?_
 refine cnd h (fun hb7 h => ?_) fun hb7 h => ?_
 ·
  refine AW.ct hb7 rfl ?_
  refine zw ?_
  refine AW.regionD (L := [0, 4]) (Lt := []) (k := dec [1,3,6,9,13,15]) (ns := [0]) (by kernel_rfl) (by kernel_rfl) (by kernel_rfl) (by kernel_rfl) rfl ?_
  refine zw ?_
  refine di h fun e8 g9 h => ?_
  refine zw ?_
  refine OpsD.v rfl rfl (Y5l [.int .i64 p1.room, .int .i64 p1.id] [.int .i64 e8.room, .int .i64 e8.id] Ycq rfl rfl rfl rfl rfl rfl) ?_
  exact go
 exact go

def Zg1 (p0 : Y90) (p1 : List Y92) : Option Int := (Zco p0 p1 6 0).bind fun r2 => cond r2.2 (some r2.1.n) (some 2)
set_option maxHeartbeats 1000000 in
instance Zg2 (p0 : Y90) (p1 : List Y92) : Sp Tryz.prog 164 [C.agg [C.int p0.room, C.im Y98 9 p0.events, C.im Y98 9 p0.parked], C.im Y9g 3 p1] (Zg1 p0 p1) C.int := sp Tryz.func164 rfl rfl fun r X h => by
 unfold Zg1 at h
 refine zw ?_
 refine ox fun b1 => ?_
 refine zw ?_
 refine oc h fun r2 g3 h => ?_
 refine zw ?_
 refine Ops.h (ns := []) rfl rfl (Y1p (cs := [C.int 0, C.int 0, C.int 0, C.int 0, C.int 0, C.int 0, C.str ByteArray.empty, C.val s0, C.int 0]) Ya7 (Y42 rfl rfl) rfl) ?_
 rintro _ _ ⟨b4, rfl, rfl⟩
 refine Ops.hd (ns := [0]) rfl rfl (Y1u (gs := [C.int r2.1.id, C.int r2.1.room, C.int r2.1.author, C.int r2.1.kind, C.int r2.1.key, C.int r2.1.n, C.str r2.1.text, C.im kI64 1 r2.1.prev, C.int r2.1.time]) Yao.h rfl rfl rfl rfl rfl) ?_
 exact go

def Zg3 (p0 : List Int) : Option (List Int) := some p0
def Zg4 (l85 : List Int) (x86 : Int) : Option (Int ⊕ ((List Int) ⊕ Unit)) := (chk (decide ((0 : Int) ≤ x86 ∧ x86 ≤ (l85.length : Int)))).bind fun u88 => (chk (decide ((Int.toNat x86) ≤ l85.length))).bind fun u90 => (chk (decide ((0 : Int) ≤ x86 ∧ x86 ≤ ((List.take (Int.toNat x86) l85 ++ List.replicate (l85.length - (Int.toNat x86)) 0).length : Int)))).bind fun u92 => some (.inr (.inl (List.take (Int.toNat x86) (List.take (Int.toNat x86) l85 ++ List.replicate (l85.length - (Int.toNat x86)) 0))))
def Zg5 (x70 : Int) (l83 : List Int) (x84 : Int) : Option ((List Int × Int × Int) ⊕ ((List Int × Int))) := some (.inl (l83, x84, (IntKind.i64.wrap (x70 + 1))))
def Zg6 (x47 : Int) (l68 : List Int) (x69 : Int) (x70 : Int) : Option ((List Int × Int × Int) ⊕ ((List Int × Int))) := (chk (decide ((Int.toNat x47) ≤ l68.length))).bind fun u72 => cond (decide (x70 < ((List.drop (Int.toNat x47) l68).length : Int))) ((getI (List.drop (Int.toNat x47) l68) x70).bind fun e74 => (getI (List.drop (Int.toNat x47) l68) (IntKind.i64.wrap (x70 - 1))).bind fun e76 => cond (e74 != e76) ((getI (List.drop (Int.toNat x47) l68) x70).bind fun e79 => (getI l68 x69).bind fun e81 => Zg5 x70 (List.set l68 (Int.toNat x69) e79) (IntKind.i64.wrap (x69 + 1))) (Zg5 x70 l68 x69)) (some (.inr (l68, x69)))
def Zg7 (p0 : List Int) (x47 : Int) : Option (Int ⊕ ((List Int) ⊕ Unit)) := cond (decide (x47 < (p0.length : Int))) ((getI p0 x47).bind fun e49 => (getI p0 (IntKind.i64.wrap (x47 - 1))).bind fun e51 => cond (e49 == e51) ((chk (decide ((0 : Int) ≤ x47 ∧ x47 ≤ (p0.length : Int)))).bind fun u55 => (iter (fun z94 => Zg6 x47 z94.1 z94.2.1 z94.2.2) big (p0, x47, 1)).bind fun (y95, y96) => Zg4 y95 y96) (some (.inl (IntKind.i64.wrap (x47 + 1))))) (some (.inr (.inr ())))
def Zg8 (p0 : List Int) : Option (List Int) := cond (decide ((p0.length : Int) < 2)) (some p0) ((iter (Zg7 p0) big 1).bind (fun z98 => match z98 with | .inl y97 => some y97 | .inr () => Zg3 p0))
set_option maxHeartbeats 1000000 in
theorem Zg9 {w00 : Value} (p0 : List Int) (r : List Int) (h : Zg8 p0 = some r) : Ok Tryz.prog 257 [C.val w00] [Obj.arr w00 2 kI64 1 p0] (fun c qs => ∃ (v93 : Value), c = C.val v93 ∧ qs = [Obj.arr v93 2 kI64 1 r]) := by
 refine Ok.of_body (rs := [.tmp 2]) Tryz.func257 rfl rfl rfl rfl rfl fun X => ?_
 unfold Zg8 at h
 refine zw ?_
 refine cnd h (fun hb1 h => ?_) fun hb1 h => ?_
 ·
  refine AW.ct hb1 rfl ?_
  refine zw ?_
  refine AW.ret ?_
  rw [← Option.some.inj h]
  exact ⟨[C.val w00], _, Y21.refl _, (.cons (.tmp rfl) .nil), [0], _, _, rfl, ⟨w00, rfl, rfl⟩⟩
 refine AW.cf hb1 rfl ?_
 refine AW.skip ?_
 refine AW.seq ?_
 refine AW.cut (τ := Unit) (fun (_ : Unit) => ⟨[(0, C.val w00)], [Obj.arr w00 2 kI64 1 p0]⟩) (fun (_ : Unit) => Zg3 p0 = some r) ?_ ?_
 ·
  refine zw ?_
  refine AW.lp (v := ()) h (fun x47 (_ : Unit) => ⟨[(0, C.val w00), (3, C.int x47)], [Obj.arr w00 2 kI64 1 p0]⟩) (gb [0]) ?_
  rintro x47 _ y104 h
  refine zw ?_
  refine cnd h (fun hb48 h => ?_) fun hb48 h => ?_
  ·
   refine AW.ct hb48 rfl ?_
   refine zw ?_
   refine AW.regionD (L := [3, 8]) (Lt := []) (k := dec [0,3,6,10,12,15,18,21,25,27]) (ns := [0]) (by kernel_rfl) (by kernel_rfl) (by kernel_rfl) (by kernel_rfl) rfl ?_
   refine zw ?_
   refine di h fun e49 g50 h => ?_
   refine OpsD.v rfl rfl (Y30 (p := 0) ld_2.h rfl rfl (Y29 g50).2.2 rfl rfl) ?_
   refine zw ?_
   refine di h fun e51 g52 h => ?_
   refine OpsD.v rfl rfl (Y30 (p := 0) ld_2.h rfl rfl (Y29 g52).2.2 rfl rfl) ?_
   refine zw ?_
   refine cnd h (fun hb53 h => ?_) fun hb53 h => ?_
   ·
    refine AW.ct hb53 rfl ?_
    refine zw ?_
    refine ob' h fun u55 c54 h => ?_
    refine Ops.v rfl (Y75 (p := 0) (l := (Int.toNat x47)) Y9p.h rfl rfl rfl (of_decide_eq_true (Y3t c54)) rfl rfl) ?_
    refine Ops.v rfl (Yr rfl rfl) ?_
    refine Ops.nil ?_
    refine AW.seq ?_
    refine AW.cut (τ := List Int × Int) (fun (l85, x86) => ⟨[(0, C.val w00), (3, C.int x86)], [Obj.arr w00 2 kI64 1 l85]⟩) (fun (l85, x86) => Zg4 l85 x86 = some y104) ?_ ?_
    ·
     refine zw ?_
     refine AW.lp (v := ()) h (fun (l68, x69, x70) (_ : Unit) => ⟨[(0, C.val w00), (3, C.int x69), (4, C.val (Y72 w00 1 (Int.toNat x47))), (5, C.int x70)], [Obj.arr w00 2 kI64 1 l68]⟩) (gb [0]) ?_
     rintro ⟨l68, x69, x70⟩ _ y111 h
     refine zw ?_
     refine ob' h fun u72 c71 h => ?_
     refine Ops.v rfl (Y77 (p := 0) Y9p.h rfl rfl (of_decide_eq_true (Y3t c71)) rfl) ?_
     refine zw ?_
     refine cnd h (fun hb73 h => ?_) fun hb73 h => ?_
     ·
      refine AW.ct hb73 rfl ?_
      refine zw ?_
      refine AW.regionD (L := [3, 8]) (Lt := []) (k := dec [0,3,6,10,12,15,18,21,25,27]) (ns := [0]) (by kernel_rfl) (by kernel_rfl) (by kernel_rfl) (by kernel_rfl) rfl ?_
      refine zw ?_
      refine ob' h fun e74 g75 h => ?_
      refine OpsD.v rfl rfl (Y78 (p := 0) Y9p.h rfl rfl rfl g75 rfl) ?_
      refine OpsD.v rfl rfl (Y30 (p := 0) ld_2.h rfl rfl (Y79 g75) rfl rfl) ?_
      refine zw ?_
      refine ob' h fun e76 g77 h => ?_
      refine OpsD.v rfl rfl (Y78 (p := 0) Y9p.h rfl rfl rfl g77 rfl) ?_
      refine OpsD.v rfl rfl (Y30 (p := 0) ld_2.h rfl rfl (Y79 g77) rfl rfl) ?_
      refine zw ?_
      refine cnd h (fun hb78 h => ?_) fun hb78 h => ?_
      ·
       refine AW.ct hb78 rfl ?_
       refine zw ?_
       refine ob' h fun e79 g80 h => ?_
       refine Ops.v rfl (Y78 (p := 0) Y9p.h rfl rfl rfl g80 rfl) ?_
       refine Ops.v rfl (Y30 (p := 0) ld_2.h rfl rfl (Y79 g80) rfl rfl) ?_
       refine oi h fun e81 g82 h => ?_
       refine Ops.hd (ns := [0]) rfl rfl (Y33 (e' := e79) ld_2.h rfl rfl (One.val rfl) (Y29 g82).2.2 rfl rfl) ?_
       exact go
      exact go
     exact go
    rintro ⟨l85, x86⟩ h
    replace h : Zg4 l85 x86 = some y104 := h
    unfold Zg4 at h
    refine zw ?_
    refine ob' h fun u88 c87 h => ?_
    refine Ops.v rfl (Y75 (p := 0) (l := (Int.toNat x86)) Y9p.h rfl rfl rfl (of_decide_eq_true (Y3t c87)) rfl rfl) ?_
    refine ob' h fun u90 c89 h => ?_
    refine Ops.hd (ns := [0]) rfl rfl (Y7d (z := 0) Ya6 ze_2 (Y42 rfl rfl) rfl (of_decide_eq_true (Y3t c89))) ?_
    refine zw ?_
    refine ob' h fun u92 c91 h => ?_
    refine Ops.v rfl (Y76 (p := 0) (l := (Int.toNat x86)) Y9p.h rfl rfl rfl (of_decide_eq_true (Y3t c91)) rfl rfl) ?_
    refine zw ?_
    refine AW.ret ?_
    refine lx h fun h => ?_
    rw [← Option.some.inj h]
    exact ⟨[C.val (Y73 w00 (Int.toNat x86))], _, Y21.prefix (p := 0) (h := (Int.toNat x86)) rfl (Int.le_toNat_len c91), (.cons (.tmp rfl) .nil), [0], _, _, rfl, ⟨(Y73 w00 (Int.toNat x86)), rfl, rfl⟩⟩
   exact go
  exact go
 rintro ⟨⟩ h
 replace h : Zg3 p0 = some r := h
 unfold Zg3 at h
 refine zw ?_
 refine AW.ret ?_
 rw [← Option.some.inj h]
 exact ⟨[C.val w00], _, Y21.refl _, (.cons (.tmp rfl) .nil), [0], _, _, rfl, ⟨w00, rfl, rfl⟩⟩
def Zga (p0 : List Int) : Option (List Int) := (chk (decide (p0.length < 4611686018427387904))).bind fun u2 => (Zg8 (List.mergeSort p0 (fun x y => decide (x ≤ y)))).bind fun r3 => some r3
theorem Zgb {w00 : Value} (p0 : List Int) (r : List Int) (h : Zga p0 = some r) : Ok Tryz.prog 205 [C.val w00] [Obj.arr w00 2 kI64 1 p0] (fun c qs => ∃ (v6 : Value), c = C.val v6 ∧ qs = [Obj.arr v6 2 kI64 1 r]) := by
 refine Ok.of_body (rs := [.tmp 2]) Tryz.func205 rfl rfl rfl rfl rfl fun X => ?_
 unfold Zga at h
 refine zw ?_
 refine ob' h fun u2 c1 h => ?_
 refine Ops.hd (ns := [0]) rfl rfl (Y89 Y8v (fun _ => rfl) (of_decide_eq_true (Y3t c1)) rfl rfl) ?_
 refine zw ?_
 refine ob' h fun r3 g4 h => ?_
 refine Ops.h (ns := [0]) rfl rfl (Y23 (Zg9 (List.mergeSort p0 (fun x y => decide (x ≤ y))) _ g4) rfl rfl) ?_
 rintro _ _ ⟨_, ⟨v5, rfl, rfl⟩, rfl⟩
 refine zw ?_
 refine AW.ret ?_
 rw [← Option.some.inj h]
 exact ⟨[C.val v5], _, Y21.refl _, (.cons (.tmp rfl) .nil), [0], _, _, rfl, ⟨v5, rfl, rfl⟩⟩
def Zgc (p0 : Int) (q0 : Y8w) : Option Bool := (Z88 q0.prev p0).bind fun r1 => some r1
theorem Zgd {b00 : Nat} (p0 : Int) (q0 : Y8w) (r : Bool) (h : Zgc p0 q0 = some r) : Ok Tryz.prog 207 [C.int p0, pt b00] [Obj.box b00 136 [C.int q0.id, C.int q0.room, C.int q0.author, C.int q0.kind, C.int q0.key, C.int q0.n, C.str q0.text, C.im kI64 1 q0.prev, C.int q0.time]] (fun c qs => c = C.bool r ∧ qs = [Obj.box b00 136 [C.int q0.id, C.int q0.room, C.int q0.author, C.int q0.kind, C.int q0.key, C.int q0.n, C.str q0.text, C.im kI64 1 q0.prev, C.int q0.time]]) := by
 refine Ok.of_body (rs := [.tmp 3]) Tryz.func207 rfl rfl rfl rfl rfl fun X => ?_
 unfold Zgc at h
 refine zw ?_
 refine oc h fun r1 g2 h => ?_
 refine zw ?_
 refine AW.ret ?_
 rw [← Option.some.inj h]
 exact ⟨[C.bool r1], _, Y21.refl _, (.cons (.tmp rfl) .nil), [0], _, _, rfl, ⟨rfl, rfl⟩⟩

def Zge : Option Int := some (-1)
def Zgf (p0 : List Int) (p1_0 : Y8w) (x7 : Int) : Option (Int ⊕ (Int ⊕ Unit)) := cond (decide (x7 < (p0.length : Int))) ((getI p0 x7).bind fun e9 => (Zgc e9 p1_0).bind fun r11 => cond r11 (some (.inr (.inl x7))) (some (.inl (IntKind.i64.wrap (x7 + 1))))) (some (.inr (.inr ())))
def Zgg (p0 : List Int) (p1_0 : Y8w) : Option Int := (iter (Zgf p0 p1_0) big 0).bind (fun z15 => match z15 with | .inl y14 => some y14 | .inr () => Zge)
set_option maxHeartbeats 1000000 in
theorem Zgh {w00 : Value} {b01 : Nat} (p0 : List Int) (p1_0 : Y8w) (r : Int) (h : Zgg p0 p1_0 = some r) : Ok Tryz.prog 194 [C.val w00, C.clo 207 [pt b01]] [Obj.arr w00 2 kI64 1 p0, Obj.box b01 136 [C.int p1_0.id, C.int p1_0.room, C.int p1_0.author, C.int p1_0.kind, C.int p1_0.key, C.int p1_0.n, C.str p1_0.text, C.im kI64 1 p1_0.prev, C.int p1_0.time]] (fun c qs => c = C.int r ∧ qs = [Obj.arr w00 2 kI64 1 p0, Obj.box b01 136 [C.int p1_0.id, C.int p1_0.room, C.int p1_0.author, C.int p1_0.kind, C.int p1_0.key, C.int p1_0.n, C.str p1_0.text, C.im kI64 1 p1_0.prev, C.int p1_0.time]]) := by
 refine Ok.of_body (rs := [.tmp 4]) Tryz.func194 rfl rfl rfl rfl rfl fun X => ?_
 unfold Zgg at h
 refine AW.seq ?_
 refine AW.region ?_
 refine Ops.v rfl (Yr rfl rfl) ?_
 refine Ops.nil ?_
 refine AW.seq ?_
 refine AW.cut (τ := Unit) (fun (_ : Unit) => ⟨[], [Obj.arr w00 2 kI64 1 p0, Obj.box b01 136 [C.int p1_0.id, C.int p1_0.room, C.int p1_0.author, C.int p1_0.kind, C.int p1_0.key, C.int p1_0.n, C.str p1_0.text, C.im kI64 1 p1_0.prev, C.int p1_0.time]]⟩) (fun (_ : Unit) => Zge = some r) ?_ ?_
 ·
  refine zw ?_
  refine AW.lp (v := ()) h (fun x7 (_ : Unit) => ⟨[(0, C.val w00), (1, C.clo 207 [pt b01]), (7, C.int (p0.length : Int)), (8, C.int x7)], [Obj.arr w00 2 kI64 1 p0, Obj.box b01 136 [C.int p1_0.id, C.int p1_0.room, C.int p1_0.author, C.int p1_0.kind, C.int p1_0.key, C.int p1_0.n, C.str p1_0.text, C.im kI64 1 p1_0.prev, C.int p1_0.time]]⟩) (gb [0, 0]) ?_
  rintro x7 _ y21 h
  refine zw ?_
  refine cnd h (fun hb8 h => ?_) fun hb8 h => ?_
  ·
   refine AW.ct hb8 rfl ?_
   refine zw ?_
   refine oi h fun e9 g10 h => ?_
   refine Ops.v rfl (Y30 (p := 0) ld_2.h rfl rfl (Y29 g10).2.2 rfl rfl) ?_
   refine ob' h fun r11 g12 h => ?_
   refine Ops.hd (ns := [1]) rfl rfl (Y6s (cs := [_]) (ds := [_]) rfl (Zgd e9 p1_0 _ g12) rfl rfl) ?_
   refine zw ?_
   refine cnd h (fun hb13 h => ?_) fun hb13 h => ?_
   ·
    refine AW.ct hb13 rfl ?_
    refine zw ?_
    refine AW.ret ?_
    refine lx h fun h => ?_
    rw [← Option.some.inj h]
    exact ⟨[C.int x7], _, Y21.refl _, (.cons (.tmp rfl) .nil), [1, 0], _, _, rfl, ⟨rfl, rfl⟩⟩
   exact go
  exact go
 rintro ⟨⟩ h
 replace h : Zge = some r := h
 unfold Zge at h
 refine zw ?_
 refine AW.ret ?_
 rw [← Option.some.inj h]
 exact ⟨[C.int (-1)], _, Y21.refl _, (.cons (.tmp rfl) .nil), [0, 0], _, _, rfl, ⟨rfl, rfl⟩⟩

def Zgi (l27 : List Int) (x28 : Int) : Option (List Int) := (chk (decide ((0 : Int) ≤ x28 ∧ x28 ≤ (l27.length : Int)))).bind fun u30 => (chk (decide ((Int.toNat x28) ≤ l27.length))).bind fun u32 => (chk (decide ((0 : Int) ≤ x28 ∧ x28 ≤ ((List.take (Int.toNat x28) l27 ++ List.replicate (l27.length - (Int.toNat x28)) 0).length : Int)))).bind fun u34 => some (List.take (Int.toNat x28) (List.take (Int.toNat x28) l27 ++ List.replicate (l27.length - (Int.toNat x28)) 0))
def Zgj (x16 : Int) (l25 : List Int) (x26 : Int) : Option ((List Int × Int × Int) ⊕ ((List Int × Int))) := some (.inl (l25, x26, (IntKind.i64.wrap (x16 + 1))))
def Zgk (p1_0 : Y8w) (l14 : List Int) (x15 : Int) (x16 : Int) : Option ((List Int × Int × Int) ⊕ ((List Int × Int))) := cond (decide (x16 < (l14.length : Int))) ((getI l14 x16).bind fun e18 => (Zgc e18 p1_0).bind fun r20 => cond r20 (Zgj x16 l14 x15) ((getI l14 x15).bind fun e23 => Zgj x16 (List.set l14 (Int.toNat x15) e18) (IntKind.i64.wrap (x15 + 1)))) (some (.inr (l14, x15)))
def Zgl (p0 : List Int) (p1_0 : Y8w) : Option (List Int) := (Zgg p0 p1_0).bind fun r1 => cond (r1 == (-1)) (some p0) ((iter (fun z36 => Zgk p1_0 z36.1 z36.2.1 z36.2.2) big (p0, r1, (IntKind.i64.wrap (r1 + 1)))).bind fun (y37, y38) => Zgi y37 y38)
set_option maxHeartbeats 1000000 in
theorem Zgm {w00 : Value} {b01 : Nat} (p0 : List Int) (p1_0 : Y8w) (r : List Int) (h : Zgl p0 p1_0 = some r) : Ok Tryz.prog 206 [C.val w00, C.clo 207 [pt b01]] [Obj.arr w00 2 kI64 1 p0, Obj.box b01 136 [C.int p1_0.id, C.int p1_0.room, C.int p1_0.author, C.int p1_0.kind, C.int p1_0.key, C.int p1_0.n, C.str p1_0.text, C.im kI64 1 p1_0.prev, C.int p1_0.time]] (fun c qs => ∃ (v35 : Value), c = C.val v35 ∧ qs = [Obj.arr v35 2 kI64 1 r, Obj.box b01 136 [C.int p1_0.id, C.int p1_0.room, C.int p1_0.author, C.int p1_0.kind, C.int p1_0.key, C.int p1_0.n, C.str p1_0.text, C.im kI64 1 p1_0.prev, C.int p1_0.time]]) := by
 refine Ok.of_body (rs := [.tmp 4]) Tryz.func206 rfl rfl rfl rfl rfl fun X => ?_
 unfold Zgl at h
 refine zw ?_
 refine ob' h fun r1 g2 h => ?_
 refine Ops.hd (ns := [0, 0]) rfl rfl (Y24 (Zgh p0 p1_0 _ g2) rfl rfl) ?_
 refine zw ?_
 refine cnd h (fun hb3 h => ?_) fun hb3 h => ?_
 ·
  refine AW.ct hb3 rfl ?_
  refine zw ?_
  refine AW.ret ?_
  rw [← Option.some.inj h]
  exact ⟨[C.val w00], _, Y21.refl _, (.cons (.tmp rfl) .nil), [0, 0], _, _, rfl, ⟨w00, rfl, rfl⟩⟩
 refine AW.cf hb3 rfl ?_
 refine AW.skip ?_
 refine AW.seq ?_
 refine AW.cut (τ := List Int × Int) (fun (l27, x28) => ⟨[(0, C.val w00), (5, C.int x28)], [Obj.arr w00 2 kI64 1 l27, Obj.box b01 136 [C.int p1_0.id, C.int p1_0.room, C.int p1_0.author, C.int p1_0.kind, C.int p1_0.key, C.int p1_0.n, C.str p1_0.text, C.im kI64 1 p1_0.prev, C.int p1_0.time]]⟩) (fun (l27, x28) => Zgi l27 x28 = some r) ?_ ?_
 ·
  refine zw ?_
  refine AW.lp (v := ()) h (fun (l14, x15, x16) (_ : Unit) => ⟨[(0, C.val w00), (1, C.clo 207 [pt b01]), (5, C.int x15), (6, C.int x16)], [Obj.arr w00 2 kI64 1 l14, Obj.box b01 136 [C.int p1_0.id, C.int p1_0.room, C.int p1_0.author, C.int p1_0.kind, C.int p1_0.key, C.int p1_0.n, C.str p1_0.text, C.im kI64 1 p1_0.prev, C.int p1_0.time]]⟩) (gb [0, 0]) ?_
  rintro ⟨l14, x15, x16⟩ _ y44 h
  refine zw ?_
  refine cnd h (fun hb17 h => ?_) fun hb17 h => ?_
  ·
   refine AW.ct hb17 rfl ?_
   refine zw ?_
   refine oi h fun e18 g19 h => ?_
   refine Ops.v rfl (Y30 (p := 0) ld_2.h rfl rfl (Y29 g19).2.2 rfl rfl) ?_
   refine zw ?_
   refine ob' h fun r20 g21 h => ?_
   refine Ops.hd (ns := [1]) rfl rfl (Y6s (cs := [_]) (ds := [_]) rfl (Zgd e18 p1_0 _ g21) rfl rfl) ?_
   refine zw ?_
   refine cnd h (fun hb22 h => go) fun hb22 h => ?_
   refine AW.cond rfl (fun _ => ?_) (fun hn => absurd ((Y3v hb22).symm.trans hn) (by decide))
   refine zw ?_
   refine ob' h fun e23 g24 h => ?_
   refine Ops.v rfl (Y2x (p := 1) Y9p.h rfl rfl rfl g24 rfl) ?_
   refine Ops.hd (ns := [1]) rfl rfl (Y33 (e' := e18) ld_2.h rfl rfl (One.val rfl) (Y29 g24).2.2 rfl rfl) ?_
   exact go
  exact go
 rintro ⟨l27, x28⟩ h
 replace h : Zgi l27 x28 = some r := h
 unfold Zgi at h
 refine zw ?_
 refine ob' h fun u30 c29 h => ?_
 refine Ops.v rfl (Y75 (p := 0) (l := (Int.toNat x28)) Y9p.h rfl rfl rfl (of_decide_eq_true (Y3t c29)) rfl rfl) ?_
 refine ob' h fun u32 c31 h => ?_
 refine Ops.hd (ns := [0]) rfl rfl (Y7d (z := 0) Ya6 ze_2 (Y42 rfl rfl) rfl (of_decide_eq_true (Y3t c31))) ?_
 refine zw ?_
 refine ob' h fun u34 c33 h => ?_
 refine Ops.v rfl (Y76 (p := 0) (l := (Int.toNat x28)) Y9p.h rfl rfl rfl (of_decide_eq_true (Y3t c33)) rfl rfl) ?_
 refine zw ?_
 refine AW.ret ?_
 rw [← Option.some.inj h]
 exact ⟨[C.val (Y73 w00 (Int.toNat x28))], _, Y21.prefix (p := 0) (h := (Int.toNat x28)) rfl (Int.le_toNat_len c33), (.cons (.tmp rfl) .nil), [0, 0], _, _, rfl, ⟨(Y73 w00 (Int.toNat x28)), rfl, rfl⟩⟩

def Zgn (l29 : List Int) : Option (List Int) := some l29
def Zgo (p0 : Y96) (p1 : List Int) (l17 : List Int) (x18 : Int) : Option ((List Int × Int) ⊕ ((List Int))) := cond (decide (x18 < (p1.length : Int))) ((getI p1 x18).bind fun e20 => (Zbu p0.graph e20).bind fun r22 => (Zgl l17 r22.1).bind fun r25 => some (.inl (r25, (IntKind.i64.wrap (x18 + 1))))) (some (.inr l17))
def Zgp (p0 : Y96) (p1 : List Int) : Option (List Int) := (Zed p1).bind fun r1 => (Zga r1).bind fun r4 => (iter (fun z31 => Zgo p0 p1 z31.1 z31.2) big (r4, 0)).bind fun y32 => Zgn y32
set_option maxHeartbeats 1000000 in
theorem Zgq (p0 : Y96) (p1 : List Int) (r : List Int) (h : Zgp p0 p1 = some r) : Ok Tryz.prog 144 [C.ip [C.int p0.graph.room, C.im Y98 9 p0.graph.events, C.im Y98 9 p0.graph.parked, C.imap .i64 Y9l p0.depth, C.imap .i64 Y9m p0.before, C.imap .i64 Y9m p0.after, C.imap .i64 Y9l p0.refused], C.im kI64 1 p1] [] (fun c qs => ∃ (v30 : Value), c = C.val v30 ∧ qs = [Obj.arr v30 2 kI64 1 r]) := by
 refine Ok.of_body (rs := [.tmp 4]) Tryz.func144 rfl rfl rfl rfl rfl fun X => ?_
 unfold Zgp at h
 refine zw ?_
 refine ob' h fun r1 g2 h => ?_
 refine Ops.h (ns := []) rfl rfl (Y23 (Zee _ _ g2) rfl rfl) ?_
 rintro _ _ ⟨_, ⟨v3, rfl, rfl⟩, rfl⟩
 refine ob' h fun r4 g5 h => ?_
 refine Ops.h (ns := [0]) rfl rfl (Y23 (Zgb r1 _ g5) rfl rfl) ?_
 rintro _ _ ⟨_, ⟨v6, rfl, rfl⟩, rfl⟩
 refine Ops.v rfl (Yr rfl rfl) ?_
 refine Ops.nil ?_
 refine AW.seq ?_
 refine AW.cut (τ := List Int × Value) (fun (l29, v28) => ⟨[(5, C.val v28)], [Obj.arr v28 2 kI64 1 l29]⟩) (fun (l29, v28) => Zgn l29 = some r) ?_ ?_
 ·
  refine zw ?_
  refine AW.lp h (fun (l17, x18) (v16 : Value) => ⟨[(0, C.ip [C.int p0.graph.room, C.im Y98 9 p0.graph.events, C.im Y98 9 p0.graph.parked, C.imap .i64 Y9l p0.depth, C.imap .i64 Y9m p0.before, C.imap .i64 Y9m p0.after, C.imap .i64 Y9l p0.refused]), (5, C.val v16), (13, C.im kI64 1 p1), (14, C.int (p1.length : Int)), (15, C.int x18)], [Obj.arr v16 2 kI64 1 l17]⟩) (gb [0]) ?_
  rintro ⟨l17, x18⟩ v16 y38 h
  refine zw ?_
  refine cnd h (fun hb19 h => ?_) fun hb19 h => ?_
  ·
   refine AW.ct hb19 rfl ?_
   refine zw ?_
   refine oi h fun e20 g21 h => ?_
   refine zw ?_
   refine oc h fun r22 g23 h => ?_
   refine zw ?_
   refine Ops.h (ns := []) rfl rfl (Y1p (cs := [C.int 0, C.int 0, C.int 0, C.int 0, C.int 0, C.int 0, C.str ByteArray.empty, C.val s0, C.int 0]) Ya7 (Y42 rfl rfl) rfl) ?_
   rintro _ _ ⟨b24, rfl, rfl⟩
   refine Ops.hd (ns := [0]) rfl rfl (Y1u (gs := [C.int r22.1.id, C.int r22.1.room, C.int r22.1.author, C.int r22.1.kind, C.int r22.1.key, C.int r22.1.n, C.str r22.1.text, C.im kI64 1 r22.1.prev, C.int r22.1.time]) Yao.h rfl rfl rfl rfl rfl) ?_
   refine zw ?_
   refine Ops.v rfl (Y6q rfl rfl) ?_
   refine ob' h fun r25 g26 h => ?_
   refine Ops.h (ns := [1, 0]) rfl rfl (Y23 (Zgm l17 r22.1 _ g26) rfl rfl) ?_
   rintro _ _ ⟨_, ⟨v27, rfl, rfl⟩, rfl⟩
   exact go
  exact go
 rintro ⟨l29, v28⟩ h
 replace h : Zgn l29 = some r := h
 unfold Zgn at h
 refine zw ?_
 refine AW.ret ?_
 rw [← Option.some.inj h]
 exact ⟨[C.val v28], _, Y21.refl _, (.cons (.tmp rfl) .nil), [0], _, _, rfl, ⟨v28, rfl, rfl⟩⟩
instance Zgq' (p0 : Y96) (p1 : List Int) : Sp Tryz.prog 144 [C.ip [C.int p0.graph.room, C.im Y98 9 p0.graph.events, C.im Y98 9 p0.graph.parked, C.imap .i64 Y9l p0.depth, C.imap .i64 Y9m p0.before, C.imap .i64 Y9m p0.after, C.imap .i64 Y9l p0.refused], C.im kI64 1 p1] (Zgp p0 p1) (fun r => C.im kI64 1 r) := ⟨fun r h => Ok.freeze (Zgq p0 p1 r h) (by rintro c qs ⟨v30, rfl, rfl⟩; exact Frz.arr)⟩

def Zgr (p0 : Y96) : Option (List Int) := (Zey p0).bind fun r1 => (Zgp p0 r1).bind fun r3 => some r3
instance Zgs (p0 : Y96) : Sp Tryz.prog 265 [C.ip [C.int p0.graph.room, C.im Y98 9 p0.graph.events, C.im Y98 9 p0.graph.parked, C.imap .i64 Y9l p0.depth, C.imap .i64 Y9m p0.before, C.imap .i64 Y9m p0.after, C.imap .i64 Y9l p0.refused]] (Zgr p0) (fun r => C.im kI64 1 r) := sp Tryz.func265 rfl rfl fun r X h => go

def Zgt (l20 : List (List Y92)) : Option (List (List Y92)) := some l20
def Zgu (p0 : Y96) (p1 : List Int) (l10 : List (List Y92)) (x11 : Int) : Option ((List (List Y92) × Int) ⊕ ((List (List Y92)))) := cond (decide (x11 < (p1.length : Int))) ((getI p1 x11).bind fun e13 => (chk (decide ((l10.length + [(Option.getD (mget p0.after e13) ([] : List Y92))].length) * 24 ≤ 140737488355328))).bind fun u17 => some (.inl ((l10 ++ [(Option.getD (mget p0.after e13) ([] : List Y92))]), (IntKind.i64.wrap (x11 + 1))))) (some (.inr l10))
def Zgv (p0 : Y96) (p1 : List Int) : Option (List (List Y92)) := (iter (fun z22 => Zgu p0 p1 z22.1 z22.2) big (([] : List (List Y92)), 0)).bind fun y23 => Zgt y23
set_option maxHeartbeats 1000000 in
theorem Zgw (p0 : Y96) (p1 : List Int) (r : List (List Y92)) (h : Zgv p0 p1 = some r) : Ok Tryz.prog 143 [C.ip [C.int p0.graph.room, C.im Y98 9 p0.graph.events, C.im Y98 9 p0.graph.parked, C.imap .i64 Y9l p0.depth, C.imap .i64 Y9m p0.before, C.imap .i64 Y9m p0.after, C.imap .i64 Y9l p0.refused], C.im kI64 1 p1] [] (fun c qs => ∃ (v21 : Value), c = C.val v21 ∧ qs = [Obj.arr v21 27 Y9h 1 r]) := by
 refine Ok.of_body (rs := [.tmp 4]) Tryz.func143 rfl rfl rfl rfl rfl fun X => ?_
 unfold Zgv at h
 refine zw ?_
 refine Ops.h (ns := []) rfl rfl (Y39 (k := Y9h) (ys := ([] : List (List Y92))) Yc4 .nil rfl rfl rfl) ?_
 rintro _ _ ⟨b1, rfl, rfl⟩
 refine Ops.v rfl (Yr rfl rfl) ?_
 refine Ops.nil ?_
 refine AW.seq ?_
 refine AW.cut (τ := List (List Y92) × Value) (fun (l20, v19) => ⟨[(5, C.val v19)], [Obj.arr v19 27 Y9h 1 l20]⟩) (fun (l20, v19) => Zgt l20 = some r) ?_ ?_
 ·
  refine zw ?_
  refine AW.lp h (fun (l10, x11) (v9 : Value) => ⟨[(0, C.ip [C.int p0.graph.room, C.im Y98 9 p0.graph.events, C.im Y98 9 p0.graph.parked, C.imap .i64 Y9l p0.depth, C.imap .i64 Y9m p0.before, C.imap .i64 Y9m p0.after, C.imap .i64 Y9l p0.refused]), (5, C.val v9), (9, C.im kI64 1 p1), (10, C.int (p1.length : Int)), (11, C.int x11)], [Obj.arr v9 27 Y9h 1 l10]⟩) (gb [0]) ?_
  rintro ⟨l10, x11⟩ v9 y29 h
  refine zw ?_
  refine cnd h (fun hb12 h => ?_) fun hb12 h => ?_
  ·
   refine AW.ct hb12 rfl ?_
   refine zw ?_
   refine oi h fun e13 g14 h => ?_
   refine zw ?_
   refine Ops.v rfl (Y8a (kc := Y9m) (z0 := ([] : List Y92)) Yd1 Yd2 (fun w F => Imp.nil Y9g 3 w F _ rfl) rfl rfl rfl) ?_
   refine Ops.h (ns := []) rfl rfl (Y39 (k := Y9h) (ys := [(Option.getD (mget p0.after e13) ([] : List Y92))]) Yc4 (.one rfl One.im rfl rfl .nil) rfl rfl rfl) ?_
   rintro _ _ ⟨b15, rfl, rfl⟩
   refine ob' h fun u17 c16 h => ?_
   refine Ops.h (ns := [1, 0]) rfl rfl (Y2s Yc4 rfl rfl (of_decide_eq_true (Y3t c16)) (Y3w (by decide) c16) rfl) ?_
   rintro _ _ ⟨v18, rfl, rfl⟩
   exact go
  exact go
 rintro ⟨l20, v19⟩ h
 replace h : Zgt l20 = some r := h
 unfold Zgt at h
 refine zw ?_
 refine AW.ret ?_
 rw [← Option.some.inj h]
 exact ⟨[C.val v19], _, Y21.refl _, (.cons (.tmp rfl) .nil), [0], _, _, rfl, ⟨v19, rfl, rfl⟩⟩
instance Zgw' (p0 : Y96) (p1 : List Int) : Sp Tryz.prog 143 [C.ip [C.int p0.graph.room, C.im Y98 9 p0.graph.events, C.im Y98 9 p0.graph.parked, C.imap .i64 Y9l p0.depth, C.imap .i64 Y9m p0.before, C.imap .i64 Y9m p0.after, C.imap .i64 Y9l p0.refused], C.im kI64 1 p1] (Zgv p0 p1) (fun r => C.im Y9h 1 r) := ⟨fun r h => Ok.freeze (Zgw p0 p1 r h) (by rintro c qs ⟨v21, rfl, rfl⟩; exact Frz.arr)⟩

def Zgx (l205 : List Y92) : Option (List Y92) := some l205
def Zgy (x194 : Int) (l204 : List Y92) : Option ((List Y92 × Int) ⊕ ((List Y92))) := some (.inl (l204, (IntKind.i64.wrap (x194 + 1))))
def Zgz (p0 : Y96) (r176 : List Y8w) (l193 : List Y92) (x194 : Int) : Option ((List Y92 × Int) ⊕ ((List Y92))) := cond (decide (x194 < (r176.length : Int))) ((getI r176 x194).bind fun e196 => (Zdc p0.graph l193 e196).bind fun r199 => cond (r199 == 0) ((Zdl l193 (Y92.mk e196.kind e196.key e196.id)).bind fun r202 => Zgy x194 r202) (Zgy x194 l193)) (some (.inr l193))
def Zh0 (p0 : Y96) (l37 : List Y92) (l175 : List Y8w) : Option (List Y92) := (Y7w (fun z1 z2 => Zdv z1 z2 p0) l175).bind fun r176 => (iter (fun z206 => Zgz p0 r176 z206.1 z206.2) big (l37, 0)).bind fun y207 => Zgx y207
def Zh1 (x113 : Int) (l172 : List Y8w) (m173 : List (Int × Bool)) : Option ((List Y8w × (List (Int × Bool)) × Int) ⊕ ((List Y8w))) := some (.inl (l172, m173, (IntKind.i64.wrap (x113 + 1))))
def Zh2 (x145 : Int) (l169 : List Y8w) (m170 : List (Int × Bool)) : Option ((List Y8w × (List (Int × Bool)) × Int) ⊕ ((List Y8w × (List (Int × Bool))))) := some (.inl (l169, m170, (IntKind.i64.wrap (x145 + 1))))
def Zh3 (l143 : List Y8w) (m144 : List (Int × Bool)) (x145 : Int) (e147 : Y92) (x155 : Int) (x156 : Int) (x157 : Int) (x158 : Int) (x159 : Int) (x160 : Int) (x161 : ByteArray) (l162 : List Int) (x163 : Int) : Option ((List Y8w × (List (Int × Bool)) × Int) ⊕ ((List Y8w × (List (Int × Bool))))) := (chk (decide ((l143.length + [(Y8w.mk x155 x156 x157 x158 x159 x160 x161 l162 x163)].length) * 96 ≤ 140737488355328))).bind fun u166 => Zh2 x145 (l143 ++ [(Y8w.mk x155 x156 x157 x158 x159 x160 x161 l162 x163)]) (mset m144 e147.id true)
def Zh4 (p0 : Y96) (e115 : List Y92) (l143 : List Y8w) (m144 : List (Int × Bool)) (x145 : Int) : Option ((List Y8w × (List (Int × Bool)) × Int) ⊕ ((List Y8w × (List (Int × Bool))))) := cond (decide (x145 < (e115.length : Int))) ((getI e115 x145).bind fun e147 => cond (Option.getD (mget m144 e147.id) false) (Zh2 x145 l143 m144) ((Zbu p0.graph e147.id).bind fun r151 => Zh3 l143 m144 x145 e147 r151.1.id r151.1.room r151.1.author r151.1.kind r151.1.key r151.1.n r151.1.text r151.1.prev r151.1.time)) (some (.inr (l143, m144)))
def Zh5 (p0 : Y96) (p1 : List (List Y92)) (l111 : List Y8w) (m112 : List (Int × Bool)) (x113 : Int) : Option ((List Y8w × (List (Int × Bool)) × Int) ⊕ ((List Y8w))) := cond (decide (x113 < (p1.length : Int))) ((getI p1 x113).bind fun e115 => (iter (fun z208 => Zh4 p0 e115 z208.1 z208.2.1 z208.2.2) big (l111, m112, 0)).bind fun (y209, y210) => Zh1 x113 y209 y210) (some (.inr l111))
def Zh6 (p0 : Y96) (p1 : List (List Y92)) (l37 : List Y92) (m49 : List (Int × Bool)) : Option (List Y92) := (iter (fun z211 => Zh5 p0 p1 z211.1 z211.2.1 z211.2.2) big (([] : List Y8w), m49, 0)).bind fun y212 => Zh0 p0 l37 y212
def Zh7 (l37 : List Y92) (m43 : List (Int × Bool)) (x44 : Int) : Option (((List (Int × Bool)) × Int) ⊕ ((List (Int × Bool)))) := cond (decide (x44 < (l37.length : Int))) ((getI l37 x44).bind fun e46 => some (.inl ((mset m43 e46.id true), (IntKind.i64.wrap (x44 + 1))))) (some (.inr m43))
def Zh8 (p0 : Y96) (p1 : List (List Y92)) (l37 : List Y92) : Option (List Y92) := (iter (fun z213 => Zh7 l37 z213.1 z213.2) big (([] : List (Int × Bool)), 0)).bind fun y214 => Zh6 p0 p1 l37 y214
def Zh9 (x22 : Int) (l35 : List Y92) : Option ((List Y92 × Int) ⊕ ((List Y92))) := some (.inl (l35, (IntKind.i64.wrap (x22 + 1))))
def Zha (p1 : List (List Y92)) (e5 : List Y92) (l21 : List Y92) (x22 : Int) : Option ((List Y92 × Int) ⊕ ((List Y92))) := cond (decide (x22 < (e5.length : Int))) ((getI e5 x22).bind fun e24 => (Zdt p1 e24).bind fun r27 => cond r27 (Zh9 x22 l21) ((chk (decide ((l21.length + [e24].length) * 24 ≤ 140737488355328))).bind fun u32 => Zh9 x22 (l21 ++ [e24]))) (some (.inr l21))
def Zhb (p0 : Y96) (p1 : List (List Y92)) : Option (List Y92) := cond (decide ((p1.length : Int) > 0)) ((getI p1 0).bind fun e5 => (iter (fun z215 => Zha p1 e5 z215.1 z215.2) big (([] : List Y92), 0)).bind fun y216 => Zh8 p0 p1 y216) (Zh8 p0 p1 ([] : List Y92))
set_option maxHeartbeats 1000000 in
instance Zhc (p0 : Y96) (p1 : List (List Y92)) : Sp Tryz.prog 142 [C.ip [C.int p0.graph.room, C.im Y98 9 p0.graph.events, C.im Y98 9 p0.graph.parked, C.imap .i64 Y9l p0.depth, C.imap .i64 Y9m p0.before, C.imap .i64 Y9m p0.after, C.imap .i64 Y9l p0.refused], C.im Y9h 1 p1] (Zhb p0 p1) (fun r => C.im Y9g 3 r) := sp Tryz.func142 rfl rfl fun r X h => by
 unfold Zhb at h
 refine zw ?_
 refine Ops.h (ns := []) rfl rfl (Y1q rfl One.ip rfl) ?_
 rintro _ _ ⟨b1, rfl, rfl⟩
 refine zw ?_
 refine Ops.h (ns := []) rfl rfl (Y39 (k := Y9g) (ys := ([] : List Y92)) Ybt .nil rfl rfl rfl) ?_
 rintro _ _ ⟨b2, rfl, rfl⟩
 refine Ops.h (ns := []) rfl rfl (Y39 (k := Y98) (ys := ([] : List Y8w)) Yap .nil rfl rfl rfl) ?_
 rintro _ _ ⟨b3, rfl, rfl⟩
 refine Ops.v rfl (Yr rfl rfl) ?_
 refine Ops.v rfl (Yr rfl rfl) ?_
 refine Ops.nil ?_
 refine AW.seq ?_
 refine AW.cut (τ := List Y92 × Value) (fun (l37, v36) => ⟨[(1, C.im Y9h 1 p1), (2, pt b1), (5, C.val v36), (6, C.val (sv b3 0 0))], [Obj.box b1 186 [C.ip [C.int p0.graph.room, C.im Y98 9 p0.graph.events, C.im Y98 9 p0.graph.parked, C.imap .i64 Y9l p0.depth, C.imap .i64 Y9m p0.before, C.imap .i64 Y9m p0.after, C.imap .i64 Y9l p0.refused]], Obj.arr v36 106 Y9g 3 l37, Obj.arr (sv b3 0 0) 136 Y98 9 ([] : List Y8w)]⟩) (fun (l37, v36) => Zh8 p0 p1 l37 = some r) ?_ ?_
 ·
  refine zw ?_
  refine cnd h (fun hb4 h => ?_) fun hb4 h => ?_
  ·
   refine AW.ct hb4 rfl ?_
   refine zw ?_
   refine oi h fun e5 g6 h => ?_
   refine zw ?_
   refine AW.lp h (fun (l21, x22) (v20 : Value) => ⟨[(1, C.im Y9h 1 p1), (2, pt b1), (5, C.val v20), (6, C.val (sv b3 0 0)), (27, C.im Y9g 3 e5), (28, C.int (e5.length : Int)), (29, C.int x22)], [Obj.box b1 186 [C.ip [C.int p0.graph.room, C.im Y98 9 p0.graph.events, C.im Y98 9 p0.graph.parked, C.imap .i64 Y9l p0.depth, C.imap .i64 Y9m p0.before, C.imap .i64 Y9m p0.after, C.imap .i64 Y9l p0.refused]], Obj.arr v20 106 Y9g 3 l21, Obj.arr (sv b3 0 0) 136 Y98 9 ([] : List Y8w)]⟩) (gb [2, 1, 0]) ?_
   rintro ⟨l21, x22⟩ v20 y250 h
   refine zw ?_
   refine cnd h (fun hb23 h => ?_) fun hb23 h => ?_
   ·
    refine AW.ct hb23 rfl ?_
    refine zw ?_
    refine oi h fun e24 g25 h => ?_
    refine zw ?_
    refine Ops.h (ns := []) rfl rfl (Y1p (cs := [C.int 0, C.int 0, C.int 0]) Yc0 (Y42 rfl rfl) rfl) ?_
    rintro _ _ ⟨b26, rfl, rfl⟩
    refine Ops.hd (ns := [0]) rfl rfl (Y1u (gs := [C.int e24.kind, C.int e24.key, C.int e24.id]) Ybu.h rfl rfl rfl rfl rfl) ?_
    refine zw ?_
    refine Ops.v rfl (Y6q rfl rfl) ?_
    refine ob' h fun r27 g28 h => ?_
    refine Ops.hd (ns := [0]) rfl rfl (Y24 (Zdu p1 e24 _ g28) rfl rfl) ?_
    refine zw ?_
    refine cnd h (fun hb29 h => go) fun hb29 h => ?_
    refine AW.cond rfl (fun _ => ?_) (fun hn => absurd ((Y3v hb29).symm.trans hn) (by decide))
    refine zw ?_
    refine Ops.h (ns := []) rfl rfl (Y39 (k := Y9g) (ys := [e24]) Ybt (.agg rfl rfl .nil) rfl rfl rfl) ?_
    rintro _ _ ⟨b30, rfl, rfl⟩
    refine ob' h fun u32 c31 h => ?_
    refine Ops.h (ns := [3, 0]) rfl rfl (Y2s Ybt rfl rfl (of_decide_eq_true (Y3t c31)) (Y3w (by decide) c31) rfl) ?_
    rintro _ _ ⟨v33, rfl, rfl⟩
    exact go
   exact go
  refine AW.cf hb4 rfl ?_
  refine zw ?_
  exact ⟨(([] : List Y92), (sv b2 0 0)), h, Y21.both (ns := [2, 1, 0]) rfl rfl⟩
 rintro ⟨l37, v36⟩ h
 replace h : Zh8 p0 p1 l37 = some r := h
 unfold Zh8 at h
 refine zw ?_
 refine Ops.h (ns := []) rfl rfl (Y6j (kd := .i64) (kc := Y9n) rfl) ?_
 rintro _ _ ⟨b38, rfl, rfl⟩
 refine Ops.v rfl (Yr rfl rfl) ?_
 refine Ops.nil ?_
 refine AW.seq ?_
 refine AW.cut (τ := (List (Int × Bool))) (fun m49 => ⟨[(1, C.im Y9h 1 p1), (2, pt b1), (5, C.val v36), (6, C.val (sv b3 0 0)), (9, mt b38)], [Obj.box b1 186 [C.ip [C.int p0.graph.room, C.im Y98 9 p0.graph.events, C.im Y98 9 p0.graph.parked, C.imap .i64 Y9l p0.depth, C.imap .i64 Y9m p0.before, C.imap .i64 Y9m p0.after, C.imap .i64 Y9l p0.refused]], Obj.arr v36 106 Y9g 3 l37, Obj.arr (sv b3 0 0) 136 Y98 9 ([] : List Y8w), Abs.Obj.map b38 .i64 Y9n m49]⟩) (fun m49 => Zh6 p0 p1 l37 m49 = some r) ?_ ?_
 ·
  refine AW.seq ?_
  refine AW.region ?_
  refine Ops.v rfl (Yq rfl rfl) ?_
  refine Ops.v rfl (Y2u (p := 2) Ybn.h rfl rfl rfl) ?_
  refine zw ?_
  refine AW.lp (v := ()) h (fun (m43, x44) (_ : Unit) => ⟨[(1, C.im Y9h 1 p1), (2, pt b1), (5, C.val v36), (6, C.val (sv b3 0 0)), (9, mt b38), (43, C.val v36), (44, C.int (l37.length : Int)), (45, C.int x44)], [Obj.box b1 186 [C.ip [C.int p0.graph.room, C.im Y98 9 p0.graph.events, C.im Y98 9 p0.graph.parked, C.imap .i64 Y9l p0.depth, C.imap .i64 Y9m p0.before, C.imap .i64 Y9m p0.after, C.imap .i64 Y9l p0.refused]], Obj.arr v36 106 Y9g 3 l37, Obj.arr (sv b3 0 0) 136 Y98 9 ([] : List Y8w), Abs.Obj.map b38 .i64 Y9n m43]⟩) (gb [1, 1, 1, 0]) ?_
  rintro ⟨m43, x44⟩ _ y243 h
  refine zw ?_
  refine cnd h (fun hb45 h => ?_) fun hb45 h => ?_
  ·
   refine AW.ct hb45 rfl ?_
   refine zw ?_
   refine ob' h fun e46 g47 h => ?_
   refine Ops.v rfl (Y2x (p := 1) Ybn.h rfl rfl rfl g47 rfl) ?_
   refine Ops.v rfl (Y31 (p := 1) Ybu.h rfl rfl (Y29 g47).2.2 rfl rfl rfl) ?_
   refine Ops.h (ns := []) rfl rfl (Y1p (cs := [C.int 0, C.int 0, C.int 0]) Yc0 (Y42 rfl rfl) rfl) ?_
   rintro _ _ ⟨b48, rfl, rfl⟩
   refine Ops.hd (ns := [0]) rfl rfl (Y1u (gs := [C.int e46.kind, C.int e46.key, C.int e46.id]) Ybu.h rfl rfl rfl rfl rfl) ?_
   refine zw ?_
   refine Ops.hd (ns := [4]) rfl rfl (Y6m (kc := Y9n) (v := true) Yd4 rfl rfl rfl rfl) ?_
   refine zw ?_
   exact lu h (gb [2, 2, 2, 0])
  refine AW.cf hb45 rfl ?_
  refine AW.exit ?_
  refine lx h fun h => ?_
  exact ⟨m43, h, Y21.both (ns := [0, 0, 0, 0]) rfl rfl⟩
 intro m49 h
 replace h : Zh6 p0 p1 l37 m49 = some r := h
 unfold Zh6 at h
 refine AW.seq ?_
 refine AW.cut (τ := List Y8w × Value) (fun (l175, v174) => ⟨[(2, pt b1), (5, C.val v36), (6, C.val v174)], [Obj.box b1 186 [C.ip [C.int p0.graph.room, C.im Y98 9 p0.graph.events, C.im Y98 9 p0.graph.parked, C.imap .i64 Y9l p0.depth, C.imap .i64 Y9m p0.before, C.imap .i64 Y9m p0.after, C.imap .i64 Y9l p0.refused]], Obj.arr v36 106 Y9g 3 l37, Obj.arr v174 136 Y98 9 l175]⟩) (fun (l175, v174) => Zh0 p0 l37 l175 = some r) ?_ ?_
 ·
  refine zw ?_
  refine AW.lp h (fun (l111, m112, x113) (v110 : Value) => ⟨[(2, pt b1), (5, C.val v36), (6, C.val v110), (9, mt b38), (53, C.im Y9h 1 p1), (54, C.int (p1.length : Int)), (55, C.int x113)], [Obj.box b1 186 [C.ip [C.int p0.graph.room, C.im Y98 9 p0.graph.events, C.im Y98 9 p0.graph.parked, C.imap .i64 Y9l p0.depth, C.imap .i64 Y9m p0.before, C.imap .i64 Y9m p0.after, C.imap .i64 Y9l p0.refused]], Obj.arr v36 106 Y9g 3 l37, Obj.arr v110 136 Y98 9 l111, Abs.Obj.map b38 .i64 Y9n m112]⟩) (gb [0, 0, 0, 0]) ?_
  rintro ⟨l111, m112, x113⟩ v110 y229 h
  refine zw ?_
  refine cnd h (fun hb114 h => ?_) fun hb114 h => ?_
  ·
   refine AW.ct hb114 rfl ?_
   refine AW.skip ?_
   refine AW.seq ?_
   refine AW.cut (τ := List Y8w × (List (Int × Bool)) × Value) (fun (l172, m173, v171) => ⟨[(2, pt b1), (5, C.val v36), (6, C.val v171), (9, mt b38), (53, C.im Y9h 1 p1), (54, C.int (p1.length : Int)), (55, C.int x113)], [Obj.box b1 186 [C.ip [C.int p0.graph.room, C.im Y98 9 p0.graph.events, C.im Y98 9 p0.graph.parked, C.imap .i64 Y9l p0.depth, C.imap .i64 Y9m p0.before, C.imap .i64 Y9m p0.after, C.imap .i64 Y9l p0.refused]], Obj.arr v36 106 Y9g 3 l37, Obj.arr v171 136 Y98 9 l172, Abs.Obj.map b38 .i64 Y9n m173]⟩) (fun (l172, m173, v171) => Zh1 x113 l172 m173 = some y229) ?_ ?_
   ·
    refine zw ?_
    refine oi h fun e115 g116 h => ?_
    refine zw ?_
    refine AW.lp h (fun (l143, m144, x145) (v142 : Value) => ⟨[(2, pt b1), (5, C.val v36), (6, C.val v142), (9, mt b38), (53, C.im Y9h 1 p1), (54, C.int (p1.length : Int)), (55, C.int x113), (59, C.im Y9g 3 e115), (60, C.int (e115.length : Int)), (61, C.int x145)], [Obj.box b1 186 [C.ip [C.int p0.graph.room, C.im Y98 9 p0.graph.events, C.im Y98 9 p0.graph.parked, C.imap .i64 Y9l p0.depth, C.imap .i64 Y9m p0.before, C.imap .i64 Y9m p0.after, C.imap .i64 Y9l p0.refused]], Obj.arr v36 106 Y9g 3 l37, Obj.arr v142 136 Y98 9 l143, Abs.Obj.map b38 .i64 Y9n m144]⟩) (gb [0, 0, 0, 0]) ?_
    rintro ⟨l143, m144, x145⟩ v142 y236 h
    refine zw ?_
    refine cnd h (fun hb146 h => ?_) fun hb146 h => ?_
    ·
     refine AW.ct hb146 rfl ?_
     refine AW.skip ?_
     refine AW.seq ?_
     refine AW.cut (τ := List Y8w × (List (Int × Bool)) × Value) (fun (l169, m170, v168) => ⟨[(2, pt b1), (5, C.val v36), (6, C.val v168), (9, mt b38), (53, C.im Y9h 1 p1), (54, C.int (p1.length : Int)), (55, C.int x113), (59, C.im Y9g 3 e115), (60, C.int (e115.length : Int)), (61, C.int x145)], [Obj.box b1 186 [C.ip [C.int p0.graph.room, C.im Y98 9 p0.graph.events, C.im Y98 9 p0.graph.parked, C.imap .i64 Y9l p0.depth, C.imap .i64 Y9m p0.before, C.imap .i64 Y9m p0.after, C.imap .i64 Y9l p0.refused]], Obj.arr v36 106 Y9g 3 l37, Obj.arr v168 136 Y98 9 l169, Abs.Obj.map b38 .i64 Y9n m170]⟩) (fun (l169, m170, v168) => Zh2 x145 l169 m170 = some y236) ?_ ?_
     ·
      refine zw ?_
      refine oi h fun e147 g148 h => ?_
      refine zw ?_
      refine Ops.h (ns := []) rfl rfl (Y1p (cs := [C.int 0, C.int 0, C.int 0]) Yc0 (Y42 rfl rfl) rfl) ?_
      rintro _ _ ⟨b149, rfl, rfl⟩
      refine Ops.hd (ns := [0]) rfl rfl (Y1u (gs := [C.int e147.kind, C.int e147.key, C.int e147.id]) Ybu.h rfl rfl rfl rfl rfl) ?_
      refine zw ?_
      refine Ops.v rfl (Y6l (p := 4) (kc := Y9n) (z0 := false) Yd4 zv_4 (fun _ _ => rfl) rfl rfl rfl rfl) ?_
      refine zw ?_
      refine cnd h (fun hb150 h => ?_) fun hb150 h => ?_
      ·
       refine AW.cond rfl (fun hn => absurd ((Y3u hb150).symm.trans hn) (by decide)) (fun _ => ?_)
       refine zw ?_
       exact ⟨(l143, m144, v142), h, Y21.both (ns := [1, 1, 1, 1]) rfl rfl⟩
      refine AW.cond rfl (fun _ => ?_) (fun hn => absurd ((Y3v hb150).symm.trans hn) (by decide))
      refine zw ?_
      refine Ops.hd (ns := [4]) rfl rfl (Y6m (kc := Y9n) (v := true) Yd4 rfl rfl rfl rfl) ?_
      refine Ops.nil ?_
      refine AW.seq ?_
      refine AW.cut (τ := Int × Int × Int × Int × Int × Int × ByteArray × List Int × Int × Nat) (fun (x155, x156, x157, x158, x159, x160, x161, l162, x163, b154) => ⟨[(2, pt b1), (5, C.val v36), (6, C.val v142), (9, mt b38), (16, pt b154), (53, C.im Y9h 1 p1), (54, C.int (p1.length : Int)), (55, C.int x113), (59, C.im Y9g 3 e115), (60, C.int (e115.length : Int)), (61, C.int x145)], [Obj.box b1 186 [C.ip [C.int p0.graph.room, C.im Y98 9 p0.graph.events, C.im Y98 9 p0.graph.parked, C.imap .i64 Y9l p0.depth, C.imap .i64 Y9m p0.before, C.imap .i64 Y9m p0.after, C.imap .i64 Y9l p0.refused]], Obj.arr v36 106 Y9g 3 l37, Obj.arr v142 136 Y98 9 l143, Abs.Obj.map b38 .i64 Y9n (mset m144 e147.id true), Obj.box b154 136 [C.int x155, C.int x156, C.int x157, C.int x158, C.int x159, C.int x160, C.str x161, C.im kI64 1 l162, C.int x163]]⟩) (fun (x155, x156, x157, x158, x159, x160, x161, l162, x163, b154) => Zh3 l143 m144 x145 e147 x155 x156 x157 x158 x159 x160 x161 l162 x163 = some y236) ?_ ?_
      ·
       refine AW.regionD (L := [0, 3, 5]) (Lt := [11]) (k := .light 0 true (.light 1 false (.light 2 false (.light 3 true (.light 4 false (.light 5 true (.two 6 10 (.light 7 false (.light 8 false (.light 9 false (.one 10 (.late 11 (.light 12 false .done)))))) (.one 6 (.light 7 false (.light 8 false (.light 9 false (.late 11 (.light 12 false .done))))))))))))) (ns := [0, 0, 0, 0, 0]) (by kernel_rfl) (by kernel_rfl) (by kernel_rfl) (by kernel_rfl) rfl ?_
       refine zw ?_
       refine ob' h fun r151 g152 h => ?_
       refine OpsD.two ?_ ?_
       ·
        refine Y3n.h (ns := []) rfl rfl rfl (Y24 ((Zbv _ _).h _ g152) rfl rfl) ?_
        rintro _ _ ⟨rfl, rfl⟩
        refine OpsD.v rfl rfl (Yq rfl rfl) ?_
        refine OpsD.v rfl rfl (Y13 rfl rfl rfl) ?_
        refine OpsD.v rfl rfl (Y13 rfl rfl rfl) ?_
        refine OpsD.one ?_
        refine Y3n.h (ns := []) rfl rfl rfl (Y1p (cs := [C.int 0, C.int 0, C.int 0, C.int 0, C.int 0, C.int 0, C.str ByteArray.empty, C.val s0, C.int 0]) Ya7 (Y42 rfl rfl) rfl) ?_
        rintro _ _ ⟨b153, rfl, rfl⟩
        refine OpsD.late (ns := [5]) rfl rfl rfl (Y1u (gs := [C.int r151.1.id, C.int r151.1.room, C.int r151.1.author, C.int r151.1.kind, C.int r151.1.key, C.int r151.1.n, C.str r151.1.text, C.im kI64 1 r151.1.prev, C.int r151.1.time]) Yao.h rfl rfl rfl rfl rfl) ?_
        rintro _ _ ⟨rfl, rfl⟩
        refine zw ?_
        exact ⟨(r151.1.id, r151.1.room, r151.1.author, r151.1.kind, r151.1.key, r151.1.n, r151.1.text, r151.1.prev, r151.1.time, b153), h, Y21.both (ns := [3, 3, 3, 1, 0]) rfl rfl⟩
       refine Y3n.h (ns := []) rfl rfl rfl (Y1p (cs := [C.int 0, C.int 0, C.int 0, C.int 0, C.int 0, C.int 0, C.str ByteArray.empty, C.val s0, C.int 0]) Ya7 (Y42 rfl rfl) rfl) ?_
       rintro _ _ ⟨b153, rfl, rfl⟩
       refine OpsD.one ?_
       refine Y3n.h (ns := []) rfl rfl rfl (Y24 ((Zbv _ _).h _ g152) rfl rfl) ?_
       rintro _ _ ⟨rfl, rfl⟩
       refine zw ?_
       refine OpsD.late (ns := [5]) rfl rfl rfl (Y1u (gs := [C.int r151.1.id, C.int r151.1.room, C.int r151.1.author, C.int r151.1.kind, C.int r151.1.key, C.int r151.1.n, C.str r151.1.text, C.im kI64 1 r151.1.prev, C.int r151.1.time]) Yao.h rfl rfl rfl rfl rfl) ?_
       rintro _ _ ⟨rfl, rfl⟩
       refine zw ?_
       exact ⟨(r151.1.id, r151.1.room, r151.1.author, r151.1.kind, r151.1.key, r151.1.n, r151.1.text, r151.1.prev, r151.1.time, b153), h, Y21.both (ns := [3, 3, 3, 1, 0]) rfl rfl⟩
      rintro ⟨x155, x156, x157, x158, x159, x160, x161, l162, x163, b154⟩ h
      replace h : Zh3 l143 m144 x145 e147 x155 x156 x157 x158 x159 x160 x161 l162 x163 = some y236 := h
      unfold Zh3 at h
      refine AW.region ?_
      refine Ops.v rfl (Yq rfl rfl) ?_
      refine Ops.v rfl (Y1l (p := 4) (ds := [C.int x155, C.int x156, C.int x157, C.int x158, C.int x159, C.int x160, C.str x161, C.im kI64 1 l162, C.int x163]) Yao.h rfl rfl rfl rfl rfl) ?_
      refine Ops.h (ns := []) rfl rfl (Y39 (k := Y98) (ys := [(Y8w.mk x155 x156 x157 x158 x159 x160 x161 l162 x163)]) Yap (.agg rfl rfl .nil) rfl rfl rfl) ?_
      rintro _ _ ⟨b164, rfl, rfl⟩
      refine ob' h fun u166 c165 h => ?_
      refine Ops.h (ns := [3, 0]) rfl rfl (Y2s Yap rfl rfl (of_decide_eq_true (Y3t c165)) (Y3w (by decide) c165) rfl) ?_
      rintro _ _ ⟨v167, rfl, rfl⟩
      refine zw ?_
      exact ⟨((l143 ++ [(Y8w.mk x155 x156 x157 x158 x159 x160 x161 l162 x163)]), (mset m144 e147.id true), v167), h, Y21.both (ns := [1, 1, 0, 0]) rfl rfl⟩
     rintro ⟨l169, m170, v168⟩ h
     replace h : Zh2 x145 l169 m170 = some y236 := h
     unfold Zh2 at h
     refine zw ?_
     exact le h (gb [0, 0, 0, 0])
    refine AW.cf hb146 rfl ?_
    refine AW.exit ?_
    refine lx h fun h => ?_
    exact ⟨(l143, m144, v142), h, Y21.both (ns := [0, 0, 0, 0]) rfl rfl⟩
   rintro ⟨l172, m173, v171⟩ h
   replace h : Zh1 x113 l172 m173 = some y229 := h
   unfold Zh1 at h
   refine zw ?_
   exact le h (gb [0, 0, 0, 0])
  exact go
 rintro ⟨l175, v174⟩ h
 replace h : Zh0 p0 l37 l175 = some r := h
 unfold Zh0 at h
 refine zw ?_
 refine Ops.v rfl (Y6q rfl rfl) ?_
 refine ob' h fun r176 g177 h => ?_
 refine Ops.hd (ns := [2, 0]) rfl rfl (Y87 (k := Y98) Y8u rfl rfl (Y86.clo rfl) (FrzT.cons (os := [_]) (Frz.box (FrzL.cons (os := []) (Frz.same _) FrzL.nil)) FrzT.nil) (fun z1 z2 r_ h_ => (Zdw z1 z2 p0).h r_ h_) g177 rfl) ?_
 refine zw ?_
 refine AW.lp (v := ()) h (fun (l193, x194) (_ : Unit) => ⟨[(2, pt b1), (5, C.im Y9g 3 l193), (92, C.val v174), (93, C.int (r176.length : Int)), (94, C.int x194)], [Obj.box b1 186 [C.ip [C.int p0.graph.room, C.im Y98 9 p0.graph.events, C.im Y98 9 p0.graph.parked, C.imap .i64 Y9l p0.depth, C.imap .i64 Y9m p0.before, C.imap .i64 Y9m p0.after, C.imap .i64 Y9l p0.refused]], Obj.arr v174 136 Y98 9 r176]⟩) ((Y21.freeze (p := 2) (t := 5) rfl rfl).trans (Y21.both (ns := [1, 0]) rfl rfl)) ?_
 rintro ⟨l193, x194⟩ _ y222 h
 refine zw ?_
 refine cnd h (fun hb195 h => ?_) fun hb195 h => ?_
 ·
  refine AW.ct hb195 rfl ?_
  refine zw ?_
  refine ob' h fun e196 g197 h => ?_
  refine Ops.v rfl (Y2x (p := 1) Yas.h rfl rfl rfl g197 rfl) ?_
  refine Ops.v rfl (Y31 (p := 1) Yao.h rfl rfl (Y29 g197).2.2 rfl rfl rfl) ?_
  refine Ops.h (ns := []) rfl rfl (Y1p (cs := [C.int 0, C.int 0, C.int 0, C.int 0, C.int 0, C.int 0, C.str ByteArray.empty, C.val s0, C.int 0]) Ya7 (Y42 rfl rfl) rfl) ?_
  rintro _ _ ⟨b198, rfl, rfl⟩
  refine Ops.hd (ns := [0]) rfl rfl (Y1u (gs := [C.int e196.id, C.int e196.room, C.int e196.author, C.int e196.kind, C.int e196.key, C.int e196.n, C.str e196.text, C.im kI64 1 e196.prev, C.int e196.time]) Yao.h rfl rfl rfl rfl rfl) ?_
  refine zw ?_
  refine AW.regionD (L := [0, 3, 5]) (Lt := []) (k := dec [1,3,6,10,12,16,20,21]) (ns := [0, 0, 0]) (by kernel_rfl) (by kernel_rfl) (by kernel_rfl) (by kernel_rfl) rfl ?_
  refine zw ?_
  refine dc h fun r199 g200 h => ?_
  refine zw ?_
  refine cnd h (fun hb201 h => ?_) fun hb201 h => ?_
  ·
   refine AW.ct hb201 rfl ?_
   refine zw ?_
   refine Ops.v rfl (Y38 (ds := [C.int e196.kind, C.int e196.key, C.int e196.id]) Ybz Yc0 (Y42 rfl rfl) (.one rfl (One.val rfl) rfl rfl (.one rfl (One.val rfl) rfl rfl (.one rfl (One.val rfl) rfl rfl .nil))) rfl) ?_
   exact go
  exact go
 exact go

def Zhd (p0 : Y96) : Option (List Y92) := (Zgr p0).bind fun r1 => (Zgv p0 r1).bind fun r3 => (Zhb p0 r3).bind fun r5 => some r5
instance Zhe (p0 : Y96) : Sp Tryz.prog 223 [C.ip [C.int p0.graph.room, C.im Y98 9 p0.graph.events, C.im Y98 9 p0.graph.parked, C.imap .i64 Y9l p0.depth, C.imap .i64 Y9m p0.before, C.imap .i64 Y9m p0.after, C.imap .i64 Y9l p0.refused]] (Zhd p0) (fun r => C.im Y9g 3 r) := sp Tryz.func223 rfl rfl fun r X h => go

def Zhf (p0 : Y97) (p1 : Int) (p2 : Int) : Option Int := (Zfz p0.hub.stream (Y8y.mk p1 p2)).bind fun r1 => some (IntKind.i64.wrap (r1 + 1))
instance Zhg (p0 : Y97) (p1 : Int) (p2 : Int) : Sp Tryz.prog 111 [C.ip [C.im Y9d 3 p0.hub.rooms, C.im Y9a 2 p0.hub.stream, C.im Y9o 1 p0.rooms], C.int p1, C.int p2] (Zhf p0 p1 p2) C.int := sp Tryz.func111 rfl rfl fun r X h => by
 unfold Zhf at h
 refine zw ?_
 refine Ops.v rfl (Y38 (ds := [C.int p1, C.int p2]) Ydo Yb3 (Y42 rfl rfl) (.one rfl (One.val rfl) rfl rfl (.one rfl (One.val rfl) rfl rfl .nil)) rfl) ?_
 exact go

def Zhh (p0 : Y97) (p1 : Int) : Option Y96 := (getI p0.rooms (IntKind.i64.wrap (p1 - 1))).bind fun e1 => some e1
instance Zhi (p0 : Y97) (p1 : Int) : Sp Tryz.prog 138 [C.ip [C.im Y9d 3 p0.hub.rooms, C.im Y9a 2 p0.hub.stream, C.im Y9o 1 p0.rooms], C.int p1] (Zhh p0 p1) (fun r => C.ip [C.int r.graph.room, C.im Y98 9 r.graph.events, C.im Y98 9 r.graph.parked, C.imap .i64 Y9l r.depth, C.imap .i64 Y9m r.before, C.imap .i64 Y9m r.after, C.imap .i64 Y9l r.refused]) := sp Tryz.func138 rfl rfl fun r X h => go

def Zhj (p0 : Y97) (p1 : Int) (p2 : Int) : Option Bool := (Zhh p0 p2).bind fun r1 => (Zhd r1).bind fun r3 => (Zcq r1.graph r3 p1).bind fun r5 => some (r5 == 1)
instance Zhk (p0 : Y97) (p1 : Int) (p2 : Int) : Sp Tryz.prog 165 [C.ip [C.im Y9d 3 p0.hub.rooms, C.im Y9a 2 p0.hub.stream, C.im Y9o 1 p0.rooms], C.int p1, C.int p2] (Zhj p0 p1 p2) C.bool := sp Tryz.func165 rfl rfl fun r X h => by
 unfold Zhj at h
 refine zw ?_
 refine oc h fun r1 g2 h => ?_
 refine zw ?_
 refine AW.regionD (L := [3]) (Lt := []) (k := dec [0,3,6,10,12,18,17,23,24,27]) (ns := []) (by kernel_rfl) (by kernel_rfl) (by kernel_rfl) (by kernel_rfl) rfl ?_
 exact go

def Zhl (x23 : Bool) : Option Bool := some x23
def Zhm (p0 : Y97) (p1 : Int) (p2 : Int) (p3 : Int) (r4 : Y96) (x16 : Bool) : Option Bool := cond x16 (some true) ((Zg1 r4.graph (Option.getD (mget r4.after p3) ([] : List Y92))).bind fun r18 => cond (r18 == 2) ((Zhj p0 p1 p2).bind fun r21 => Zhl r21) (Zhl false))
def Zhn (p0 : Y97) (p1 : Int) (p2 : Int) (p3 : Int) : Option Bool := (Zhf p0 p2 p3).bind fun r1 => cond (r1 == 0) (some false) ((Zhh p0 p2).bind fun r4 => (Zbu r4.graph p3).bind fun r6 => (Zcq r4.graph (Option.getD (mget r4.after p3) ([] : List Y92)) p1).bind fun r9 => cond (r9 == 1) (Zhm p0 p1 p2 p3 r4 true) ((Zg1 r4.graph (Option.getD (mget r4.after p3) ([] : List Y92))).bind fun r12 => cond (r12 == 1) (Zhm p0 p1 p2 p3 r4 true) (cond (r6.1.kind == 2) (Zhm p0 p1 p2 p3 r4 (r6.1.key == p1)) (Zhm p0 p1 p2 p3 r4 false))))
set_option maxHeartbeats 1000000 in
instance Zho (p0 : Y97) (p1 : Int) (p2 : Int) (p3 : Int) : Sp Tryz.prog 109 [C.ip [C.im Y9d 3 p0.hub.rooms, C.im Y9a 2 p0.hub.stream, C.im Y9o 1 p0.rooms], C.int p1, C.int p2, C.int p3] (Zhn p0 p1 p2 p3) C.bool := sp Tryz.func109 rfl rfl fun r X h => by
 unfold Zhn at h
 refine zw ?_
 refine oc h fun r1 g2 h => ?_
 refine zw ?_
 refine cnd h (fun hb3 h => go) fun hb3 h => ?_
 refine AW.cf hb3 rfl ?_
 refine zw ?_
 refine oc h fun r4 g5 h => ?_
 refine zw ?_
 refine oc h fun r6 g7 h => ?_
 refine zw ?_
 refine Ops.h (ns := []) rfl rfl (Y1p (cs := [C.int 0, C.int 0, C.int 0, C.int 0, C.int 0, C.int 0, C.str ByteArray.empty, C.val s0, C.int 0]) Ya7 (Y42 rfl rfl) rfl) ?_
 rintro _ _ ⟨b8, rfl, rfl⟩
 refine Ops.hd (ns := [0]) rfl rfl (Y1u (gs := [C.int r6.1.id, C.int r6.1.room, C.int r6.1.author, C.int r6.1.kind, C.int r6.1.key, C.int r6.1.n, C.str r6.1.text, C.im kI64 1 r6.1.prev, C.int r6.1.time]) Yao.h rfl rfl rfl rfl rfl) ?_
 refine zw ?_
 refine Ops.v rfl (Y8a (kc := Y9m) (z0 := ([] : List Y92)) Yd1 Yd2 (fun w F => Imp.nil Y9g 3 w F _ rfl) rfl rfl rfl) ?_
 refine Ops.v rfl (Yr rfl rfl) ?_
 refine Ops.nil ?_
 refine AW.seq ?_
 refine AW.block ?_
 refine AW.seq ?_
 refine AW.cut (τ := Bool) (fun x16 => ⟨[(0, C.ip [C.im Y9d 3 p0.hub.rooms, C.im Y9a 2 p0.hub.stream, C.im Y9o 1 p0.rooms]), (1, C.int p1), (2, C.int p2), (9, C.ip [C.int r4.graph.room, C.im Y98 9 r4.graph.events, C.im Y98 9 r4.graph.parked, C.imap .i64 Y9l r4.depth, C.imap .i64 Y9m r4.before, C.imap .i64 Y9m r4.after, C.imap .i64 Y9l r4.refused]), (12, C.im Y9g 3 (Option.getD (mget r4.after p3) ([] : List Y92))), (36, C.bool x16)], []⟩) (fun x16 => Zhm p0 p1 p2 p3 r4 x16 = some r) ?_ ?_
 ·
  refine zw ?_
  refine oc h fun r9 g10 h => ?_
  refine zw ?_
  refine cnd h (fun hb11 h => go) fun hb11 h => ?_
  refine zw ?_
  refine ob' h fun r12 g13 h => ?_
  refine Ops.ghd (ns := []) rfl rfl rfl rfl hb11 rfl (Y24 ((Zg2 _ _).h _ g13) rfl rfl) ?_
  exact go
 intro x16 h
 replace h : Zhm p0 p1 p2 p3 r4 x16 = some r := h
 unfold Zhm at h
 refine cnd h (fun hb17 h => go) fun hb17 h => ?_
 refine AW.cf hb17 rfl ?_
 refine zw ?_
 refine oc h fun r18 g19 h => ?_
 refine zw ?_
 refine cnd h (fun hb20 h => ?_) fun hb20 h => ?_
 ·
  refine zw ?_
  refine ob' h fun r21 g22 h => ?_
  refine Ops.ghd (ns := []) rfl rfl rfl rfl hb20 rfl (Y24 ((Zhk _ _ _).h _ g22) rfl rfl) ?_
  exact go
 exact go

def Zhp (p1 : Y8z) (p2 : Int) (p3 : Int) (r4 : Y97 × Bool) (l25 : List Int) : Option Y95 := (getI l25 (IntKind.i64.wrap (p2 - 1))).bind fun e26 => (Zhf r4.1 p2 p3).bind fun r28 => some (Y95.mk (Y8z.mk p1.user (List.set l25 (Int.toNat (IntKind.i64.wrap (p2 - 1))) (if r28 > e26 then r28 else e26))) 0)
def Zhq (p1 : Y8z) (p2 : Int) (p3 : Int) (r4 : Y97 × Bool) (x12 : Bool) : Option Y95 := cond x12 (some (Y95.mk (Y8z.mk 0 []) 1)) ((Zhn r4.1 p1.user p2 p3).bind fun r14 => cond r14 ((Zed p1.at_).bind fun r17 => Zhp p1 p2 p3 r4 r17) (some (Y95.mk (Y8z.mk 0 []) 6)))
def Zhr (p0 : Y91) (p1 : Y8z) (p2 : Int) (p3 : Int) : Option Y95 := (Zfk p0).bind fun r4 => cond r4.2 ((Zfv p1).bind fun r7 => cond r7 ((Z7r p2).bind fun r10 => Zhq p1 p2 p3 r4 (!r10)) (Zhq p1 p2 p3 r4 true)) (some (Y95.mk (Y8z.mk 0 []) 1))
set_option maxHeartbeats 1000000 in
theorem Zhs (p0 : Y91) (p1 : Y8z) (p2 : Int) (p3 : Int) (r : Y95) (h : Zhr p0 p1 p2 p3 = some r) : Ok Tryz.prog 44 [C.agg [C.im Y9d 3 p0.rooms, C.im Y9a 2 p0.stream], C.agg [C.int p1.user, C.im kI64 1 p1.at_], C.int p2, C.int p3] [] (fun c qs => ∃ (v30 : Value), c = C.agg [C.int r.marks.user, C.val v30, C.int r.code] ∧ qs = [Obj.arr v30 2 kI64 1 r.marks.at_]) := by
 refine Ok.of_body (rs := [.cell 8 70]) Tryz.func44 rfl rfl rfl rfl rfl fun X => ?_
 unfold Zhr at h
 refine zw ?_
 refine ox fun b1 => ?_
 refine ox fun b2 => ?_
 refine Ops.h (ns := []) rfl rfl (Y1p (cs := [C.int 0, C.val s0, C.int 0]) Ycr (Y42 rfl rfl) rfl) ?_
 rintro _ _ ⟨b3, rfl, rfl⟩
 refine zw ?_
 refine ob' h fun r4 g5 h => ?_
 refine Ops.h (ns := []) rfl rfl (Y23 (Zfl _ _ g5) rfl rfl) ?_
 rintro _ _ ⟨_, ⟨hb6, rfl, rfl⟩ | ⟨hb6, rfl, rfl⟩, rfl⟩
 ·
  replace h := Y3r hb6 h
  refine Ops.v rfl (Yq rfl rfl) ?_
  refine Ops.v rfl (Y13 rfl rfl rfl) ?_
  refine Ops.v rfl (Y13 rfl rfl rfl) ?_
  refine Ops.v rfl (Yr rfl rfl) ?_
  refine Ops.v rfl (Yr rfl rfl) ?_
  refine Ops.nil ?_
  refine AW.seq ?_
  refine AW.block ?_
  refine AW.seq ?_
  refine AW.cut (τ := Bool) (fun x12 => ⟨[(2, C.int p2), (3, C.int p3), (5, pt b2), (8, pt b3), (9, C.ip [C.im Y9d 3 r4.1.hub.rooms, C.im Y9a 2 r4.1.hub.stream, C.im Y9o 1 r4.1.rooms]), (17, C.bool x12)], [Obj.box b2 65 [C.int p1.user, C.im kI64 1 p1.at_], Obj.box b3 70 [C.int 0, C.val s0, C.int 0]]⟩) (fun x12 => Zhq p1 p2 p3 r4 x12 = some r) ?_ ?_
  ·
   refine zw ?_
   refine ob' h fun r7 g8 h => ?_
   refine Ops.ghd (ns := []) rfl rfl rfl rfl (Y3u hb6) rfl (Y24 ((Zfw _).h _ g8) rfl rfl) ?_
   refine zw ?_
   refine cnd h (fun hb9 h => ?_) fun hb9 h => ?_
   ·
    refine zw ?_
    refine ob' h fun r10 g11 h => ?_
    refine Ops.ghd (ns := []) rfl rfl rfl rfl (Y3u hb9) rfl (Y24 ((Z7s _).h _ g11) rfl rfl) ?_
    exact go
   exact go
  intro x12 h
  replace h : Zhq p1 p2 p3 r4 x12 = some r := h
  unfold Zhq at h
  refine cnd h (fun hb13 h => ?_) fun hb13 h => ?_
  ·
   refine AW.ct hb13 rfl ?_
   refine zw ?_
   refine Ops.v rfl (Y38 (ds := [C.int 0, C.val s0, C.int 1]) Ycs Ycr (Y42 rfl rfl) (.one rfl (One.val rfl) rfl rfl .nil) rfl) ?_
   refine Ops.hd (ns := [1]) rfl rfl (Y1u (gs := [C.int 0, C.val s0, C.int 1]) Yct.h rfl rfl rfl rfl rfl) ?_
   refine zw ?_
   refine AW.ret ?_
   rw [← Option.some.inj h]
   exact ⟨[C.agg [C.int 0, C.val s0, C.int 1]], _, Y21.nil 2 kI64 1, (.cons (.cell (p := 1) rfl rfl Yct.h rfl) .nil), [0], _, _, rfl, ⟨s0, rfl, rfl⟩⟩
  refine AW.cf hb13 rfl ?_
  refine zw ?_
  refine oc h fun r14 g15 h => ?_
  refine zw ?_
  refine cnd h (fun hb16 h => ?_) fun hb16 h => ?_
  ·
   refine AW.cond rfl (fun hn => absurd ((Y3u hb16).symm.trans hn) (by decide)) (fun _ => ?_)
   refine AW.skip ?_
   refine AW.seq ?_
   refine AW.cut (τ := List Int × Nat × Value) (fun (l25, b23, v24) => ⟨[(2, C.int p2), (3, C.int p3), (8, pt b3), (9, C.ip [C.im Y9d 3 r4.1.hub.rooms, C.im Y9a 2 r4.1.hub.stream, C.im Y9o 1 r4.1.rooms]), (11, pt b23)], [Obj.box b3 70 [C.int 0, C.val s0, C.int 0], Obj.box b23 65 [C.int p1.user, C.val v24], Obj.arr v24 2 kI64 1 l25]⟩) (fun (l25, b23, v24) => Zhp p1 p2 p3 r4 l25 = some r) ?_ ?_
   ·
    refine AW.regionD (L := [1, 3]) (Lt := [7]) (k := .light 0 false (.light 1 true (.light 2 false (.light 3 true (.two 4 6 (.light 5 false (.one 6 (.late 7 (.done)))) (.one 4 (.light 5 false (.late 7 (.done))))))))) (ns := [0, 0]) (by kernel_rfl) (by kernel_rfl) (by kernel_rfl) (by kernel_rfl) rfl ?_
    refine zw ?_
    refine ob' h fun r17 g18 h => ?_
    refine OpsD.two ?_ ?_
    ·
     refine Y3n.h (ns := []) rfl rfl rfl (Y23 (Zee _ _ g18) rfl rfl) ?_
     rintro _ _ ⟨_, ⟨v19, rfl, rfl⟩, rfl⟩
     refine OpsD.learn (Sim.arr_one (p := 2) rfl) fun n21 => ?_
     refine OpsD.v rfl rfl (Y38 (ds := [C.int p1.user, C.val v19]) Ycu Ybi (Y42 rfl rfl) (.one rfl (One.val rfl) rfl rfl (.one rfl (One.val n21) rfl rfl .nil)) rfl) ?_
     refine OpsD.one ?_
     refine Y3n.h (ns := []) rfl rfl rfl (Y1p (cs := [C.int 0, C.val s0]) Ybi (Y42 rfl rfl) rfl) ?_
     rintro _ _ ⟨b20, rfl, rfl⟩
     refine OpsD.late (ns := [2]) rfl rfl rfl (Y1u (gs := [C.int p1.user, C.val v19]) Ybm.h rfl rfl rfl rfl rfl) ?_
     rintro _ _ ⟨rfl, rfl⟩
     exact go
    refine Y3n.h (ns := []) rfl rfl rfl (Y1p (cs := [C.int 0, C.val s0]) Ybi (Y42 rfl rfl) rfl) ?_
    rintro _ _ ⟨b20, rfl, rfl⟩
    refine OpsD.one ?_
    refine Y3n.h (ns := []) rfl rfl rfl (Y23 (Zee _ _ g18) rfl rfl) ?_
    rintro _ _ ⟨_, ⟨v19, rfl, rfl⟩, rfl⟩
    refine OpsD.learn (Sim.arr_one (p := 2) rfl) fun n22 => ?_
    refine OpsD.v rfl rfl (Y38 (ds := [C.int p1.user, C.val v19]) Ycu Ybi (Y42 rfl rfl) (.one rfl (One.val rfl) rfl rfl (.one rfl (One.val n22) rfl rfl .nil)) rfl) ?_
    refine OpsD.late (ns := [3]) rfl rfl rfl (Y1u (gs := [C.int p1.user, C.val v19]) Ybm.h rfl rfl rfl rfl rfl) ?_
    rintro _ _ ⟨rfl, rfl⟩
    exact go
   rintro ⟨l25, b23, v24⟩ h
   replace h : Zhp p1 p2 p3 r4 l25 = some r := h
   unfold Zhp at h
   refine zw ?_
   refine AW.regionD (L := [1, 5, 9]) (Lt := [16]) (k := .light 0 false (.light 1 true (.light 2 false (.light 3 false (.light 4 false (.light 5 true (.light 6 false (.light 7 false (.light 8 false (.light 9 true (.light 10 false (.light 11 false (.light 12 false (.one 13 (.light 14 false (.light 15 false (.late 16 (.done)))))))))))))))))) (ns := [0, 0, 0]) (by kernel_rfl) (by kernel_rfl) (by kernel_rfl) (by kernel_rfl) rfl ?_
   refine zw ?_
   refine ob' h fun e26 g27 h => ?_
   refine OpsD.v rfl rfl (Y2x (p := 2) Y9p.h rfl rfl rfl g27 rfl) ?_
   refine OpsD.v rfl rfl (Y30 (p := 2) ld_2.h rfl rfl (Y29 g27).2.2 rfl rfl) ?_
   refine zw ?_
   refine dc h fun r28 g29 h => ?_
   refine OpsD.v rfl rfl (Y2f rfl rfl rfl) ?_
   refine OpsD.v rfl rfl (Y2x (p := 2) Y9p.h rfl rfl rfl g27 rfl) ?_
   refine OpsD.late (ns := [2]) rfl rfl rfl (Y33 (e' := (if r28 > e26 then r28 else e26)) ld_2.h rfl rfl (One.val rfl) (Y29 g27).2.2 rfl rfl) ?_
   rintro _ _ ⟨rfl, rfl⟩
   refine zw ?_
   refine Ops.v rfl (Y38 (ds := [C.int p1.user, C.val v24, C.int 0]) Ycs Ycr (Y42 rfl rfl) (.agg rfl rfl rfl .nil) rfl) ?_
   refine Ops.hd (ns := [1]) rfl rfl (Y1u (gs := [C.int p1.user, C.val v24, C.int 0]) Yct.h rfl rfl rfl rfl rfl) ?_
   refine zw ?_
   refine AW.ret ?_
   rw [← Option.some.inj h]
   exact ⟨[C.agg [C.int p1.user, C.val v24, C.int 0]], _, Y21.refl _, (.cons (.cell (p := 0) rfl rfl Yct.h rfl) .nil), [1], _, _, rfl, ⟨v24, rfl, rfl⟩⟩
  refine AW.cond rfl (fun _ => ?_) (fun hn => absurd ((Y3v hb16).symm.trans hn) (by decide))
  refine zw ?_
  refine Ops.v rfl (Y38 (ds := [C.int 0, C.val s0, C.int 6]) Ycs Ycr (Y42 rfl rfl) (.one rfl (One.val rfl) rfl rfl .nil) rfl) ?_
  refine Ops.hd (ns := [1]) rfl rfl (Y1u (gs := [C.int 0, C.val s0, C.int 6]) Yct.h rfl rfl rfl rfl rfl) ?_
  refine zw ?_
  refine AW.ret ?_
  rw [← Option.some.inj h]
  exact ⟨[C.agg [C.int 0, C.val s0, C.int 6]], _, Y21.nil 2 kI64 1, (.cons (.cell (p := 1) rfl rfl Yct.h rfl) .nil), [0], _, _, rfl, ⟨s0, rfl, rfl⟩⟩
 replace h := Y3s hb6 h
 refine zw ?_
 refine AW.cond rfl (fun _ => ?_) (fun hn => absurd hn (by decide))
 refine zw ?_
 refine Ops.v rfl (Y38 (ds := [C.int 0, C.val s0, C.int 1]) Ycs Ycr (Y42 rfl rfl) (.one rfl (One.val rfl) rfl rfl .nil) rfl) ?_
 refine Ops.hd (ns := [0]) rfl rfl (Y1u (gs := [C.int 0, C.val s0, C.int 1]) Yct.h rfl rfl rfl rfl rfl) ?_
 refine zw ?_
 refine AW.ret ?_
 rw [← Option.some.inj h]
 exact ⟨[C.agg [C.int 0, C.val s0, C.int 1]], _, Y21.nil 2 kI64 1, (.cons (.cell (p := 1) rfl rfl Yct.h rfl) .nil), [0], _, _, rfl, ⟨s0, rfl, rfl⟩⟩
instance Zhs' (p0 : Y91) (p1 : Y8z) (p2 : Int) (p3 : Int) : Sp Tryz.prog 44 [C.agg [C.im Y9d 3 p0.rooms, C.im Y9a 2 p0.stream], C.agg [C.int p1.user, C.im kI64 1 p1.at_], C.int p2, C.int p3] (Zhr p0 p1 p2 p3) (fun r => C.agg [C.int r.marks.user, C.im kI64 1 r.marks.at_, C.int r.code]) := ⟨fun r h => Ok.freeze (Zhs p0 p1 p2 p3 r h) (by rintro c qs ⟨v30, rfl, rfl⟩; exact Frz.agg (FrzL.cons (os := []) (Frz.same _) (FrzL.cons (os := [_]) (Frz.arr) (FrzL.cons (os := []) (Frz.same _) (FrzL.nil)))))⟩

end Go.Proofs.YtbgichfjcnibpaaGreat
