/- Printed by gen.py: plain functions for Go functions, and that the walks keep to them. -/
import Derived.Test.YtbgichfjcnibpaaGreatCQ5
set_option autoImplicit false
set_option linter.unusedVariables false
set_option linter.unusedSimpArgs false
set_option maxRecDepth 100000
namespace Go.Proofs.YtbgichfjcnibpaaGreat
open Go Go.Abs
attribute [local irreducible] AW Ops OpsD Y3o
def Zew (p0 : Y91) (l100 : List Y95) (x101 : Int) : Option (Y96 × Bool) := cond (x101 == (p0.stream.length : Int)) (some ((Y96.mk p0 l100), (x101 == (p0.stream.length : Int)))) (some ((Y96.mk (Y91.mk [] []) []), (x101 == (p0.stream.length : Int))))
def Zex (m178 : List ((Int × Int) × Bool)) (x179 : Int) (e181 : Y8z) (x252 : Bool) : Option (((List ((Int × Int) × Bool)) × Int) ⊕ ((Y96 × Bool) ⊕ Unit)) := cond x252 (some (.inr (.inl ((Y96.mk (Y91.mk [] []) []), false)))) (some (.inl ((pset m178 (e181.room, e181.id) true), (IntKind.i64.wrap (x179 + 1)))))
def Zey (m178 : List ((Int × Int) × Bool)) (x179 : Int) (e181 : Y8z) (r189 : Y95) (x196 : Int) (x197 : Int) (x198 : Int) (x199 : Int) (x200 : Int) (x201 : Int) (x202 : ByteArray) (l203 : List Int) (x204 : Int) (x205 : Bool) : Option (((List ((Int × Int) × Bool)) × Int) ⊕ ((Y96 × Bool) ⊕ Unit)) := cond x205 (cond ((Option.getD (mget r189.refused e181.id) 0) != 0) (Zex m178 x179 e181 true) ((Zeu l203 r189 m178 e181).bind fun r244 => Zex m178 x179 e181 r244)) (Zex m178 x179 e181 true)
def Zez (p0 : Y91) (l100 : List Y95) (m178 : List ((Int × Int) × Bool)) (x179 : Int) (e181 : Y8z) (x187 : Bool) : Option (((List ((Int × Int) × Bool)) × Int) ⊕ ((Y96 × Bool) ⊕ Unit)) := cond x187 (some (.inr (.inl ((Y96.mk (Y91.mk [] []) []), false)))) ((Zel (Y96.mk p0 l100) e181.room).bind fun r189 => (Zbf r189.graph e181.id).bind fun r192 => Zey m178 x179 e181 r189 r192.1.id r192.1.room r192.1.author r192.1.kind r192.1.key r192.1.n r192.1.text r192.1.prev r192.1.time r192.2)
def Zf0 (p0 : Y91) (l100 : List Y95) (m178 : List ((Int × Int) × Bool)) (x179 : Int) : Option (((List ((Int × Int) × Bool)) × Int) ⊕ ((Y96 × Bool) ⊕ Unit)) := cond (decide (x179 < (p0.stream.length : Int))) ((getI p0.stream x179).bind fun e181 => (Z7c e181.room).bind fun r184 => cond r184 (Zez p0 l100 m178 x179 e181 (Option.getD (pget m178 (e181.room, e181.id)) false)) (Zez p0 l100 m178 x179 e181 true)) (some (.inr (.inr ())))
def Zf1 (p0 : Y91) (l100 : List Y95) (x101 : Int) : Option (Y96 × Bool) := (iter (fun z255 => Zf0 p0 l100 z255.1 z255.2) big (([] : List ((Int × Int) × Bool)), 0)).bind (fun z257 => match z257 with | .inl y256 => some y256 | .inr () => Zew p0 l100 x101)
def Zf2 (l57 : List Y95) (x58 : Int) (x59 : Int) (e61 : Y90) (x67 : Bool) : Option ((List Y95 × Int × Int) ⊕ ((Y96 × Bool) ⊕ (List Y95 × Int))) := cond x67 (some (.inr (.inl ((Y96.mk (Y91.mk [] []) []), false)))) ((Zee e61).bind fun r83 => (chk (decide ((l57.length + [r83].length) * 8 ≤ 140737488355328))).bind fun u92 => (getI (l57 ++ [r83]) x59).bind fun e95 => (Zej e95).bind fun r97 => some (.inl ((l57 ++ [r83]), (IntKind.i64.wrap (x58 + (r97.length : Int))), (IntKind.i64.wrap (x59 + 1)))))
def Zf3 (p0 : Y91) (l57 : List Y95) (x58 : Int) (x59 : Int) : Option ((List Y95 × Int × Int) ⊕ ((Y96 × Bool) ⊕ (List Y95 × Int))) := cond (decide (x59 < (p0.rooms.length : Int))) ((getI p0.rooms x59).bind fun e61 => (Z9w e61).bind fun r64 => cond r64 (Zf2 l57 x58 x59 e61 (e61.room != (IntKind.i64.wrap (x59 + 1)))) (Zf2 l57 x58 x59 e61 true)) (some (.inr (.inr (l57, x58))))
def Zf4 (p0 : Y91) (x3 : Bool) : Option (Y96 × Bool) := cond x3 (some ((Y96.mk (Y91.mk [] []) []), false)) ((iter (fun z258 => Zf3 p0 z258.1 z258.2.1 z258.2.2) big ([], 0, 0)).bind (fun z262 => match z262 with | .inl y259 => some y259 | .inr (y260, y261) => Zf1 p0 y260 y261))
def Zf5 (p0 : Y91) : Option (Y96 × Bool) := cond ((p0.rooms.length : Int) != 3) (Zf4 p0 true) (Zf4 p0 (decide ((p0.stream.length : Int) > 120)))
set_option maxHeartbeats 1000000 in
theorem Zf6 (p0 : Y91) (r : Y96 × Bool) (h : Zf5 p0 = some r) : Ok Tryz.prog 73 [C.agg [C.im Y9c 3 p0.rooms, C.im Y99 2 p0.stream]] [] (fun c qs => (r.2 = true ∧ c = C.tup [C.ip [C.im Y9c 3 r.1.hub.rooms, C.im Y99 2 r.1.hub.stream, C.im Y9n 1 r.1.rooms], C.bool r.2] ∧ qs = []) ∨ (r.2 = false ∧ c = C.tup [C.any, C.bool r.2] ∧ qs = [])) := by
 refine Ok.of_body (rs := [.tmp 2, .tmp 3]) Tryz.func73 rfl rfl rfl rfl rfl fun X => ?_
 unfold Zf5 at h
 refine zw ?_
 refine ox fun b1 => ?_
 refine Ops.v rfl (Yr rfl rfl) ?_
 refine Ops.v rfl (Yr rfl rfl) ?_
 refine Ops.nil ?_
 refine AW.seq ?_
 refine AW.seq ?_
 refine AW.cut (τ := Bool) (fun x3 => ⟨[(1, pt b1), (23, C.bool x3)], [Obj.box b1 32 [C.im Y9c 3 p0.rooms, C.im Y99 2 p0.stream]]⟩) (fun x3 => Zf4 p0 x3 = some r) go fun x3 h => ?_
 replace h : Zf4 p0 x3 = some r := h
 unfold Zf4 at h
 refine cnd h (fun hb4 h => ?_) fun hb4 h => ?_
 ·
  refine AW.ct hb4 rfl ?_
  refine zw ?_
  refine AW.ret ?_
  rw [← Option.some.inj h]
  exact ⟨[C.any, C.bool false], _, Y21.imp (t := 2) rfl (Imp.any _), (.cons (.tmp rfl) (.cons (.tmp rfl) .nil)), [], _, _, rfl, .inr ⟨rfl, rfl, rfl⟩⟩
 refine AW.cf hb4 rfl ?_
 refine zw ?_
 refine Ops.v rfl (Y39 (ds := [C.im Y9c 3 p0.rooms, C.im Y99 2 p0.stream, C.val s0]) Yd6 Yd7 (Y43 rfl rfl) (.agg rfl rfl rfl .nil) rfl) ?_
 refine ox fun b5 => ?_
 refine Ops.v rfl (Yr rfl rfl) ?_
 refine Ops.v rfl (Yr rfl rfl) ?_
 refine Ops.nil ?_
 refine AW.seq ?_
 refine AW.cut (τ := List Y95 × Int × Value) (fun (l100, x101, v99) => ⟨[(1, pt b1), (4, pt b5), (5, C.int x101)], [Obj.box b1 32 [C.im Y9c 3 p0.rooms, C.im Y99 2 p0.stream], Obj.box b5 145 [C.im Y9c 3 p0.rooms, C.im Y99 2 p0.stream, C.val v99], Obj.arr v99 186 Y9n 1 l100]⟩) (fun (l100, x101, v99) => Zf1 p0 l100 x101 = some r) ?_ ?_
 ·
  refine zw ?_
  refine AW.lp h (fun (l57, x58, x59) (v56 : Value) => ⟨[(1, pt b1), (4, pt b5), (5, C.int x58), (28, C.im Y9c 3 p0.rooms), (29, C.int (p0.rooms.length : Int)), (30, C.int x59)], [Obj.box b1 32 [C.im Y9c 3 p0.rooms, C.im Y99 2 p0.stream], Obj.box b5 145 [C.im Y9c 3 p0.rooms, C.im Y99 2 p0.stream, C.val v56], Obj.arr v56 186 Y9n 1 l57]⟩) ((Y21.nil 186 Y9n 1).trans (Y21.both (ns := [2, 1, 0]) rfl rfl)) ?_
  rintro ⟨l57, x58, x59⟩ v56 y275 h
  refine zw ?_
  refine cnd h (fun hb60 h => ?_) fun hb60 h => ?_
  ·
   refine AW.ct hb60 rfl ?_
   refine zw ?_
   refine oi h fun e61 g62 h => ?_
   refine zw ?_
   refine Ops.h (ns := []) rfl rfl (Y1p (cs := [C.int 0, C.val s0, C.val s0]) Yar (Y43 rfl rfl) rfl) ?_
   rintro _ _ ⟨b63, rfl, rfl⟩
   refine zw ?_
   refine Ops.hd (ns := [0]) rfl rfl (Y1u (gs := [C.int e61.room, C.im Y97 9 e61.events, C.im Y97 9 e61.parked]) Yax.h rfl rfl rfl rfl rfl) ?_
   refine Ops.nil ?_
   refine AW.seq ?_
   refine AW.seq ?_
   refine AW.cut (τ := Bool) (fun x67 => ⟨[(1, pt b1), (4, pt b5), (5, C.int x58), (6, C.int x59), (7, pt b63), (28, C.im Y9c 3 p0.rooms), (29, C.int (p0.rooms.length : Int)), (30, C.int x59), (44, C.bool x67)], [Obj.box b1 32 [C.im Y9c 3 p0.rooms, C.im Y99 2 p0.stream], Obj.box b5 145 [C.im Y9c 3 p0.rooms, C.im Y99 2 p0.stream, C.val v56], Obj.arr v56 186 Y9n 1 l57, Obj.box b63 139 [C.int e61.room, C.im Y97 9 e61.events, C.im Y97 9 e61.parked]]⟩) (fun x67 => Zf2 l57 x58 x59 e61 x67 = some y275) ?_ ?_
   ·
    refine zw ?_
    refine oc h fun r64 g65 h => ?_
    refine zw ?_
    refine cnd h (fun hb66 h => ?_) fun hb66 h => ?_
    ·
     refine zw ?_
     exact ⟨(e61.room != (IntKind.i64.wrap (x59 + 1))), h, Y21.both (ns := [1, 1, 1, 0]) rfl rfl⟩
    refine zw ?_
    exact ⟨true, h, Y21.both (ns := [1, 1, 1, 0]) rfl rfl⟩
   intro x67 h
   replace h : Zf2 l57 x58 x59 e61 x67 = some y275 := h
   unfold Zf2 at h
   refine cnd h (fun hb68 h => ?_) fun hb68 h => ?_
   ·
    refine AW.ct hb68 rfl ?_
    refine zw ?_
    refine AW.ret ?_
    refine lx h fun h => ?_
    rw [← Option.some.inj h]
    exact ⟨[C.any, C.bool false], _, Y21.imp (t := 2) rfl (Imp.any _), (.cons (.tmp rfl) (.cons (.tmp rfl) .nil)), [], _, _, rfl, .inr ⟨rfl, rfl, rfl⟩⟩
   refine AW.cf hb68 rfl ?_
   refine zw ?_
   refine AW.regionD (L := [4, 5]) (Lt := [11]) (k := .light 0 false (.light 1 false (.light 2 false (.light 3 false (.light 4 true (.light 5 true (.one 6 (.one 7 (.one 8 (.light 9 false (.light 10 false (.late 11 (.done))))))))))))) (ns := [0, 0, 1]) (by kernel_rfl) (by kernel_rfl) (by kernel_rfl) (by kernel_rfl) rfl ?_
   refine zw ?_
   refine ob' h fun r83 g84 h => ?_
   refine Y3o.h (ns := []) rfl rfl rfl (Y23 (Zef _ _ g84) rfl rfl) ?_
   rintro _ _ ⟨_, ⟨b85, b86, b87, b88, b89, rfl, rfl⟩, rfl⟩
   refine OpsD.one ?_
   refine Y3o.h (ns := [0, 0, 0, 0, 0]) rfl rfl rfl (HOp.frz (t := 51) rfl (Frz.box (FrzL.cons (os := []) (Frz.same _) (FrzL.cons (os := []) (Frz.same _) (FrzL.cons (os := []) (Frz.same _) (FrzL.cons (os := [_]) Frz.map (FrzL.cons (os := [_]) Frz.map (FrzL.cons (os := [_]) Frz.map (FrzL.cons (os := [_]) Frz.map FrzL.nil)))))))) (Y3a (k := Y9n) (ys := [r83]) Yd8 (.one rfl One.ip rfl rfl .nil) rfl rfl rfl)) ?_
   rintro _ _ ⟨b90, rfl, rfl⟩
   refine zw ?_
   refine ob' h fun u92 c91 h => ?_
   refine Y3o.h (ns := [1, 0]) rfl rfl rfl (Y2t Yd8 rfl rfl (of_decide_eq_true (Y3u c91)) (Y3x (by decide) c91) rfl) ?_
   rintro _ _ ⟨v93, rfl, rfl⟩
   refine OpsD.v rfl rfl (Y14 rfl rfl) ?_
   refine OpsD.v rfl rfl (Y1b Yd3.h rfl rfl) ?_
   refine OpsD.learn (Sim.arr_one (p := 3) rfl) fun n94 => ?_
   refine OpsD.late (ns := [1]) rfl rfl rfl (Y1t (gs := [C.im Y9c 3 p0.rooms, C.im Y99 2 p0.stream, C.val v93]) Yd4.h rfl rfl (One.val n94) rfl rfl) ?_
   rintro _ _ ⟨rfl, rfl⟩
   refine zw ?_
   refine ob' h fun e95 g96 h => ?_
   refine Ops.v rfl (Y2y (p := 3) Yd5.h rfl rfl rfl g96 rfl) ?_
   refine Ops.v rfl (Y31 (p := 3) Ycu.h rfl rfl (Y29 g96).2.2 rfl rfl) ?_
   exact go
  exact go
 rintro ⟨l100, x101, v99⟩ h
 replace h : Zf1 p0 l100 x101 = some r := h
 unfold Zf1 at h
 refine zw ?_
 refine Ops.h (ns := []) rfl rfl (Y8l (kc := Y9m) rfl) ?_
 rintro _ _ ⟨b102, rfl, rfl⟩
 refine Ops.h (ns := []) rfl rfl (Y1p (cs := [C.val (.map none)]) Yd9 (Y43 rfl rfl) rfl) ?_
 rintro _ _ ⟨b103, rfl, rfl⟩
 refine Ops.hd (ns := [0]) rfl rfl (Y1t (gs := [mt b102]) Yda.h rfl rfl (One.val rfl) rfl rfl) ?_
 refine Ops.nil ?_
 refine AW.seq ?_
 refine AW.cut (τ := Unit) (fun (_ : Unit) => ⟨[(1, pt b1), (4, pt b5), (5, C.int x101)], [Obj.box b1 32 [C.im Y9c 3 p0.rooms, C.im Y99 2 p0.stream], Obj.box b5 145 [C.im Y9c 3 p0.rooms, C.im Y99 2 p0.stream, C.val v99], Obj.arr v99 186 Y9n 1 l100]⟩) (fun (_ : Unit) => Zew p0 l100 x101 = some r) ?_ ?_
 ·
  refine zw ?_
  refine AW.lp (v := ()) h (fun (m178, x179) (_ : Unit) => ⟨[(1, pt b1), (4, pt b5), (5, C.int x101), (8, pt b103), (70, C.im Y99 2 p0.stream), (71, C.int (p0.stream.length : Int)), (72, C.int x179)], [Obj.box b1 32 [C.im Y9c 3 p0.rooms, C.im Y99 2 p0.stream], Obj.box b5 145 [C.im Y9c 3 p0.rooms, C.im Y99 2 p0.stream, C.val v99], Obj.arr v99 186 Y9n 1 l100, Obj.box b103 189 [mt b102], Abs.Obj.pmap b102 Y9m m178]⟩) (gb [2, 2, 2, 0, 0]) ?_
  rintro ⟨m178, x179⟩ _ y268 h
  refine zw ?_
  refine cnd h (fun hb180 h => ?_) fun hb180 h => ?_
  ·
   refine AW.ct hb180 rfl ?_
   refine zw ?_
   refine oi h fun e181 g182 h => ?_
   refine zw ?_
   refine Ops.h (ns := []) rfl rfl (Y1p (cs := [C.int 0, C.int 0]) Yb1 (Y43 rfl rfl) rfl) ?_
   rintro _ _ ⟨b183, rfl, rfl⟩
   refine Ops.hd (ns := [0]) rfl rfl (Y1u (gs := [C.int e181.room, C.int e181.id]) Yb6.h rfl rfl rfl rfl rfl) ?_
   refine Ops.nil ?_
   refine AW.seq ?_
   refine AW.seq ?_
   refine AW.cut (τ := Bool) (fun x187 => ⟨[(1, pt b1), (4, pt b5), (5, C.int x101), (8, pt b103), (10, pt b183), (70, C.im Y99 2 p0.stream), (71, C.int (p0.stream.length : Int)), (72, C.int x179), (84, C.bool x187)], [Obj.box b1 32 [C.im Y9c 3 p0.rooms, C.im Y99 2 p0.stream], Obj.box b5 145 [C.im Y9c 3 p0.rooms, C.im Y99 2 p0.stream, C.val v99], Obj.arr v99 186 Y9n 1 l100, Obj.box b103 189 [mt b102], Abs.Obj.pmap b102 Y9m m178, Obj.box b183 142 [C.int e181.room, C.int e181.id]]⟩) (fun x187 => Zez p0 l100 m178 x179 e181 x187 = some y268) ?_ ?_
   ·
    refine zw ?_
    refine oc h fun r184 g185 h => ?_
    refine zw ?_
    refine cnd h (fun hb186 h => ?_) fun hb186 h => ?_
    ·
     refine Ops.gv rfl rfl rfl rfl (Y3v hb186) (Y1k (p := 4) Yda.h rfl rfl rfl rfl) ?_
     refine zw ?_
     refine Ops.gv rfl rfl rfl rfl (Y3v hb186) (Y8n (p := 5) (j := (e181.room, e181.id)) (kc := Y9m) (z0 := false) Ydb zv_4 (fun _ _ => rfl) rfl rfl rfl rfl) ?_
     refine zw ?_
     exact ⟨(Option.getD (pget m178 (e181.room, e181.id)) false), h, Y21.both (ns := [1, 1, 1, 1, 1, 0]) rfl rfl⟩
    refine zw ?_
    exact ⟨true, h, Y21.both (ns := [1, 1, 1, 1, 1, 0]) rfl rfl⟩
   intro x187 h
   replace h : Zez p0 l100 m178 x179 e181 x187 = some y268 := h
   unfold Zez at h
   refine cnd h (fun hb188 h => ?_) fun hb188 h => ?_
   ·
    refine AW.ct hb188 rfl ?_
    refine zw ?_
    refine AW.ret ?_
    refine lx h fun h => ?_
    rw [← Option.some.inj h]
    exact ⟨[C.any, C.bool false], _, Y21.imp (t := 2) rfl (Imp.any _), (.cons (.tmp rfl) (.cons (.tmp rfl) .nil)), [], _, _, rfl, .inr ⟨rfl, rfl, rfl⟩⟩
   refine AW.cf hb188 rfl ?_
   refine AW.skip ?_
   refine AW.seq ?_
   refine AW.region ?_
   refine Ops.v rfl (Yq rfl rfl) ?_
   refine Ops.v rfl (Y1b Yb3.h rfl rfl) ?_
   refine Ops.v rfl (Y1k (p := 5) ld_2.h rfl rfl rfl rfl) ?_
   refine ob' h fun r189 g190 h => ?_
   refine Ops.hd (ns := [1, 1]) rfl rfl (Y24 (Zem (Y96.mk p0 l100) e181.room _ g190) rfl rfl) ?_
   refine Ops.h (ns := []) rfl rfl (Y1p (cs := [C.val (.pointer none)]) Ydc (Y43 rfl rfl) rfl) ?_
   rintro _ _ ⟨b191, rfl, rfl⟩
   refine Ops.hd (ns := [0]) rfl rfl (Y1t (gs := [C.ip [C.int r189.graph.room, C.im Y97 9 r189.graph.events, C.im Y97 9 r189.graph.parked, C.imap .i64 Y9k r189.depth, C.imap .i64 Y9l r189.before, C.imap .i64 Y9l r189.after, C.imap .i64 Y9k r189.refused]]) Ycu.h rfl rfl One.ip rfl rfl) ?_
   refine Ops.nil ?_
   refine AW.seq ?_
   refine AW.cut (τ := Int × Int × Int × Int × Int × Int × ByteArray × List Int × Int × Bool × Nat) (fun (x196, x197, x198, x199, x200, x201, x202, l203, x204, x205, b195) => ⟨[(1, pt b1), (4, pt b5), (5, C.int x101), (8, pt b103), (10, pt b183), (11, pt b191), (12, pt b195), (13, C.bool x205), (70, C.im Y99 2 p0.stream), (71, C.int (p0.stream.length : Int)), (72, C.int x179)], [Obj.box b1 32 [C.im Y9c 3 p0.rooms, C.im Y99 2 p0.stream], Obj.box b5 145 [C.im Y9c 3 p0.rooms, C.im Y99 2 p0.stream, C.val v99], Obj.arr v99 186 Y9n 1 l100, Obj.box b103 189 [mt b102], Abs.Obj.pmap b102 Y9m m178, Obj.box b183 142 [C.int e181.room, C.int e181.id], Obj.box b191 186 [C.ip [C.int r189.graph.room, C.im Y97 9 r189.graph.events, C.im Y97 9 r189.graph.parked, C.imap .i64 Y9k r189.depth, C.imap .i64 Y9l r189.before, C.imap .i64 Y9l r189.after, C.imap .i64 Y9k r189.refused]], Obj.box b195 136 [C.int x196, C.int x197, C.int x198, C.int x199, C.int x200, C.int x201, C.str x202, C.im kI64 1 l203, C.int x204]]⟩) (fun (x196, x197, x198, x199, x200, x201, x202, l203, x204, x205, b195) => Zey m178 x179 e181 r189 x196 x197 x198 x199 x200 x201 x202 l203 x204 x205 = some y268) ?_ ?_
   ·
    refine AW.regionD (L := [0, 3, 5]) (Lt := [11]) (k := .light 0 true (.light 1 false (.light 2 false (.light 3 true (.light 4 false (.light 5 true (.two 6 10 (.light 7 false (.light 8 false (.light 9 false (.one 10 (.late 11 (.light 12 false .done)))))) (.one 6 (.light 7 false (.light 8 false (.light 9 false (.late 11 (.light 12 false .done))))))))))))) (ns := [0, 0, 0, 0, 0, 0, 0]) (by kernel_rfl) (by kernel_rfl) (by kernel_rfl) (by kernel_rfl) rfl ?_
    refine OpsD.v rfl rfl (Y1k (p := 0) Ycu.h rfl rfl rfl rfl) ?_
    refine OpsD.v rfl rfl (Y15 rfl rfl) ?_
    refine OpsD.v rfl rfl (Y1c Ycv.h rfl rfl rfl) ?_
    refine OpsD.v rfl rfl (Y1i Yax.h rfl rfl rfl rfl) ?_
    refine OpsD.v rfl rfl (Y1b Yb5.h rfl rfl) ?_
    refine OpsD.v rfl rfl (Y1k (p := 6) ld_2.h rfl rfl rfl rfl) ?_
    refine ob' h fun r192 g193 h => ?_
    refine OpsD.two ?_ ?_
    ·
     refine Y3o.h (ns := []) rfl rfl rfl (Y24 ((Zbg _ _).h _ g193) rfl rfl) ?_
     rintro _ _ ⟨rfl, rfl⟩
     refine OpsD.v rfl rfl (Yq rfl rfl) ?_
     refine OpsD.v rfl rfl (Y13 rfl rfl rfl) ?_
     refine OpsD.v rfl rfl (Y13 rfl rfl rfl) ?_
     refine OpsD.one ?_
     refine Y3o.h (ns := []) rfl rfl rfl (Y1p (cs := [C.int 0, C.int 0, C.int 0, C.int 0, C.int 0, C.int 0, C.str ByteArray.empty, C.val s0, C.int 0]) Ya5 (Y43 rfl rfl) rfl) ?_
     rintro _ _ ⟨b194, rfl, rfl⟩
     refine OpsD.late (ns := [7]) rfl rfl rfl (Y1u (gs := [C.int r192.1.id, C.int r192.1.room, C.int r192.1.author, C.int r192.1.kind, C.int r192.1.key, C.int r192.1.n, C.str r192.1.text, C.im kI64 1 r192.1.prev, C.int r192.1.time]) Yam.h rfl rfl rfl rfl rfl) ?_
     rintro _ _ ⟨rfl, rfl⟩
     refine zw ?_
     exact ⟨(r192.1.id, r192.1.room, r192.1.author, r192.1.kind, r192.1.key, r192.1.n, r192.1.text, r192.1.prev, r192.1.time, r192.2, b194), h, Y21.both (ns := [4, 2, 2, 2, 2, 2, 1, 0]) rfl rfl⟩
    refine Y3o.h (ns := []) rfl rfl rfl (Y1p (cs := [C.int 0, C.int 0, C.int 0, C.int 0, C.int 0, C.int 0, C.str ByteArray.empty, C.val s0, C.int 0]) Ya5 (Y43 rfl rfl) rfl) ?_
    rintro _ _ ⟨b194, rfl, rfl⟩
    refine OpsD.one ?_
    refine Y3o.h (ns := []) rfl rfl rfl (Y24 ((Zbg _ _).h _ g193) rfl rfl) ?_
    rintro _ _ ⟨rfl, rfl⟩
    refine zw ?_
    refine OpsD.late (ns := [7]) rfl rfl rfl (Y1u (gs := [C.int r192.1.id, C.int r192.1.room, C.int r192.1.author, C.int r192.1.kind, C.int r192.1.key, C.int r192.1.n, C.str r192.1.text, C.im kI64 1 r192.1.prev, C.int r192.1.time]) Yam.h rfl rfl rfl rfl rfl) ?_
    rintro _ _ ⟨rfl, rfl⟩
    refine zw ?_
    exact ⟨(r192.1.id, r192.1.room, r192.1.author, r192.1.kind, r192.1.key, r192.1.n, r192.1.text, r192.1.prev, r192.1.time, r192.2, b194), h, Y21.both (ns := [4, 2, 2, 2, 2, 2, 1, 0]) rfl rfl⟩
   rintro ⟨x196, x197, x198, x199, x200, x201, x202, l203, x204, x205, b195⟩ h
   replace h : Zey m178 x179 e181 r189 x196 x197 x198 x199 x200 x201 x202 l203 x204 x205 = some y268 := h
   unfold Zey at h
   refine AW.seq ?_
   refine AW.seq ?_
   refine AW.cut (τ := Bool) (fun x252 => ⟨[(1, pt b1), (4, pt b5), (5, C.int x101), (8, pt b103), (10, pt b183), (70, C.im Y99 2 p0.stream), (71, C.int (p0.stream.length : Int)), (72, C.int x179), (116, C.bool x252)], [Obj.box b1 32 [C.im Y9c 3 p0.rooms, C.im Y99 2 p0.stream], Obj.box b5 145 [C.im Y9c 3 p0.rooms, C.im Y99 2 p0.stream, C.val v99], Obj.arr v99 186 Y9n 1 l100, Obj.box b103 189 [mt b102], Abs.Obj.pmap b102 Y9m m178, Obj.box b183 142 [C.int e181.room, C.int e181.id]]⟩) (fun x252 => Zex m178 x179 e181 x252 = some y268) ?_ ?_
   ·
    refine AW.regionD (L := [3, 6, 8, 9, 14]) (Lt := []) (k := .light 0 false (.light 1 false (.light 2 false (.light 7 false (.two 3 8 (.light 4 false (.light 5 false (.two 6 8 (.one 8 (.one 9 (.light 10 false (.light 11 false (.light 12 false (.light 13 false (.light 15 false (.one 14 (.one 16 (.light 17 false .done)))))))))) (.one 6 (.one 9 (.light 10 false (.light 11 false (.light 12 false (.light 13 false (.light 15 false (.one 14 (.one 16 (.light 17 false .done))))))))))))) (.one 3 (.light 4 false (.light 5 false (.one 6 (.one 9 (.light 10 false (.light 11 false (.light 12 false (.light 13 false (.light 15 false (.one 14 (.one 16 (.light 17 false .done)))))))))))))))))) (ns := [0, 0, 0, 4]) (by kernel_rfl) (by kernel_rfl) (by kernel_rfl) (by kernel_rfl) rfl ?_
    refine zw ?_
    refine cnd h (fun hb242 h => ?_) fun hb242 h => ?_
    ·
     refine zw ?_
     refine OpsD.two ?_ ?_
     ·
      refine Y3o.gv rfl rfl rfl rfl rfl (Y3v hb242) (Y1k (p := 7) Ycu.h rfl rfl rfl rfl) ?_
      refine zw ?_
      refine OpsD.two ?_ ?_
      ·
       refine Y3o.gv rfl rfl rfl rfl rfl (Y3v hb242) (Y1h Ycx.h rfl rfl) ?_
       refine OpsD.one ?_
       refine Y3o.gv rfl rfl rfl rfl rfl (Y3v hb242) (Y1k (p := 6) ld_2.h rfl rfl rfl rfl) ?_
       refine OpsD.one ?_
       refine Y3o.gv rfl rfl rfl rfl rfl (Y3v hb242) (Y8b (kc := Y9k) (z0 := 0) Ycy zv_2 (fun _ _ => rfl) rfl rfl rfl) ?_
       refine zw ?_
       refine cnd h (fun hb243 h => ?_) fun hb243 h => ?_
       ·
        refine OpsD.gs rfl rfl rfl rfl (.b rfl hb243) rfl rfl ?_
        refine OpsD.gs rfl rfl rfl rfl (.b rfl hb243) rfl rfl ?_
        refine OpsD.one ?_
        refine Y3o.gs rfl rfl rfl rfl (.b rfl hb243) rfl rfl ?_
        refine OpsD.one ?_
        refine Y3o.gs rfl rfl rfl rfl (.b rfl hb243) rfl rfl ?_
        refine zw ?_
        exact ⟨true, h, Y21.both (ns := [0, 0, 0, 1, 1, 1]) rfl rfl⟩
       refine zw ?_
       refine OpsD.gv rfl rfl rfl rfl rfl hb243 (Y6r rfl rfl) ?_
       refine OpsD.one ?_
       refine Y3o.gv rfl rfl rfl rfl rfl hb243 (Y1k (p := 3) Y9r.h rfl rfl rfl rfl) ?_
       refine zw ?_
       refine ob' h fun r244 g245 h => ?_
       refine Y3o.gh (ns := [3, 0, 0, 0]) rfl rfl rfl rfl rfl hb243 rfl (Y24 (Zev l203 r189 m178 e181 _ g245) rfl rfl) ?_
       rintro _ _ ⟨rfl, rfl⟩
       refine zw ?_
       exact ⟨r244, h, Y21.both (ns := [0, 0, 0, 2, 2, 2]) rfl rfl⟩
      refine Y3o.gv rfl rfl rfl rfl rfl (Y3v hb242) (Y1k (p := 6) ld_2.h rfl rfl rfl rfl) ?_
      refine OpsD.one ?_
      refine Y3o.gv rfl rfl rfl rfl rfl (Y3v hb242) (Y1h Ycx.h rfl rfl) ?_
      refine OpsD.one ?_
      refine Y3o.gv rfl rfl rfl rfl rfl (Y3v hb242) (Y8b (kc := Y9k) (z0 := 0) Ycy zv_2 (fun _ _ => rfl) rfl rfl rfl) ?_
      refine zw ?_
      refine cnd h (fun hb246 h => ?_) fun hb246 h => ?_
      ·
       refine OpsD.gs rfl rfl rfl rfl (.b rfl hb246) rfl rfl ?_
       refine OpsD.gs rfl rfl rfl rfl (.b rfl hb246) rfl rfl ?_
       refine OpsD.one ?_
       refine Y3o.gs rfl rfl rfl rfl (.b rfl hb246) rfl rfl ?_
       refine OpsD.one ?_
       refine Y3o.gs rfl rfl rfl rfl (.b rfl hb246) rfl rfl ?_
       refine zw ?_
       exact ⟨true, h, Y21.both (ns := [0, 0, 0, 1, 1, 1]) rfl rfl⟩
      refine zw ?_
      refine OpsD.gv rfl rfl rfl rfl rfl hb246 (Y6r rfl rfl) ?_
      refine OpsD.one ?_
      refine Y3o.gv rfl rfl rfl rfl rfl hb246 (Y1k (p := 3) Y9r.h rfl rfl rfl rfl) ?_
      refine zw ?_
      refine ob' h fun r247 g248 h => ?_
      refine Y3o.gh (ns := [3, 0, 0, 0]) rfl rfl rfl rfl rfl hb246 rfl (Y24 (Zev l203 r189 m178 e181 _ g248) rfl rfl) ?_
      rintro _ _ ⟨rfl, rfl⟩
      refine zw ?_
      exact ⟨r247, h, Y21.both (ns := [0, 0, 0, 2, 2, 2]) rfl rfl⟩
     refine Y3o.gv rfl rfl rfl rfl rfl (Y3v hb242) (Y1k (p := 6) ld_2.h rfl rfl rfl rfl) ?_
     refine OpsD.one ?_
     refine Y3o.gv rfl rfl rfl rfl rfl (Y3v hb242) (Y1k (p := 7) Ycu.h rfl rfl rfl rfl) ?_
     refine OpsD.gv rfl rfl rfl rfl rfl (Y3v hb242) (Y15 rfl rfl) ?_
     refine OpsD.gv rfl rfl rfl rfl rfl (Y3v hb242) (Y1c Yd0.h rfl rfl rfl) ?_
     refine OpsD.one ?_
     refine Y3o.gv rfl rfl rfl rfl rfl (Y3v hb242) (Y1h Ycx.h rfl rfl) ?_
     refine OpsD.one ?_
     refine Y3o.gv rfl rfl rfl rfl rfl (Y3v hb242) (Y8b (kc := Y9k) (z0 := 0) Ycy zv_2 (fun _ _ => rfl) rfl rfl rfl) ?_
     refine zw ?_
     refine cnd h (fun hb249 h => ?_) fun hb249 h => ?_
     ·
      refine OpsD.gs rfl rfl rfl rfl (.b rfl hb249) rfl rfl ?_
      refine OpsD.gs rfl rfl rfl rfl (.b rfl hb249) rfl rfl ?_
      refine OpsD.one ?_
      refine Y3o.gs rfl rfl rfl rfl (.b rfl hb249) rfl rfl ?_
      refine OpsD.one ?_
      refine Y3o.gs rfl rfl rfl rfl (.b rfl hb249) rfl rfl ?_
      refine zw ?_
      exact ⟨true, h, Y21.both (ns := [0, 0, 0, 1, 1, 1]) rfl rfl⟩
     refine zw ?_
     refine OpsD.gv rfl rfl rfl rfl rfl hb249 (Y6r rfl rfl) ?_
     refine OpsD.one ?_
     refine Y3o.gv rfl rfl rfl rfl rfl hb249 (Y1k (p := 3) Y9r.h rfl rfl rfl rfl) ?_
     refine zw ?_
     refine ob' h fun r250 g251 h => ?_
     refine Y3o.gh (ns := [3, 0, 0, 0]) rfl rfl rfl rfl rfl hb249 rfl (Y24 (Zev l203 r189 m178 e181 _ g251) rfl rfl) ?_
     rintro _ _ ⟨rfl, rfl⟩
     refine zw ?_
     exact ⟨r250, h, Y21.both (ns := [0, 0, 0, 2, 2, 2]) rfl rfl⟩
    refine zw ?_
    refine OpsD.two ?_ ?_
    ·
     refine Y3o.gs rfl rfl rfl rfl (.b rfl (Y3w hb242)) rfl rfl ?_
     refine zw ?_
     refine OpsD.two ?_ ?_
     ·
      refine Y3o.gs rfl rfl rfl rfl (.b rfl (Y3w hb242)) rfl rfl ?_
      refine OpsD.one ?_
      refine Y3o.gs rfl rfl rfl rfl (.b rfl (Y3w hb242)) rfl rfl ?_
      refine OpsD.one ?_
      refine Y3o.gs rfl rfl rfl rfl (.b rfl (Y3w hb242)) rfl rfl ?_
      refine OpsD.gs rfl rfl rfl rfl (.b rfl (Y3w hb242)) rfl rfl ?_
      refine OpsD.v rfl rfl (Ys rfl (Y3w hb242) rfl rfl) ?_
      refine OpsD.v rfl rfl (Yq rfl rfl) ?_
      refine OpsD.gs rfl rfl rfl rfl (.b rfl rfl) rfl rfl ?_
      refine OpsD.gs rfl rfl rfl rfl (.b rfl rfl) rfl rfl ?_
      refine OpsD.one ?_
      refine Y3o.gs rfl rfl rfl rfl (.b rfl rfl) rfl rfl ?_
      refine OpsD.one ?_
      refine Y3o.gs rfl rfl rfl rfl (.b rfl rfl) rfl rfl ?_
      refine zw ?_
      exact ⟨true, h, Y21.both (ns := [0, 0, 0, 1, 1, 1]) rfl rfl⟩
     refine Y3o.gs rfl rfl rfl rfl (.b rfl (Y3w hb242)) rfl rfl ?_
     refine OpsD.one ?_
     refine Y3o.gs rfl rfl rfl rfl (.b rfl (Y3w hb242)) rfl rfl ?_
     refine OpsD.one ?_
     refine Y3o.gs rfl rfl rfl rfl (.b rfl (Y3w hb242)) rfl rfl ?_
     refine OpsD.gs rfl rfl rfl rfl (.b rfl (Y3w hb242)) rfl rfl ?_
     refine OpsD.v rfl rfl (Ys rfl (Y3w hb242) rfl rfl) ?_
     refine OpsD.v rfl rfl (Yq rfl rfl) ?_
     refine OpsD.gs rfl rfl rfl rfl (.b rfl rfl) rfl rfl ?_
     refine OpsD.gs rfl rfl rfl rfl (.b rfl rfl) rfl rfl ?_
     refine OpsD.one ?_
     refine Y3o.gs rfl rfl rfl rfl (.b rfl rfl) rfl rfl ?_
     refine OpsD.one ?_
     refine Y3o.gs rfl rfl rfl rfl (.b rfl rfl) rfl rfl ?_
     refine zw ?_
     exact ⟨true, h, Y21.both (ns := [0, 0, 0, 1, 1, 1]) rfl rfl⟩
    refine Y3o.gs rfl rfl rfl rfl (.b rfl (Y3w hb242)) rfl rfl ?_
    refine OpsD.one ?_
    refine Y3o.gs rfl rfl rfl rfl (.b rfl (Y3w hb242)) rfl rfl ?_
    refine OpsD.gs rfl rfl rfl rfl (.b rfl (Y3w hb242)) rfl rfl ?_
    refine OpsD.gs rfl rfl rfl rfl (.b rfl (Y3w hb242)) rfl rfl ?_
    refine OpsD.one ?_
    refine Y3o.gs rfl rfl rfl rfl (.b rfl (Y3w hb242)) rfl rfl ?_
    refine OpsD.one ?_
    refine Y3o.gs rfl rfl rfl rfl (.b rfl (Y3w hb242)) rfl rfl ?_
    refine OpsD.gs rfl rfl rfl rfl (.b rfl (Y3w hb242)) rfl rfl ?_
    refine OpsD.v rfl rfl (Ys rfl (Y3w hb242) rfl rfl) ?_
    refine OpsD.v rfl rfl (Yq rfl rfl) ?_
    refine OpsD.gs rfl rfl rfl rfl (.b rfl rfl) rfl rfl ?_
    refine OpsD.gs rfl rfl rfl rfl (.b rfl rfl) rfl rfl ?_
    refine OpsD.one ?_
    refine Y3o.gs rfl rfl rfl rfl (.b rfl rfl) rfl rfl ?_
    refine OpsD.one ?_
    refine Y3o.gs rfl rfl rfl rfl (.b rfl rfl) rfl rfl ?_
    refine zw ?_
    exact ⟨true, h, Y21.both (ns := [0, 0, 0, 1, 1, 1]) rfl rfl⟩
   intro x252 h
   replace h : Zex m178 x179 e181 x252 = some y268 := h
   unfold Zex at h
   refine cnd h (fun hb253 h => ?_) fun hb253 h => ?_
   ·
    refine AW.ct hb253 rfl ?_
    refine zw ?_
    refine AW.ret ?_
    refine lx h fun h => ?_
    rw [← Option.some.inj h]
    exact ⟨[C.any, C.bool false], _, Y21.imp (t := 2) rfl (Imp.any _), (.cons (.tmp rfl) (.cons (.tmp rfl) .nil)), [], _, _, rfl, .inr ⟨rfl, rfl, rfl⟩⟩
   refine AW.cf hb253 rfl ?_
   refine AW.skip ?_
   refine AW.region ?_
   refine Ops.v rfl (Y1k (p := 3) Yda.h rfl rfl rfl rfl) ?_
   refine Ops.v rfl (Y1l (p := 5) (ds := [C.int e181.room, C.int e181.id]) Yb6.h rfl rfl rfl rfl rfl) ?_
   refine Ops.hd (ns := [4]) rfl rfl (Y8o (j := (e181.room, e181.id)) (kc := Y9m) (v := true) Ydb rfl rfl rfl rfl) ?_
   refine zw ?_
   exact lu h (gb [1, 1, 1, 1, 0])
  exact go
 rintro ⟨⟩ h
 replace h : Zew p0 l100 x101 = some r := h
 unfold Zew at h
 refine zw ?_
 refine AW.regionD (L := [3]) (Lt := []) (k := dec [0,3,6,10,12,15,18,21]) (ns := [0, 0, 0]) (by kernel_rfl) (by kernel_rfl) (by kernel_rfl) (by kernel_rfl) rfl ?_
 refine zw ?_
 refine AW.ret ?_
 refine cnd h (fun hb254 h => ?_) fun hb254 h => ?_
 ·
  rw [← Option.some.inj h]
  exact ⟨[C.ip [C.im Y9c 3 p0.rooms, C.im Y99 2 p0.stream, C.im Y9n 1 l100], C.bool (x101 == (p0.stream.length : Int))], _, Y21.freezeBy (ns := [1, 1]) (t := 2) rfl rfl (Frz.box (FrzL.cons (os := []) (Frz.same _) (FrzL.cons (os := []) (Frz.same _) (FrzL.cons (os := [_]) Frz.arr FrzL.nil)))), (.cons (.tmp rfl) (.cons (.tmp rfl) .nil)), [], _, _, rfl, .inl ⟨hb254, rfl, rfl⟩⟩
 rw [← Option.some.inj h]
 exact ⟨[C.any, C.bool (x101 == (p0.stream.length : Int))], _, Y21.imp (t := 2) rfl (Imp.any _), (.cons (.tmp rfl) (.cons (.tmp rfl) .nil)), [], _, _, rfl, .inr ⟨hb254, rfl, rfl⟩⟩

def Zf7 (p0 : List Int) : Option (List Int) := some p0
def Zf8 (l85 : List Int) (x86 : Int) : Option (Int ⊕ ((List Int) ⊕ Unit)) := (chk (decide ((0 : Int) ≤ x86 ∧ x86 ≤ (l85.length : Int)))).bind fun u88 => (chk (decide ((Int.toNat x86) ≤ l85.length))).bind fun u90 => (chk (decide ((0 : Int) ≤ x86 ∧ x86 ≤ ((List.take (Int.toNat x86) l85 ++ List.replicate (l85.length - (Int.toNat x86)) 0).length : Int)))).bind fun u92 => some (.inr (.inl (List.take (Int.toNat x86) (List.take (Int.toNat x86) l85 ++ List.replicate (l85.length - (Int.toNat x86)) 0))))
def Zf9 (x70 : Int) (l83 : List Int) (x84 : Int) : Option ((List Int × Int × Int) ⊕ ((List Int × Int))) := some (.inl (l83, x84, (IntKind.i64.wrap (x70 + 1))))
def Zfa (x47 : Int) (l68 : List Int) (x69 : Int) (x70 : Int) : Option ((List Int × Int × Int) ⊕ ((List Int × Int))) := (chk (decide ((Int.toNat x47) ≤ l68.length))).bind fun u72 => cond (decide (x70 < ((List.drop (Int.toNat x47) l68).length : Int))) ((getI (List.drop (Int.toNat x47) l68) x70).bind fun e74 => (getI (List.drop (Int.toNat x47) l68) (IntKind.i64.wrap (x70 - 1))).bind fun e76 => cond (e74 != e76) ((getI (List.drop (Int.toNat x47) l68) x70).bind fun e79 => (getI l68 x69).bind fun e81 => Zf9 x70 (List.set l68 (Int.toNat x69) e79) (IntKind.i64.wrap (x69 + 1))) (Zf9 x70 l68 x69)) (some (.inr (l68, x69)))
def Zfb (p0 : List Int) (x47 : Int) : Option (Int ⊕ ((List Int) ⊕ Unit)) := cond (decide (x47 < (p0.length : Int))) ((getI p0 x47).bind fun e49 => (getI p0 (IntKind.i64.wrap (x47 - 1))).bind fun e51 => cond (e49 == e51) ((chk (decide ((0 : Int) ≤ x47 ∧ x47 ≤ (p0.length : Int)))).bind fun u55 => (iter (fun z94 => Zfa x47 z94.1 z94.2.1 z94.2.2) big (p0, x47, 1)).bind fun (y95, y96) => Zf8 y95 y96) (some (.inl (IntKind.i64.wrap (x47 + 1))))) (some (.inr (.inr ())))
def Zfc (p0 : List Int) : Option (List Int) := cond (decide ((p0.length : Int) < 2)) (some p0) ((iter (Zfb p0) big 1).bind (fun z98 => match z98 with | .inl y97 => some y97 | .inr () => Zf7 p0))
set_option maxHeartbeats 1000000 in
theorem Zfd {w00 : Value} (p0 : List Int) (r : List Int) (h : Zfc p0 = some r) : Ok Tryz.prog 257 [C.val w00] [Obj.arr w00 2 kI64 1 p0] (fun c qs => ∃ (v93 : Value), c = C.val v93 ∧ qs = [Obj.arr v93 2 kI64 1 r]) := by
 refine Ok.of_body (rs := [.tmp 2]) Tryz.func257 rfl rfl rfl rfl rfl fun X => ?_
 unfold Zfc at h
 refine zw ?_
 refine cnd h (fun hb1 h => ?_) fun hb1 h => ?_
 ·
  refine AW.ct hb1 rfl ?_
  refine zw ?_
  refine AW.ret ?_
  rw [← Option.some.inj h]
  exact ⟨[C.val w00], _, Y21.refl _, (.cons (.tmp rfl) .nil), [0], _, _, rfl, ⟨w00, rfl, rfl⟩⟩
 refine AW.cf hb1 rfl ?_
 refine AW.skip ?_
 refine AW.seq ?_
 refine AW.cut (τ := Unit) (fun (_ : Unit) => ⟨[(0, C.val w00)], [Obj.arr w00 2 kI64 1 p0]⟩) (fun (_ : Unit) => Zf7 p0 = some r) ?_ ?_
 ·
  refine zw ?_
  refine AW.lp (v := ()) h (fun x47 (_ : Unit) => ⟨[(0, C.val w00), (3, C.int x47)], [Obj.arr w00 2 kI64 1 p0]⟩) (gb [0]) ?_
  rintro x47 _ y104 h
  refine zw ?_
  refine cnd h (fun hb48 h => ?_) fun hb48 h => ?_
  ·
   refine AW.ct hb48 rfl ?_
   refine zw ?_
   refine AW.regionD (L := [3, 8]) (Lt := []) (k := dec [0,3,6,10,12,15,18,21,25,27]) (ns := [0]) (by kernel_rfl) (by kernel_rfl) (by kernel_rfl) (by kernel_rfl) rfl ?_
   refine zw ?_
   refine di h fun e49 g50 h => ?_
   refine OpsD.v rfl rfl (Y31 (p := 0) ld_2.h rfl rfl (Y29 g50).2.2 rfl rfl) ?_
   refine zw ?_
   refine di h fun e51 g52 h => ?_
   refine OpsD.v rfl rfl (Y31 (p := 0) ld_2.h rfl rfl (Y29 g52).2.2 rfl rfl) ?_
   refine zw ?_
   refine cnd h (fun hb53 h => ?_) fun hb53 h => ?_
   ·
    refine AW.ct hb53 rfl ?_
    refine zw ?_
    refine ob' h fun u55 c54 h => ?_
    refine Ops.v rfl (Y76 (p := 0) (l := (Int.toNat x47)) Y9o.h rfl rfl rfl (of_decide_eq_true (Y3u c54)) rfl rfl) ?_
    refine Ops.v rfl (Yr rfl rfl) ?_
    refine Ops.nil ?_
    refine AW.seq ?_
    refine AW.cut (τ := List Int × Int) (fun (l85, x86) => ⟨[(0, C.val w00), (3, C.int x86)], [Obj.arr w00 2 kI64 1 l85]⟩) (fun (l85, x86) => Zf8 l85 x86 = some y104) ?_ ?_
    ·
     refine zw ?_
     refine AW.lp (v := ()) h (fun (l68, x69, x70) (_ : Unit) => ⟨[(0, C.val w00), (3, C.int x69), (4, C.val (Y73 w00 1 (Int.toNat x47))), (5, C.int x70)], [Obj.arr w00 2 kI64 1 l68]⟩) (gb [0]) ?_
     rintro ⟨l68, x69, x70⟩ _ y111 h
     refine zw ?_
     refine ob' h fun u72 c71 h => ?_
     refine Ops.v rfl (Y78 (p := 0) Y9o.h rfl rfl (of_decide_eq_true (Y3u c71)) rfl) ?_
     refine zw ?_
     refine cnd h (fun hb73 h => ?_) fun hb73 h => ?_
     ·
      refine AW.ct hb73 rfl ?_
      refine zw ?_
      refine AW.regionD (L := [3, 8]) (Lt := []) (k := dec [0,3,6,10,12,15,18,21,25,27]) (ns := [0]) (by kernel_rfl) (by kernel_rfl) (by kernel_rfl) (by kernel_rfl) rfl ?_
      refine zw ?_
      refine ob' h fun e74 g75 h => ?_
      refine OpsD.v rfl rfl (Y79 (p := 0) Y9o.h rfl rfl rfl g75 rfl) ?_
      refine OpsD.v rfl rfl (Y31 (p := 0) ld_2.h rfl rfl (Y7a g75) rfl rfl) ?_
      refine zw ?_
      refine ob' h fun e76 g77 h => ?_
      refine OpsD.v rfl rfl (Y79 (p := 0) Y9o.h rfl rfl rfl g77 rfl) ?_
      refine OpsD.v rfl rfl (Y31 (p := 0) ld_2.h rfl rfl (Y7a g77) rfl rfl) ?_
      refine zw ?_
      refine cnd h (fun hb78 h => ?_) fun hb78 h => ?_
      ·
       refine AW.ct hb78 rfl ?_
       refine zw ?_
       refine ob' h fun e79 g80 h => ?_
       refine Ops.v rfl (Y79 (p := 0) Y9o.h rfl rfl rfl g80 rfl) ?_
       refine Ops.v rfl (Y31 (p := 0) ld_2.h rfl rfl (Y7a g80) rfl rfl) ?_
       refine oi h fun e81 g82 h => ?_
       refine Ops.hd (ns := [0]) rfl rfl (Y34 (e' := e79) ld_2.h rfl rfl (One.val rfl) (Y29 g82).2.2 rfl rfl) ?_
       exact go
      exact go
     exact go
    rintro ⟨l85, x86⟩ h
    replace h : Zf8 l85 x86 = some y104 := h
    unfold Zf8 at h
    refine zw ?_
    refine ob' h fun u88 c87 h => ?_
    refine Ops.v rfl (Y76 (p := 0) (l := (Int.toNat x86)) Y9o.h rfl rfl rfl (of_decide_eq_true (Y3u c87)) rfl rfl) ?_
    refine ob' h fun u90 c89 h => ?_
    refine Ops.hd (ns := [0]) rfl rfl (Y7e (z := 0) Ya4 ze_2 (Y43 rfl rfl) rfl (of_decide_eq_true (Y3u c89))) ?_
    refine zw ?_
    refine ob' h fun u92 c91 h => ?_
    refine Ops.v rfl (Y77 (p := 0) (l := (Int.toNat x86)) Y9o.h rfl rfl rfl (of_decide_eq_true (Y3u c91)) rfl rfl) ?_
    refine zw ?_
    refine AW.ret ?_
    refine lx h fun h => ?_
    rw [← Option.some.inj h]
    exact ⟨[C.val (Y74 w00 (Int.toNat x86))], _, Y21.prefix (p := 0) (h := (Int.toNat x86)) rfl (Int.le_toNat_len c91), (.cons (.tmp rfl) .nil), [0], _, _, rfl, ⟨(Y74 w00 (Int.toNat x86)), rfl, rfl⟩⟩
   exact go
  exact go
 rintro ⟨⟩ h
 replace h : Zf7 p0 = some r := h
 unfold Zf7 at h
 refine zw ?_
 refine AW.ret ?_
 rw [← Option.some.inj h]
 exact ⟨[C.val w00], _, Y21.refl _, (.cons (.tmp rfl) .nil), [0], _, _, rfl, ⟨w00, rfl, rfl⟩⟩
def Zfe (p0 : List Int) : Option (List Int) := (chk (decide (p0.length < 4611686018427387904))).bind fun u2 => (Zfc (List.mergeSort p0 (fun x y => decide (x ≤ y)))).bind fun r3 => some r3
theorem Zff {w00 : Value} (p0 : List Int) (r : List Int) (h : Zfe p0 = some r) : Ok Tryz.prog 205 [C.val w00] [Obj.arr w00 2 kI64 1 p0] (fun c qs => ∃ (v6 : Value), c = C.val v6 ∧ qs = [Obj.arr v6 2 kI64 1 r]) := by
 refine Ok.of_body (rs := [.tmp 2]) Tryz.func205 rfl rfl rfl rfl rfl fun X => ?_
 unfold Zfe at h
 refine zw ?_
 refine ob' h fun u2 c1 h => ?_
 refine Ops.hd (ns := [0]) rfl rfl (Y8a Y8w (fun _ => rfl) (of_decide_eq_true (Y3u c1)) rfl rfl) ?_
 refine zw ?_
 refine ob' h fun r3 g4 h => ?_
 refine Ops.h (ns := [0]) rfl rfl (Y23 (Zfd (List.mergeSort p0 (fun x y => decide (x ≤ y))) _ g4) rfl rfl) ?_
 rintro _ _ ⟨_, ⟨v5, rfl, rfl⟩, rfl⟩
 refine zw ?_
 refine AW.ret ?_
 rw [← Option.some.inj h]
 exact ⟨[C.val v5], _, Y21.refl _, (.cons (.tmp rfl) .nil), [0], _, _, rfl, ⟨v5, rfl, rfl⟩⟩
def Zfg (p0 : Int) (q0 : Y8x) : Option Bool := (Z7t q0.prev p0).bind fun r1 => some r1
theorem Zfh {b00 : Nat} (p0 : Int) (q0 : Y8x) (r : Bool) (h : Zfg p0 q0 = some r) : Ok Tryz.prog 207 [C.int p0, pt b00] [Obj.box b00 136 [C.int q0.id, C.int q0.room, C.int q0.author, C.int q0.kind, C.int q0.key, C.int q0.n, C.str q0.text, C.im kI64 1 q0.prev, C.int q0.time]] (fun c qs => c = C.bool r ∧ qs = [Obj.box b00 136 [C.int q0.id, C.int q0.room, C.int q0.author, C.int q0.kind, C.int q0.key, C.int q0.n, C.str q0.text, C.im kI64 1 q0.prev, C.int q0.time]]) := by
 refine Ok.of_body (rs := [.tmp 3]) Tryz.func207 rfl rfl rfl rfl rfl fun X => ?_
 unfold Zfg at h
 refine zw ?_
 refine oc h fun r1 g2 h => ?_
 refine zw ?_
 refine AW.ret ?_
 rw [← Option.some.inj h]
 exact ⟨[C.bool r1], _, Y21.refl _, (.cons (.tmp rfl) .nil), [0], _, _, rfl, ⟨rfl, rfl⟩⟩

def Zfi : Option Int := some (-1)
def Zfj (p0 : List Int) (p1_0 : Y8x) (x7 : Int) : Option (Int ⊕ (Int ⊕ Unit)) := cond (decide (x7 < (p0.length : Int))) ((getI p0 x7).bind fun e9 => (Zfg e9 p1_0).bind fun r11 => cond r11 (some (.inr (.inl x7))) (some (.inl (IntKind.i64.wrap (x7 + 1))))) (some (.inr (.inr ())))
def Zfk (p0 : List Int) (p1_0 : Y8x) : Option Int := (iter (Zfj p0 p1_0) big 0).bind (fun z15 => match z15 with | .inl y14 => some y14 | .inr () => Zfi)
set_option maxHeartbeats 1000000 in
theorem Zfl {w00 : Value} {b01 : Nat} (p0 : List Int) (p1_0 : Y8x) (r : Int) (h : Zfk p0 p1_0 = some r) : Ok Tryz.prog 194 [C.val w00, C.clo 207 [pt b01]] [Obj.arr w00 2 kI64 1 p0, Obj.box b01 136 [C.int p1_0.id, C.int p1_0.room, C.int p1_0.author, C.int p1_0.kind, C.int p1_0.key, C.int p1_0.n, C.str p1_0.text, C.im kI64 1 p1_0.prev, C.int p1_0.time]] (fun c qs => c = C.int r ∧ qs = [Obj.arr w00 2 kI64 1 p0, Obj.box b01 136 [C.int p1_0.id, C.int p1_0.room, C.int p1_0.author, C.int p1_0.kind, C.int p1_0.key, C.int p1_0.n, C.str p1_0.text, C.im kI64 1 p1_0.prev, C.int p1_0.time]]) := by
 refine Ok.of_body (rs := [.tmp 4]) Tryz.func194 rfl rfl rfl rfl rfl fun X => ?_
 unfold Zfk at h
 refine AW.seq ?_
 refine AW.region ?_
 refine Ops.v rfl (Yr rfl rfl) ?_
 refine Ops.nil ?_
 refine AW.seq ?_
 refine AW.cut (τ := Unit) (fun (_ : Unit) => ⟨[], [Obj.arr w00 2 kI64 1 p0, Obj.box b01 136 [C.int p1_0.id, C.int p1_0.room, C.int p1_0.author, C.int p1_0.kind, C.int p1_0.key, C.int p1_0.n, C.str p1_0.text, C.im kI64 1 p1_0.prev, C.int p1_0.time]]⟩) (fun (_ : Unit) => Zfi = some r) ?_ ?_
 ·
  refine zw ?_
  refine AW.lp (v := ()) h (fun x7 (_ : Unit) => ⟨[(0, C.val w00), (1, C.clo 207 [pt b01]), (7, C.int (p0.length : Int)), (8, C.int x7)], [Obj.arr w00 2 kI64 1 p0, Obj.box b01 136 [C.int p1_0.id, C.int p1_0.room, C.int p1_0.author, C.int p1_0.kind, C.int p1_0.key, C.int p1_0.n, C.str p1_0.text, C.im kI64 1 p1_0.prev, C.int p1_0.time]]⟩) (gb [0, 0]) ?_
  rintro x7 _ y21 h
  refine zw ?_
  refine cnd h (fun hb8 h => ?_) fun hb8 h => ?_
  ·
   refine AW.ct hb8 rfl ?_
   refine zw ?_
   refine oi h fun e9 g10 h => ?_
   refine Ops.v rfl (Y31 (p := 0) ld_2.h rfl rfl (Y29 g10).2.2 rfl rfl) ?_
   refine ob' h fun r11 g12 h => ?_
   refine Ops.hd (ns := [1]) rfl rfl (Y6t (cs := [_]) (ds := [_]) rfl (Zfh e9 p1_0 _ g12) rfl rfl) ?_
   refine zw ?_
   refine cnd h (fun hb13 h => ?_) fun hb13 h => ?_
   ·
    refine AW.ct hb13 rfl ?_
    refine zw ?_
    refine AW.ret ?_
    refine lx h fun h => ?_
    rw [← Option.some.inj h]
    exact ⟨[C.int x7], _, Y21.refl _, (.cons (.tmp rfl) .nil), [1, 0], _, _, rfl, ⟨rfl, rfl⟩⟩
   exact go
  exact go
 rintro ⟨⟩ h
 replace h : Zfi = some r := h
 unfold Zfi at h
 refine zw ?_
 refine AW.ret ?_
 rw [← Option.some.inj h]
 exact ⟨[C.int (-1)], _, Y21.refl _, (.cons (.tmp rfl) .nil), [0, 0], _, _, rfl, ⟨rfl, rfl⟩⟩

def Zfm (l27 : List Int) (x28 : Int) : Option (List Int) := (chk (decide ((0 : Int) ≤ x28 ∧ x28 ≤ (l27.length : Int)))).bind fun u30 => (chk (decide ((Int.toNat x28) ≤ l27.length))).bind fun u32 => (chk (decide ((0 : Int) ≤ x28 ∧ x28 ≤ ((List.take (Int.toNat x28) l27 ++ List.replicate (l27.length - (Int.toNat x28)) 0).length : Int)))).bind fun u34 => some (List.take (Int.toNat x28) (List.take (Int.toNat x28) l27 ++ List.replicate (l27.length - (Int.toNat x28)) 0))
def Zfn (x16 : Int) (l25 : List Int) (x26 : Int) : Option ((List Int × Int × Int) ⊕ ((List Int × Int))) := some (.inl (l25, x26, (IntKind.i64.wrap (x16 + 1))))
def Zfo (p1_0 : Y8x) (l14 : List Int) (x15 : Int) (x16 : Int) : Option ((List Int × Int × Int) ⊕ ((List Int × Int))) := cond (decide (x16 < (l14.length : Int))) ((getI l14 x16).bind fun e18 => (Zfg e18 p1_0).bind fun r20 => cond r20 (Zfn x16 l14 x15) ((getI l14 x15).bind fun e23 => Zfn x16 (List.set l14 (Int.toNat x15) e18) (IntKind.i64.wrap (x15 + 1)))) (some (.inr (l14, x15)))
def Zfp (p0 : List Int) (p1_0 : Y8x) : Option (List Int) := (Zfk p0 p1_0).bind fun r1 => cond (r1 == (-1)) (some p0) ((iter (fun z36 => Zfo p1_0 z36.1 z36.2.1 z36.2.2) big (p0, r1, (IntKind.i64.wrap (r1 + 1)))).bind fun (y37, y38) => Zfm y37 y38)
set_option maxHeartbeats 1000000 in
theorem Zfq {w00 : Value} {b01 : Nat} (p0 : List Int) (p1_0 : Y8x) (r : List Int) (h : Zfp p0 p1_0 = some r) : Ok Tryz.prog 206 [C.val w00, C.clo 207 [pt b01]] [Obj.arr w00 2 kI64 1 p0, Obj.box b01 136 [C.int p1_0.id, C.int p1_0.room, C.int p1_0.author, C.int p1_0.kind, C.int p1_0.key, C.int p1_0.n, C.str p1_0.text, C.im kI64 1 p1_0.prev, C.int p1_0.time]] (fun c qs => ∃ (v35 : Value), c = C.val v35 ∧ qs = [Obj.arr v35 2 kI64 1 r, Obj.box b01 136 [C.int p1_0.id, C.int p1_0.room, C.int p1_0.author, C.int p1_0.kind, C.int p1_0.key, C.int p1_0.n, C.str p1_0.text, C.im kI64 1 p1_0.prev, C.int p1_0.time]]) := by
 refine Ok.of_body (rs := [.tmp 4]) Tryz.func206 rfl rfl rfl rfl rfl fun X => ?_
 unfold Zfp at h
 refine zw ?_
 refine ob' h fun r1 g2 h => ?_
 refine Ops.hd (ns := [0, 0]) rfl rfl (Y24 (Zfl p0 p1_0 _ g2) rfl rfl) ?_
 refine zw ?_
 refine cnd h (fun hb3 h => ?_) fun hb3 h => ?_
 ·
  refine AW.ct hb3 rfl ?_
  refine zw ?_
  refine AW.ret ?_
  rw [← Option.some.inj h]
  exact ⟨[C.val w00], _, Y21.refl _, (.cons (.tmp rfl) .nil), [0, 0], _, _, rfl, ⟨w00, rfl, rfl⟩⟩
 refine AW.cf hb3 rfl ?_
 refine AW.skip ?_
 refine AW.seq ?_
 refine AW.cut (τ := List Int × Int) (fun (l27, x28) => ⟨[(0, C.val w00), (5, C.int x28)], [Obj.arr w00 2 kI64 1 l27, Obj.box b01 136 [C.int p1_0.id, C.int p1_0.room, C.int p1_0.author, C.int p1_0.kind, C.int p1_0.key, C.int p1_0.n, C.str p1_0.text, C.im kI64 1 p1_0.prev, C.int p1_0.time]]⟩) (fun (l27, x28) => Zfm l27 x28 = some r) ?_ ?_
 ·
  refine zw ?_
  refine AW.lp (v := ()) h (fun (l14, x15, x16) (_ : Unit) => ⟨[(0, C.val w00), (1, C.clo 207 [pt b01]), (5, C.int x15), (6, C.int x16)], [Obj.arr w00 2 kI64 1 l14, Obj.box b01 136 [C.int p1_0.id, C.int p1_0.room, C.int p1_0.author, C.int p1_0.kind, C.int p1_0.key, C.int p1_0.n, C.str p1_0.text, C.im kI64 1 p1_0.prev, C.int p1_0.time]]⟩) (gb [0, 0]) ?_
  rintro ⟨l14, x15, x16⟩ _ y44 h
  refine zw ?_
  refine cnd h (fun hb17 h => ?_) fun hb17 h => ?_
  ·
   refine AW.ct hb17 rfl ?_
   refine zw ?_
   refine oi h fun e18 g19 h => ?_
   refine Ops.v rfl (Y31 (p := 0) ld_2.h rfl rfl (Y29 g19).2.2 rfl rfl) ?_
   refine zw ?_
   refine ob' h fun r20 g21 h => ?_
   refine Ops.hd (ns := [1]) rfl rfl (Y6t (cs := [_]) (ds := [_]) rfl (Zfh e18 p1_0 _ g21) rfl rfl) ?_
   refine zw ?_
   refine cnd h (fun hb22 h => go) fun hb22 h => ?_
   refine AW.cond rfl (fun _ => ?_) (fun hn => absurd ((Y3w hb22).symm.trans hn) (by decide))
   refine zw ?_
   refine ob' h fun e23 g24 h => ?_
   refine Ops.v rfl (Y2y (p := 1) Y9o.h rfl rfl rfl g24 rfl) ?_
   refine Ops.hd (ns := [1]) rfl rfl (Y34 (e' := e18) ld_2.h rfl rfl (One.val rfl) (Y29 g24).2.2 rfl rfl) ?_
   exact go
  exact go
 rintro ⟨l27, x28⟩ h
 replace h : Zfm l27 x28 = some r := h
 unfold Zfm at h
 refine zw ?_
 refine ob' h fun u30 c29 h => ?_
 refine Ops.v rfl (Y76 (p := 0) (l := (Int.toNat x28)) Y9o.h rfl rfl rfl (of_decide_eq_true (Y3u c29)) rfl rfl) ?_
 refine ob' h fun u32 c31 h => ?_
 refine Ops.hd (ns := [0]) rfl rfl (Y7e (z := 0) Ya4 ze_2 (Y43 rfl rfl) rfl (of_decide_eq_true (Y3u c31))) ?_
 refine zw ?_
 refine ob' h fun u34 c33 h => ?_
 refine Ops.v rfl (Y77 (p := 0) (l := (Int.toNat x28)) Y9o.h rfl rfl rfl (of_decide_eq_true (Y3u c33)) rfl rfl) ?_
 refine zw ?_
 refine AW.ret ?_
 rw [← Option.some.inj h]
 exact ⟨[C.val (Y74 w00 (Int.toNat x28))], _, Y21.prefix (p := 0) (h := (Int.toNat x28)) rfl (Int.le_toNat_len c33), (.cons (.tmp rfl) .nil), [0, 0], _, _, rfl, ⟨(Y74 w00 (Int.toNat x28)), rfl, rfl⟩⟩

def Zfr (l29 : List Int) : Option (List Int) := some l29
def Zfs (p0 : Y95) (p1 : List Int) (l17 : List Int) (x18 : Int) : Option ((List Int × Int) ⊕ ((List Int))) := cond (decide (x18 < (p1.length : Int))) ((getI p1 x18).bind fun e20 => (Zbf p0.graph e20).bind fun r22 => (Zfp l17 r22.1).bind fun r25 => some (.inl (r25, (IntKind.i64.wrap (x18 + 1))))) (some (.inr l17))
def Zft (p0 : Y95) (p1 : List Int) : Option (List Int) := (Zdy p1).bind fun r1 => (Zfe r1).bind fun r4 => (iter (fun z31 => Zfs p0 p1 z31.1 z31.2) big (r4, 0)).bind fun y32 => Zfr y32
set_option maxHeartbeats 1000000 in
theorem Zfu (p0 : Y95) (p1 : List Int) (r : List Int) (h : Zft p0 p1 = some r) : Ok Tryz.prog 144 [C.ip [C.int p0.graph.room, C.im Y97 9 p0.graph.events, C.im Y97 9 p0.graph.parked, C.imap .i64 Y9k p0.depth, C.imap .i64 Y9l p0.before, C.imap .i64 Y9l p0.after, C.imap .i64 Y9k p0.refused], C.im kI64 1 p1] [] (fun c qs => ∃ (v30 : Value), c = C.val v30 ∧ qs = [Obj.arr v30 2 kI64 1 r]) := by
 refine Ok.of_body (rs := [.tmp 4]) Tryz.func144 rfl rfl rfl rfl rfl fun X => ?_
 unfold Zft at h
 refine zw ?_
 refine ob' h fun r1 g2 h => ?_
 refine Ops.h (ns := []) rfl rfl (Y23 (Zdz _ _ g2) rfl rfl) ?_
 rintro _ _ ⟨_, ⟨v3, rfl, rfl⟩, rfl⟩
 refine ob' h fun r4 g5 h => ?_
 refine Ops.h (ns := [0]) rfl rfl (Y23 (Zff r1 _ g5) rfl rfl) ?_
 rintro _ _ ⟨_, ⟨v6, rfl, rfl⟩, rfl⟩
 refine Ops.v rfl (Yr rfl rfl) ?_
 refine Ops.nil ?_
 refine AW.seq ?_
 refine AW.cut (τ := List Int × Value) (fun (l29, v28) => ⟨[(5, C.val v28)], [Obj.arr v28 2 kI64 1 l29]⟩) (fun (l29, v28) => Zfr l29 = some r) ?_ ?_
 ·
  refine zw ?_
  refine AW.lp h (fun (l17, x18) (v16 : Value) => ⟨[(0, C.ip [C.int p0.graph.room, C.im Y97 9 p0.graph.events, C.im Y97 9 p0.graph.parked, C.imap .i64 Y9k p0.depth, C.imap .i64 Y9l p0.before, C.imap .i64 Y9l p0.after, C.imap .i64 Y9k p0.refused]), (5, C.val v16), (13, C.im kI64 1 p1), (14, C.int (p1.length : Int)), (15, C.int x18)], [Obj.arr v16 2 kI64 1 l17]⟩) (gb [0]) ?_
  rintro ⟨l17, x18⟩ v16 y38 h
  refine zw ?_
  refine cnd h (fun hb19 h => ?_) fun hb19 h => ?_
  ·
   refine AW.ct hb19 rfl ?_
   refine zw ?_
   refine oi h fun e20 g21 h => ?_
   refine zw ?_
   refine oc h fun r22 g23 h => ?_
   refine zw ?_
   refine Ops.h (ns := []) rfl rfl (Y1p (cs := [C.int 0, C.int 0, C.int 0, C.int 0, C.int 0, C.int 0, C.str ByteArray.empty, C.val s0, C.int 0]) Ya5 (Y43 rfl rfl) rfl) ?_
   rintro _ _ ⟨b24, rfl, rfl⟩
   refine Ops.hd (ns := [0]) rfl rfl (Y1u (gs := [C.int r22.1.id, C.int r22.1.room, C.int r22.1.author, C.int r22.1.kind, C.int r22.1.key, C.int r22.1.n, C.str r22.1.text, C.im kI64 1 r22.1.prev, C.int r22.1.time]) Yam.h rfl rfl rfl rfl rfl) ?_
   refine zw ?_
   refine Ops.v rfl (Y6r rfl rfl) ?_
   refine ob' h fun r25 g26 h => ?_
   refine Ops.h (ns := [1, 0]) rfl rfl (Y23 (Zfq l17 r22.1 _ g26) rfl rfl) ?_
   rintro _ _ ⟨_, ⟨v27, rfl, rfl⟩, rfl⟩
   exact go
  exact go
 rintro ⟨l29, v28⟩ h
 replace h : Zfr l29 = some r := h
 unfold Zfr at h
 refine zw ?_
 refine AW.ret ?_
 rw [← Option.some.inj h]
 exact ⟨[C.val v28], _, Y21.refl _, (.cons (.tmp rfl) .nil), [0], _, _, rfl, ⟨v28, rfl, rfl⟩⟩
instance Zfu' (p0 : Y95) (p1 : List Int) : Sp Tryz.prog 144 [C.ip [C.int p0.graph.room, C.im Y97 9 p0.graph.events, C.im Y97 9 p0.graph.parked, C.imap .i64 Y9k p0.depth, C.imap .i64 Y9l p0.before, C.imap .i64 Y9l p0.after, C.imap .i64 Y9k p0.refused], C.im kI64 1 p1] (Zft p0 p1) (fun r => C.im kI64 1 r) := ⟨fun r h => Ok.freeze (Zfu p0 p1 r h) (by rintro c qs ⟨v30, rfl, rfl⟩; exact Frz.arr)⟩

def Zfv (l20 : List (List Y92)) : Option (List (List Y92)) := some l20
def Zfw (p0 : Y95) (p1 : List Int) (l10 : List (List Y92)) (x11 : Int) : Option ((List (List Y92) × Int) ⊕ ((List (List Y92)))) := cond (decide (x11 < (p1.length : Int))) ((getI p1 x11).bind fun e13 => (chk (decide ((l10.length + [(Option.getD (mget p0.after e13) ([] : List Y92))].length) * 24 ≤ 140737488355328))).bind fun u17 => some (.inl ((l10 ++ [(Option.getD (mget p0.after e13) ([] : List Y92))]), (IntKind.i64.wrap (x11 + 1))))) (some (.inr l10))
def Zfx (p0 : Y95) (p1 : List Int) : Option (List (List Y92)) := (iter (fun z22 => Zfw p0 p1 z22.1 z22.2) big (([] : List (List Y92)), 0)).bind fun y23 => Zfv y23
set_option maxHeartbeats 1000000 in
theorem Zfy (p0 : Y95) (p1 : List Int) (r : List (List Y92)) (h : Zfx p0 p1 = some r) : Ok Tryz.prog 143 [C.ip [C.int p0.graph.room, C.im Y97 9 p0.graph.events, C.im Y97 9 p0.graph.parked, C.imap .i64 Y9k p0.depth, C.imap .i64 Y9l p0.before, C.imap .i64 Y9l p0.after, C.imap .i64 Y9k p0.refused], C.im kI64 1 p1] [] (fun c qs => ∃ (v21 : Value), c = C.val v21 ∧ qs = [Obj.arr v21 27 Y9g 1 r]) := by
 refine Ok.of_body (rs := [.tmp 4]) Tryz.func143 rfl rfl rfl rfl rfl fun X => ?_
 unfold Zfx at h
 refine zw ?_
 refine Ops.h (ns := []) rfl rfl (Y3a (k := Y9g) (ys := ([] : List (List Y92))) Ybx .nil rfl rfl rfl) ?_
 rintro _ _ ⟨b1, rfl, rfl⟩
 refine Ops.v rfl (Yr rfl rfl) ?_
 refine Ops.nil ?_
 refine AW.seq ?_
 refine AW.cut (τ := List (List Y92) × Value) (fun (l20, v19) => ⟨[(5, C.val v19)], [Obj.arr v19 27 Y9g 1 l20]⟩) (fun (l20, v19) => Zfv l20 = some r) ?_ ?_
 ·
  refine zw ?_
  refine AW.lp h (fun (l10, x11) (v9 : Value) => ⟨[(0, C.ip [C.int p0.graph.room, C.im Y97 9 p0.graph.events, C.im Y97 9 p0.graph.parked, C.imap .i64 Y9k p0.depth, C.imap .i64 Y9l p0.before, C.imap .i64 Y9l p0.after, C.imap .i64 Y9k p0.refused]), (5, C.val v9), (9, C.im kI64 1 p1), (10, C.int (p1.length : Int)), (11, C.int x11)], [Obj.arr v9 27 Y9g 1 l10]⟩) (gb [0]) ?_
  rintro ⟨l10, x11⟩ v9 y29 h
  refine zw ?_
  refine cnd h (fun hb12 h => ?_) fun hb12 h => ?_
  ·
   refine AW.ct hb12 rfl ?_
   refine zw ?_
   refine oi h fun e13 g14 h => ?_
   refine zw ?_
   refine Ops.v rfl (Y8b (kc := Y9l) (z0 := ([] : List Y92)) Ycq Ycr (fun w F => Imp.nil Y9f 3 w F _ rfl) rfl rfl rfl) ?_
   refine Ops.h (ns := []) rfl rfl (Y3a (k := Y9g) (ys := [(Option.getD (mget p0.after e13) ([] : List Y92))]) Ybx (.one rfl One.im rfl rfl .nil) rfl rfl rfl) ?_
   rintro _ _ ⟨b15, rfl, rfl⟩
   refine ob' h fun u17 c16 h => ?_
   refine Ops.h (ns := [1, 0]) rfl rfl (Y2t Ybx rfl rfl (of_decide_eq_true (Y3u c16)) (Y3x (by decide) c16) rfl) ?_
   rintro _ _ ⟨v18, rfl, rfl⟩
   exact go
  exact go
 rintro ⟨l20, v19⟩ h
 replace h : Zfv l20 = some r := h
 unfold Zfv at h
 refine zw ?_
 refine AW.ret ?_
 rw [← Option.some.inj h]
 exact ⟨[C.val v19], _, Y21.refl _, (.cons (.tmp rfl) .nil), [0], _, _, rfl, ⟨v19, rfl, rfl⟩⟩
instance Zfy' (p0 : Y95) (p1 : List Int) : Sp Tryz.prog 143 [C.ip [C.int p0.graph.room, C.im Y97 9 p0.graph.events, C.im Y97 9 p0.graph.parked, C.imap .i64 Y9k p0.depth, C.imap .i64 Y9l p0.before, C.imap .i64 Y9l p0.after, C.imap .i64 Y9k p0.refused], C.im kI64 1 p1] (Zfx p0 p1) (fun r => C.im Y9g 1 r) := ⟨fun r h => Ok.freeze (Zfy p0 p1 r h) (by rintro c qs ⟨v21, rfl, rfl⟩; exact Frz.arr)⟩

def Zfz (l216 : List Y92) : Option (List Y92) := some l216
def Zg0 (x197 : Int) (l214 : List Y92) : Option ((List Y92 × Int) ⊕ ((List Y92))) := some (.inl (l214, (IntKind.i64.wrap (x197 + 1))))
def Zg1 (p0 : Y95) (r176 : List Y8x) (l196 : List Y92) (x197 : Int) : Option ((List Y92 × Int) ⊕ ((List Y92))) := cond (decide (x197 < (r176.length : Int))) ((getI r176 x197).bind fun e199 => (Zcx p0.graph l196 e199).bind fun r206 => cond (r206 == 0) ((Zd6 l196 (Y92.mk e199.kind e199.key e199.id)).bind fun r209 => Zg0 x197 r209) (Zg0 x197 l196)) (some (.inr l196))
def Zg2 (p0 : Y95) (l37 : List Y92) (l175 : List Y8x) : Option (List Y92) := (Y7x (fun z1 z2 => Zdg z1 z2 p0) l175).bind fun r176 => (iter (fun z218 => Zg1 p0 r176 z218.1 z218.2) big (l37, 0)).bind fun y219 => Zfz y219
def Zg3 (x113 : Int) (l172 : List Y8x) (m173 : List (Int × Bool)) : Option ((List Y8x × (List (Int × Bool)) × Int) ⊕ ((List Y8x))) := some (.inl (l172, m173, (IntKind.i64.wrap (x113 + 1))))
def Zg4 (x145 : Int) (l169 : List Y8x) (m170 : List (Int × Bool)) : Option ((List Y8x × (List (Int × Bool)) × Int) ⊕ ((List Y8x × (List (Int × Bool))))) := some (.inl (l169, m170, (IntKind.i64.wrap (x145 + 1))))
def Zg5 (l143 : List Y8x) (m144 : List (Int × Bool)) (x145 : Int) (e147 : Y92) (x155 : Int) (x156 : Int) (x157 : Int) (x158 : Int) (x159 : Int) (x160 : Int) (x161 : ByteArray) (l162 : List Int) (x163 : Int) : Option ((List Y8x × (List (Int × Bool)) × Int) ⊕ ((List Y8x × (List (Int × Bool))))) := (chk (decide ((l143.length + [(Y8x.mk x155 x156 x157 x158 x159 x160 x161 l162 x163)].length) * 96 ≤ 140737488355328))).bind fun u166 => Zg4 x145 (l143 ++ [(Y8x.mk x155 x156 x157 x158 x159 x160 x161 l162 x163)]) (mset m144 e147.id true)
def Zg6 (p0 : Y95) (e115 : List Y92) (l143 : List Y8x) (m144 : List (Int × Bool)) (x145 : Int) : Option ((List Y8x × (List (Int × Bool)) × Int) ⊕ ((List Y8x × (List (Int × Bool))))) := cond (decide (x145 < (e115.length : Int))) ((getI e115 x145).bind fun e147 => cond (Option.getD (mget m144 e147.id) false) (Zg4 x145 l143 m144) ((Zbf p0.graph e147.id).bind fun r151 => Zg5 l143 m144 x145 e147 r151.1.id r151.1.room r151.1.author r151.1.kind r151.1.key r151.1.n r151.1.text r151.1.prev r151.1.time)) (some (.inr (l143, m144)))
def Zg7 (p0 : Y95) (p1 : List (List Y92)) (l111 : List Y8x) (m112 : List (Int × Bool)) (x113 : Int) : Option ((List Y8x × (List (Int × Bool)) × Int) ⊕ ((List Y8x))) := cond (decide (x113 < (p1.length : Int))) ((getI p1 x113).bind fun e115 => (iter (fun z220 => Zg6 p0 e115 z220.1 z220.2.1 z220.2.2) big (l111, m112, 0)).bind fun (y221, y222) => Zg3 x113 y221 y222) (some (.inr l111))
def Zg8 (p0 : Y95) (p1 : List (List Y92)) (l37 : List Y92) (m49 : List (Int × Bool)) : Option (List Y92) := (iter (fun z223 => Zg7 p0 p1 z223.1 z223.2.1 z223.2.2) big (([] : List Y8x), m49, 0)).bind fun y224 => Zg2 p0 l37 y224
def Zg9 (l37 : List Y92) (m43 : List (Int × Bool)) (x44 : Int) : Option (((List (Int × Bool)) × Int) ⊕ ((List (Int × Bool)))) := cond (decide (x44 < (l37.length : Int))) ((getI l37 x44).bind fun e46 => some (.inl ((mset m43 e46.id true), (IntKind.i64.wrap (x44 + 1))))) (some (.inr m43))
def Zga (p0 : Y95) (p1 : List (List Y92)) (l37 : List Y92) : Option (List Y92) := (iter (fun z225 => Zg9 l37 z225.1 z225.2) big (([] : List (Int × Bool)), 0)).bind fun y226 => Zg8 p0 p1 l37 y226
def Zgb (x22 : Int) (l35 : List Y92) : Option ((List Y92 × Int) ⊕ ((List Y92))) := some (.inl (l35, (IntKind.i64.wrap (x22 + 1))))
def Zgc (p1 : List (List Y92)) (e5 : List Y92) (l21 : List Y92) (x22 : Int) : Option ((List Y92 × Int) ⊕ ((List Y92))) := cond (decide (x22 < (e5.length : Int))) ((getI e5 x22).bind fun e24 => (Zde p1 e24).bind fun r27 => cond r27 (Zgb x22 l21) ((chk (decide ((l21.length + [e24].length) * 24 ≤ 140737488355328))).bind fun u32 => Zgb x22 (l21 ++ [e24]))) (some (.inr l21))
def Zgd (p0 : Y95) (p1 : List (List Y92)) : Option (List Y92) := cond (decide ((p1.length : Int) > 0)) ((getI p1 0).bind fun e5 => (iter (fun z227 => Zgc p1 e5 z227.1 z227.2) big (([] : List Y92), 0)).bind fun y228 => Zga p0 p1 y228) (Zga p0 p1 ([] : List Y92))
set_option maxHeartbeats 1000000 in
theorem Zge (p0 : Y95) (p1 : List (List Y92)) (r : List Y92) (h : Zgd p0 p1 = some r) : Ok Tryz.prog 142 [C.ip [C.int p0.graph.room, C.im Y97 9 p0.graph.events, C.im Y97 9 p0.graph.parked, C.imap .i64 Y9k p0.depth, C.imap .i64 Y9l p0.before, C.imap .i64 Y9l p0.after, C.imap .i64 Y9k p0.refused], C.im Y9g 1 p1] [] (fun c qs => ∃ (v217 : Value), c = C.val v217 ∧ qs = [Obj.arr v217 106 Y9f 3 r]) := by
 refine Ok.of_body (rs := [.tmp 4]) Tryz.func142 rfl rfl rfl rfl rfl fun X => ?_
 unfold Zgd at h
 refine zw ?_
 refine Ops.h (ns := []) rfl rfl (Y1q rfl One.ip rfl) ?_
 rintro _ _ ⟨b1, rfl, rfl⟩
 refine zw ?_
 refine Ops.h (ns := []) rfl rfl (Y3a (k := Y9f) (ys := ([] : List Y92)) Ybm .nil rfl rfl rfl) ?_
 rintro _ _ ⟨b2, rfl, rfl⟩
 refine Ops.h (ns := []) rfl rfl (Y3a (k := Y97) (ys := ([] : List Y8x)) Yan .nil rfl rfl rfl) ?_
 rintro _ _ ⟨b3, rfl, rfl⟩
 refine Ops.v rfl (Yr rfl rfl) ?_
 refine Ops.v rfl (Yr rfl rfl) ?_
 refine Ops.nil ?_
 refine AW.seq ?_
 refine AW.cut (τ := List Y92 × Value) (fun (l37, v36) => ⟨[(1, C.im Y9g 1 p1), (2, pt b1), (5, C.val v36), (6, C.val (sv b3 0 0))], [Obj.box b1 186 [C.ip [C.int p0.graph.room, C.im Y97 9 p0.graph.events, C.im Y97 9 p0.graph.parked, C.imap .i64 Y9k p0.depth, C.imap .i64 Y9l p0.before, C.imap .i64 Y9l p0.after, C.imap .i64 Y9k p0.refused]], Obj.arr v36 106 Y9f 3 l37, Obj.arr (sv b3 0 0) 136 Y97 9 ([] : List Y8x)]⟩) (fun (l37, v36) => Zga p0 p1 l37 = some r) ?_ ?_
 ·
  refine zw ?_
  refine cnd h (fun hb4 h => ?_) fun hb4 h => ?_
  ·
   refine AW.ct hb4 rfl ?_
   refine zw ?_
   refine oi h fun e5 g6 h => ?_
   refine zw ?_
   refine AW.lp h (fun (l21, x22) (v20 : Value) => ⟨[(1, C.im Y9g 1 p1), (2, pt b1), (5, C.val v20), (6, C.val (sv b3 0 0)), (27, C.im Y9f 3 e5), (28, C.int (e5.length : Int)), (29, C.int x22)], [Obj.box b1 186 [C.ip [C.int p0.graph.room, C.im Y97 9 p0.graph.events, C.im Y97 9 p0.graph.parked, C.imap .i64 Y9k p0.depth, C.imap .i64 Y9l p0.before, C.imap .i64 Y9l p0.after, C.imap .i64 Y9k p0.refused]], Obj.arr v20 106 Y9f 3 l21, Obj.arr (sv b3 0 0) 136 Y97 9 ([] : List Y8x)]⟩) (gb [2, 1, 0]) ?_
   rintro ⟨l21, x22⟩ v20 y262 h
   refine zw ?_
   refine cnd h (fun hb23 h => ?_) fun hb23 h => ?_
   ·
    refine AW.ct hb23 rfl ?_
    refine zw ?_
    refine oi h fun e24 g25 h => ?_
    refine zw ?_
    refine Ops.h (ns := []) rfl rfl (Y1p (cs := [C.int 0, C.int 0, C.int 0]) Ybt (Y43 rfl rfl) rfl) ?_
    rintro _ _ ⟨b26, rfl, rfl⟩
    refine Ops.hd (ns := [0]) rfl rfl (Y1u (gs := [C.int e24.kind, C.int e24.key, C.int e24.id]) Ybn.h rfl rfl rfl rfl rfl) ?_
    refine zw ?_
    refine Ops.v rfl (Y6r rfl rfl) ?_
    refine ob' h fun r27 g28 h => ?_
    refine Ops.hd (ns := [0]) rfl rfl (Y24 (Zdf p1 e24 _ g28) rfl rfl) ?_
    refine zw ?_
    refine cnd h (fun hb29 h => go) fun hb29 h => ?_
    refine AW.cond rfl (fun _ => ?_) (fun hn => absurd ((Y3w hb29).symm.trans hn) (by decide))
    refine zw ?_
    refine Ops.h (ns := []) rfl rfl (Y3a (k := Y9f) (ys := [e24]) Ybm (.agg rfl rfl .nil) rfl rfl rfl) ?_
    rintro _ _ ⟨b30, rfl, rfl⟩
    refine ob' h fun u32 c31 h => ?_
    refine Ops.h (ns := [3, 0]) rfl rfl (Y2t Ybm rfl rfl (of_decide_eq_true (Y3u c31)) (Y3x (by decide) c31) rfl) ?_
    rintro _ _ ⟨v33, rfl, rfl⟩
    exact go
   exact go
  refine AW.cf hb4 rfl ?_
  refine zw ?_
  exact ⟨(([] : List Y92), (sv b2 0 0)), h, Y21.both (ns := [2, 1, 0]) rfl rfl⟩
 rintro ⟨l37, v36⟩ h
 replace h : Zga p0 p1 l37 = some r := h
 unfold Zga at h
 refine zw ?_
 refine Ops.h (ns := []) rfl rfl (Y6k (kd := .i64) (kc := Y9m) rfl) ?_
 rintro _ _ ⟨b38, rfl, rfl⟩
 refine Ops.v rfl (Yr rfl rfl) ?_
 refine Ops.nil ?_
 refine AW.seq ?_
 refine AW.cut (τ := (List (Int × Bool))) (fun m49 => ⟨[(1, C.im Y9g 1 p1), (2, pt b1), (5, C.val v36), (6, C.val (sv b3 0 0)), (9, mt b38)], [Obj.box b1 186 [C.ip [C.int p0.graph.room, C.im Y97 9 p0.graph.events, C.im Y97 9 p0.graph.parked, C.imap .i64 Y9k p0.depth, C.imap .i64 Y9l p0.before, C.imap .i64 Y9l p0.after, C.imap .i64 Y9k p0.refused]], Obj.arr v36 106 Y9f 3 l37, Obj.arr (sv b3 0 0) 136 Y97 9 ([] : List Y8x), Abs.Obj.map b38 .i64 Y9m m49]⟩) (fun m49 => Zg8 p0 p1 l37 m49 = some r) ?_ ?_
 ·
  refine AW.seq ?_
  refine AW.region ?_
  refine Ops.v rfl (Yq rfl rfl) ?_
  refine Ops.v rfl (Y2v (p := 2) Ybg.h rfl rfl rfl) ?_
  refine zw ?_
  refine AW.lp (v := ()) h (fun (m43, x44) (_ : Unit) => ⟨[(1, C.im Y9g 1 p1), (2, pt b1), (5, C.val v36), (6, C.val (sv b3 0 0)), (9, mt b38), (43, C.val v36), (44, C.int (l37.length : Int)), (45, C.int x44)], [Obj.box b1 186 [C.ip [C.int p0.graph.room, C.im Y97 9 p0.graph.events, C.im Y97 9 p0.graph.parked, C.imap .i64 Y9k p0.depth, C.imap .i64 Y9l p0.before, C.imap .i64 Y9l p0.after, C.imap .i64 Y9k p0.refused]], Obj.arr v36 106 Y9f 3 l37, Obj.arr (sv b3 0 0) 136 Y97 9 ([] : List Y8x), Abs.Obj.map b38 .i64 Y9m m43]⟩) (gb [1, 1, 1, 0]) ?_
  rintro ⟨m43, x44⟩ _ y255 h
  refine zw ?_
  refine cnd h (fun hb45 h => ?_) fun hb45 h => ?_
  ·
   refine AW.ct hb45 rfl ?_
   refine zw ?_
   refine ob' h fun e46 g47 h => ?_
   refine Ops.v rfl (Y2y (p := 1) Ybg.h rfl rfl rfl g47 rfl) ?_
   refine Ops.v rfl (Y32 (p := 1) Ybn.h rfl rfl (Y29 g47).2.2 rfl rfl rfl) ?_
   refine Ops.h (ns := []) rfl rfl (Y1p (cs := [C.int 0, C.int 0, C.int 0]) Ybt (Y43 rfl rfl) rfl) ?_
   rintro _ _ ⟨b48, rfl, rfl⟩
   refine Ops.hd (ns := [0]) rfl rfl (Y1u (gs := [C.int e46.kind, C.int e46.key, C.int e46.id]) Ybn.h rfl rfl rfl rfl rfl) ?_
   refine zw ?_
   refine Ops.hd (ns := [4]) rfl rfl (Y6n (kc := Y9m) (v := true) Yct rfl rfl rfl rfl) ?_
   refine zw ?_
   exact lu h (gb [2, 2, 2, 0])
  refine AW.cf hb45 rfl ?_
  refine AW.exit ?_
  refine lx h fun h => ?_
  exact ⟨m43, h, Y21.both (ns := [0, 0, 0, 0]) rfl rfl⟩
 intro m49 h
 replace h : Zg8 p0 p1 l37 m49 = some r := h
 unfold Zg8 at h
 refine AW.seq ?_
 refine AW.cut (τ := List Y8x × Value) (fun (l175, v174) => ⟨[(2, pt b1), (5, C.val v36), (6, C.val v174)], [Obj.box b1 186 [C.ip [C.int p0.graph.room, C.im Y97 9 p0.graph.events, C.im Y97 9 p0.graph.parked, C.imap .i64 Y9k p0.depth, C.imap .i64 Y9l p0.before, C.imap .i64 Y9l p0.after, C.imap .i64 Y9k p0.refused]], Obj.arr v36 106 Y9f 3 l37, Obj.arr v174 136 Y97 9 l175]⟩) (fun (l175, v174) => Zg2 p0 l37 l175 = some r) ?_ ?_
 ·
  refine zw ?_
  refine AW.lp h (fun (l111, m112, x113) (v110 : Value) => ⟨[(2, pt b1), (5, C.val v36), (6, C.val v110), (9, mt b38), (53, C.im Y9g 1 p1), (54, C.int (p1.length : Int)), (55, C.int x113)], [Obj.box b1 186 [C.ip [C.int p0.graph.room, C.im Y97 9 p0.graph.events, C.im Y97 9 p0.graph.parked, C.imap .i64 Y9k p0.depth, C.imap .i64 Y9l p0.before, C.imap .i64 Y9l p0.after, C.imap .i64 Y9k p0.refused]], Obj.arr v36 106 Y9f 3 l37, Obj.arr v110 136 Y97 9 l111, Abs.Obj.map b38 .i64 Y9m m112]⟩) (gb [0, 0, 0, 0]) ?_
  rintro ⟨l111, m112, x113⟩ v110 y241 h
  refine zw ?_
  refine cnd h (fun hb114 h => ?_) fun hb114 h => ?_
  ·
   refine AW.ct hb114 rfl ?_
   refine AW.skip ?_
   refine AW.seq ?_
   refine AW.cut (τ := List Y8x × (List (Int × Bool)) × Value) (fun (l172, m173, v171) => ⟨[(2, pt b1), (5, C.val v36), (6, C.val v171), (9, mt b38), (53, C.im Y9g 1 p1), (54, C.int (p1.length : Int)), (55, C.int x113)], [Obj.box b1 186 [C.ip [C.int p0.graph.room, C.im Y97 9 p0.graph.events, C.im Y97 9 p0.graph.parked, C.imap .i64 Y9k p0.depth, C.imap .i64 Y9l p0.before, C.imap .i64 Y9l p0.after, C.imap .i64 Y9k p0.refused]], Obj.arr v36 106 Y9f 3 l37, Obj.arr v171 136 Y97 9 l172, Abs.Obj.map b38 .i64 Y9m m173]⟩) (fun (l172, m173, v171) => Zg3 x113 l172 m173 = some y241) ?_ ?_
   ·
    refine zw ?_
    refine oi h fun e115 g116 h => ?_
    refine zw ?_
    refine AW.lp h (fun (l143, m144, x145) (v142 : Value) => ⟨[(2, pt b1), (5, C.val v36), (6, C.val v142), (9, mt b38), (53, C.im Y9g 1 p1), (54, C.int (p1.length : Int)), (55, C.int x113), (59, C.im Y9f 3 e115), (60, C.int (e115.length : Int)), (61, C.int x145)], [Obj.box b1 186 [C.ip [C.int p0.graph.room, C.im Y97 9 p0.graph.events, C.im Y97 9 p0.graph.parked, C.imap .i64 Y9k p0.depth, C.imap .i64 Y9l p0.before, C.imap .i64 Y9l p0.after, C.imap .i64 Y9k p0.refused]], Obj.arr v36 106 Y9f 3 l37, Obj.arr v142 136 Y97 9 l143, Abs.Obj.map b38 .i64 Y9m m144]⟩) (gb [0, 0, 0, 0]) ?_
    rintro ⟨l143, m144, x145⟩ v142 y248 h
    refine zw ?_
    refine cnd h (fun hb146 h => ?_) fun hb146 h => ?_
    ·
     refine AW.ct hb146 rfl ?_
     refine AW.skip ?_
     refine AW.seq ?_
     refine AW.cut (τ := List Y8x × (List (Int × Bool)) × Value) (fun (l169, m170, v168) => ⟨[(2, pt b1), (5, C.val v36), (6, C.val v168), (9, mt b38), (53, C.im Y9g 1 p1), (54, C.int (p1.length : Int)), (55, C.int x113), (59, C.im Y9f 3 e115), (60, C.int (e115.length : Int)), (61, C.int x145)], [Obj.box b1 186 [C.ip [C.int p0.graph.room, C.im Y97 9 p0.graph.events, C.im Y97 9 p0.graph.parked, C.imap .i64 Y9k p0.depth, C.imap .i64 Y9l p0.before, C.imap .i64 Y9l p0.after, C.imap .i64 Y9k p0.refused]], Obj.arr v36 106 Y9f 3 l37, Obj.arr v168 136 Y97 9 l169, Abs.Obj.map b38 .i64 Y9m m170]⟩) (fun (l169, m170, v168) => Zg4 x145 l169 m170 = some y248) ?_ ?_
     ·
      refine zw ?_
      refine oi h fun e147 g148 h => ?_
      refine zw ?_
      refine Ops.h (ns := []) rfl rfl (Y1p (cs := [C.int 0, C.int 0, C.int 0]) Ybt (Y43 rfl rfl) rfl) ?_
      rintro _ _ ⟨b149, rfl, rfl⟩
      refine Ops.hd (ns := [0]) rfl rfl (Y1u (gs := [C.int e147.kind, C.int e147.key, C.int e147.id]) Ybn.h rfl rfl rfl rfl rfl) ?_
      refine zw ?_
      refine Ops.v rfl (Y6m (p := 4) (kc := Y9m) (z0 := false) Yct zv_4 (fun _ _ => rfl) rfl rfl rfl rfl) ?_
      refine zw ?_
      refine cnd h (fun hb150 h => ?_) fun hb150 h => ?_
      ·
       refine AW.cond rfl (fun hn => absurd ((Y3v hb150).symm.trans hn) (by decide)) (fun _ => ?_)
       refine zw ?_
       exact ⟨(l143, m144, v142), h, Y21.both (ns := [1, 1, 1, 1]) rfl rfl⟩
      refine AW.cond rfl (fun _ => ?_) (fun hn => absurd ((Y3w hb150).symm.trans hn) (by decide))
      refine zw ?_
      refine Ops.hd (ns := [4]) rfl rfl (Y6n (kc := Y9m) (v := true) Yct rfl rfl rfl rfl) ?_
      refine Ops.nil ?_
      refine AW.seq ?_
      refine AW.cut (τ := Int × Int × Int × Int × Int × Int × ByteArray × List Int × Int × Nat) (fun (x155, x156, x157, x158, x159, x160, x161, l162, x163, b154) => ⟨[(2, pt b1), (5, C.val v36), (6, C.val v142), (9, mt b38), (16, pt b154), (53, C.im Y9g 1 p1), (54, C.int (p1.length : Int)), (55, C.int x113), (59, C.im Y9f 3 e115), (60, C.int (e115.length : Int)), (61, C.int x145)], [Obj.box b1 186 [C.ip [C.int p0.graph.room, C.im Y97 9 p0.graph.events, C.im Y97 9 p0.graph.parked, C.imap .i64 Y9k p0.depth, C.imap .i64 Y9l p0.before, C.imap .i64 Y9l p0.after, C.imap .i64 Y9k p0.refused]], Obj.arr v36 106 Y9f 3 l37, Obj.arr v142 136 Y97 9 l143, Abs.Obj.map b38 .i64 Y9m (mset m144 e147.id true), Obj.box b154 136 [C.int x155, C.int x156, C.int x157, C.int x158, C.int x159, C.int x160, C.str x161, C.im kI64 1 l162, C.int x163]]⟩) (fun (x155, x156, x157, x158, x159, x160, x161, l162, x163, b154) => Zg5 l143 m144 x145 e147 x155 x156 x157 x158 x159 x160 x161 l162 x163 = some y248) ?_ ?_
      ·
       refine AW.regionD (L := [0, 3, 5]) (Lt := [11]) (k := .light 0 true (.light 1 false (.light 2 false (.light 3 true (.light 4 false (.light 5 true (.two 6 10 (.light 7 false (.light 8 false (.light 9 false (.one 10 (.late 11 (.light 12 false .done)))))) (.one 6 (.light 7 false (.light 8 false (.light 9 false (.late 11 (.light 12 false .done))))))))))))) (ns := [0, 0, 0, 0, 0]) (by kernel_rfl) (by kernel_rfl) (by kernel_rfl) (by kernel_rfl) rfl ?_
       refine zw ?_
       refine ob' h fun r151 g152 h => ?_
       refine OpsD.two ?_ ?_
       ·
        refine Y3o.h (ns := []) rfl rfl rfl (Y24 ((Zbg _ _).h _ g152) rfl rfl) ?_
        rintro _ _ ⟨rfl, rfl⟩
        refine OpsD.v rfl rfl (Yq rfl rfl) ?_
        refine OpsD.v rfl rfl (Y13 rfl rfl rfl) ?_
        refine OpsD.v rfl rfl (Y13 rfl rfl rfl) ?_
        refine OpsD.one ?_
        refine Y3o.h (ns := []) rfl rfl rfl (Y1p (cs := [C.int 0, C.int 0, C.int 0, C.int 0, C.int 0, C.int 0, C.str ByteArray.empty, C.val s0, C.int 0]) Ya5 (Y43 rfl rfl) rfl) ?_
        rintro _ _ ⟨b153, rfl, rfl⟩
        refine OpsD.late (ns := [5]) rfl rfl rfl (Y1u (gs := [C.int r151.1.id, C.int r151.1.room, C.int r151.1.author, C.int r151.1.kind, C.int r151.1.key, C.int r151.1.n, C.str r151.1.text, C.im kI64 1 r151.1.prev, C.int r151.1.time]) Yam.h rfl rfl rfl rfl rfl) ?_
        rintro _ _ ⟨rfl, rfl⟩
        refine zw ?_
        exact ⟨(r151.1.id, r151.1.room, r151.1.author, r151.1.kind, r151.1.key, r151.1.n, r151.1.text, r151.1.prev, r151.1.time, b153), h, Y21.both (ns := [3, 3, 3, 1, 0]) rfl rfl⟩
       refine Y3o.h (ns := []) rfl rfl rfl (Y1p (cs := [C.int 0, C.int 0, C.int 0, C.int 0, C.int 0, C.int 0, C.str ByteArray.empty, C.val s0, C.int 0]) Ya5 (Y43 rfl rfl) rfl) ?_
       rintro _ _ ⟨b153, rfl, rfl⟩
       refine OpsD.one ?_
       refine Y3o.h (ns := []) rfl rfl rfl (Y24 ((Zbg _ _).h _ g152) rfl rfl) ?_
       rintro _ _ ⟨rfl, rfl⟩
       refine zw ?_
       refine OpsD.late (ns := [5]) rfl rfl rfl (Y1u (gs := [C.int r151.1.id, C.int r151.1.room, C.int r151.1.author, C.int r151.1.kind, C.int r151.1.key, C.int r151.1.n, C.str r151.1.text, C.im kI64 1 r151.1.prev, C.int r151.1.time]) Yam.h rfl rfl rfl rfl rfl) ?_
       rintro _ _ ⟨rfl, rfl⟩
       refine zw ?_
       exact ⟨(r151.1.id, r151.1.room, r151.1.author, r151.1.kind, r151.1.key, r151.1.n, r151.1.text, r151.1.prev, r151.1.time, b153), h, Y21.both (ns := [3, 3, 3, 1, 0]) rfl rfl⟩
      rintro ⟨x155, x156, x157, x158, x159, x160, x161, l162, x163, b154⟩ h
      replace h : Zg5 l143 m144 x145 e147 x155 x156 x157 x158 x159 x160 x161 l162 x163 = some y248 := h
      unfold Zg5 at h
      refine AW.region ?_
      refine Ops.v rfl (Yq rfl rfl) ?_
      refine Ops.v rfl (Y1l (p := 4) (ds := [C.int x155, C.int x156, C.int x157, C.int x158, C.int x159, C.int x160, C.str x161, C.im kI64 1 l162, C.int x163]) Yam.h rfl rfl rfl rfl rfl) ?_
      refine Ops.h (ns := []) rfl rfl (Y3a (k := Y97) (ys := [(Y8x.mk x155 x156 x157 x158 x159 x160 x161 l162 x163)]) Yan (.agg rfl rfl .nil) rfl rfl rfl) ?_
      rintro _ _ ⟨b164, rfl, rfl⟩
      refine ob' h fun u166 c165 h => ?_
      refine Ops.h (ns := [3, 0]) rfl rfl (Y2t Yan rfl rfl (of_decide_eq_true (Y3u c165)) (Y3x (by decide) c165) rfl) ?_
      rintro _ _ ⟨v167, rfl, rfl⟩
      refine zw ?_
      exact ⟨((l143 ++ [(Y8x.mk x155 x156 x157 x158 x159 x160 x161 l162 x163)]), (mset m144 e147.id true), v167), h, Y21.both (ns := [1, 1, 0, 0]) rfl rfl⟩
     rintro ⟨l169, m170, v168⟩ h
     replace h : Zg4 x145 l169 m170 = some y248 := h
     unfold Zg4 at h
     refine zw ?_
     exact le h (gb [0, 0, 0, 0])
    refine AW.cf hb146 rfl ?_
    refine AW.exit ?_
    refine lx h fun h => ?_
    exact ⟨(l143, m144, v142), h, Y21.both (ns := [0, 0, 0, 0]) rfl rfl⟩
   rintro ⟨l172, m173, v171⟩ h
   replace h : Zg3 x113 l172 m173 = some y241 := h
   unfold Zg3 at h
   refine zw ?_
   exact le h (gb [0, 0, 0, 0])
  exact go
 rintro ⟨l175, v174⟩ h
 replace h : Zg2 p0 l37 l175 = some r := h
 unfold Zg2 at h
 refine zw ?_
 refine Ops.v rfl (Y6r rfl rfl) ?_
 refine ob' h fun r176 g177 h => ?_
 refine Ops.hd (ns := [2, 0]) rfl rfl (Y88 (k := Y97) Y8v rfl rfl (Y87.clo rfl) (FrzT.cons (os := [_]) (Frz.box (FrzL.cons (os := []) (Frz.same _) FrzL.nil)) FrzT.nil) (fun z1 z2 r_ h_ => (Zdh z1 z2 p0).h r_ h_) g177 rfl) ?_
 refine Ops.nil ?_
 refine AW.seq ?_
 refine AW.cut (τ := List Y92 × Value) (fun (l216, v215) => ⟨[(5, C.val v215)], [Obj.arr v215 106 Y9f 3 l216]⟩) (fun (l216, v215) => Zfz l216 = some r) ?_ ?_
 ·
  refine zw ?_
  refine AW.lp h (fun (l196, x197) (v195 : Value) => ⟨[(2, pt b1), (5, C.val v195), (92, C.val v174), (93, C.int (r176.length : Int)), (94, C.int x197)], [Obj.box b1 186 [C.ip [C.int p0.graph.room, C.im Y97 9 p0.graph.events, C.im Y97 9 p0.graph.parked, C.imap .i64 Y9k p0.depth, C.imap .i64 Y9l p0.before, C.imap .i64 Y9l p0.after, C.imap .i64 Y9k p0.refused]], Obj.arr v195 106 Y9f 3 l196, Obj.arr v174 136 Y97 9 r176]⟩) (gb [1, 1, 0]) ?_
  rintro ⟨l196, x197⟩ v195 y234 h
  refine zw ?_
  refine cnd h (fun hb198 h => ?_) fun hb198 h => ?_
  ·
   refine AW.ct hb198 rfl ?_
   refine zw ?_
   refine ob' h fun e199 g200 h => ?_
   refine Ops.v rfl (Y2y (p := 2) Yaq.h rfl rfl rfl g200 rfl) ?_
   refine Ops.v rfl (Y32 (p := 2) Yam.h rfl rfl (Y29 g200).2.2 rfl rfl rfl) ?_
   refine Ops.h (ns := []) rfl rfl (Y1p (cs := [C.int 0, C.int 0, C.int 0, C.int 0, C.int 0, C.int 0, C.str ByteArray.empty, C.val s0, C.int 0]) Ya5 (Y43 rfl rfl) rfl) ?_
   rintro _ _ ⟨b201, rfl, rfl⟩
   refine Ops.hd (ns := [0]) rfl rfl (Y1u (gs := [C.int e199.id, C.int e199.room, C.int e199.author, C.int e199.kind, C.int e199.key, C.int e199.n, C.str e199.text, C.im kI64 1 e199.prev, C.int e199.time]) Yam.h rfl rfl rfl rfl rfl) ?_
   refine zw ?_
   refine AW.regionD (L := [0, 3, 5]) (Lt := []) (k := dec [1,3,6,10,12,16,20,21]) (ns := [0, 0, 1]) (by kernel_rfl) (by kernel_rfl) (by kernel_rfl) (by kernel_rfl) rfl ?_
   refine zw ?_
   refine ob' h fun r206 g207 h => ?_
   refine Y3o.h (ns := [0]) rfl rfl rfl (Y24 (Ok.lendE ((Zcy p0.graph l196 e199).h _ g207) (FrzT.cons (os := []) (Frz.same _) (FrzT.cons (os := [_]) Frz.arr (FrzT.cons (os := []) (Frz.same _) (FrzT.nil)))) (Y45.val _)) rfl rfl) ?_
   rintro _ _ ⟨rfl, rfl⟩
   refine zw ?_
   refine cnd h (fun hb208 h => ?_) fun hb208 h => ?_
   ·
    refine AW.ct hb208 rfl ?_
    refine zw ?_
    refine Ops.v rfl (Y39 (ds := [C.int e199.kind, C.int e199.key, C.int e199.id]) Ybs Ybt (Y43 rfl rfl) (.one rfl (One.val rfl) rfl rfl (.one rfl (One.val rfl) rfl rfl (.one rfl (One.val rfl) rfl rfl .nil))) rfl) ?_
    refine ob' h fun r209 g210 h => ?_
    refine Ops.h (ns := [3]) rfl rfl (Y23 (Ok.lend (Zd7 l196 (Y92.mk e199.kind e199.key e199.id) _ g210) (FrzT.cons (os := [_]) Frz.arr (FrzT.cons (os := []) (Frz.same _) (FrzT.nil))) (by rintro _ _ ⟨_, rfl, rfl⟩; exact ⟨(Y45.val _), Y49 (Y47.arr Ybr) (Y48)⟩)) rfl rfl) ?_
    rintro _ _ ⟨_, ⟨_, ⟨v211, rfl, rfl⟩, rfl⟩, rfl⟩
    exact go
   exact go
  exact go
 rintro ⟨l216, v215⟩ h
 replace h : Zfz l216 = some r := h
 unfold Zfz at h
 refine zw ?_
 refine AW.ret ?_
 rw [← Option.some.inj h]
 exact ⟨[C.val v215], _, Y21.refl _, (.cons (.tmp rfl) .nil), [0], _, _, rfl, ⟨v215, rfl, rfl⟩⟩
instance Zge' (p0 : Y95) (p1 : List (List Y92)) : Sp Tryz.prog 142 [C.ip [C.int p0.graph.room, C.im Y97 9 p0.graph.events, C.im Y97 9 p0.graph.parked, C.imap .i64 Y9k p0.depth, C.imap .i64 Y9l p0.before, C.imap .i64 Y9l p0.after, C.imap .i64 Y9k p0.refused], C.im Y9g 1 p1] (Zgd p0 p1) (fun r => C.im Y9f 3 r) := ⟨fun r h => Ok.freeze (Zge p0 p1 r h) (by rintro c qs ⟨v217, rfl, rfl⟩; exact Frz.arr)⟩

def Zgf (p0 : Y96) (p1 : Int) : Option Y95 := (getI p0.rooms (IntKind.i64.wrap (p1 - 1))).bind fun e1 => some e1
instance Zgg (p0 : Y96) (p1 : Int) : Sp Tryz.prog 138 [C.ip [C.im Y9c 3 p0.hub.rooms, C.im Y99 2 p0.hub.stream, C.im Y9n 1 p0.rooms], C.int p1] (Zgf p0 p1) (fun r => C.ip [C.int r.graph.room, C.im Y97 9 r.graph.events, C.im Y97 9 r.graph.parked, C.imap .i64 Y9k r.depth, C.imap .i64 Y9l r.before, C.imap .i64 Y9l r.after, C.imap .i64 Y9k r.refused]) := sp Tryz.func138 rfl rfl fun r X h => go

def Zgh (p0 : Y96) (p1 : Int) (l30 : List Int) : Option (List Y92) := (Zgf p0 p1).bind fun r31 => (Zft r31 l30).bind fun r33 => (Zfx r31 r33).bind fun r41 => (Zgd r31 r41).bind fun r44 => some r44
def Zgi (x17 : Int) (l28 : List Int) : Option ((List Int × Int) ⊕ ((List Int))) := some (.inl (l28, (IntKind.i64.wrap (x17 + 1))))
def Zgj (p1 : Int) (s2 : List Y8z) (l16 : List Int) (x17 : Int) : Option ((List Int × Int) ⊕ ((List Int))) := cond (decide (x17 < (s2.length : Int))) ((getI s2 x17).bind fun e19 => cond (e19.room == p1) ((chk (decide ((l16.length + [e19.id].length) * 8 ≤ 140737488355328))).bind fun u25 => Zgi x17 (l16 ++ [e19.id])) (Zgi x17 l16)) (some (.inr l16))
def Zgk (p0 : Y96) (p1 : Int) (p2 : Int) : Option (List Y92) := (Y28 p0.hub.stream 0 (if (p0.hub.stream.length : Int) < p2 then (p0.hub.stream.length : Int) else p2)).bind fun s2 => (iter (fun z49 => Zgj p1 s2 z49.1 z49.2) big (([] : List Int), 0)).bind fun y50 => Zgh p0 p1 y50
set_option maxHeartbeats 1000000 in
theorem Zgl (p0 : Y96) (p1 : Int) (p2 : Int) (r : List Y92) (h : Zgk p0 p1 p2 = some r) : Ok Tryz.prog 75 [C.ip [C.im Y9c 3 p0.hub.rooms, C.im Y99 2 p0.hub.stream, C.im Y9n 1 p0.rooms], C.int p1, C.int p2] [] (fun c qs => ∃ (v48 : Value), c = C.val v48 ∧ qs = [Obj.arr v48 106 Y9f 3 r]) := by
 refine Ok.of_body (rs := [.tmp 6]) Tryz.func75 rfl rfl rfl rfl rfl fun X => ?_
 unfold Zgk at h
 refine zw ?_
 refine Ops.h (ns := []) rfl rfl (Y3a (k := kI64) (ys := ([] : List Int)) Ya4 .nil rfl rfl rfl) ?_
 rintro _ _ ⟨b1, rfl, rfl⟩
 refine Ops.v rfl (Yr rfl rfl) ?_
 refine Ops.nil ?_
 refine AW.seq ?_
 refine AW.cut (τ := List Int × Value) (fun (l30, v29) => ⟨[(0, C.ip [C.im Y9c 3 p0.hub.rooms, C.im Y99 2 p0.hub.stream, C.im Y9n 1 p0.rooms]), (1, C.int p1), (7, C.val v29)], [Obj.arr v29 2 kI64 1 l30]⟩) (fun (l30, v29) => Zgh p0 p1 l30 = some r) ?_ ?_
 ·
  refine zw ?_
  refine AW.regionD (L := [4, 10]) (Lt := []) (k := dec [0,3,6,9,13,15,18,21,24,27,31,33,36,39,42,45]) (ns := [0]) (by kernel_rfl) (by kernel_rfl) (by kernel_rfl) (by kernel_rfl) rfl ?_
  refine zw ?_
  refine OpsD.v rfl rfl (Y2g rfl rfl rfl) ?_
  refine ob' h fun s2 g3 h => ?_
  refine OpsD.v rfl rfl (Y2m Yb9.h rfl rfl g3 rfl) ?_
  refine zw ?_
  refine AW.lp h (fun (l16, x17) (v15 : Value) => ⟨[(0, C.ip [C.im Y9c 3 p0.hub.rooms, C.im Y99 2 p0.hub.stream, C.im Y9n 1 p0.rooms]), (1, C.int p1), (7, C.val v15), (25, C.im Y99 2 s2), (26, C.int (s2.length : Int)), (27, C.int x17)], [Obj.arr v15 2 kI64 1 l16]⟩) (gb [0]) ?_
  rintro ⟨l16, x17⟩ v15 y56 h
  refine zw ?_
  refine cnd h (fun hb18 h => ?_) fun hb18 h => ?_
  ·
   refine AW.ct hb18 rfl ?_
   refine zw ?_
   refine oi h fun e19 g20 h => ?_
   refine zw ?_
   refine Ops.h (ns := []) rfl rfl (Y1p (cs := [C.int 0, C.int 0]) Yb1 (Y43 rfl rfl) rfl) ?_
   rintro _ _ ⟨b21, rfl, rfl⟩
   refine Ops.hd (ns := [0]) rfl rfl (Y1u (gs := [C.int e19.room, C.int e19.id]) Yb6.h rfl rfl rfl rfl rfl) ?_
   refine zw ?_
   refine cnd h (fun hb22 h => ?_) fun hb22 h => ?_
   ·
    refine AW.ct hb22 rfl ?_
    refine zw ?_
    refine Ops.h (ns := []) rfl rfl (Y3a (k := kI64) (ys := [e19.id]) Ya4 (.one rfl (One.val rfl) rfl rfl .nil) rfl rfl rfl) ?_
    rintro _ _ ⟨b23, rfl, rfl⟩
    refine ob' h fun u25 c24 h => ?_
    refine Ops.h (ns := [2, 0]) rfl rfl (Y2t Ya4 rfl rfl (of_decide_eq_true (Y3u c24)) (Y3x (by decide) c24) rfl) ?_
    rintro _ _ ⟨v26, rfl, rfl⟩
    exact go
   exact go
  exact go
 rintro ⟨l30, v29⟩ h
 replace h : Zgh p0 p1 l30 = some r := h
 unfold Zgh at h
 refine zw ?_
 refine oc h fun r31 g32 h => ?_
 refine zw ?_
 refine ob' h fun r33 g34 h => ?_
 refine Ops.h (ns := [0]) rfl rfl (Y23 (Ok.lend (Zfu r31 l30 _ g34) (FrzT.cons (os := []) (Frz.same _) (FrzT.cons (os := [_]) Frz.arr (FrzT.nil))) (by rintro _ _ ⟨_, rfl, rfl⟩; exact ⟨(Y45.val _), Y49 (Y47.arr Yao) (Y48)⟩)) rfl rfl) ?_
 rintro _ _ ⟨_, ⟨_, ⟨v35, rfl, rfl⟩, rfl⟩, rfl⟩
 refine ob' h fun r41 g42 h => ?_
 refine Ops.h (ns := [0]) rfl rfl (HOp.frz (t := 48) rfl Frz.arr (Y23 (Zfy _ _ _ g42) rfl rfl)) ?_
 rintro _ _ ⟨_, ⟨v43, rfl, rfl⟩, rfl⟩
 refine ob' h fun r44 g45 h => ?_
 refine Ops.h (ns := [0]) rfl rfl (Y23 (Ok.lend (Zge r31 r41 _ g45) (FrzT.cons (os := []) (Frz.same _) (FrzT.cons (os := [_]) Frz.arr (FrzT.nil))) (by rintro _ _ ⟨_, rfl, rfl⟩; exact ⟨(Y45.val _), Y49 (Y47.arr Ybr) (Y48)⟩)) rfl rfl) ?_
 rintro _ _ ⟨_, ⟨_, ⟨v46, rfl, rfl⟩, rfl⟩, rfl⟩
 refine zw ?_
 refine AW.ret ?_
 rw [← Option.some.inj h]
 exact ⟨[C.val v46], _, Y21.refl _, (.cons (.tmp rfl) .nil), [0], _, _, rfl, ⟨v46, rfl, rfl⟩⟩
instance Zgl' (p0 : Y96) (p1 : Int) (p2 : Int) : Sp Tryz.prog 75 [C.ip [C.im Y9c 3 p0.hub.rooms, C.im Y99 2 p0.hub.stream, C.im Y9n 1 p0.rooms], C.int p1, C.int p2] (Zgk p0 p1 p2) (fun r => C.im Y9f 3 r) := ⟨fun r h => Ok.freeze (Zgl p0 p1 p2 r h) (by rintro c qs ⟨v48, rfl, rfl⟩; exact Frz.arr)⟩

def Zgm (p1 : Int) (p2 : Int) (r2 : Y96 × Bool) (x8 : Bool) : Option (List Y92) := cond x8 (some []) ((Zgk r2.1 p1 p2).bind fun r10 => some r10)
def Zgn (p0 : Y91) (p1 : Int) (p2 : Int) : Option (List Y92) := (Zf5 p0).bind fun r2 => cond r2.2 ((Z7c p1).bind fun r5 => cond r5 (Zgm p1 p2 r2 (decide (p2 < 0))) (Zgm p1 p2 r2 true)) (some [])
set_option maxHeartbeats 1000000 in
theorem Zgo (p0 : Y91) (p1 : Int) (p2 : Int) (r : List Y92) (h : Zgn p0 p1 p2 = some r) : Ok Tryz.prog 16 [C.agg [C.im Y9c 3 p0.rooms, C.im Y99 2 p0.stream], C.int p1, C.int p2] [] (fun c qs => ∃ (v13 : Value), c = C.val v13 ∧ qs = [Obj.arr v13 106 Y9f 3 r]) := by
 refine Ok.of_body (rs := [.tmp 6]) Tryz.func16 rfl rfl rfl rfl rfl fun X => ?_
 unfold Zgn at h
 refine zw ?_
 refine ox fun b1 => ?_
 refine zw ?_
 refine ob' h fun r2 g3 h => ?_
 refine Ops.h (ns := []) rfl rfl (Y23 (Zf6 _ _ g3) rfl rfl) ?_
 rintro _ _ ⟨_, ⟨hb4, rfl, rfl⟩ | ⟨hb4, rfl, rfl⟩, rfl⟩
 ·
  replace h := Y3s hb4 h
  refine Ops.v rfl (Yq rfl rfl) ?_
  refine Ops.v rfl (Y13 rfl rfl rfl) ?_
  refine Ops.v rfl (Y13 rfl rfl rfl) ?_
  refine Ops.v rfl (Yr rfl rfl) ?_
  refine Ops.v rfl (Yr rfl rfl) ?_
  refine Ops.nil ?_
  refine AW.seq ?_
  refine AW.seq ?_
  refine AW.cut (τ := Bool) (fun x8 => ⟨[(1, C.int p1), (2, C.int p2), (7, C.ip [C.im Y9c 3 r2.1.hub.rooms, C.im Y99 2 r2.1.hub.stream, C.im Y9n 1 r2.1.rooms]), (24, C.bool x8)], []⟩) (fun x8 => Zgm p1 p2 r2 x8 = some r) ?_ ?_
  ·
   refine zw ?_
   refine ob' h fun r5 g6 h => ?_
   refine Ops.ghd (ns := []) rfl rfl rfl rfl (Y3v hb4) rfl (Y24 ((Z7d _).h _ g6) rfl rfl) ?_
   exact go
  intro x8 h
  replace h : Zgm p1 p2 r2 x8 = some r := h
  unfold Zgm at h
  refine cnd h (fun hb9 h => ?_) fun hb9 h => ?_
  ·
   refine AW.ct hb9 rfl ?_
   refine zw ?_
   refine AW.ret ?_
   rw [← Option.some.inj h]
   exact ⟨[C.val s0], _, Y21.nil 106 Y9f 3, (.cons (.tmp rfl) .nil), [0], _, _, rfl, ⟨s0, rfl, rfl⟩⟩
  refine AW.cf hb9 rfl ?_
  refine zw ?_
  refine ob' h fun r10 g11 h => ?_
  refine Ops.h (ns := []) rfl rfl (Y23 (Zgl _ _ _ _ g11) rfl rfl) ?_
  rintro _ _ ⟨_, ⟨v12, rfl, rfl⟩, rfl⟩
  refine zw ?_
  refine AW.ret ?_
  rw [← Option.some.inj h]
  exact ⟨[C.val v12], _, Y21.refl _, (.cons (.tmp rfl) .nil), [0], _, _, rfl, ⟨v12, rfl, rfl⟩⟩
 replace h := Y3t hb4 h
 refine zw ?_
 refine AW.cond rfl (fun _ => ?_) (fun hn => absurd hn (by decide))
 refine zw ?_
 refine AW.ret ?_
 rw [← Option.some.inj h]
 exact ⟨[C.val s0], _, Y21.nil 106 Y9f 3, (.cons (.tmp rfl) .nil), [0], _, _, rfl, ⟨s0, rfl, rfl⟩⟩
instance Zgo' (p0 : Y91) (p1 : Int) (p2 : Int) : Sp Tryz.prog 16 [C.agg [C.im Y9c 3 p0.rooms, C.im Y99 2 p0.stream], C.int p1, C.int p2] (Zgn p0 p1 p2) (fun r => C.im Y9f 3 r) := ⟨fun r h => Ok.freeze (Zgo p0 p1 p2 r h) (by rintro c qs ⟨v13, rfl, rfl⟩; exact Frz.arr)⟩

def Zgp (p0 : Y92) (p1 : Y92) : Option Bool := cond (p0.kind != p1.kind) (some false) (cond (p0.key != p1.key) (some false) (cond (p0.id != p1.id) (some false) (some true)))
set_option maxHeartbeats 1000000 in
instance Zgq (p0 : Y92) (p1 : Y92) : Sp Tryz.prog 76 [C.agg [C.int p0.kind, C.int p0.key, C.int p0.id], C.agg [C.int p1.kind, C.int p1.key, C.int p1.id]] (Zgp p0 p1) C.bool := sp Tryz.func76 rfl rfl fun r X h => go

def Zgr : Option Bool := some true
def Zgs (p0 : List Y92) (p1 : List Y92) (x10 : Int) : Option (Int ⊕ (Bool ⊕ Unit)) := cond (decide (x10 < (p0.length : Int))) ((getI p0 x10).bind fun e12 => (getI p1 x10).bind fun e14 => (Zgp e12 e14).bind fun r16 => cond r16 (some (.inl (IntKind.i64.wrap (x10 + 1)))) (some (.inr (.inl false)))) (some (.inr (.inr ())))
def Zgt (p0 : List Y92) (p1 : List Y92) : Option Bool := cond ((p0.length : Int) != (p1.length : Int)) (some false) ((iter (Zgs p0 p1) big 0).bind (fun z20 => match z20 with | .inl y19 => some y19 | .inr () => Zgr))
set_option maxHeartbeats 1000000 in
instance Zgu (p0 : List Y92) (p1 : List Y92) : Sp Tryz.prog 17 [C.im Y9f 3 p0, C.im Y9f 3 p1] (Zgt p0 p1) C.bool := sp Tryz.func17 rfl rfl fun r X h => by
 unfold Zgt at h
 refine zw ?_
 refine cnd h (fun hb1 h => go) fun hb1 h => ?_
 refine AW.cf hb1 rfl ?_
 refine zw ?_
 refine AW.lp (v := ()) h (fun x10 (_ : Unit) => ⟨[(0, C.im Y9f 3 p0), (1, C.im Y9f 3 p1), (5, C.int x10)], []⟩) (gb []) ?_
 rintro x10 _ y26 h
 refine zw ?_
 refine cnd h (fun hb11 h => ?_) fun hb11 h => ?_
 ·
  refine AW.ct hb11 rfl ?_
  refine zw ?_
  refine AW.regionD (L := [3, 7]) (Lt := []) (k := dec [0,3,6,10,12,15,18,22,26,27]) (ns := []) (by kernel_rfl) (by kernel_rfl) (by kernel_rfl) (by kernel_rfl) rfl ?_
  exact go
 exact go

def Zgv : Option Bool := some true
def Zgw (p0 : List Int) (p1 : List Int) (x8 : Int) : Option (Int ⊕ (Bool ⊕ Unit)) := cond (decide (x8 < (p0.length : Int))) ((getI p0 x8).bind fun e10 => (getI p1 x8).bind fun e12 => cond (e10 != e12) (some (.inr (.inl false))) (some (.inl (IntKind.i64.wrap (x8 + 1))))) (some (.inr (.inr ())))
def Zgx (p0 : List Int) (p1 : List Int) : Option Bool := cond ((p0.length : Int) != (p1.length : Int)) (some false) ((iter (Zgw p0 p1) big 0).bind (fun z16 => match z16 with | .inl y15 => some y15 | .inr () => Zgv))
set_option maxHeartbeats 1000000 in
instance Zgy (p0 : List Int) (p1 : List Int) : Sp Tryz.prog 35 [C.im kI64 1 p0, C.im kI64 1 p1] (Zgx p0 p1) C.bool := sp Tryz.func35 rfl rfl fun r X h => by
 unfold Zgx at h
 refine zw ?_
 refine cnd h (fun hb1 h => go) fun hb1 h => ?_
 refine AW.cf hb1 rfl ?_
 refine zw ?_
 refine AW.lp (v := ()) h (fun x8 (_ : Unit) => ⟨[(0, C.im kI64 1 p0), (1, C.im kI64 1 p1), (5, C.int x8)], []⟩) (gb []) ?_
 rintro x8 _ y22 h
 refine zw ?_
 refine cnd h (fun hb9 h => ?_) fun hb9 h => ?_
 ·
  refine AW.ct hb9 rfl ?_
  refine zw ?_
  refine AW.regionD (L := [3, 7]) (Lt := []) (k := dec [0,3,6,10,12,15,18,22,24]) (ns := []) (by kernel_rfl) (by kernel_rfl) (by kernel_rfl) (by kernel_rfl) rfl ?_
  exact go
 exact go

def Zgz (p0 : Y8x) (p1 : Y8x) : Option Bool := cond (p0.id != p1.id) (some false) (cond (p0.room != p1.room) (some false) (cond (p0.author != p1.author) (some false) (cond (p0.kind != p1.kind) (some false) (cond (p0.key != p1.key) (some false) (cond (p0.n != p1.n) (some false) (cond (p0.text.toList == p1.text.toList) ((Zgx p0.prev p1.prev).bind fun r10 => cond r10 (cond (p0.time != p1.time) (some false) (some true)) (some false)) (some false)))))))
set_option maxHeartbeats 1000000 in
instance Zh0 (p0 : Y8x) (p1 : Y8x) : Sp Tryz.prog 173 [C.agg [C.int p0.id, C.int p0.room, C.int p0.author, C.int p0.kind, C.int p0.key, C.int p0.n, C.str p0.text, C.im kI64 1 p0.prev, C.int p0.time], C.agg [C.int p1.id, C.int p1.room, C.int p1.author, C.int p1.kind, C.int p1.key, C.int p1.n, C.str p1.text, C.im kI64 1 p1.prev, C.int p1.time]] (Zgz p0 p1) C.bool := sp Tryz.func173 rfl rfl fun r X h => go

def Zh1 : Option Bool := some true
def Zh2 (p0 : List Y8x) (p1 : List Y8x) (x10 : Int) : Option (Int ⊕ (Bool ⊕ Unit)) := cond (decide (x10 < (p0.length : Int))) ((getI p0 x10).bind fun e12 => (getI p1 x10).bind fun e14 => (Zgz e12 e14).bind fun r16 => cond r16 (some (.inl (IntKind.i64.wrap (x10 + 1)))) (some (.inr (.inl false)))) (some (.inr (.inr ())))
def Zh3 (p0 : List Y8x) (p1 : List Y8x) : Option Bool := cond ((p0.length : Int) != (p1.length : Int)) (some false) ((iter (Zh2 p0 p1) big 0).bind (fun z20 => match z20 with | .inl y19 => some y19 | .inr () => Zh1))
set_option maxHeartbeats 1000000 in
instance Zh4 (p0 : List Y8x) (p1 : List Y8x) : Sp Tryz.prog 209 [C.im Y97 9 p0, C.im Y97 9 p1] (Zh3 p0 p1) C.bool := sp Tryz.func209 rfl rfl fun r X h => by
 unfold Zh3 at h
 refine zw ?_
 refine cnd h (fun hb1 h => go) fun hb1 h => ?_
 refine AW.cf hb1 rfl ?_
 refine zw ?_
 refine AW.lp (v := ()) h (fun x10 (_ : Unit) => ⟨[(0, C.im Y97 9 p0), (1, C.im Y97 9 p1), (5, C.int x10)], []⟩) (gb []) ?_
 rintro x10 _ y26 h
 refine zw ?_
 refine cnd h (fun hb11 h => ?_) fun hb11 h => ?_
 ·
  refine AW.ct hb11 rfl ?_
  refine zw ?_
  refine AW.regionD (L := [3, 7]) (Lt := []) (k := dec [0,3,6,10,12,15,18,22,26,27]) (ns := []) (by kernel_rfl) (by kernel_rfl) (by kernel_rfl) (by kernel_rfl) rfl ?_
  exact go
 exact go

def Zh5 (p0 : Y90) (p1 : Y90) : Option Bool := cond (p0.room != p1.room) (some false) ((Zh3 p0.events p1.events).bind fun r4 => cond r4 ((Zh3 p0.parked p1.parked).bind fun r7 => cond r7 (some true) (some false)) (some false))
set_option maxHeartbeats 1000000 in
instance Zh6 (p0 : Y90) (p1 : Y90) : Sp Tryz.prog 145 [C.agg [C.int p0.room, C.im Y97 9 p0.events, C.im Y97 9 p0.parked], C.agg [C.int p1.room, C.im Y97 9 p1.events, C.im Y97 9 p1.parked]] (Zh5 p0 p1) C.bool := sp Tryz.func145 rfl rfl fun r X h => go

def Zh7 : Option Bool := some true
def Zh8 (p0 : List Y90) (p1 : List Y90) (x10 : Int) : Option (Int ⊕ (Bool ⊕ Unit)) := cond (decide (x10 < (p0.length : Int))) ((getI p0 x10).bind fun e12 => (getI p1 x10).bind fun e14 => (Zh5 e12 e14).bind fun r16 => cond r16 (some (.inl (IntKind.i64.wrap (x10 + 1)))) (some (.inr (.inl false)))) (some (.inr (.inr ())))
def Zh9 (p0 : List Y90) (p1 : List Y90) : Option Bool := cond ((p0.length : Int) != (p1.length : Int)) (some false) ((iter (Zh8 p0 p1) big 0).bind (fun z20 => match z20 with | .inl y19 => some y19 | .inr () => Zh7))
set_option maxHeartbeats 1000000 in
instance Zha (p0 : List Y90) (p1 : List Y90) : Sp Tryz.prog 77 [C.im Y9c 3 p0, C.im Y9c 3 p1] (Zh9 p0 p1) C.bool := sp Tryz.func77 rfl rfl fun r X h => by
 unfold Zh9 at h
 refine zw ?_
 refine cnd h (fun hb1 h => go) fun hb1 h => ?_
 refine AW.cf hb1 rfl ?_
 refine zw ?_
 refine AW.lp (v := ()) h (fun x10 (_ : Unit) => ⟨[(0, C.im Y9c 3 p0), (1, C.im Y9c 3 p1), (5, C.int x10)], []⟩) (gb []) ?_
 rintro x10 _ y26 h
 refine zw ?_
 refine cnd h (fun hb11 h => ?_) fun hb11 h => ?_
 ·
  refine AW.ct hb11 rfl ?_
  refine zw ?_
  refine AW.regionD (L := [3, 7]) (Lt := []) (k := dec [0,3,6,10,12,15,18,22,26,27]) (ns := []) (by kernel_rfl) (by kernel_rfl) (by kernel_rfl) (by kernel_rfl) rfl ?_
  exact go
 exact go

def Zhb (p0 : Y8z) (p1 : Y8z) : Option Bool := cond (p0.room != p1.room) (some false) (cond (p0.id != p1.id) (some false) (some true))
set_option maxHeartbeats 1000000 in
instance Zhc (p0 : Y8z) (p1 : Y8z) : Sp Tryz.prog 118 [C.agg [C.int p0.room, C.int p0.id], C.agg [C.int p1.room, C.int p1.id]] (Zhb p0 p1) C.bool := sp Tryz.func118 rfl rfl fun r X h => go

def Zhd : Option Bool := some true
def Zhe (p0 : List Y8z) (p1 : List Y8z) (x10 : Int) : Option (Int ⊕ (Bool ⊕ Unit)) := cond (decide (x10 < (p0.length : Int))) ((getI p0 x10).bind fun e12 => (getI p1 x10).bind fun e14 => (Zhb e12 e14).bind fun r16 => cond r16 (some (.inl (IntKind.i64.wrap (x10 + 1)))) (some (.inr (.inl false)))) (some (.inr (.inr ())))
def Zhf (p0 : List Y8z) (p1 : List Y8z) : Option Bool := cond ((p0.length : Int) != (p1.length : Int)) (some false) ((iter (Zhe p0 p1) big 0).bind (fun z20 => match z20 with | .inl y19 => some y19 | .inr () => Zhd))
set_option maxHeartbeats 1000000 in
instance Zhg (p0 : List Y8z) (p1 : List Y8z) : Sp Tryz.prog 51 [C.im Y99 2 p0, C.im Y99 2 p1] (Zhf p0 p1) C.bool := sp Tryz.func51 rfl rfl fun r X h => by
 unfold Zhf at h
 refine zw ?_
 refine cnd h (fun hb1 h => go) fun hb1 h => ?_
 refine AW.cf hb1 rfl ?_
 refine zw ?_
 refine AW.lp (v := ()) h (fun x10 (_ : Unit) => ⟨[(0, C.im Y99 2 p0), (1, C.im Y99 2 p1), (5, C.int x10)], []⟩) (gb []) ?_
 rintro x10 _ y26 h
 refine zw ?_
 refine cnd h (fun hb11 h => ?_) fun hb11 h => ?_
 ·
  refine AW.ct hb11 rfl ?_
  refine zw ?_
  refine AW.regionD (L := [3, 7]) (Lt := []) (k := dec [0,3,6,10,12,15,18,22,26,27]) (ns := []) (by kernel_rfl) (by kernel_rfl) (by kernel_rfl) (by kernel_rfl) rfl ?_
  exact go
 exact go

def Zhh (p0 : Y91) (p1 : Y91) : Option Bool := (Zh9 p0.rooms p1.rooms).bind fun r3 => cond r3 ((Zhf p0.stream p1.stream).bind fun r6 => cond r6 (some true) (some false)) (some false)
set_option maxHeartbeats 1000000 in
instance Zhi (p0 : Y91) (p1 : Y91) : Sp Tryz.prog 18 [C.agg [C.im Y9c 3 p0.rooms, C.im Y99 2 p0.stream], C.agg [C.im Y9c 3 p1.rooms, C.im Y99 2 p1.stream]] (Zhh p0 p1) C.bool := sp Tryz.func18 rfl rfl fun r X h => go

def Zhj (x12 : ByteArray) : Option ByteArray := (chk (decide ((ByteArray.mk #[109]).size + x12.size ≤ 9223372036854775807))).bind fun u14 => some ((ByteArray.mk #[109]) ++ x12)
def Zhk (x6 : Int) (x7 : ByteArray) : Option ((Int × ByteArray) ⊕ (ByteArray)) := cond (decide (x6 > 0)) ((chk (decide ((Y6x [(IntKind.u8.wrap (IntKind.i64.wrap (48 + (Int.tmod x6 10))))]).size + x7.size ≤ 9223372036854775807))).bind fun u11 => some (.inl ((IntKind.i64.wrap (Int.tdiv x6 10)), ((Y6x [(IntKind.u8.wrap (IntKind.i64.wrap (48 + (Int.tmod x6 10))))]) ++ x7)))) (some (.inr x7))
def Zhl (p0 : Int) : Option ByteArray := cond (decide (p0 ≤ 0)) (some (ByteArray.mk #[109, 48])) ((iter (fun z15 => Zhk z15.1 z15.2) big (p0, ByteArray.empty)).bind fun y16 => Zhj y16)
set_option maxHeartbeats 1000000 in
instance Zhm (p0 : Int) : Sp Tryz.prog 125 [C.int p0] (Zhl p0) C.str := sp Tryz.func125 rfl rfl fun r X h => by
 unfold Zhl at h
 refine zw ?_
 refine cnd h (fun hb1 h => go) fun hb1 h => ?_
 refine AW.cf hb1 rfl ?_
 refine AW.skip ?_
 refine AW.seq ?_
 refine AW.region ?_
 refine Ops.v rfl (Yr rfl rfl) ?_
 refine Ops.nil ?_
 refine AW.seq ?_
 refine AW.cut (τ := ByteArray) (fun x12 => ⟨[(3, C.str x12)], []⟩) (fun x12 => Zhj x12 = some r) ?_ ?_
 ·
  refine zw ?_
  refine AW.lp (v := ()) h (fun (x6, x7) (_ : Unit) => ⟨[(0, C.int x6), (3, C.str x7)], []⟩) (gb []) ?_
  rintro ⟨x6, x7⟩ _ y22 h
  refine zw ?_
  refine cnd h (fun hb8 h => ?_) fun hb8 h => ?_
  ·
   refine AW.ct hb8 rfl ?_
   refine zw ?_
   refine Ops.v rfl (Yw rfl rfl (by decide) rfl) ?_
   refine zw ?_
   refine Ops.v rfl (Y12 un_3 un_5 rfl rfl) ?_
   refine Ops.h (ns := []) rfl rfl (Y3a (k := kU8) (ys := [(IntKind.u8.wrap (IntKind.i64.wrap (48 + (Int.tmod x6 10))))]) Ydf (.one rfl (One.val rfl) rfl rfl .nil) rfl rfl rfl) ?_
   rintro _ _ ⟨b9, rfl, rfl⟩
   refine Ops.v rfl (Y71 (p := 0) Ydg un_9 (fun _ => rfl) rfl rfl rfl) ?_
   refine zw ?_
   refine ob' h fun u11 c10 h => ?_
   refine Ops.v rfl (Y72 rfl rfl (of_decide_eq_true (Y3u c10)) rfl) ?_
   refine zw ?_
   refine Ops.v rfl (Yx rfl rfl (by decide) rfl) ?_
   exact go
  exact go
 intro x12 h
 replace h : Zhj x12 = some r := h
 unfold Zhj at h
 refine zw ?_
 refine ob' h fun u14 c13 h => ?_
 refine Ops.v rfl (Y72 rfl rfl (of_decide_eq_true (Y3u c13)) rfl) ?_
 exact go

def Zhn (x10 : Int) (l11 : List Int) : Option (Int × List Int) := some (x10, l11)
def Zho (l4 : List Int) (x5 : Int) (x6 : Int) : Option ((List Int × Int × Int) ⊕ ((Int × List Int))) := cond (decide (x6 < (l4.length : Int))) ((getI l4 x6).bind fun e8 => some (.inl ((List.set l4 (Int.toNat x6) x5), (IntKind.i64.wrap (x5 + 1)), (IntKind.i64.wrap (x6 + 1))))) (some (.inr (x5, l4)))
def Zhp (p0 : List Int) (p1 : Int) : Option (Int × List Int) := (iter (fun z12 => Zho z12.1 z12.2.1 z12.2.2) big (p0, p1, 0)).bind fun (y13, y14) => Zhn y13 y14
set_option maxHeartbeats 1000000 in
theorem Zhq {w00 : Value} (p0 : List Int) (p1 : Int) (r : Int × List Int) (h : Zhp p0 p1 = some r) : Ok Tryz.prog 36 [C.val w00, C.int p1] [Obj.arr w00 2 kI64 1 p0] (fun c qs => c = C.int r.1 ∧ qs = [Obj.arr w00 2 kI64 1 r.2]) := by
 refine Ok.of_body (rs := [.tmp 4]) Tryz.func36 rfl rfl rfl rfl rfl fun X => ?_
 unfold Zhp at h
 refine AW.seq ?_
 refine AW.region ?_
 refine Ops.v rfl (Yr rfl rfl) ?_
 refine Ops.nil ?_
 refine AW.seq ?_
 refine AW.cut (τ := Int × List Int) (fun (x10, l11) => ⟨[(1, C.int x10)], [Obj.arr w00 2 kI64 1 l11]⟩) (fun (x10, l11) => Zhn x10 l11 = some r) ?_ ?_
 ·
  refine zw ?_
  refine AW.lp (v := ()) h (fun (l4, x5, x6) (_ : Unit) => ⟨[(0, C.val w00), (1, C.int x5), (5, C.int x6)], [Obj.arr w00 2 kI64 1 l4]⟩) (gb [0]) ?_
  rintro ⟨l4, x5, x6⟩ _ y20 h
  refine zw ?_
  refine cnd h (fun hb7 h => ?_) fun hb7 h => ?_
  ·
   refine AW.ct hb7 rfl ?_
   refine zw ?_
   refine oi h fun e8 g9 h => ?_
   refine Ops.hd (ns := [0]) rfl rfl (Y34 (e' := x5) ld_2.h rfl rfl (One.val rfl) (Y29 g9).2.2 rfl rfl) ?_
   exact go
  exact go
 rintro ⟨x10, l11⟩ h
 replace h : Zhn x10 l11 = some r := h
 unfold Zhn at h
 refine zw ?_
 refine AW.ret ?_
 rw [← Option.some.inj h]
 exact ⟨[C.int x10], _, Y21.refl _, (.cons (.tmp rfl) .nil), [0], _, _, rfl, ⟨rfl, rfl⟩⟩

end Go.Proofs.YtbgichfjcnibpaaGreat
