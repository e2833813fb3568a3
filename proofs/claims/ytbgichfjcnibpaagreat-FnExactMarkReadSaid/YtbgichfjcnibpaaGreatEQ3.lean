/- Printed by gen.py: plain functions for Go functions, and that the walks keep to them. -/
import Derived.Test.YtbgichfjcnibpaaGreatEQ2
set_option autoImplicit false
set_option linter.unusedVariables false
set_option linter.unusedSimpArgs false
set_option maxRecDepth 100000
namespace Go.Proofs.YtbgichfjcnibpaaGreat
open Go Go.Abs
attribute [local irreducible] AW Ops OpsD Y3n
def Z5u (l164 : List Int) : Option (List Int) := some l164
def Z5v (x79 : Int) (l162 : List Int) : Option ((List Int × Int) ⊕ ((List Int))) := some (.inl (l162, (IntKind.i64.wrap (x79 + 1))))
def Z5w (p0 : Y90) (l78 : List Int) (x79 : Int) (x153 : Bool) : Option ((List Int × Int) ⊕ ((List Int))) := cond x153 ((getI p0.events x79).bind fun e155 => (chk (decide ((l78.length + [e155.id].length) * 8 ≤ 140737488355328))).bind fun u159 => Z5v x79 (l78 ++ [e155.id])) (Z5v x79 l78)
def Z5x (x118 : Int) (x152 : Bool) : Option ((Bool × Int) ⊕ (Bool)) := some (.inl (x152, (IntKind.i64.wrap (x118 + 1))))
def Z5y (x136 : Int) (x151 : Bool) : Option ((Bool × Int) ⊕ (Bool)) := some (.inl (x151, (IntKind.i64.wrap (x136 + 1))))
def Z5z (p0 : Y90) (x79 : Int) (x118 : Int) (x135 : Bool) (x136 : Int) (x142 : Bool) : Option ((Bool × Int) ⊕ (Bool)) := cond x142 (cond x135 ((getI p0.events x118).bind fun e145 => (getI e145.prev x136).bind fun e147 => (getI p0.events x79).bind fun e149 => Z5y x136 (e147 != e149.id)) (Z5y x136 false)) (some (.inr x135))
def Z60 (p0 : Y90) (p1 : List Bool) (x79 : Int) (x118 : Int) (x135 : Bool) (x136 : Int) : Option ((Bool × Int) ⊕ (Bool)) := (getI p1 x118).bind fun e137 => cond e137 ((getI p0.events x118).bind fun e140 => Z5z p0 x79 x118 x135 x136 (decide (x136 < (e140.prev.length : Int)))) (Z5z p0 x79 x118 x135 x136 false)
def Z61 (p0 : Y90) (p1 : List Bool) (x79 : Int) (x117 : Bool) (x118 : Int) : Option ((Bool × Int) ⊕ (Bool)) := cond (decide (x118 < (p0.events.length : Int))) ((iter (fun z166 => Z60 p0 p1 x79 x118 z166.1 z166.2) big (x117, 0)).bind fun y167 => Z5x x118 y167) (some (.inr x117))
def Z62 (p0 : Y90) (p1 : List Bool) (l78 : List Int) (x79 : Int) : Option ((List Int × Int) ⊕ ((List Int))) := cond (decide (x79 < (p0.events.length : Int))) ((getI p1 x79).bind fun e81 => (iter (fun z168 => Z61 p0 p1 x79 z168.1 z168.2) big (e81, 0)).bind fun y169 => Z5w p0 l78 x79 y169) (some (.inr l78))
def Z63 (p0 : Y90) (p1 : List Bool) : Option (List Int) := (iter (fun z170 => Z62 p0 p1 z170.1 z170.2) big (([] : List Int), 0)).bind fun y171 => Z5u y171
set_option maxHeartbeats 1000000 in
theorem Z64 (p0 : Y90) (p1 : List Bool) (r : List Int) (h : Z63 p0 p1 = some r) : Ok Tryz.prog 181 [C.agg [C.int p0.room, C.im Y98 9 p0.events, C.im Y98 9 p0.parked], C.im Y9i 1 p1] [] (fun c qs => ∃ (v165 : Value), c = C.val v165 ∧ qs = [Obj.arr v165 2 kI64 1 r]) := by
 refine Ok.of_body (rs := [.tmp 4]) Tryz.func181 rfl rfl rfl rfl rfl fun X => ?_
 unfold Z63 at h
 refine zw ?_
 refine ox fun b1 => ?_
 refine zw ?_
 refine Ops.h (ns := []) rfl rfl (Y39 (k := kI64) (ys := ([] : List Int)) Ya6 .nil rfl rfl rfl) ?_
 rintro _ _ ⟨b2, rfl, rfl⟩
 refine Ops.v rfl (Yr rfl rfl) ?_
 refine Ops.nil ?_
 refine AW.seq ?_
 refine AW.cut (τ := List Int × Value) (fun (l164, v163) => ⟨[(5, C.val v163)], [Obj.arr v163 2 kI64 1 l164]⟩) (fun (l164, v163) => Z5u l164 = some r) ?_ ?_
 ·
  refine zw ?_
  refine AW.lp h (fun (l78, x79) (v77 : Value) => ⟨[(1, C.im Y9i 1 p1), (2, pt b1), (5, C.val v77), (6, C.int x79)], [Obj.box b1 139 [C.int p0.room, C.im Y98 9 p0.events, C.im Y98 9 p0.parked], Obj.arr v77 2 kI64 1 l78]⟩) (gb [1, 0]) ?_
  rintro ⟨l78, x79⟩ v77 y177 h
  refine zw ?_
  refine cnd h (fun hb80 h => ?_) fun hb80 h => ?_
  ·
   refine AW.ct hb80 rfl ?_
   refine zw ?_
   refine oi h fun e81 g82 h => ?_
   refine Ops.v rfl (Y1h ld_4.h rfl rfl) ?_
   refine Ops.v rfl (Yr rfl rfl) ?_
   refine Ops.nil ?_
   refine AW.seq ?_
   refine AW.cut (τ := Bool) (fun x153 => ⟨[(1, C.im Y9i 1 p1), (2, pt b1), (5, C.val v77), (6, C.int x79), (7, C.bool x153)], [Obj.box b1 139 [C.int p0.room, C.im Y98 9 p0.events, C.im Y98 9 p0.parked], Obj.arr v77 2 kI64 1 l78]⟩) (fun x153 => Z5w p0 l78 x79 x153 = some y177) ?_ ?_
   ·
    refine zw ?_
    refine AW.lp (v := ()) h (fun (x117, x118) (_ : Unit) => ⟨[(1, C.im Y9i 1 p1), (2, pt b1), (5, C.val v77), (6, C.int x79), (7, C.bool x117), (8, C.int x118)], [Obj.box b1 139 [C.int p0.room, C.im Y98 9 p0.events, C.im Y98 9 p0.parked], Obj.arr v77 2 kI64 1 l78]⟩) (gb [0, 0]) ?_
    rintro ⟨x117, x118⟩ _ y184 h
    refine zw ?_
    refine cnd h (fun hb119 h => ?_) fun hb119 h => ?_
    ·
     refine AW.ct hb119 rfl ?_
     refine zw ?_
     refine AW.lp (v := ()) h (fun (x135, x136) (_ : Unit) => ⟨[(1, C.im Y9i 1 p1), (2, pt b1), (5, C.val v77), (6, C.int x79), (7, C.bool x135), (8, C.int x118), (9, C.int x136)], [Obj.box b1 139 [C.int p0.room, C.im Y98 9 p0.events, C.im Y98 9 p0.parked], Obj.arr v77 2 kI64 1 l78]⟩) (gb [0, 0]) ?_
     rintro ⟨x135, x136⟩ _ y191 h
     refine AW.seq ?_
     refine AW.seq ?_
     refine AW.cut (τ := Bool) (fun x142 => ⟨[(1, C.im Y9i 1 p1), (2, pt b1), (5, C.val v77), (6, C.int x79), (7, C.bool x135), (8, C.int x118), (9, C.int x136), (43, C.bool x142)], [Obj.box b1 139 [C.int p0.room, C.im Y98 9 p0.events, C.im Y98 9 p0.parked], Obj.arr v77 2 kI64 1 l78]⟩) (fun x142 => Z5z p0 x79 x118 x135 x136 x142 = some y191) go fun x142 h => ?_
     replace h : Z5z p0 x79 x118 x135 x136 x142 = some y191 := h
     unfold Z5z at h
     refine cnd h (fun hb143 h => ?_) fun hb143 h => ?_
     ·
      refine AW.ct hb143 rfl ?_
      refine zw ?_
      refine AW.regionD (L := [3, 7, 10, 12, 16]) (Lt := []) (k := dec [0,3,6,10,12,15,18,22,24,27,31,33,37,39,42,45,49,51,54,57]) (ns := [0, 0]) (by kernel_rfl) (by kernel_rfl) (by kernel_rfl) (by kernel_rfl) rfl ?_
      exact go
     exact go
    exact go
   intro x153 h
   replace h : Z5w p0 l78 x79 x153 = some y177 := h
   unfold Z5w at h
   refine zw ?_
   refine cnd h (fun hb154 h => ?_) fun hb154 h => ?_
   ·
    refine AW.ct hb154 rfl ?_
    refine zw ?_
    refine oi h fun e155 g156 h => ?_
    refine zw ?_
    refine Ops.h (ns := []) rfl rfl (Y39 (k := kI64) (ys := [e155.id]) Ya6 (.one rfl (One.val rfl) rfl rfl .nil) rfl rfl rfl) ?_
    rintro _ _ ⟨b157, rfl, rfl⟩
    refine ob' h fun u159 c158 h => ?_
    refine Ops.h (ns := [2, 0]) rfl rfl (Y2s Ya6 rfl rfl (of_decide_eq_true (Y3t c158)) (Y3w (by decide) c158) rfl) ?_
    rintro _ _ ⟨v160, rfl, rfl⟩
    exact go
   exact go
  exact go
 rintro ⟨l164, v163⟩ h
 replace h : Z5u l164 = some r := h
 unfold Z5u at h
 refine zw ?_
 refine AW.ret ?_
 rw [← Option.some.inj h]
 exact ⟨[C.val v163], _, Y21.refl _, (.cons (.tmp rfl) .nil), [0], _, _, rfl, ⟨v163, rfl, rfl⟩⟩
instance Z64' (p0 : Y90) (p1 : List Bool) : Sp Tryz.prog 181 [C.agg [C.int p0.room, C.im Y98 9 p0.events, C.im Y98 9 p0.parked], C.im Y9i 1 p1] (Z63 p0 p1) (fun r => C.im kI64 1 r) := ⟨fun r h => Ok.freeze (Z64 p0 p1 r h) (by rintro c qs ⟨v165, rfl, rfl⟩; exact Frz.arr)⟩

def Z65 (l16 : List Bool) : Option (List Bool) := some l16
def Z66 (p0 : Y93) (l9 : List Bool) (x10 : Int) : Option ((List Bool × Int) ⊕ ((List Bool))) := cond (decide (x10 < (l9.length : Int))) ((getI p0.code x10).bind fun e12 => (getI l9 x10).bind fun e14 => some (.inl ((List.set l9 (Int.toNat x10) (e12 == 0)), (IntKind.i64.wrap (x10 + 1))))) (some (.inr l9))
def Z67 (p0 : Y93) : Option (List Bool) := (chk (decide (0 ≤ (p0.code.length : Int) ∧ (p0.code.length : Int) * 1 ≤ 140737488355328))).bind fun u2 => (iter (fun z18 => Z66 p0 z18.1 z18.2) big ((List.replicate (Int.toNat (p0.code.length : Int)) false), 0)).bind fun y19 => Z65 y19
set_option maxHeartbeats 1000000 in
theorem Z68 (p0 : Y93) (r : List Bool) (h : Z67 p0 = some r) : Ok Tryz.prog 180 [C.ip [C.im kI64 1 p0.depths, C.im Y9h 1 p0.ahead, C.im Y9h 1 p0.behind, C.im kI64 1 p0.code]] [] (fun c qs => ∃ (v17 : Value), c = C.val v17 ∧ qs = [Obj.arr v17 4 Y9i 1 r]) := by
 refine Ok.of_body (rs := [.tmp 2]) Tryz.func180 rfl rfl rfl rfl rfl fun X => ?_
 unfold Z67 at h
 refine zw ?_
 refine ob' h fun u2 c1 h => ?_
 refine Ops.h (ns := []) rfl rfl (Y3b (k := Y9i) (z := false) Yc1 ze_4 (Y42 rfl rfl) rfl rfl (Y3x c1).1 (Y3x c1).2 (Y3y (by decide) c1) rfl) ?_
 rintro _ _ ⟨b3, rfl, rfl⟩
 refine Ops.v rfl (Yr rfl rfl) ?_
 refine Ops.nil ?_
 refine AW.seq ?_
 refine AW.cut (τ := List Bool) (fun l16 => ⟨[(3, C.val (sv b3 (Int.toNat (p0.code.length : Int)) (Int.toNat (p0.code.length : Int))))], [Obj.arr (sv b3 (Int.toNat (p0.code.length : Int)) (Int.toNat (p0.code.length : Int))) 4 Y9i 1 l16]⟩) (fun l16 => Z65 l16 = some r) ?_ ?_
 ·
  refine zw ?_
  refine AW.lp (v := ()) h (fun (l9, x10) (_ : Unit) => ⟨[(0, C.ip [C.im kI64 1 p0.depths, C.im Y9h 1 p0.ahead, C.im Y9h 1 p0.behind, C.im kI64 1 p0.code]), (3, C.val (sv b3 (Int.toNat (p0.code.length : Int)) (Int.toNat (p0.code.length : Int)))), (4, C.int x10)], [Obj.arr (sv b3 (Int.toNat (p0.code.length : Int)) (Int.toNat (p0.code.length : Int))) 4 Y9i 1 l9]⟩) (gb [0]) ?_
  rintro ⟨l9, x10⟩ _ y25 h
  refine zw ?_
  refine cnd h (fun hb11 h => ?_) fun hb11 h => ?_
  ·
   refine AW.ct hb11 rfl ?_
   refine zw ?_
   refine oi h fun e12 g13 h => ?_
   refine zw ?_
   refine oi h fun e14 g15 h => ?_
   refine Ops.hd (ns := [0]) rfl rfl (Y33 (e' := (e12 == 0)) ld_4.h rfl rfl (One.val rfl) (Y29 g15).2.2 rfl rfl) ?_
   exact go
  exact go
 intro l16 h
 replace h : Z65 l16 = some r := h
 unfold Z65 at h
 refine zw ?_
 refine AW.ret ?_
 rw [← Option.some.inj h]
 exact ⟨[C.val (sv b3 (Int.toNat (p0.code.length : Int)) (Int.toNat (p0.code.length : Int)))], _, Y21.refl _, (.cons (.tmp rfl) .nil), [0], _, _, rfl, ⟨(sv b3 (Int.toNat (p0.code.length : Int)) (Int.toNat (p0.code.length : Int))), rfl, rfl⟩⟩
instance Z68' (p0 : Y93) : Sp Tryz.prog 180 [C.ip [C.im kI64 1 p0.depths, C.im Y9h 1 p0.ahead, C.im Y9h 1 p0.behind, C.im kI64 1 p0.code]] (Z67 p0) (fun r => C.im Y9i 1 r) := ⟨fun r h => Ok.freeze (Z68 p0 r h) (by rintro c qs ⟨v17, rfl, rfl⟩; exact Frz.arr)⟩

def Z69 (p0 : Y90) (p1 : Y93) (l57 : List (List Y92)) : Option (List Y92) := (Z58 p0 p1.depths l57).bind fun r63 => some r63
def Z6a (p0 : Y90) (p1 : Y93) (r2 : List Int) (l30 : List (List Y92)) (x31 : Int) : Option ((List (List Y92) × Int) ⊕ ((List (List Y92)))) := cond (decide (x31 < (r2.length : Int))) ((getI r2 x31).bind fun e46 => (Z29 p0.events e46).bind fun r48 => (getI p1.behind r48).bind fun e50 => (chk (decide ((l30.length + [e50].length) * 24 ≤ 140737488355328))).bind fun u54 => some (.inl ((l30 ++ [e50]), (IntKind.i64.wrap (x31 + 1))))) (some (.inr l30))
def Z6b (p0 : Y90) (p1 : Y93) (p2 : List Bool) : Option (List Y92) := (Z63 p0 p2).bind fun r2 => (iter (fun z66 => Z6a p0 p1 r2 z66.1 z66.2) big (([] : List (List Y92)), 0)).bind fun y67 => Z69 p0 p1 y67
set_option maxHeartbeats 1000000 in
instance Z6c (p0 : Y90) (p1 : Y93) (p2 : List Bool) : Sp Tryz.prog 132 [C.agg [C.int p0.room, C.im Y98 9 p0.events, C.im Y98 9 p0.parked], C.ip [C.im kI64 1 p1.depths, C.im Y9h 1 p1.ahead, C.im Y9h 1 p1.behind, C.im kI64 1 p1.code], C.im Y9i 1 p2] (Z6b p0 p1 p2) (fun r => C.im Y9g 3 r) := sp Tryz.func132 rfl rfl fun r X h => by
 unfold Z6b at h
 refine zw ?_
 refine ox fun b1 => ?_
 refine zw ?_
 refine oc h fun r2 g3 h => ?_
 refine zw ?_
 refine Ops.h (ns := []) rfl rfl (Y39 (k := Y9h) (ys := ([] : List (List Y92))) Yc4 .nil rfl rfl rfl) ?_
 rintro _ _ ⟨b4, rfl, rfl⟩
 refine Ops.v rfl (Yr rfl rfl) ?_
 refine Ops.nil ?_
 refine AW.seq ?_
 refine AW.cut (τ := List (List Y92) × Value) (fun (l57, v56) => ⟨[(1, C.ip [C.im kI64 1 p1.depths, C.im Y9h 1 p1.ahead, C.im Y9h 1 p1.behind, C.im kI64 1 p1.code]), (3, pt b1), (8, C.val v56)], [Obj.box b1 139 [C.int p0.room, C.im Y98 9 p0.events, C.im Y98 9 p0.parked], Obj.arr v56 27 Y9h 1 l57]⟩) (fun (l57, v56) => Z69 p0 p1 l57 = some r) ?_ ?_
 ·
  refine zw ?_
  refine AW.lp h (fun (l30, x31) (v29 : Value) => ⟨[(1, C.ip [C.im kI64 1 p1.depths, C.im Y9h 1 p1.ahead, C.im Y9h 1 p1.behind, C.im kI64 1 p1.code]), (3, pt b1), (7, C.im kI64 1 r2), (8, C.val v29), (9, C.int x31)], [Obj.box b1 139 [C.int p0.room, C.im Y98 9 p0.events, C.im Y98 9 p0.parked], Obj.arr v29 27 Y9h 1 l30]⟩) (gb [1, 0]) ?_
  rintro ⟨l30, x31⟩ v29 y73 h
  refine zw ?_
  refine cnd h (fun hb32 h => ?_) fun hb32 h => ?_
  ·
   refine AW.ct hb32 rfl ?_
   refine zw ?_
   refine AW.regionD (L := [4, 6, 10, 13]) (Lt := []) (k := dec [0,3,6,9,13,15,19,21,24,27,31,35,36,40,44,47,48]) (ns := [0]) (by kernel_rfl) (by kernel_rfl) (by kernel_rfl) (by kernel_rfl) rfl ?_
   refine zw ?_
   refine di h fun e46 g47 h => ?_
   refine zw ?_
   refine dc h fun r48 g49 h => ?_
   refine di h fun e50 g51 h => ?_
   refine OpsD.v rfl rfl (Y1h Ybs.h rfl rfl) ?_
   refine OpsD.one ?_
   refine Y3n.h (ns := []) rfl rfl rfl (Y39 (k := Y9h) (ys := [e50]) Yc4 (.one rfl One.im rfl rfl .nil) rfl rfl rfl) ?_
   rintro _ _ ⟨b52, rfl, rfl⟩
   refine zw ?_
   refine ob' h fun u54 c53 h => ?_
   refine Y3n.h (ns := [1, 0]) rfl rfl rfl (Y2s Yc4 rfl rfl (of_decide_eq_true (Y3t c53)) (Y3w (by decide) c53) rfl) ?_
   rintro _ _ ⟨v55, rfl, rfl⟩
   exact go
  exact go
 rintro ⟨l57, v56⟩ h
 replace h : Z69 p0 p1 l57 = some r := h
 unfold Z69 at h
 refine zw ?_
 refine AW.regionD (L := [0, 4]) (Lt := []) (k := dec [1,3,6,9,13,15,20,21]) (ns := [0]) (by kernel_rfl) (by kernel_rfl) (by kernel_rfl) (by kernel_rfl) rfl ?_
 refine zw ?_
 refine ob' h fun r63 g64 h => ?_
 refine Y3n.h (ns := [0]) rfl rfl rfl (Y24 (Ok.freezeL (Ok.lend (Z59 p0 p1.depths l57 _ g64) (FrzT.cons (os := []) (Frz.same _) (FrzT.cons (os := []) (Frz.same _) (FrzT.cons (os := [_]) Frz.arr (FrzT.nil)))) (by rintro _ _ ⟨_, rfl, rfl⟩; exact ⟨(Y44.val _), Y48 (Y46.arr Yby) (Y47)⟩)) (by rintro c qs ⟨v65, rfl, rfl⟩; exact Frz.arr)) rfl rfl) ?_
 rintro _ _ ⟨rfl, rfl⟩
 exact go

def Z6d (p0 : Y91) (l147 : List Y93) (l149 : List (List Int)) (l151 : List (List Y92)) : Option Y94 := some (Y94.mk p0 l147 l149 l151)
def Z6e (l76 : List Y93) (l78 : List (List Int)) (l80 : List (List Y92)) (x81 : Int) (r86 : Y93) (r106 : List Y92) (l140 : List Int) : Option ((List Y93 × List (List Int) × List (List Y92) × Int) ⊕ ((List Y93 × List (List Int) × List (List Y92)))) := (chk (decide ((l78.length + [l140].length) * 24 ≤ 140737488355328))).bind fun u143 => some (.inl ((l76 ++ [r86]), (l78 ++ [l140]), (l80 ++ [r106]), (IntKind.i64.wrap (x81 + 1))))
def Z6f (x128 : Int) (l139 : List Int) : Option ((List Int × Int) ⊕ ((List Int))) := some (.inl (l139, (IntKind.i64.wrap (x128 + 1))))
def Z6g (l127 : List Int) (x128 : Int) (r132 : Int) (x135 : Bool) : Option ((List Int × Int) ⊕ ((List Int))) := cond x135 ((getI l127 r132).bind fun e137 => Z6f x128 (List.set l127 (Int.toNat r132) (IntKind.i64.wrap (x128 + 1)))) (Z6f x128 l127)
def Z6h (p0 : Y91) (e83 : Y90) (l127 : List Int) (x128 : Int) : Option ((List Int × Int) ⊕ ((List Int))) := cond (decide (x128 < (p0.stream.length : Int))) ((getI p0.stream x128).bind fun e130 => (Z29 e83.events e130.id).bind fun r132 => cond (e130.room == e83.room) (Z6g l127 x128 r132 (decide (r132 ≥ 0))) (Z6g l127 x128 r132 false)) (some (.inr l127))
def Z6i (p0 : Y91) (l76 : List Y93) (l78 : List (List Int)) (l80 : List (List Y92)) (x81 : Int) : Option ((List Y93 × List (List Int) × List (List Y92) × Int) ⊕ ((List Y93 × List (List Int) × List (List Y92)))) := cond (decide (x81 < (p0.rooms.length : Int))) ((getI p0.rooms x81).bind fun e83 => (Z5s e83).bind fun r86 => (chk (decide ((l76.length + [r86].length) * 8 ≤ 140737488355328))).bind fun u90 => (Z67 r86).bind fun r104 => (Z6b e83 r86 r104).bind fun r106 => (chk (decide ((l80.length + [r106].length) * 24 ≤ 140737488355328))).bind fun u110 => (chk (decide (0 ≤ (e83.events.length : Int) ∧ (e83.events.length : Int) * 8 ≤ 140737488355328))).bind fun u114 => (iter (fun z156 => Z6h p0 e83 z156.1 z156.2) big ((List.replicate (Int.toNat (e83.events.length : Int)) 0), 0)).bind fun y157 => Z6e l76 l78 l80 x81 r86 r106 y157) (some (.inr (l76, l78, l80)))
def Z6j (p0 : Y91) : Option Y94 := (iter (fun z158 => Z6i p0 z158.1 z158.2.1 z158.2.2.1 z158.2.2.2) big ([], [], [], 0)).bind fun (y159, y160, y161) => Z6d p0 y159 y160 y161
set_option maxHeartbeats 1000000 in
theorem Z6k (p0 : Y91) (r : Y94) (h : Z6j p0 = some r) : Ok Tryz.prog 130 [C.agg [C.im Y9d 3 p0.rooms, C.im Y9a 2 p0.stream]] [] (fun c qs => ∃ (b152 : Nat) (v153 : Value) (v154 : Value) (v155 : Value), c = pt b152 ∧ qs = [Obj.box b152 156 [C.im Y9d 3 r.h.rooms, C.im Y9a 2 r.h.stream, C.val v153, C.val v154, C.val v155], Obj.arr v153 182 Y9j 1 r.rooms, Obj.arr v154 57 Y9k 1 r.pos, Obj.arr v155 27 Y9h 1 r.now]) := by
 refine Ok.of_body (rs := [.tmp 2]) Tryz.func130 rfl rfl rfl rfl rfl fun X => ?_
 unfold Z6j at h
 refine zw ?_
 refine ox fun b1 => ?_
 refine zw ?_
 refine Ops.v rfl (Y38 (ds := [C.im Y9d 3 p0.rooms, C.im Y9a 2 p0.stream, C.val s0, C.val s0, C.val s0]) Ycd Yce (Y42 rfl rfl) (.agg rfl rfl rfl .nil) rfl) ?_
 refine ox fun b2 => ?_
 refine Ops.v rfl (Yr rfl rfl) ?_
 refine Ops.nil ?_
 refine AW.seq ?_
 refine AW.cut (τ := List Y93 × List (List Int) × List (List Y92) × Value × Value × Value) (fun (l147, l149, l151, v146, v148, v150) => ⟨[(3, pt b2)], [Obj.box b2 156 [C.im Y9d 3 p0.rooms, C.im Y9a 2 p0.stream, C.val v146, C.val v148, C.val v150], Obj.arr v146 182 Y9j 1 l147, Obj.arr v148 57 Y9k 1 l149, Obj.arr v150 27 Y9h 1 l151]⟩) (fun (l147, l149, l151, v146, v148, v150) => Z6d p0 l147 l149 l151 = some r) ?_ ?_
 ·
  refine zw ?_
  refine ob' h fun o162 g163 q164 => ?_
  refine AW.loop (τ := List Y93 × List (List Int) × List (List Y92) × Int × Value × Value × Value) (x := ([], [], [], 0, s0, s0, s0)) (fun (l76, l78, l80, x81, v75, v77, v79) => ⟨[(1, pt b1), (3, pt b2), (4, C.int x81)], [Obj.box b1 32 [C.im Y9d 3 p0.rooms, C.im Y9a 2 p0.stream], Obj.box b2 156 [C.im Y9d 3 p0.rooms, C.im Y9a 2 p0.stream, C.val v75, C.val v77, C.val v79], Obj.arr v75 182 Y9j 1 l76, Obj.arr v77 57 Y9k 1 l78, Obj.arr v79 27 Y9h 1 l80]⟩) (fun k (l76, l78, l80, x81, v75, v77, v79) => iter (fun z158 => Z6i p0 z158.1 z158.2.1 z158.2.2.1 z158.2.2.2) k (l76, l78, l80, x81) = some o162) g163 ((Y21.nil 182 Y9j 1).trans ((Y21.nil 57 Y9k 1).trans ((Y21.nil 27 Y9h 1).trans (Y21.both (ns := [4, 3, 2, 1, 0]) rfl rfl)))) ?_
  rintro k ⟨l76, l78, l80, x81, v75, v77, v79⟩ i166
  refine Y41 (show iter (fun z158 => Z6i p0 z158.1 z158.2.1 z158.2.2.1 z158.2.2.2) k (l76, l78, l80, x81) = some o162 from i166) fun k165 y167 hlt_k165 h h168 => ?_
  replace h : Z6i p0 l76 l78 l80 x81 = some y167 := h
  unfold Z6i at h
  refine zw ?_
  refine cnd h (fun hb82 h => ?_) fun hb82 h => ?_
  ·
   refine AW.ct hb82 rfl ?_
   refine zw ?_
   refine oi h fun e83 g84 h => ?_
   refine zw ?_
   refine Ops.h (ns := []) rfl rfl (Y1p (cs := [C.int 0, C.val s0, C.val s0]) Yat (Y42 rfl rfl) rfl) ?_
   rintro _ _ ⟨b85, rfl, rfl⟩
   refine Ops.hd (ns := [0]) rfl rfl (Y1u (gs := [C.int e83.room, C.im Y98 9 e83.events, C.im Y98 9 e83.parked]) Yaz.h rfl rfl rfl rfl rfl) ?_
   refine zw ?_
   refine oc h fun r86 g87 h => ?_
   refine zw ?_
   refine Ops.h (ns := []) rfl rfl (Y39 (k := Y9j) (ys := [r86]) Ych (.one rfl One.ip rfl rfl .nil) rfl rfl rfl) ?_
   rintro _ _ ⟨b88, rfl, rfl⟩
   refine ob' h fun u90 c89 h => ?_
   refine Ops.h (ns := [4, 0]) rfl rfl (Y2s Ych rfl rfl (of_decide_eq_true (Y3t c89)) (Y3w (by decide) c89) rfl) ?_
   rintro _ _ ⟨v91, rfl, rfl⟩
   refine Ops.v rfl (Y14 rfl rfl) ?_
   refine Ops.v rfl (Y1b Ycf.h rfl rfl) ?_
   refine Ops.learn (Sim.arr_one (p := 0) rfl) fun n92 => ?_
   refine Ops.hd (ns := [3]) rfl rfl (Y1t (gs := [C.im Y9d 3 p0.rooms, C.im Y9a 2 p0.stream, C.val v91, C.val v77, C.val v79]) Ycg.h rfl rfl (One.val n92) rfl rfl) ?_
   refine zw ?_
   refine AW.regionD (L := [4, 5]) (Lt := [14]) (k := .light 0 false (.light 1 false (.light 2 false (.light 3 false (.light 4 true (.light 5 true (.light 6 false (.light 7 false (.one 8 (.one 9 (.one 10 (.one 11 (.light 12 false (.light 13 false (.late 14 (.done)))))))))))))))) (ns := [0, 0, 0, 0, 0]) (by kernel_rfl) (by kernel_rfl) (by kernel_rfl) (by kernel_rfl) rfl ?_
   refine zw ?_
   refine dc h fun r104 g105 h => ?_
   refine zw ?_
   refine dc h fun r106 g107 h => ?_
   refine OpsD.one ?_
   refine Y3n.h (ns := []) rfl rfl rfl (Y39 (k := Y9h) (ys := [r106]) Yc4 (.one rfl One.im rfl rfl .nil) rfl rfl rfl) ?_
   rintro _ _ ⟨b108, rfl, rfl⟩
   refine zw ?_
   refine ob' h fun u110 c109 h => ?_
   refine Y3n.h (ns := [1, 0]) rfl rfl rfl (Y2s Yc4 rfl rfl (of_decide_eq_true (Y3t c109)) (Y3w (by decide) c109) rfl) ?_
   rintro _ _ ⟨v111, rfl, rfl⟩
   refine OpsD.v rfl rfl (Y14 rfl rfl) ?_
   refine OpsD.v rfl rfl (Y1b Yci.h rfl rfl) ?_
   refine OpsD.learn (Sim.arr_one (p := 5) rfl) fun n112 => ?_
   refine OpsD.late (ns := [0]) rfl rfl rfl (Y1t (gs := [C.im Y9d 3 p0.rooms, C.im Y9a 2 p0.stream, C.val v91, C.val v77, C.val v111]) Yc9.h rfl rfl (One.val n112) rfl rfl) ?_
   rintro _ _ ⟨rfl, rfl⟩
   refine zw ?_
   refine ob' h fun u114 c113 h => ?_
   refine Ops.h (ns := []) rfl rfl (Y3b (k := kI64) (z := 0) Ya6 ze_2 (Y42 rfl rfl) rfl rfl (Y3x c113).1 (Y3x c113).2 (Y3y (by decide) c113) rfl) ?_
   rintro _ _ ⟨b115, rfl, rfl⟩
   refine Ops.v rfl (Yr rfl rfl) ?_
   refine Ops.nil ?_
   refine AW.seq ?_
   refine AW.cut (τ := List Int) (fun l140 => ⟨[(1, pt b1), (3, pt b2), (4, C.int x81), (7, C.val (sv b115 (Int.toNat (e83.events.length : Int)) (Int.toNat (e83.events.length : Int))))], [Obj.box b1 32 [C.im Y9d 3 p0.rooms, C.im Y9a 2 p0.stream], Obj.box b2 156 [C.im Y9d 3 p0.rooms, C.im Y9a 2 p0.stream, C.val v91, C.val v77, C.val v111], Obj.arr v91 182 Y9j 1 (l76 ++ [r86]), Obj.arr v77 57 Y9k 1 l78, Obj.arr v111 27 Y9h 1 (l80 ++ [r106]), Obj.arr (sv b115 (Int.toNat (e83.events.length : Int)) (Int.toNat (e83.events.length : Int))) 2 kI64 1 l140]⟩) (fun l140 => Z6e l76 l78 l80 x81 r86 r106 l140 = some y167) ?_ ?_
   ·
    refine zw ?_
    refine AW.lp (v := ()) h (fun (l127, x128) (_ : Unit) => ⟨[(1, pt b1), (3, pt b2), (4, C.int x81), (5, pt b85), (7, C.val (sv b115 (Int.toNat (e83.events.length : Int)) (Int.toNat (e83.events.length : Int)))), (8, C.int x128)], [Obj.box b1 32 [C.im Y9d 3 p0.rooms, C.im Y9a 2 p0.stream], Obj.box b2 156 [C.im Y9d 3 p0.rooms, C.im Y9a 2 p0.stream, C.val v91, C.val v77, C.val v111], Obj.arr v91 182 Y9j 1 (l76 ++ [r86]), Obj.arr v77 57 Y9k 1 l78, Obj.arr v111 27 Y9h 1 (l80 ++ [r106]), Obj.box b85 139 [C.int e83.room, C.im Y98 9 e83.events, C.im Y98 9 e83.parked], Obj.arr (sv b115 (Int.toNat (e83.events.length : Int)) (Int.toNat (e83.events.length : Int))) 2 kI64 1 l127]⟩) (gb [4, 1, 1, 2, 2, 1, 0]) ?_
    rintro ⟨l127, x128⟩ _ y174 h
    refine zw ?_
    refine cnd h (fun hb129 h => ?_) fun hb129 h => ?_
    ·
     refine AW.ct hb129 rfl ?_
     refine AW.skip ?_
     refine AW.seq ?_
     refine AW.cut (τ := List Int) (fun l139 => ⟨[(1, pt b1), (3, pt b2), (4, C.int x81), (5, pt b85), (7, C.val (sv b115 (Int.toNat (e83.events.length : Int)) (Int.toNat (e83.events.length : Int)))), (8, C.int x128)], [Obj.box b1 32 [C.im Y9d 3 p0.rooms, C.im Y9a 2 p0.stream], Obj.box b2 156 [C.im Y9d 3 p0.rooms, C.im Y9a 2 p0.stream, C.val v91, C.val v77, C.val v111], Obj.arr v91 182 Y9j 1 (l76 ++ [r86]), Obj.arr v77 57 Y9k 1 l78, Obj.arr v111 27 Y9h 1 (l80 ++ [r106]), Obj.box b85 139 [C.int e83.room, C.im Y98 9 e83.events, C.im Y98 9 e83.parked], Obj.arr (sv b115 (Int.toNat (e83.events.length : Int)) (Int.toNat (e83.events.length : Int))) 2 kI64 1 l139]⟩) (fun l139 => Z6f x128 l139 = some y174) ?_ ?_
     ·
      refine zw ?_
      refine AW.regionD (L := [1, 3, 7]) (Lt := []) (k := dec [0,4,6,10,12,15,18,22,26,27]) (ns := [0, 0, 0, 0, 0, 0, 0]) (by kernel_rfl) (by kernel_rfl) (by kernel_rfl) (by kernel_rfl) rfl ?_
      refine OpsD.v rfl rfl (Y1b Yaw.h rfl rfl) ?_
      refine OpsD.v rfl rfl (Y1k (p := 5) Yax.h rfl rfl rfl rfl) ?_
      refine zw ?_
      refine di h fun e130 g131 h => ?_
      refine zw ?_
      refine dc h fun r132 g133 h => ?_
      refine OpsD.v rfl rfl (Yr rfl rfl) ?_
      refine OpsD.done ?_
      refine AW.seq ?_
      refine AW.cut (τ := Bool) (fun x135 => ⟨[(1, pt b1), (3, pt b2), (4, C.int x81), (5, pt b85), (7, C.val (sv b115 (Int.toNat (e83.events.length : Int)) (Int.toNat (e83.events.length : Int)))), (8, C.int x128), (9, C.int r132), (83, C.bool x135)], [Obj.box b1 32 [C.im Y9d 3 p0.rooms, C.im Y9a 2 p0.stream], Obj.box b2 156 [C.im Y9d 3 p0.rooms, C.im Y9a 2 p0.stream, C.val v91, C.val v77, C.val v111], Obj.arr v91 182 Y9j 1 (l76 ++ [r86]), Obj.arr v77 57 Y9k 1 l78, Obj.arr v111 27 Y9h 1 (l80 ++ [r106]), Obj.box b85 139 [C.int e83.room, C.im Y98 9 e83.events, C.im Y98 9 e83.parked], Obj.arr (sv b115 (Int.toNat (e83.events.length : Int)) (Int.toNat (e83.events.length : Int))) 2 kI64 1 l127]⟩) (fun x135 => Z6g l127 x128 r132 x135 = some y174) ?_ ?_
      ·
       refine AW.regionD (L := [1, 5, 7]) (Lt := []) (k := dec [0,4,6,9,12,16,18,22,24,27,30,33,36]) (ns := [0, 0, 0, 0, 0, 0, 0]) (by kernel_rfl) (by kernel_rfl) (by kernel_rfl) (by kernel_rfl) rfl ?_
       refine OpsD.v rfl rfl (Y1b Ybf.h rfl rfl) ?_
       refine OpsD.v rfl rfl (Y1k (p := 0) Ybg.h rfl rfl rfl rfl) ?_
       refine OpsD.v rfl rfl (Yq rfl rfl) ?_
       refine OpsD.v rfl rfl (Y2g Ybb.h rfl rfl g131 rfl) ?_
       refine OpsD.v rfl rfl (Y1c Yb5.h rfl rfl rfl) ?_
       refine OpsD.v rfl rfl (Y1h ld_2.h rfl rfl) ?_
       refine OpsD.v rfl rfl (Y1b Yav.h rfl rfl) ?_
       refine OpsD.v rfl rfl (Y1k (p := 5) ld_2.h rfl rfl rfl rfl) ?_
       refine zw ?_
       refine cnd h (fun hb134 h => ?_) fun hb134 h => ?_
       ·
        refine zw ?_
        exact ⟨decide (r132 ≥ 0), h, Y21.both (ns := [0, 0, 0, 0, 0, 0, 0]) rfl rfl⟩
       refine zw ?_
       exact ⟨false, h, Y21.both (ns := [0, 0, 0, 0, 0, 0, 0]) rfl rfl⟩
      intro x135 h
      replace h : Z6g l127 x128 r132 x135 = some y174 := h
      unfold Z6g at h
      refine cnd h (fun hb136 h => ?_) fun hb136 h => ?_
      ·
       refine AW.ct hb136 rfl ?_
       refine zw ?_
       refine ob' h fun e137 g138 h => ?_
       refine Ops.v rfl (Y2x (p := 6) Y9p.h rfl rfl rfl g138 rfl) ?_
       refine Ops.hd (ns := [6]) rfl rfl (Y33 (e' := (IntKind.i64.wrap (x128 + 1))) ld_2.h rfl rfl (One.val rfl) (Y29 g138).2.2 rfl rfl) ?_
       refine zw ?_
       exact ⟨(List.set l127 (Int.toNat r132) (IntKind.i64.wrap (x128 + 1))), h, Y21.both (ns := [1, 1, 1, 1, 1, 1, 0]) rfl rfl⟩
      refine AW.cf hb136 rfl ?_
      refine zw ?_
      exact ⟨l127, h, Y21.both (ns := [0, 0, 0, 0, 0, 0, 0]) rfl rfl⟩
     intro l139 h
     replace h : Z6f x128 l139 = some y174 := h
     unfold Z6f at h
     refine zw ?_
     exact lu h (gb [0, 0, 0, 0, 0, 0, 0])
    refine AW.cf hb129 rfl ?_
    refine AW.exit ?_
    refine lx h fun h => ?_
    exact ⟨l127, h, Y21.both (ns := [0, 0, 0, 0, 0, 1]) rfl rfl⟩
   intro l140 h
   replace h : Z6e l76 l78 l80 x81 r86 r106 l140 = some y167 := h
   unfold Z6e at h
   refine zw ?_
   refine Ops.h (ns := [5]) rfl rfl (HOp.frz (t := 94) rfl Frz.arr (Y39 (k := Y9k) (ys := [l140]) Ycl (.one rfl One.im rfl rfl .nil) rfl rfl rfl)) ?_
   rintro _ _ ⟨b141, rfl, rfl⟩
   refine ob' h fun u143 c142 h => ?_
   refine Ops.h (ns := [4, 0]) rfl rfl (Y2s Ycl rfl rfl (of_decide_eq_true (Y3t c142)) (Y3w (by decide) c142) rfl) ?_
   rintro _ _ ⟨v144, rfl, rfl⟩
   refine Ops.v rfl (Y14 rfl rfl) ?_
   refine Ops.v rfl (Y1b Ycj.h rfl rfl) ?_
   refine Ops.learn (Sim.arr_one (p := 0) rfl) fun n145 => ?_
   refine Ops.hd (ns := [2]) rfl rfl (Y1t (gs := [C.im Y9d 3 p0.rooms, C.im Y9a 2 p0.stream, C.val v91, C.val v144, C.val v111]) Yck.h rfl rfl (One.val n145) rfl rfl) ?_
   refine zw ?_
   obtain rfl := Option.some.inj h
   exact ⟨k165, ((l76 ++ [r86]), (l78 ++ [l140]), (l80 ++ [r106]), (IntKind.i64.wrap (x81 + 1)), v91, v144, v111), hlt_k165, h168, Y21.both (ns := [2, 0, 1, 0, 0]) rfl rfl⟩
  refine AW.cf hb82 rfl ?_
  refine AW.exit ?_
  obtain rfl := Option.some.inj h
  obtain rfl := Option.some.inj h168
  replace h := q164
  exact ⟨(l76, l78, l80, v75, v77, v79), h, Y21.both (ns := [1, 1, 1, 1]) rfl rfl⟩
 rintro ⟨l147, l149, l151, v146, v148, v150⟩ h
 replace h : Z6d p0 l147 l149 l151 = some r := h
 unfold Z6d at h
 refine zw ?_
 refine AW.ret ?_
 rw [← Option.some.inj h]
 exact ⟨[pt b2], _, Y21.refl _, (.cons (.tmp rfl) .nil), [0, 0, 0, 0], _, _, rfl, ⟨b2, v146, v148, v150, rfl, rfl⟩⟩
instance Z6k' (p0 : Y91) : Sp Tryz.prog 130 [C.agg [C.im Y9d 3 p0.rooms, C.im Y9a 2 p0.stream]] (Z6j p0) (fun r => C.ip [C.im Y9d 3 r.h.rooms, C.im Y9a 2 r.h.stream, C.im Y9j 1 r.rooms, C.im Y9k 1 r.pos, C.im Y9h 1 r.now]) := ⟨fun r h => Ok.freeze (Z6k p0 r h) (by rintro c qs ⟨b152, v153, v154, v155, rfl, rfl⟩; exact Frz.box (FrzL.cons (os := []) (Frz.same _) (FrzL.cons (os := []) (Frz.same _) (FrzL.cons (os := [_]) (Frz.arr) (FrzL.cons (os := [_]) (Frz.arr) (FrzL.cons (os := [_]) (Frz.arr) (FrzL.nil)))))))⟩

def Z6l (p0 : Y94) (x181 : Int) : Option Bool := some (x181 == (p0.h.stream.length : Int))
def Z6m (x91 : Int) (x180 : Int) : Option ((Int × Int) ⊕ (Bool ⊕ Int)) := some (.inl (x180, (IntKind.i64.wrap (x91 + 1))))
def Z6n (x138 : Int) (x179 : Int) : Option ((Int × Int) ⊕ (Bool ⊕ Int)) := some (.inl (x179, (IntKind.i64.wrap (x138 + 1))))
def Z6o (x137 : Int) (x138 : Int) (e146 : Int) : Option ((Int × Int) ⊕ (Bool ⊕ Int)) := cond (decide (e146 > 0)) (Z6n x138 (IntKind.i64.wrap (x137 + 1))) (Z6n x138 x137)
def Z6p (e93 : Y90) (x138 : Int) (e144 : List Int) (e146 : Int) (x163 : Int) (x167 : Bool) : Option (Int ⊕ (Bool ⊕ Unit)) := cond x167 ((getI e93.events x138).bind fun e169 => (getI e169.prev x163).bind fun e171 => (Z29 e93.events e171).bind fun r173 => (getI e144 r173).bind fun e175 => cond (decide (e175 ≥ e146)) (some (.inr (.inl false))) (some (.inl (IntKind.i64.wrap (x163 + 1))))) (some (.inr (.inr ())))
def Z6q (e93 : Y90) (x138 : Int) (e144 : List Int) (e146 : Int) (x163 : Int) : Option (Int ⊕ (Bool ⊕ Unit)) := (getI e93.events x138).bind fun e164 => cond (decide (x163 < (e164.prev.length : Int))) (Z6p e93 x138 e144 e146 x163 (decide (e146 > 0))) (Z6p e93 x138 e144 e146 x163 false)
def Z6r (p0 : Y94) (x91 : Int) (e93 : Y90) (x137 : Int) (x138 : Int) : Option ((Int × Int) ⊕ (Bool ⊕ Int)) := cond (decide (x138 < (e93.events.length : Int))) ((getI p0.rooms x91).bind fun e140 => (getI e140.code x138).bind fun e142 => (getI p0.pos x91).bind fun e144 => (getI e144 x138).bind fun e146 => cond ((e142 == 0) == decide (e146 > 0)) ((iter (Z6q e93 x138 e144 e146) big 0).bind (fun z183 => match z183 with | .inl y182 => some (.inr (.inl y182)) | .inr () => Z6o x137 x138 e146)) (some (.inr (.inl false)))) (some (.inr (.inr x137)))
def Z6s (p0 : Y94) (x90 : Int) (x91 : Int) : Option ((Int × Int) ⊕ (Bool ⊕ Int)) := cond (decide (x91 < (p0.h.rooms.length : Int))) ((getI p0.h.rooms x91).bind fun e93 => (iter (fun z184 => Z6r p0 x91 e93 z184.1 z184.2) big (x90, 0)).bind (fun z187 => match z187 with | .inl y185 => some (.inr (.inl y185)) | .inr y186 => Z6m x91 y186)) (some (.inr (.inr x90)))
def Z6t (p0 : Y94) : Option Bool := (iter (fun z188 => Z6s p0 z188.1 z188.2) big (0, 0)).bind (fun z191 => match z191 with | .inl y189 => some y189 | .inr y190 => Z6l p0 y190)
set_option maxHeartbeats 1000000 in
theorem Z6u {b00 : Nat} {w01 : Value} {w02 : Value} {w03 : Value} (p0 : Y94) (r : Bool) (h : Z6t p0 = some r) : Ok Tryz.prog 131 [pt b00] [Obj.box b00 156 [C.im Y9d 3 p0.h.rooms, C.im Y9a 2 p0.h.stream, C.val w01, C.val w02, C.val w03], Obj.arr w01 182 Y9j 1 p0.rooms, Obj.arr w02 57 Y9k 1 p0.pos, Obj.arr w03 27 Y9h 1 p0.now] (fun c qs => c = C.bool r ∧ qs = [Obj.box b00 156 [C.im Y9d 3 p0.h.rooms, C.im Y9a 2 p0.h.stream, C.val w01, C.val w02, C.val w03], Obj.arr w01 182 Y9j 1 p0.rooms, Obj.arr w02 57 Y9k 1 p0.pos, Obj.arr w03 27 Y9h 1 p0.now]) := by
 refine Ok.of_body (rs := [.tmp 2]) Tryz.func131 rfl rfl rfl rfl rfl fun X => ?_
 unfold Z6t at h
 refine AW.seq ?_
 refine AW.region ?_
 refine Ops.v rfl (Yr rfl rfl) ?_
 refine Ops.nil ?_
 refine AW.seq ?_
 refine AW.region ?_
 refine Ops.v rfl (Yr rfl rfl) ?_
 refine Ops.nil ?_
 refine AW.seq ?_
 refine AW.cut (τ := Int) (fun x181 => ⟨[(0, pt b00), (3, C.int x181)], [Obj.box b00 156 [C.im Y9d 3 p0.h.rooms, C.im Y9a 2 p0.h.stream, C.val w01, C.val w02, C.val w03], Obj.arr w01 182 Y9j 1 p0.rooms, Obj.arr w02 57 Y9k 1 p0.pos, Obj.arr w03 27 Y9h 1 p0.now]⟩) (fun x181 => Z6l p0 x181 = some r) ?_ ?_
 ·
  refine zw ?_
  refine AW.lp (v := ()) h (fun (x90, x91) (_ : Unit) => ⟨[(0, pt b00), (3, C.int x90), (4, C.int x91)], [Obj.box b00 156 [C.im Y9d 3 p0.h.rooms, C.im Y9a 2 p0.h.stream, C.val w01, C.val w02, C.val w03], Obj.arr w01 182 Y9j 1 p0.rooms, Obj.arr w02 57 Y9k 1 p0.pos, Obj.arr w03 27 Y9h 1 p0.now]⟩) (gb [0, 0, 0, 0]) ?_
  rintro ⟨x90, x91⟩ _ y197 h
  refine zw ?_
  refine cnd h (fun hb92 h => ?_) fun hb92 h => ?_
  ·
   refine AW.ct hb92 rfl ?_
   refine AW.skip ?_
   refine AW.seq ?_
   refine AW.cut (τ := Int) (fun x180 => ⟨[(0, pt b00), (3, C.int x180), (4, C.int x91)], [Obj.box b00 156 [C.im Y9d 3 p0.h.rooms, C.im Y9a 2 p0.h.stream, C.val w01, C.val w02, C.val w03], Obj.arr w01 182 Y9j 1 p0.rooms, Obj.arr w02 57 Y9k 1 p0.pos, Obj.arr w03 27 Y9h 1 p0.now]⟩) (fun x180 => Z6m x91 x180 = some y197) ?_ ?_
   ·
    refine zw ?_
    refine oi h fun e93 g94 h => ?_
    refine zw ?_
    refine Ops.h (ns := []) rfl rfl (Y1p (cs := [C.int 0, C.val s0, C.val s0]) Yat (Y42 rfl rfl) rfl) ?_
    rintro _ _ ⟨b95, rfl, rfl⟩
    refine Ops.hd (ns := [0]) rfl rfl (Y1u (gs := [C.int e93.room, C.im Y98 9 e93.events, C.im Y98 9 e93.parked]) Yaz.h rfl rfl rfl rfl rfl) ?_
    refine zw ?_
    refine AW.lp (v := ()) h (fun (x137, x138) (_ : Unit) => ⟨[(0, pt b00), (3, C.int x137), (4, C.int x91), (5, pt b95), (6, C.int x138)], [Obj.box b00 156 [C.im Y9d 3 p0.h.rooms, C.im Y9a 2 p0.h.stream, C.val w01, C.val w02, C.val w03], Obj.arr w01 182 Y9j 1 p0.rooms, Obj.arr w02 57 Y9k 1 p0.pos, Obj.arr w03 27 Y9h 1 p0.now, Obj.box b95 139 [C.int e93.room, C.im Y98 9 e93.events, C.im Y98 9 e93.parked]]⟩) (gb [1, 1, 1, 1, 0]) ?_
    rintro ⟨x137, x138⟩ _ y204 h
    refine AW.seq ?_
    refine AW.seq ?_
    refine AW.region ?_
    refine Ops.v rfl (Yq rfl rfl) ?_
    refine Ops.v rfl (Y1b Yaw.h rfl rfl) ?_
    refine Ops.v rfl (Y1k (p := 4) Yax.h rfl rfl rfl rfl) ?_
    refine zw ?_
    refine cnd h (fun hb139 h => ?_) fun hb139 h => ?_
    ·
     refine AW.ct hb139 rfl ?_
     refine AW.skip ?_
     refine AW.seq ?_
     refine AW.cut (τ := Int) (fun x179 => ⟨[(0, pt b00), (3, C.int x179), (4, C.int x91), (5, pt b95), (6, C.int x138)], [Obj.box b00 156 [C.im Y9d 3 p0.h.rooms, C.im Y9a 2 p0.h.stream, C.val w01, C.val w02, C.val w03], Obj.arr w01 182 Y9j 1 p0.rooms, Obj.arr w02 57 Y9k 1 p0.pos, Obj.arr w03 27 Y9h 1 p0.now, Obj.box b95 139 [C.int e93.room, C.im Y98 9 e93.events, C.im Y98 9 e93.parked]]⟩) (fun x179 => Z6n x138 x179 = some y204) ?_ ?_
     ·
      refine zw ?_
      refine AW.regionD (L := [3, 6, 9, 12, 17, 20, 23]) (Lt := []) (k := dec [0,3,6,10,12,15,19,21,24,28,30,33,37,39,42,45,48,52,54,57,61,63,66,70,72,75]) (ns := [0, 0, 0, 0, 0]) (by kernel_rfl) (by kernel_rfl) (by kernel_rfl) (by kernel_rfl) rfl ?_
      refine zw ?_
      refine ob' h fun e140 g141 h => ?_
      refine OpsD.v rfl rfl (Y2x (p := 1) Ycn.h rfl rfl rfl g141 rfl) ?_
      refine OpsD.v rfl rfl (Y30 (p := 1) Yco.h rfl rfl (Y29 g141).2.2 rfl rfl) ?_
      refine zw ?_
      refine di h fun e142 g143 h => ?_
      refine zw ?_
      refine ob' h fun e144 g145 h => ?_
      refine OpsD.v rfl rfl (Y2x (p := 2) Ycp.h rfl rfl rfl g145 rfl) ?_
      refine OpsD.v rfl rfl (Y30 (p := 2) Y9s.h rfl rfl (Y29 g145).2.2 rfl rfl) ?_
      refine zw ?_
      refine di h fun e146 g147 h => ?_
      refine zw ?_
      refine OpsD.v rfl rfl (Y11 un_4 rfl rfl rfl) ?_
      refine zw ?_
      refine cnd h (fun hb148 h => ?_) fun hb148 h => ?_
      ·
       refine AW.cond rfl (fun hn => absurd ((Y3u hb148).symm.trans hn) (by decide)) (fun _ => ?_)
       refine AW.skip ?_
       refine AW.seq ?_
       refine AW.cut (τ := Unit) (fun (_ : Unit) => ⟨[(0, pt b00), (3, C.int x137), (4, C.int x91), (5, pt b95), (6, C.int x138)], [Obj.box b00 156 [C.im Y9d 3 p0.h.rooms, C.im Y9a 2 p0.h.stream, C.val w01, C.val w02, C.val w03], Obj.arr w01 182 Y9j 1 p0.rooms, Obj.arr w02 57 Y9k 1 p0.pos, Obj.arr w03 27 Y9h 1 p0.now, Obj.box b95 139 [C.int e93.room, C.im Y98 9 e93.events, C.im Y98 9 e93.parked]]⟩) (fun (_ : Unit) => Z6o x137 x138 e146 = some y204) ?_ ?_
       ·
        refine zw ?_
        refine AW.lp (v := ()) h (fun x163 (_ : Unit) => ⟨[(0, pt b00), (3, C.int x137), (4, C.int x91), (5, pt b95), (6, C.int x138), (7, C.int x163)], [Obj.box b00 156 [C.im Y9d 3 p0.h.rooms, C.im Y9a 2 p0.h.stream, C.val w01, C.val w02, C.val w03], Obj.arr w01 182 Y9j 1 p0.rooms, Obj.arr w02 57 Y9k 1 p0.pos, Obj.arr w03 27 Y9h 1 p0.now, Obj.box b95 139 [C.int e93.room, C.im Y98 9 e93.events, C.im Y98 9 e93.parked]]⟩) (gb [0, 0, 0, 0, 0]) ?_
        rintro x163 _ y211 h
        refine AW.seq ?_
        refine AW.seq ?_
        refine AW.cut (τ := Bool) (fun x167 => ⟨[(0, pt b00), (3, C.int x137), (4, C.int x91), (5, pt b95), (6, C.int x138), (7, C.int x163), (80, C.bool x167)], [Obj.box b00 156 [C.im Y9d 3 p0.h.rooms, C.im Y9a 2 p0.h.stream, C.val w01, C.val w02, C.val w03], Obj.arr w01 182 Y9j 1 p0.rooms, Obj.arr w02 57 Y9k 1 p0.pos, Obj.arr w03 27 Y9h 1 p0.now, Obj.box b95 139 [C.int e93.room, C.im Y98 9 e93.events, C.im Y98 9 e93.parked]]⟩) (fun x167 => Z6p e93 x138 e144 e146 x163 x167 = some y211) ?_ ?_
        ·
         refine AW.region ?_
         refine Ops.v rfl (Yq rfl rfl) ?_
         refine Ops.v rfl (Y1b Yaw.h rfl rfl) ?_
         refine Ops.v rfl (Y1k (p := 4) Yax.h rfl rfl rfl rfl) ?_
         refine zw ?_
         refine oi h fun e164 g165 h => ?_
         refine zw ?_
         refine cnd h (fun hb166 h => ?_) fun hb166 h => ?_
         ·
          refine Ops.gv rfl rfl rfl rfl hb166 (Yq rfl rfl) ?_
          refine Ops.gv rfl rfl rfl rfl hb166 (Y14 rfl rfl) ?_
          refine Ops.gv rfl rfl rfl rfl hb166 (Y1b Ycj.h rfl rfl) ?_
          refine Ops.gv rfl rfl rfl rfl hb166 (Y1k (p := 0) Yck.h rfl rfl rfl rfl) ?_
          refine Ops.gv rfl rfl rfl rfl hb166 (Yq rfl rfl) ?_
          refine Ops.gv rfl rfl rfl rfl hb166 (Y2x (p := 2) Ycp.h rfl rfl rfl g145 rfl) ?_
          refine Ops.gv rfl rfl rfl rfl hb166 (Y30 (p := 2) Y9s.h rfl rfl (Y29 g145).2.2 rfl rfl) ?_
          refine zw ?_
          exact ⟨decide (e146 > 0), h, Y21.both (ns := [0, 0, 0, 0, 0]) rfl rfl⟩
         refine zw ?_
         exact ⟨false, h, Y21.both (ns := [0, 0, 0, 0, 0]) rfl rfl⟩
        intro x167 h
        replace h : Z6p e93 x138 e144 e146 x163 x167 = some y211 := h
        unfold Z6p at h
        refine cnd h (fun hb168 h => ?_) fun hb168 h => ?_
        ·
         refine AW.ct hb168 rfl ?_
         refine zw ?_
         refine AW.regionD (L := [3, 6, 8, 10, 14, 17, 20, 24, 27, 30]) (Lt := []) (k := dec [0,3,6,10,12,15,19,21,25,27,31,33,36,39,43,45,48,52,63,66,69,73,75,78,82,84,87,91,56,57,61,93]) (ns := [0, 0, 0, 0, 0]) (by kernel_rfl) (by kernel_rfl) (by kernel_rfl) (by kernel_rfl) rfl ?_
         refine OpsD.v rfl rfl (Yq rfl rfl) ?_
         refine OpsD.v rfl rfl (Y14 rfl rfl) ?_
         refine OpsD.v rfl rfl (Y1b Ycj.h rfl rfl) ?_
         refine OpsD.v rfl rfl (Y1k (p := 0) Yck.h rfl rfl rfl rfl) ?_
         refine OpsD.v rfl rfl (Yq rfl rfl) ?_
         refine OpsD.v rfl rfl (Y2x (p := 2) Ycp.h rfl rfl rfl g145 rfl) ?_
         refine OpsD.v rfl rfl (Y30 (p := 2) Y9s.h rfl rfl (Y29 g145).2.2 rfl rfl) ?_
         refine OpsD.v rfl rfl (Y1b Yaw.h rfl rfl) ?_
         refine OpsD.v rfl rfl (Y1k (p := 4) Yax.h rfl rfl rfl rfl) ?_
         refine OpsD.v rfl rfl (Y1b Yaw.h rfl rfl) ?_
         refine OpsD.v rfl rfl (Y1k (p := 4) Yax.h rfl rfl rfl rfl) ?_
         refine zw ?_
         refine di h fun e169 g170 h => ?_
         refine zw ?_
         refine di h fun e171 g172 h => ?_
         refine OpsD.v rfl rfl (Y1h ld_2.h rfl rfl) ?_
         refine OpsD.v rfl rfl (Yq rfl rfl) ?_
         refine OpsD.v rfl rfl (Y14 rfl rfl) ?_
         refine OpsD.v rfl rfl (Y1b Ycj.h rfl rfl) ?_
         refine OpsD.v rfl rfl (Y1k (p := 0) Yck.h rfl rfl rfl rfl) ?_
         refine OpsD.v rfl rfl (Yq rfl rfl) ?_
         refine OpsD.v rfl rfl (Y2x (p := 2) Ycp.h rfl rfl rfl g145 rfl) ?_
         refine OpsD.v rfl rfl (Y30 (p := 2) Y9s.h rfl rfl (Y29 g145).2.2 rfl rfl) ?_
         refine zw ?_
         refine dc h fun r173 g174 h => ?_
         refine di h fun e175 g176 h => ?_
         refine zw ?_
         refine cnd h (fun hb177 h => ?_) fun hb177 h => ?_
         ·
          refine AW.ct hb177 rfl ?_
          refine zw ?_
          refine AW.ret ?_
          refine lx h fun h => ?_
          refine lx h fun h => ?_
          refine lx h fun h => ?_
          rw [← Option.some.inj h]
          exact ⟨[C.bool false], _, Y21.refl _, (.cons (.tmp rfl) .nil), [0, 0, 0, 0], _, _, rfl, ⟨rfl, rfl⟩⟩
         refine AW.cf hb177 rfl ?_
         refine zw ?_
         exact lu h (gb [0, 0, 0, 0, 0])
        refine AW.cf hb168 rfl ?_
        refine AW.exit ?_
        refine lx h fun h => ?_
        exact ⟨(), h, Y21.both (ns := [0, 0, 0, 0, 0]) rfl rfl⟩
       rintro ⟨⟩ h
       replace h : Z6o x137 x138 e146 = some y204 := h
       unfold Z6o at h
       refine AW.seq ?_
       refine AW.region ?_
       refine Ops.v rfl (Yq rfl rfl) ?_
       refine Ops.v rfl (Y14 rfl rfl) ?_
       refine Ops.v rfl (Y1b Ycj.h rfl rfl) ?_
       refine Ops.v rfl (Y1k (p := 0) Yck.h rfl rfl rfl rfl) ?_
       refine Ops.v rfl (Yq rfl rfl) ?_
       refine Ops.v rfl (Y2x (p := 2) Ycp.h rfl rfl rfl g145 rfl) ?_
       refine Ops.v rfl (Y30 (p := 2) Y9s.h rfl rfl (Y29 g145).2.2 rfl rfl) ?_
       refine zw ?_
       refine cnd h (fun hb178 h => ?_) fun hb178 h => ?_
       ·
        refine AW.ct hb178 rfl ?_
        refine zw ?_
        exact ⟨(IntKind.i64.wrap (x137 + 1)), h, Y21.both (ns := [0, 0, 0, 0, 0]) rfl rfl⟩
       refine AW.cf hb178 rfl ?_
       refine zw ?_
       exact ⟨x137, h, Y21.both (ns := [0, 0, 0, 0, 0]) rfl rfl⟩
      refine AW.cond rfl (fun _ => ?_) (fun hn => absurd ((Y3v hb148).symm.trans hn) (by decide))
      refine zw ?_
      refine AW.ret ?_
      refine lx h fun h => ?_
      refine lx h fun h => ?_
      rw [← Option.some.inj h]
      exact ⟨[C.bool false], _, Y21.refl _, (.cons (.tmp rfl) .nil), [0, 0, 0, 0], _, _, rfl, ⟨rfl, rfl⟩⟩
     intro x179 h
     replace h : Z6n x138 x179 = some y204 := h
     unfold Z6n at h
     refine zw ?_
     exact lu h (gb [0, 0, 0, 0, 0])
    refine AW.cf hb139 rfl ?_
    refine AW.exit ?_
    refine lx h fun h => ?_
    exact ⟨x137, h, Y21.both (ns := [0, 0, 0, 0]) rfl rfl⟩
   intro x180 h
   replace h : Z6m x91 x180 = some y197 := h
   unfold Z6m at h
   refine zw ?_
   exact lu h (gb [0, 0, 0, 0])
  refine AW.cf hb92 rfl ?_
  refine AW.exit ?_
  refine lx h fun h => ?_
  exact ⟨x90, h, Y21.both (ns := [0, 0, 0, 0]) rfl rfl⟩
 intro x181 h
 replace h : Z6l p0 x181 = some r := h
 unfold Z6l at h
 refine zw ?_
 refine AW.ret ?_
 rw [← Option.some.inj h]
 exact ⟨[C.bool (x181 == (p0.h.stream.length : Int))], _, Y21.refl _, (.cons (.tmp rfl) .nil), [0, 0, 0, 0], _, _, rfl, ⟨rfl, rfl⟩⟩

def Z6v (p0 : Y91) : Option (Y94 × Bool) := (Z6j p0).bind fun r56 => (Z6t r56).bind fun r62 => cond r62 (some (r56, true)) (some ((Y94.mk (Y91.mk [] []) [] [] []), false))
def Z6w (x39 : Int) : Option (Int ⊕ ((Y94 × Bool) ⊕ Unit)) := some (.inl (IntKind.i64.wrap (x39 + 1)))
def Z6x (p0 : Y91) (x39 : Int) (x48 : Int) : Option (Int ⊕ ((Y94 × Bool) ⊕ Unit)) := cond (decide (x48 < x39)) ((getI p0.stream x39).bind fun e50 => (getI p0.stream x48).bind fun e52 => cond ((e50.room == e52.room) && ((e50.id == e52.id) && true)) (some (.inr (.inl ((Y94.mk (Y91.mk [] []) [] [] []), false)))) (some (.inl (IntKind.i64.wrap (x48 + 1))))) (some (.inr (.inr ())))
def Z6y (p0 : Y91) (x39 : Int) : Option (Int ⊕ ((Y94 × Bool) ⊕ Unit)) := cond (decide (x39 < (p0.stream.length : Int))) ((iter (Z6x p0 x39) big 0).bind (fun z67 => match z67 with | .inl y66 => some (.inr (.inl y66)) | .inr () => Z6w x39)) (some (.inr (.inr ())))
def Z6z (p0 : Y91) : Option (Y94 × Bool) := (iter (Z6y p0) big 0).bind (fun z69 => match z69 with | .inl y68 => some y68 | .inr () => Z6v p0)
def Z70 (x15 : Int) (x22 : Bool) : Option (Int ⊕ ((Y94 × Bool) ⊕ Unit)) := cond x22 (some (.inr (.inl ((Y94.mk (Y91.mk [] []) [] [] []), false)))) (some (.inl (IntKind.i64.wrap (x15 + 1))))
def Z71 (p0 : Y91) (x15 : Int) : Option (Int ⊕ ((Y94 × Bool) ⊕ Unit)) := cond (decide (x15 < (p0.rooms.length : Int))) ((getI p0.rooms x15).bind fun e17 => (Z2y e17).bind fun r19 => cond r19 (Z70 x15 (e17.room != (IntKind.i64.wrap (x15 + 1)))) (Z70 x15 true)) (some (.inr (.inr ())))
def Z72 (p0 : Y91) (x3 : Bool) : Option (Y94 × Bool) := cond x3 (some ((Y94.mk (Y91.mk [] []) [] [] []), false)) ((iter (Z71 p0) big 0).bind (fun z71 => match z71 with | .inl y70 => some y70 | .inr () => Z6z p0))
def Z73 (p0 : Y91) : Option (Y94 × Bool) := cond ((p0.rooms.length : Int) != 3) (Z72 p0 true) (Z72 p0 (decide ((p0.stream.length : Int) > 120)))
set_option maxHeartbeats 1000000 in
instance Z74 (p0 : Y91) : Sp Tryz.prog 68 [C.agg [C.im Y9d 3 p0.rooms, C.im Y9a 2 p0.stream]] (Z73 p0) (fun r => C.tup [C.ip [C.im Y9d 3 r.1.h.rooms, C.im Y9a 2 r.1.h.stream, C.im Y9j 1 r.1.rooms, C.im Y9k 1 r.1.pos, C.im Y9h 1 r.1.now], C.bool r.2]) := sp Tryz.func68 rfl rfl fun r X h => by
 unfold Z73 at h
 refine zw ?_
 refine ox fun b1 => ?_
 refine Ops.v rfl (Yr rfl rfl) ?_
 refine Ops.v rfl (Yr rfl rfl) ?_
 refine Ops.nil ?_
 refine AW.seq ?_
 refine AW.seq ?_
 refine AW.cut (τ := Bool) (fun x3 => ⟨[(1, pt b1), (17, C.bool x3)], [Obj.box b1 32 [C.im Y9d 3 p0.rooms, C.im Y9a 2 p0.stream]]⟩) (fun x3 => Z72 p0 x3 = some r) go fun x3 h => ?_
 replace h : Z72 p0 x3 = some r := h
 unfold Z72 at h
 refine cnd h (fun hb4 h => ?_) fun hb4 h => ?_
 ·
  refine AW.ct hb4 rfl ?_
  refine zw ?_
  refine Ops.v rfl (Y38 (ds := [C.val s0, C.val s0, C.val s0, C.val s0, C.val s0]) Ycd Yce (Y42 rfl rfl) .nil rfl) ?_
  refine ox fun b5 => ?_
  refine zw ?_
  refine AW.ret ?_
  rw [← Option.some.inj h]
  exact ⟨[C.ip [C.im Y9d 3 [], C.im Y9a 2 [], C.im Y9j 1 [], C.im Y9k 1 [], C.im Y9h 1 []], C.bool false], _, Y21.freezeBy (ns := [0]) (t := 2) rfl rfl (Frz.box (FrzL.cons (os := []) (Frz.imp (Imp.nil Y9d 3)) (FrzL.cons (os := []) (Frz.imp (Imp.nil Y9a 2)) (FrzL.cons (os := []) (Frz.imp (Imp.nil Y9j 1)) (FrzL.cons (os := []) (Frz.imp (Imp.nil Y9k 1)) (FrzL.cons (os := []) (Frz.imp (Imp.nil Y9h 1)) FrzL.nil)))))), (.cons (.tmp rfl) (.cons (.tmp rfl) .nil)), [], _, _, rfl, ⟨rfl, rfl⟩⟩
 refine AW.cf hb4 rfl ?_
 refine AW.skip ?_
 refine AW.seq ?_
 refine AW.cut (τ := Unit) (fun (_ : Unit) => ⟨[(1, pt b1)], [Obj.box b1 32 [C.im Y9d 3 p0.rooms, C.im Y9a 2 p0.stream]]⟩) (fun (_ : Unit) => Z6z p0 = some r) ?_ ?_
 ·
  refine zw ?_
  refine AW.lp (v := ()) h (fun x15 (_ : Unit) => ⟨[(1, pt b1), (4, C.int x15)], [Obj.box b1 32 [C.im Y9d 3 p0.rooms, C.im Y9a 2 p0.stream]]⟩) (gb [0]) ?_
  rintro x15 _ y91 h
  refine zw ?_
  refine cnd h (fun hb16 h => ?_) fun hb16 h => ?_
  ·
   refine AW.ct hb16 rfl ?_
   refine AW.skip ?_
   refine AW.seq ?_
   refine AW.block ?_
   refine AW.seq ?_
   refine AW.cut (τ := Bool) (fun x22 => ⟨[(1, pt b1), (4, C.int x15), (44, C.bool x22)], [Obj.box b1 32 [C.im Y9d 3 p0.rooms, C.im Y9a 2 p0.stream]]⟩) (fun x22 => Z70 x15 x22 = some y91) go fun x22 h => ?_
   replace h : Z70 x15 x22 = some y91 := h
   unfold Z70 at h
   refine cnd h (fun hb23 h => ?_) fun hb23 h => ?_
   ·
    refine AW.ct hb23 rfl ?_
    refine zw ?_
    refine Ops.v rfl (Y38 (ds := [C.val s0, C.val s0, C.val s0, C.val s0, C.val s0]) Ycd Yce (Y42 rfl rfl) .nil rfl) ?_
    refine ox fun b24 => ?_
    refine zw ?_
    refine AW.ret ?_
    refine lx h fun h => ?_
    rw [← Option.some.inj h]
    exact ⟨[C.ip [C.im Y9d 3 [], C.im Y9a 2 [], C.im Y9j 1 [], C.im Y9k 1 [], C.im Y9h 1 []], C.bool false], _, Y21.freezeBy (ns := [0]) (t := 2) rfl rfl (Frz.box (FrzL.cons (os := []) (Frz.imp (Imp.nil Y9d 3)) (FrzL.cons (os := []) (Frz.imp (Imp.nil Y9a 2)) (FrzL.cons (os := []) (Frz.imp (Imp.nil Y9j 1)) (FrzL.cons (os := []) (Frz.imp (Imp.nil Y9k 1)) (FrzL.cons (os := []) (Frz.imp (Imp.nil Y9h 1)) FrzL.nil)))))), (.cons (.tmp rfl) (.cons (.tmp rfl) .nil)), [], _, _, rfl, ⟨rfl, rfl⟩⟩
   exact go
  exact go
 rintro ⟨⟩ h
 replace h : Z6z p0 = some r := h
 unfold Z6z at h
 refine AW.seq ?_
 refine AW.cut (τ := Unit) (fun (_ : Unit) => ⟨[(1, pt b1)], [Obj.box b1 32 [C.im Y9d 3 p0.rooms, C.im Y9a 2 p0.stream]]⟩) (fun (_ : Unit) => Z6v p0 = some r) ?_ ?_
 ·
  refine zw ?_
  refine AW.lp (v := ()) h (fun x39 (_ : Unit) => ⟨[(1, pt b1), (5, C.int x39)], [Obj.box b1 32 [C.im Y9d 3 p0.rooms, C.im Y9a 2 p0.stream]]⟩) (gb [0]) ?_
  rintro x39 _ y77 h
  refine zw ?_
  refine cnd h (fun hb40 h => ?_) fun hb40 h => ?_
  ·
   refine AW.ct hb40 rfl ?_
   refine zw ?_
   refine AW.lp (v := ()) h (fun x48 (_ : Unit) => ⟨[(1, pt b1), (5, C.int x39), (6, C.int x48)], [Obj.box b1 32 [C.im Y9d 3 p0.rooms, C.im Y9a 2 p0.stream]]⟩) (gb [0]) ?_
   rintro x48 _ y84 h
   refine zw ?_
   refine cnd h (fun hb49 h => ?_) fun hb49 h => ?_
   ·
    refine AW.ct hb49 rfl ?_
    refine zw ?_
    refine AW.regionD (L := [1, 4, 6, 9]) (Lt := []) (k := dec [0,4,6,9,13,15,19,21,24,28,30]) (ns := [0]) (by kernel_rfl) (by kernel_rfl) (by kernel_rfl) (by kernel_rfl) rfl ?_
    refine zw ?_
    refine di h fun e50 g51 h => ?_
    refine zw ?_
    refine di h fun e52 g53 h => ?_
    refine zw ?_
    refine OpsD.v rfl rfl (Y5l [.int .i64 e50.room, .int .i64 e50.id] [.int .i64 e52.room, .int .i64 e52.id] Ycq rfl rfl rfl rfl rfl rfl) ?_
    refine zw ?_
    refine cnd h (fun hb54 h => ?_) fun hb54 h => ?_
    ·
     refine AW.ct hb54 rfl ?_
     refine zw ?_
     refine Ops.v rfl (Y38 (ds := [C.val s0, C.val s0, C.val s0, C.val s0, C.val s0]) Ycd Yce (Y42 rfl rfl) .nil rfl) ?_
     refine ox fun b55 => ?_
     refine zw ?_
     refine AW.ret ?_
     refine lx h fun h => ?_
     refine lx h fun h => ?_
     rw [← Option.some.inj h]
     exact ⟨[C.ip [C.im Y9d 3 [], C.im Y9a 2 [], C.im Y9j 1 [], C.im Y9k 1 [], C.im Y9h 1 []], C.bool false], _, Y21.freezeBy (ns := [0]) (t := 2) rfl rfl (Frz.box (FrzL.cons (os := []) (Frz.imp (Imp.nil Y9d 3)) (FrzL.cons (os := []) (Frz.imp (Imp.nil Y9a 2)) (FrzL.cons (os := []) (Frz.imp (Imp.nil Y9j 1)) (FrzL.cons (os := []) (Frz.imp (Imp.nil Y9k 1)) (FrzL.cons (os := []) (Frz.imp (Imp.nil Y9h 1)) FrzL.nil)))))), (.cons (.tmp rfl) (.cons (.tmp rfl) .nil)), [], _, _, rfl, ⟨rfl, rfl⟩⟩
    exact go
   exact go
  exact go
 rintro ⟨⟩ h
 replace h : Z6v p0 = some r := h
 unfold Z6v at h
 refine zw ?_
 refine ob' h fun r56 g57 h => ?_
 refine Ops.h (ns := []) rfl rfl (Y23 (Z6k _ _ g57) rfl rfl) ?_
 rintro _ _ ⟨_, ⟨b58, v59, v60, v61, rfl, rfl⟩, rfl⟩
 refine zw ?_
 refine ob' h fun r62 g63 h => ?_
 refine Ops.hd (ns := [0, 0, 0, 0]) rfl rfl (Y24 (Z6u r56 _ g63) rfl rfl) ?_
 refine zw ?_
 refine cnd h (fun hb64 h => ?_) fun hb64 h => ?_
 ·
  refine AW.cond rfl (fun hn => absurd ((Y3u hb64).symm.trans hn) (by decide)) (fun _ => ?_)
  refine zw ?_
  refine AW.ret ?_
  rw [← Option.some.inj h]
  exact ⟨[C.ip [C.im Y9d 3 r56.h.rooms, C.im Y9a 2 r56.h.stream, C.im Y9j 1 r56.rooms, C.im Y9k 1 r56.pos, C.im Y9h 1 r56.now], C.bool true], _, Y21.freezeBy (ns := [0, 0, 0, 0]) (t := 2) rfl rfl (Frz.box (FrzL.cons (os := []) (Frz.same _) (FrzL.cons (os := []) (Frz.same _) (FrzL.cons (os := [_]) Frz.arr (FrzL.cons (os := [_]) Frz.arr (FrzL.cons (os := [_]) Frz.arr FrzL.nil)))))), (.cons (.tmp rfl) (.cons (.tmp rfl) .nil)), [], _, _, rfl, ⟨rfl, rfl⟩⟩
 refine AW.cond rfl (fun _ => ?_) (fun hn => absurd ((Y3v hb64).symm.trans hn) (by decide))
 refine zw ?_
 refine Ops.v rfl (Y38 (ds := [C.val s0, C.val s0, C.val s0, C.val s0, C.val s0]) Ycd Yce (Y42 rfl rfl) .nil rfl) ?_
 refine ox fun b65 => ?_
 refine zw ?_
 refine AW.ret ?_
 rw [← Option.some.inj h]
 exact ⟨[C.ip [C.im Y9d 3 [], C.im Y9a 2 [], C.im Y9j 1 [], C.im Y9k 1 [], C.im Y9h 1 []], C.bool false], _, Y21.freezeBy (ns := [0]) (t := 2) rfl rfl (Frz.box (FrzL.cons (os := []) (Frz.imp (Imp.nil Y9d 3)) (FrzL.cons (os := []) (Frz.imp (Imp.nil Y9a 2)) (FrzL.cons (os := []) (Frz.imp (Imp.nil Y9j 1)) (FrzL.cons (os := []) (Frz.imp (Imp.nil Y9k 1)) (FrzL.cons (os := []) (Frz.imp (Imp.nil Y9h 1)) FrzL.nil)))))), (.cons (.tmp rfl) (.cons (.tmp rfl) .nil)), [], _, _, rfl, ⟨rfl, rfl⟩⟩

def Z75 : Option Bool := some true
def Z76 (p0 : Y8z) (x13 : Int) : Option (Int ⊕ (Bool ⊕ Unit)) := cond (decide (x13 < (p0.at_.length : Int))) ((getI p0.at_ x13).bind fun e15 => (Z1c e15 0 120).bind fun r17 => cond r17 (some (.inl (IntKind.i64.wrap (x13 + 1)))) (some (.inr (.inl false)))) (some (.inr (.inr ())))
def Z77 (p0 : Y8z) (x5 : Bool) : Option Bool := cond x5 (some false) ((iter (Z76 p0) big 0).bind (fun z21 => match z21 with | .inl y20 => some y20 | .inr () => Z75))
def Z78 (p0 : Y8z) : Option Bool := (Z1g p0.user).bind fun r2 => cond r2 (Z77 p0 ((p0.at_.length : Int) != 3)) (Z77 p0 true)
set_option maxHeartbeats 1000000 in
instance Z79 (p0 : Y8z) : Sp Tryz.prog 102 [C.agg [C.int p0.user, C.im kI64 1 p0.at_]] (Z78 p0) C.bool := sp Tryz.func102 rfl rfl fun r X h => by
 unfold Z78 at h
 refine zw ?_
 refine ox fun b1 => ?_
 refine Ops.v rfl (Yr rfl rfl) ?_
 refine Ops.nil ?_
 refine AW.seq ?_
 refine AW.seq ?_
 refine AW.cut (τ := Bool) (fun x5 => ⟨[(1, pt b1), (13, C.bool x5)], [Obj.box b1 65 [C.int p0.user, C.im kI64 1 p0.at_]]⟩) (fun x5 => Z77 p0 x5 = some r) go fun x5 h => ?_
 replace h : Z77 p0 x5 = some r := h
 unfold Z77 at h
 refine cnd h (fun hb6 h => go) fun hb6 h => ?_
 refine AW.cf hb6 rfl ?_
 refine zw ?_
 refine AW.lp (v := ()) h (fun x13 (_ : Unit) => ⟨[(1, pt b1), (3, C.int x13)], [Obj.box b1 65 [C.int p0.user, C.im kI64 1 p0.at_]]⟩) (gb [0]) ?_
 rintro x13 _ y27 h
 exact go

def Z7a (p0 : Int) : Option Bool := (Z1c p0 1 3).bind fun r1 => some r1
instance Z7b (p0 : Int) : Sp Tryz.prog 96 [C.int p0] (Z7a p0) C.bool := sp Tryz.func96 rfl rfl fun r X h => go

def Z7c (p0 : Y90) (p1 : List Y92) : Option Int := (Z46 p0 p1 6 0).bind fun r2 => cond (r2.n == 0) (some 2) (some r2.n)
instance Z7d (p0 : Y90) (p1 : List Y92) : Sp Tryz.prog 161 [C.agg [C.int p0.room, C.im Y98 9 p0.events, C.im Y98 9 p0.parked], C.im Y9g 3 p1] (Z7c p0 p1) C.int := sp Tryz.func161 rfl rfl fun r X h => by
 unfold Z7c at h
 refine zw ?_
 refine ox fun b1 => ?_
 refine zw ?_
 refine oc h fun r2 g3 h => ?_
 refine Ops.v rfl (Y6v Ybw rfl rfl rfl) ?_
 exact go

def Z7e (x30 : Bool) : Option Bool := some x30
def Z7f (p0 : Y94) (p1 : Int) (p2 : Int) (e6 : Y90) (r16 : Int) (x23 : Bool) : Option Bool := cond x23 (some true) (cond (r16 == 2) ((getI p0.now (IntKind.i64.wrap (p2 - 1))).bind fun e26 => (Z48 e6 e26 p1).bind fun r28 => Z7e (r28 == 1)) (Z7e false))
def Z7g (p0 : Y94) (p1 : Int) (p2 : Int) (p3 : Int) : Option Bool := (getI p0.pos (IntKind.i64.wrap (p2 - 1))).bind fun e1 => (getI e1 p3).bind fun e3 => cond (e3 == 0) (some false) ((getI p0.h.rooms (IntKind.i64.wrap (p2 - 1))).bind fun e6 => (getI p0.rooms (IntKind.i64.wrap (p2 - 1))).bind fun e9 => (getI e9.behind p3).bind fun e11 => (getI e6.events p3).bind fun e13 => (Z7c e6 e11).bind fun r16 => (Z48 e6 e11 p1).bind fun r18 => cond (r18 == 1) (Z7f p0 p1 p2 e6 r16 true) (cond (r16 == 1) (Z7f p0 p1 p2 e6 r16 true) (cond (e13.kind == 2) (Z7f p0 p1 p2 e6 r16 (e13.key == p1)) (Z7f p0 p1 p2 e6 r16 false))))
set_option maxHeartbeats 1000000 in
instance Z7h (p0 : Y94) (p1 : Int) (p2 : Int) (p3 : Int) : Sp Tryz.prog 108 [C.ip [C.im Y9d 3 p0.h.rooms, C.im Y9a 2 p0.h.stream, C.im Y9j 1 p0.rooms, C.im Y9k 1 p0.pos, C.im Y9h 1 p0.now], C.int p1, C.int p2, C.int p3] (Z7g p0 p1 p2 p3) C.bool := sp Tryz.func108 rfl rfl fun r X h => by
 unfold Z7g at h
 refine zw ?_
 refine oi h fun e1 g2 h => ?_
 refine zw ?_
 refine oi h fun e3 g4 h => ?_
 refine zw ?_
 refine cnd h (fun hb5 h => go) fun hb5 h => ?_
 refine AW.cf hb5 rfl ?_
 refine zw ?_
 refine oi h fun e6 g7 h => ?_
 refine zw ?_
 refine Ops.h (ns := []) rfl rfl (Y1p (cs := [C.int 0, C.val s0, C.val s0]) Yat (Y42 rfl rfl) rfl) ?_
 rintro _ _ ⟨b8, rfl, rfl⟩
 refine Ops.hd (ns := [0]) rfl rfl (Y1u (gs := [C.int e6.room, C.im Y98 9 e6.events, C.im Y98 9 e6.parked]) Yaz.h rfl rfl rfl rfl rfl) ?_
 refine zw ?_
 refine oi h fun e9 g10 h => ?_
 refine zw ?_
 refine oi h fun e11 g12 h => ?_
 refine zw ?_
 refine oi h fun e13 g14 h => ?_
 refine zw ?_
 refine Ops.h (ns := []) rfl rfl (Y1p (cs := [C.int 0, C.int 0, C.int 0, C.int 0, C.int 0, C.int 0, C.str ByteArray.empty, C.val s0, C.int 0]) Ya7 (Y42 rfl rfl) rfl) ?_
 rintro _ _ ⟨b15, rfl, rfl⟩
 refine Ops.hd (ns := [0]) rfl rfl (Y1u (gs := [C.int e13.id, C.int e13.room, C.int e13.author, C.int e13.kind, C.int e13.key, C.int e13.n, C.str e13.text, C.im kI64 1 e13.prev, C.int e13.time]) Yao.h rfl rfl rfl rfl rfl) ?_
 refine zw ?_
 refine oc h fun r16 g17 h => ?_
 refine Ops.v rfl (Yr rfl rfl) ?_
 refine Ops.nil ?_
 refine AW.seq ?_
 refine AW.seq ?_
 refine AW.cut (τ := Bool) (fun x23 => ⟨[(0, C.ip [C.im Y9d 3 p0.h.rooms, C.im Y9a 2 p0.h.stream, C.im Y9j 1 p0.rooms, C.im Y9k 1 p0.pos, C.im Y9h 1 p0.now]), (1, C.int p1), (2, C.int p2), (9, pt b8), (12, C.int r16), (75, C.bool x23)], [Obj.box b8 139 [C.int e6.room, C.im Y98 9 e6.events, C.im Y98 9 e6.parked]]⟩) (fun x23 => Z7f p0 p1 p2 e6 r16 x23 = some r) go fun x23 h => ?_
 replace h : Z7f p0 p1 p2 e6 r16 x23 = some r := h
 unfold Z7f at h
 refine cnd h (fun hb24 h => go) fun hb24 h => ?_
 refine AW.cf hb24 rfl ?_
 refine zw ?_
 refine AW.regionD (L := [3, 7, 11]) (Lt := []) (k := dec [0,3,6,10,12,15,18,22,24,27,30,34,36,41,42,45,48]) (ns := [0]) (by kernel_rfl) (by kernel_rfl) (by kernel_rfl) (by kernel_rfl) rfl ?_
 refine zw ?_
 refine cnd h (fun hb25 h => ?_) fun hb25 h => ?_
 ·
  refine zw ?_
  refine ob' h fun e26 g27 h => ?_
  refine zw ?_
  refine ob' h fun r28 g29 h => ?_
  refine Y3n.gh (ns := []) rfl rfl rfl rfl rfl hb25 rfl (Y24 ((Z49 _ _ _).h _ g29) rfl rfl) ?_
  rintro _ _ ⟨rfl, rfl⟩
  exact go
 refine OpsD.gs rfl rfl rfl rfl (.b rfl hb25) rfl rfl ?_
 refine OpsD.gs rfl rfl rfl rfl (.b rfl hb25) rfl rfl ?_
 refine OpsD.gs rfl rfl rfl rfl (.b rfl hb25) rfl rfl ?_
 refine OpsD.gs rfl rfl rfl rfl (.b rfl hb25) rfl rfl ?_
 refine OpsD.gs rfl rfl rfl rfl (.b rfl hb25) rfl rfl ?_
 refine OpsD.gs rfl rfl rfl rfl (.b rfl hb25) rfl rfl ?_
 refine OpsD.gs rfl rfl rfl rfl (.b rfl hb25) rfl rfl ?_
 refine OpsD.gs rfl rfl rfl rfl (.b rfl hb25) rfl rfl ?_
 refine OpsD.gs rfl rfl rfl rfl (.b rfl hb25) rfl rfl ?_
 refine OpsD.gs rfl rfl rfl rfl (.b rfl hb25) rfl rfl ?_
 refine OpsD.one ?_
 refine Y3n.gs rfl rfl rfl rfl (.b rfl hb25) rfl rfl ?_
 exact go

def Z7i (p1 : Y8z) (l43 : List Int) : Option Y95 := some (Y95.mk (Y8z.mk p1.user l43) 0)
def Z7j (p1 : Y8z) (p2 : Int) (r4 : Y94 × Bool) (r16 : Int) : Option Y95 := (getI r4.1.pos (IntKind.i64.wrap (p2 - 1))).bind fun e36 => (getI e36 r16).bind fun e38 => (getI (([] : List Int) ++ p1.at_) (IntKind.i64.wrap (p2 - 1))).bind fun e40 => cond (decide (e38 > e40)) (Z7i p1 (List.set (([] : List Int) ++ p1.at_) (Int.toNat (IntKind.i64.wrap (p2 - 1))) e38)) (Z7i p1 (([] : List Int) ++ p1.at_))
def Z7k (p1 : Y8z) (p2 : Int) (r4 : Y94 × Bool) (r16 : Int) (x21 : Bool) : Option Y95 := cond x21 (some (Y95.mk (Y8z.mk 0 []) 6)) ((chk (decide ((([] : List Int).length + p1.at_.length) * 8 ≤ 140737488355328))).bind fun u26 => Z7j p1 p2 r4 r16)
def Z7l (p0 : Y91) (p1 : Y8z) (p2 : Int) (p3 : Int) (r4 : Y94 × Bool) (x12 : Bool) : Option Y95 := cond x12 (some (Y95.mk (Y8z.mk 0 []) 1)) ((getI p0.rooms (IntKind.i64.wrap (p2 - 1))).bind fun e14 => (Z29 e14.events p3).bind fun r16 => cond (decide (r16 < 0)) (Z7k p1 p2 r4 r16 true) ((Z7g r4.1 p1.user p2 r16).bind fun r19 => Z7k p1 p2 r4 r16 (!r19)))
def Z7m (p0 : Y91) (p1 : Y8z) (p2 : Int) (p3 : Int) : Option Y95 := (Z73 p0).bind fun r4 => cond r4.2 ((Z78 p1).bind fun r7 => cond r7 ((Z7a p2).bind fun r10 => Z7l p0 p1 p2 p3 r4 (!r10)) (Z7l p0 p1 p2 p3 r4 true)) (Z7l p0 p1 p2 p3 r4 true)
set_option maxHeartbeats 1000000 in
theorem Z7n (p0 : Y91) (p1 : Y8z) (p2 : Int) (p3 : Int) (r : Y95) (h : Z7m p0 p1 p2 p3 = some r) : Ok Tryz.prog 43 [C.agg [C.im Y9d 3 p0.rooms, C.im Y9a 2 p0.stream], C.agg [C.int p1.user, C.im kI64 1 p1.at_], C.int p2, C.int p3] [] (fun c qs => ∃ (v44 : Value), c = C.agg [C.int r.marks.user, C.val v44, C.int r.code] ∧ qs = [Obj.arr v44 2 kI64 1 r.marks.at_]) := by
 refine Ok.of_body (rs := [.cell 8 70]) Tryz.func43 rfl rfl rfl rfl rfl fun X => ?_
 unfold Z7m at h
 refine zw ?_
 refine ox fun b1 => ?_
 refine ox fun b2 => ?_
 refine Ops.h (ns := []) rfl rfl (Y1p (cs := [C.int 0, C.val s0, C.int 0]) Ycr (Y42 rfl rfl) rfl) ?_
 rintro _ _ ⟨b3, rfl, rfl⟩
 refine zw ?_
 refine oc h fun r4 g5 h => ?_
 refine Ops.v rfl (Yq rfl rfl) ?_
 refine Ops.v rfl (Y13 rfl rfl rfl) ?_
 refine Ops.v rfl (Y13 rfl rfl rfl) ?_
 refine Ops.v rfl (Yr rfl rfl) ?_
 refine Ops.v rfl (Yr rfl rfl) ?_
 refine Ops.nil ?_
 refine AW.seq ?_
 refine AW.seq ?_
 refine AW.cut (τ := Bool) (fun x12 => ⟨[(2, C.int p2), (3, C.int p3), (4, pt b1), (5, pt b2), (8, pt b3), (9, C.ip [C.im Y9d 3 r4.1.h.rooms, C.im Y9a 2 r4.1.h.stream, C.im Y9j 1 r4.1.rooms, C.im Y9k 1 r4.1.pos, C.im Y9h 1 r4.1.now]), (29, C.bool x12)], [Obj.box b1 32 [C.im Y9d 3 p0.rooms, C.im Y9a 2 p0.stream], Obj.box b2 65 [C.int p1.user, C.im kI64 1 p1.at_], Obj.box b3 70 [C.int 0, C.val s0, C.int 0]]⟩) (fun x12 => Z7l p0 p1 p2 p3 r4 x12 = some r) ?_ ?_
 ·
  refine zw ?_
  refine cnd h (fun hb6 h => ?_) fun hb6 h => ?_
  ·
   refine zw ?_
   refine ob' h fun r7 g8 h => ?_
   refine Ops.ghd (ns := []) rfl rfl rfl rfl (Y3u hb6) rfl (Y24 ((Z79 _).h _ g8) rfl rfl) ?_
   refine zw ?_
   refine cnd h (fun hb9 h => ?_) fun hb9 h => ?_
   ·
    refine zw ?_
    refine ob' h fun r10 g11 h => ?_
    refine Ops.ghd (ns := []) rfl rfl rfl rfl (Y3u hb9) rfl (Y24 ((Z7b _).h _ g11) rfl rfl) ?_
    exact go
   exact go
  exact go
 intro x12 h
 replace h : Z7l p0 p1 p2 p3 r4 x12 = some r := h
 unfold Z7l at h
 refine cnd h (fun hb13 h => ?_) fun hb13 h => ?_
 ·
  refine AW.ct hb13 rfl ?_
  refine zw ?_
  refine Ops.v rfl (Y38 (ds := [C.int 0, C.val s0, C.int 1]) Ycs Ycr (Y42 rfl rfl) (.one rfl (One.val rfl) rfl rfl .nil) rfl) ?_
  refine Ops.hd (ns := [2]) rfl rfl (Y1u (gs := [C.int 0, C.val s0, C.int 1]) Yct.h rfl rfl rfl rfl rfl) ?_
  refine zw ?_
  refine AW.ret ?_
  rw [← Option.some.inj h]
  exact ⟨[C.agg [C.int 0, C.val s0, C.int 1]], _, Y21.nil 2 kI64 1, (.cons (.cell (p := 1) rfl rfl Yct.h rfl) .nil), [0], _, _, rfl, ⟨s0, rfl, rfl⟩⟩
 refine AW.cf hb13 rfl ?_
 refine zw ?_
 refine oi h fun e14 g15 h => ?_
 refine zw ?_
 refine oc h fun r16 g17 h => ?_
 refine Ops.v rfl (Yr rfl rfl) ?_
 refine Ops.nil ?_
 refine AW.seq ?_
 refine AW.seq ?_
 refine AW.cut (τ := Bool) (fun x21 => ⟨[(2, C.int p2), (5, pt b2), (8, pt b3), (9, C.ip [C.im Y9d 3 r4.1.h.rooms, C.im Y9a 2 r4.1.h.stream, C.im Y9j 1 r4.1.rooms, C.im Y9k 1 r4.1.pos, C.im Y9h 1 r4.1.now]), (11, C.int r16), (50, C.bool x21)], [Obj.box b2 65 [C.int p1.user, C.im kI64 1 p1.at_], Obj.box b3 70 [C.int 0, C.val s0, C.int 0]]⟩) (fun x21 => Z7k p1 p2 r4 r16 x21 = some r) ?_ ?_
 ·
  refine zw ?_
  refine cnd h (fun hb18 h => go) fun hb18 h => ?_
  refine zw ?_
  refine ob' h fun r19 g20 h => ?_
  refine Ops.ghd (ns := []) rfl rfl rfl rfl hb18 rfl (Y24 ((Z7h _ _ _ _).h _ g20) rfl rfl) ?_
  exact go
 intro x21 h
 replace h : Z7k p1 p2 r4 r16 x21 = some r := h
 unfold Z7k at h
 refine cnd h (fun hb22 h => ?_) fun hb22 h => ?_
 ·
  refine AW.ct hb22 rfl ?_
  refine zw ?_
  refine Ops.v rfl (Y38 (ds := [C.int 0, C.val s0, C.int 6]) Ycs Ycr (Y42 rfl rfl) (.one rfl (One.val rfl) rfl rfl .nil) rfl) ?_
  refine Ops.hd (ns := [1]) rfl rfl (Y1u (gs := [C.int 0, C.val s0, C.int 6]) Yct.h rfl rfl rfl rfl rfl) ?_
  refine zw ?_
  refine AW.ret ?_
  rw [← Option.some.inj h]
  exact ⟨[C.agg [C.int 0, C.val s0, C.int 6]], _, Y21.nil 2 kI64 1, (.cons (.cell (p := 1) rfl rfl Yct.h rfl) .nil), [0], _, _, rfl, ⟨s0, rfl, rfl⟩⟩
 refine AW.cf hb22 rfl ?_
 refine AW.skip ?_
 refine AW.seq ?_
 refine AW.cut (τ := Nat × Value) (fun (b34, v35) => ⟨[(2, C.int p2), (8, pt b3), (9, C.ip [C.im Y9d 3 r4.1.h.rooms, C.im Y9a 2 r4.1.h.stream, C.im Y9j 1 r4.1.rooms, C.im Y9k 1 r4.1.pos, C.im Y9h 1 r4.1.now]), (11, C.int r16), (12, pt b34)], [Obj.box b3 70 [C.int 0, C.val s0, C.int 0], Obj.box b34 65 [C.int p1.user, C.val v35], Obj.arr v35 2 kI64 1 (([] : List Int) ++ p1.at_)]⟩) (fun (b34, v35) => Z7j p1 p2 r4 r16 = some r) ?_ ?_
 ·
  refine AW.regionD (L := [1, 4]) (Lt := [8]) (k := .light 0 false (.light 1 true (.light 3 false (.light 4 true (.two 2 7 (.two 5 7 (.light 6 false (.one 7 (.late 8 (.done)))) (.one 5 (.light 6 false (.late 8 (.done))))) (.one 2 (.one 5 (.light 6 false (.late 8 (.done)))))))))) (ns := [0, 0]) (by kernel_rfl) (by kernel_rfl) (by kernel_rfl) (by kernel_rfl) rfl ?_
  refine zw ?_
  refine OpsD.two ?_ ?_
  ·
   refine Y3n.h (ns := []) rfl rfl rfl (Y39 (k := kI64) (ys := ([] : List Int)) Ya6 .nil rfl rfl rfl) ?_
   rintro _ _ ⟨b23, rfl, rfl⟩
   refine ob' h fun u26 c25 h => ?_
   refine OpsD.two ?_ ?_
   ·
    refine Y3n.h (ns := [0]) rfl rfl rfl (Y2r Ya6 rfl rfl (of_decide_eq_true (Y3t c25)) (Y3w (by decide) c25) rfl) ?_
    rintro _ _ ⟨v27, rfl, rfl⟩
    refine OpsD.learn (Sim.arr_one (p := 2) rfl) fun n28 => ?_
    refine OpsD.v rfl rfl (Y38 (ds := [C.int p1.user, C.val v27]) Ycu Ybi (Y42 rfl rfl) (.one rfl (One.val rfl) rfl rfl (.one rfl (One.val n28) rfl rfl .nil)) rfl) ?_
    refine OpsD.one ?_
    refine Y3n.h (ns := []) rfl rfl rfl (Y1p (cs := [C.int 0, C.val s0]) Ybi (Y42 rfl rfl) rfl) ?_
    rintro _ _ ⟨b24, rfl, rfl⟩
    refine OpsD.late (ns := [2]) rfl rfl rfl (Y1u (gs := [C.int p1.user, C.val v27]) Ybm.h rfl rfl rfl rfl rfl) ?_
    rintro _ _ ⟨rfl, rfl⟩
    exact go
   refine Y3n.h (ns := []) rfl rfl rfl (Y1p (cs := [C.int 0, C.val s0]) Ybi (Y42 rfl rfl) rfl) ?_
   rintro _ _ ⟨b24, rfl, rfl⟩
   refine OpsD.one ?_
   refine Y3n.h (ns := [1]) rfl rfl rfl (Y2r Ya6 rfl rfl (of_decide_eq_true (Y3t c25)) (Y3w (by decide) c25) rfl) ?_
   rintro _ _ ⟨v27, rfl, rfl⟩
   refine OpsD.learn (Sim.arr_one (p := 2) rfl) fun n29 => ?_
   refine OpsD.v rfl rfl (Y38 (ds := [C.int p1.user, C.val v27]) Ycu Ybi (Y42 rfl rfl) (.one rfl (One.val rfl) rfl rfl (.one rfl (One.val n29) rfl rfl .nil)) rfl) ?_
   refine OpsD.late (ns := [3]) rfl rfl rfl (Y1u (gs := [C.int p1.user, C.val v27]) Ybm.h rfl rfl rfl rfl rfl) ?_
   rintro _ _ ⟨rfl, rfl⟩
   exact go
  refine Y3n.h (ns := []) rfl rfl rfl (Y1p (cs := [C.int 0, C.val s0]) Ybi (Y42 rfl rfl) rfl) ?_
  rintro _ _ ⟨b24, rfl, rfl⟩
  refine OpsD.one ?_
  refine Y3n.h (ns := []) rfl rfl rfl (Y39 (k := kI64) (ys := ([] : List Int)) Ya6 .nil rfl rfl rfl) ?_
  rintro _ _ ⟨b23, rfl, rfl⟩
  refine zw ?_
  refine ob' h fun u31 c30 h => ?_
  refine Y3n.h (ns := [0]) rfl rfl rfl (Y2r Ya6 rfl rfl (of_decide_eq_true (Y3t c30)) (Y3w (by decide) c30) rfl) ?_
  rintro _ _ ⟨v32, rfl, rfl⟩
  refine OpsD.learn (Sim.arr_one (p := 2) rfl) fun n33 => ?_
  refine OpsD.v rfl rfl (Y38 (ds := [C.int p1.user, C.val v32]) Ycu Ybi (Y42 rfl rfl) (.one rfl (One.val rfl) rfl rfl (.one rfl (One.val n33) rfl rfl .nil)) rfl) ?_
  refine OpsD.late (ns := [3]) rfl rfl rfl (Y1u (gs := [C.int p1.user, C.val v32]) Ybm.h rfl rfl rfl rfl rfl) ?_
  rintro _ _ ⟨rfl, rfl⟩
  exact go
 rintro ⟨b34, v35⟩ h
 replace h : Z7j p1 p2 r4 r16 = some r := h
 unfold Z7j at h
 refine AW.seq ?_
 refine AW.cut (τ := List Int) (fun l43 => ⟨[(8, pt b3), (12, pt b34)], [Obj.box b3 70 [C.int 0, C.val s0, C.int 0], Obj.box b34 65 [C.int p1.user, C.val v35], Obj.arr v35 2 kI64 1 l43]⟩) (fun l43 => Z7i p1 l43 = some r) ?_ ?_
 ·
  refine zw ?_
  refine AW.regionD (L := [3, 7, 10, 12, 16]) (Lt := []) (k := dec [0,3,6,10,12,15,18,22,24,27,31,33,37,39,42,45,49,51]) (ns := [0, 0, 0]) (by kernel_rfl) (by kernel_rfl) (by kernel_rfl) (by kernel_rfl) rfl ?_
  refine zw ?_
  refine di h fun e36 g37 h => ?_
  refine zw ?_
  refine di h fun e38 g39 h => ?_
  refine zw ?_
  refine ob' h fun e40 g41 h => ?_
  refine OpsD.v rfl rfl (Y2x (p := 2) Y9p.h rfl rfl rfl g41 rfl) ?_
  refine OpsD.v rfl rfl (Y30 (p := 2) ld_2.h rfl rfl (Y29 g41).2.2 rfl rfl) ?_
  refine zw ?_
  refine cnd h (fun hb42 h => ?_) fun hb42 h => ?_
  ·
   refine AW.ct hb42 rfl ?_
   refine AW.regionD (L := [1, 7, 11, 14]) (Lt := [16]) (k := .light 0 false (.light 1 true (.light 2 false (.light 3 false (.light 4 false (.light 5 false (.light 6 false (.light 7 true (.light 8 false (.light 9 false (.light 10 false (.light 11 true (.light 12 false (.light 13 false (.light 14 true (.light 15 false (.late 16 (.done)))))))))))))))))) (ns := [0, 0, 0]) (by kernel_rfl) (by kernel_rfl) (by kernel_rfl) (by kernel_rfl) rfl ?_
   refine OpsD.v rfl rfl (Y1b Ybl.h rfl rfl) ?_
   refine OpsD.v rfl rfl (Y1k (p := 1) Y9s.h rfl rfl rfl rfl) ?_
   refine OpsD.v rfl rfl (Yq rfl rfl) ?_
   refine OpsD.v rfl rfl (Yv rfl rfl rfl rfl) ?_
   refine OpsD.v rfl rfl (Yq rfl rfl) ?_
   refine OpsD.v rfl rfl (Y15 rfl rfl) ?_
   refine OpsD.v rfl rfl (Y1c Ycj.h rfl rfl rfl) ?_
   refine OpsD.v rfl rfl (Y1h Yck.h rfl rfl) ?_
   refine OpsD.v rfl rfl (Yq rfl rfl) ?_
   refine OpsD.v rfl rfl (Yv rfl rfl rfl rfl) ?_
   refine OpsD.v rfl rfl (Y2g Ycp.h rfl rfl g37 rfl) ?_
   refine OpsD.v rfl rfl (Y1h Y9s.h rfl rfl) ?_
   refine OpsD.v rfl rfl (Yq rfl rfl) ?_
   refine OpsD.v rfl rfl (Y2g Y9p.h rfl rfl g39 rfl) ?_
   refine OpsD.v rfl rfl (Y1h ld_2.h rfl rfl) ?_
   refine OpsD.v rfl rfl (Y2x (p := 2) Y9p.h rfl rfl rfl g41 rfl) ?_
   refine OpsD.late (ns := [2]) rfl rfl rfl (Y33 (e' := e38) ld_2.h rfl rfl (One.val rfl) (Y29 g41).2.2 rfl rfl) ?_
   rintro _ _ ⟨rfl, rfl⟩
   exact go
  exact go
 intro l43 h
 replace h : Z7i p1 l43 = some r := h
 unfold Z7i at h
 refine zw ?_
 refine Ops.v rfl (Y38 (ds := [C.int p1.user, C.val v35, C.int 0]) Ycs Ycr (Y42 rfl rfl) (.agg rfl rfl rfl .nil) rfl) ?_
 refine Ops.hd (ns := [0]) rfl rfl (Y1u (gs := [C.int p1.user, C.val v35, C.int 0]) Yct.h rfl rfl rfl rfl rfl) ?_
 refine zw ?_
 refine AW.ret ?_
 rw [← Option.some.inj h]
 exact ⟨[C.agg [C.int p1.user, C.val v35, C.int 0]], _, Y21.refl _, (.cons (.cell (p := 0) rfl rfl Yct.h rfl) .nil), [2], _, _, rfl, ⟨v35, rfl, rfl⟩⟩
instance Z7n' (p0 : Y91) (p1 : Y8z) (p2 : Int) (p3 : Int) : Sp Tryz.prog 43 [C.agg [C.im Y9d 3 p0.rooms, C.im Y9a 2 p0.stream], C.agg [C.int p1.user, C.im kI64 1 p1.at_], C.int p2, C.int p3] (Z7m p0 p1 p2 p3) (fun r => C.agg [C.int r.marks.user, C.im kI64 1 r.marks.at_, C.int r.code]) := ⟨fun r h => Ok.freeze (Z7n p0 p1 p2 p3 r h) (by rintro c qs ⟨v44, rfl, rfl⟩; exact Frz.agg (FrzL.cons (os := []) (Frz.same _) (FrzL.cons (os := [_]) (Frz.arr) (FrzL.cons (os := []) (Frz.same _) (FrzL.nil)))))⟩

def Z7o (x2 : Bool) : Option Bool := some x2
def Z7p (p0 : Int) (p1 : Int) (p2 : Int) : Option Bool := cond (decide (p1 ≤ p0)) (Z7o (decide (p0 ≤ p2))) (Z7o false)
instance Z7q (p0 : Int) (p1 : Int) (p2 : Int) : Sp Tryz.prog 115 [C.int p0, C.int p1, C.int p2] (Z7p p0 p1 p2) C.bool := sp Tryz.func115 rfl rfl fun r X h => go

def Z7r (p0 : Int) : Option Bool := (Z7p p0 1 3).bind fun r1 => some r1
instance Z7s (p0 : Int) : Sp Tryz.prog 74 [C.int p0] (Z7r p0) C.bool := sp Tryz.func74 rfl rfl fun r X h => go

def Z7t (p0 : Int) : Option Bool := (Z7p p0 1 1000000).bind fun r1 => some r1
instance Z7u (p0 : Int) : Sp Tryz.prog 301 [C.int p0] (Z7t p0) C.bool := sp Tryz.func301 rfl rfl fun r X h => go

def Z7v (p0 : Int) : Option Bool := (Z7p p0 1 6).bind fun r1 => some r1
instance Z7w (p0 : Int) : Sp Tryz.prog 99 [C.int p0] (Z7v p0) C.bool := sp Tryz.func99 rfl rfl fun r X h => go

def Z7x (p0 : Int) : Option Bool := (Z7p p0 0 1000000).bind fun r1 => some r1
instance Z7y (p0 : Int) : Sp Tryz.prog 302 [C.int p0] (Z7x p0) C.bool := sp Tryz.func302 rfl rfl fun r X h => go

def Z7z : Option Bool := some true
def Z80 (x12 : Int) (x22 : Bool) : Option (Int ⊕ (Bool ⊕ Unit)) := cond x22 (some (.inr (.inl false))) (some (.inl (IntKind.i64.wrap (x12 + 1))))
def Z81 (p0 : List Int) (p1 : Int) (p2 : Int) (x12 : Int) : Option (Int ⊕ (Bool ⊕ Unit)) := cond (decide (x12 < (p0.length : Int))) ((getI p0 x12).bind fun e14 => (Z7p e14 p1 p2).bind fun r16 => cond r16 (cond (decide (x12 > 0)) ((getI p0 (IntKind.i64.wrap (x12 - 1))).bind fun e20 => Z80 x12 (decide (e20 ≥ e14))) (Z80 x12 false)) (Z80 x12 true)) (some (.inr (.inr ())))
def Z82 (p0 : List Int) (p1 : Int) (p2 : Int) : Option Bool := (iter (Z81 p0 p1 p2) big 0).bind (fun z25 => match z25 with | .inl y24 => some y24 | .inr () => Z7z)
set_option maxHeartbeats 1000000 in
instance Z83 (p0 : List Int) (p1 : Int) (p2 : Int) : Sp Tryz.prog 303 [C.im kI64 1 p0, C.int p1, C.int p2] (Z82 p0 p1 p2) C.bool := sp Tryz.func303 rfl rfl fun r X h => by
 unfold Z82 at h
 refine zw ?_
 refine AW.lp (v := ()) h (fun x12 (_ : Unit) => ⟨[(0, C.im kI64 1 p0), (1, C.int p1), (2, C.int p2), (9, C.im kI64 1 p0), (10, C.int (p0.length : Int)), (11, C.int x12)], []⟩) (gb []) ?_
 rintro x12 _ y31 h
 exact go

def Z84 : Option Int := some (-1)
def Z85 (p0 : List Int) (p1 : Int) (x5 : Int) : Option (Int ⊕ (Int ⊕ Unit)) := cond (decide (x5 < (p0.length : Int))) ((getI p0 x5).bind fun e7 => cond (p1 == e7) (some (.inr (.inl x5))) (some (.inl (IntKind.i64.wrap (x5 + 1))))) (some (.inr (.inr ())))
def Z86 (p0 : List Int) (p1 : Int) : Option Int := (iter (Z85 p0 p1) big 0).bind (fun z11 => match z11 with | .inl y10 => some y10 | .inr () => Z84)
set_option maxHeartbeats 1000000 in
instance Z87 (p0 : List Int) (p1 : Int) : Sp Tryz.prog 258 [C.im kI64 1 p0, C.int p1] (Z86 p0 p1) C.int := sp Tryz.func258 rfl rfl fun r X h => by
 unfold Z86 at h
 refine zw ?_
 refine AW.lp (v := ()) h (fun x5 (_ : Unit) => ⟨[(0, C.im kI64 1 p0), (1, C.int p1), (7, C.int (p0.length : Int)), (8, C.int x5)], []⟩) (gb []) ?_
 rintro x5 _ y17 h
 exact go

def Z88 (p0 : List Int) (p1 : Int) : Option Bool := (Z86 p0 p1).bind fun r1 => some (decide (r1 ≥ 0))
instance Z89 (p0 : List Int) (p1 : Int) : Sp Tryz.prog 208 [C.im kI64 1 p0, C.int p1] (Z88 p0 p1) C.bool := sp Tryz.func208 rfl rfl fun r X h => go

end Go.Proofs.YtbgichfjcnibpaaGreat
