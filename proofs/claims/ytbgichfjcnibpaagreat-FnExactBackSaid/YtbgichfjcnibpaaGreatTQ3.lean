/- Printed by gen.py: plain functions for Go functions, and that the walks keep to them. -/
import Derived.Test.YtbgichfjcnibpaaGreatTQ2
set_option autoImplicit false
set_option linter.unusedVariables false
set_option linter.unusedSimpArgs false
set_option maxHeartbeats 1000000
set_option maxRecDepth 100000
namespace Go.Proofs.YtbgichfjcnibpaaGreat
open Go Go.Abs
attribute [local irreducible] AW Ops OpsD Y3n
def Z5q (l164 : List Int) : Option (List Int) := some l164
def Z5r (x79 : Int) (l162 : List Int) : Option ((List Int × Int) ⊕ ((List Int))) := some (.inl (l162, (IntKind.i64.wrap (x79 + 1))))
def Z5s (p0 : Y92) (l78 : List Int) (x79 : Int) (x153 : Bool) : Option ((List Int × Int) ⊕ ((List Int))) := cond x153 ((getI p0.events x79).bind fun e155 => (chk (decide ((l78.length + [e155.id].length) * 8 ≤ 140737488355328))).bind fun u159 => Z5r x79 (l78 ++ [e155.id])) (Z5r x79 l78)
def Z5t (x118 : Int) (x152 : Bool) : Option ((Bool × Int) ⊕ (Bool)) := some (.inl (x152, (IntKind.i64.wrap (x118 + 1))))
def Z5u (x136 : Int) (x151 : Bool) : Option ((Bool × Int) ⊕ (Bool)) := some (.inl (x151, (IntKind.i64.wrap (x136 + 1))))
def Z5v (p0 : Y92) (x79 : Int) (x118 : Int) (x135 : Bool) (x136 : Int) (x142 : Bool) : Option ((Bool × Int) ⊕ (Bool)) := cond x142 (cond x135 ((getI p0.events x118).bind fun e145 => (getI e145.prev x136).bind fun e147 => (getI p0.events x79).bind fun e149 => Z5u x136 (e147 != e149.id)) (Z5u x136 false)) (some (.inr x135))
def Z5w (p0 : Y92) (p1 : List Bool) (x79 : Int) (x118 : Int) (x135 : Bool) (x136 : Int) : Option ((Bool × Int) ⊕ (Bool)) := (getI p1 x118).bind fun e137 => cond e137 ((getI p0.events x118).bind fun e140 => Z5v p0 x79 x118 x135 x136 (decide (x136 < (e140.prev.length : Int)))) (Z5v p0 x79 x118 x135 x136 false)
def Z5x (p0 : Y92) (p1 : List Bool) (x79 : Int) (x117 : Bool) (x118 : Int) : Option ((Bool × Int) ⊕ (Bool)) := cond (decide (x118 < (p0.events.length : Int))) ((iter (fun z166 => Z5w p0 p1 x79 x118 z166.1 z166.2) big (x117, 0)).bind fun y167 => Z5t x118 y167) (some (.inr x117))
def Z5y (p0 : Y92) (p1 : List Bool) (l78 : List Int) (x79 : Int) : Option ((List Int × Int) ⊕ ((List Int))) := cond (decide (x79 < (p0.events.length : Int))) ((getI p1 x79).bind fun e81 => (iter (fun z168 => Z5x p0 p1 x79 z168.1 z168.2) big (e81, 0)).bind fun y169 => Z5s p0 l78 x79 y169) (some (.inr l78))
def Z5z (p0 : Y92) (p1 : List Bool) : Option (List Int) := (iter (fun z170 => Z5y p0 p1 z170.1 z170.2) big (([] : List Int), 0)).bind fun y171 => Z5q y171
theorem Z60 (p0 : Y92) (p1 : List Bool) (r : List Int) (h : Z5z p0 p1 = some r) : Ok Tryz.prog 181 [C.agg [cI p0.room, cM Y9b 9 p0.events, cM Y9b 9 p0.parked], cM Y9l 1 p1] [] (fun c qs => ∃ (v165 : Value), c = cV v165 ∧ qs = [oA v165 2 kI64 1 r]) := by
 refine Ok.of_body (rs := [.tmp 4]) Tryz.func181 rfl rfl rfl rfl rfl fun X => ?_
 unfold Z5z at h
 refine zw ?_
 refine ox fun b1 => ?_
 refine zw ?_
 refine Ops.h (ns := []) rfl rfl (Y39 (k := kI64) (ys := ([] : List Int)) Yab .nil rfl rfl rfl) ?_
 rintro _ _ ⟨b2, rfl, rfl⟩
 refine Ops.v rfl (Yr rfl rfl) ?_
 refine Ops.nil ?_
 refine AW.seq ?_
 refine AW.cut (τ := List Int × Value) (fun (l164, v163) => ⟨[(5, cV v163)], [oA v163 2 kI64 1 l164]⟩) (fun (l164, v163) => Z5q l164 = some r) ?_ ?_
 ·
  refine zw ?_
  refine AW.lp h (fun (l78, x79) (v77 : Value) => ⟨[(1, cM Y9l 1 p1), (2, pt b1), (5, cV v77), (6, cI x79)], [oB b1 139 [cI p0.room, cM Y9b 9 p0.events, cM Y9b 9 p0.parked], oA v77 2 kI64 1 l78]⟩) (gb [1, 0]) ?_
  rintro ⟨l78, x79⟩ v77 y177 h
  refine zw ?_
  refine cnd h (fun hb80 h => ?_) fun hb80 h => ?_
  ·
   refine AW.ct hb80 rfl ?_
   refine zw ?_
   refine oi h fun e81 g82 h => ?_
   refine Ops.v rfl (Y1h ld_4.h rfl rfl) ?_
   refine Ops.v rfl (Yr rfl rfl) ?_
   refine Ops.nil ?_
   refine AW.seq ?_
   refine AW.cut (τ := Bool) (fun x153 => ⟨[(1, cM Y9l 1 p1), (2, pt b1), (5, cV v77), (6, cI x79), (7, C.bool x153)], [oB b1 139 [cI p0.room, cM Y9b 9 p0.events, cM Y9b 9 p0.parked], oA v77 2 kI64 1 l78]⟩) (fun x153 => Z5s p0 l78 x79 x153 = some y177) ?_ ?_
   ·
    refine zw ?_
    refine AW.lp (v := ()) h (fun (x117, x118) (_ : Unit) => ⟨[(1, cM Y9l 1 p1), (2, pt b1), (5, cV v77), (6, cI x79), (7, C.bool x117), (8, cI x118)], [oB b1 139 [cI p0.room, cM Y9b 9 p0.events, cM Y9b 9 p0.parked], oA v77 2 kI64 1 l78]⟩) (gb [0, 0]) ?_
    rintro ⟨x117, x118⟩ _ y184 h
    refine zw ?_
    refine cnd h (fun hb119 h => ?_) fun hb119 h => ?_
    ·
     refine AW.ct hb119 rfl ?_
     refine zw ?_
     refine AW.lp (v := ()) h (fun (x135, x136) (_ : Unit) => ⟨[(1, cM Y9l 1 p1), (2, pt b1), (5, cV v77), (6, cI x79), (7, C.bool x135), (8, cI x118), (9, cI x136)], [oB b1 139 [cI p0.room, cM Y9b 9 p0.events, cM Y9b 9 p0.parked], oA v77 2 kI64 1 l78]⟩) (gb [0, 0]) ?_
     rintro ⟨x135, x136⟩ _ y191 h
     refine AW.seq ?_
     refine AW.seq ?_
     refine AW.cut (τ := Bool) (fun x142 => ⟨[(1, cM Y9l 1 p1), (2, pt b1), (5, cV v77), (6, cI x79), (7, C.bool x135), (8, cI x118), (9, cI x136), (43, C.bool x142)], [oB b1 139 [cI p0.room, cM Y9b 9 p0.events, cM Y9b 9 p0.parked], oA v77 2 kI64 1 l78]⟩) (fun x142 => Z5v p0 x79 x118 x135 x136 x142 = some y191) go fun x142 h => ?_
     replace h : Z5v p0 x79 x118 x135 x136 x142 = some y191 := h
     unfold Z5v at h
     refine cnd h (fun hb143 h => ?_) fun hb143 h => ?_
     ·
      refine AW.ct hb143 rfl ?_
      refine zw ?_
      refine rD [0,0] [3,7,10,12,16] [] [0,4,8,13,16,20,24,29,32,36,41,44,49,52,56,60,65,68,72,76] ?_
      exact go
     exact go
    exact go
   intro x153 h
   replace h : Z5s p0 l78 x79 x153 = some y177 := h
   unfold Z5s at h
   refine zw ?_
   refine cnd h (fun hb154 h => ?_) fun hb154 h => ?_
   ·
    refine AW.ct hb154 rfl ?_
    refine zw ?_
    refine oi h fun e155 g156 h => ?_
    refine zw ?_
    refine Ops.h (ns := []) rfl rfl (Y39 (k := kI64) (ys := [e155.id]) Yab (.one rfl (One.val rfl) rfl rfl .nil) rfl rfl rfl) ?_
    rintro _ _ ⟨b157, rfl, rfl⟩
    refine ob' h fun u159 c158 h => ?_
    refine Ops.h (ns := [2, 0]) rfl rfl (Y2s Yab rfl rfl (Wo (Y3t c158)) (Y3w (by decide) c158) rfl) ?_
    rintro _ _ ⟨v160, rfl, rfl⟩
    exact go
   exact go
  exact go
 rintro ⟨l164, v163⟩ h
 replace h : Z5q l164 = some r := h
 unfold Z5q at h
 refine zw ?_
 refine AW.ret ?_
 rw [← Wj h]
 exact ⟨[cV v163], _, Y21.refl _, (.cons (.tmp rfl) .nil), [0], _, _, rfl, ⟨v163, rfl, rfl⟩⟩
instance Z60' (p0 : Y92) (p1 : List Bool) : Sp Tryz.prog 181 [C.agg [cI p0.room, cM Y9b 9 p0.events, cM Y9b 9 p0.parked], cM Y9l 1 p1] (Z5z p0 p1) (fun r => cM kI64 1 r) := ⟨fun r h => Ok.freeze (Z60 p0 p1 r h) (by rintro c qs ⟨v165, rfl, rfl⟩; exact Frz.arr)⟩

def Z61 (l16 : List Bool) : Option (List Bool) := some l16
def Z62 (p0 : Y95) (l9 : List Bool) (x10 : Int) : Option ((List Bool × Int) ⊕ ((List Bool))) := cond (decide (x10 < (l9.length : Int))) ((getI p0.code x10).bind fun e12 => (getI l9 x10).bind fun e14 => some (.inl ((List.set l9 (Int.toNat x10) (e12 == 0)), (IntKind.i64.wrap (x10 + 1))))) (some (.inr l9))
def Z63 (p0 : Y95) : Option (List Bool) := (chk (decide (0 ≤ (p0.code.length : Int) ∧ (p0.code.length : Int) * 1 ≤ 140737488355328))).bind fun u2 => (iter (fun z18 => Z62 p0 z18.1 z18.2) big ((List.replicate (Int.toNat (p0.code.length : Int)) false), 0)).bind fun y19 => Z61 y19
theorem Z64 (p0 : Y95) (r : List Bool) (h : Z63 p0 = some r) : Ok Tryz.prog 180 [C.ip [cM kI64 1 p0.depths, cM Y9k 1 p0.ahead, cM Y9k 1 p0.behind, cM kI64 1 p0.code]] [] (fun c qs => ∃ (v17 : Value), c = cV v17 ∧ qs = [oA v17 4 Y9l 1 r]) := by
 refine Ok.of_body (rs := [.tmp 2]) Tryz.func180 rfl rfl rfl rfl rfl fun X => ?_
 unfold Z63 at h
 refine zw ?_
 refine ob' h fun u2 c1 h => ?_
 refine Ops.h (ns := []) rfl rfl (Y3b (k := Y9l) (z := false) Yc1 ze_4 (Y42 rfl rfl) rfl rfl (Y3x c1).1 (Y3x c1).2 (Y3y (by decide) c1) rfl) ?_
 rintro _ _ ⟨b3, rfl, rfl⟩
 refine Ops.v rfl (Yr rfl rfl) ?_
 refine Ops.nil ?_
 refine AW.seq ?_
 refine AW.cut (τ := List Bool) (fun l16 => ⟨[(3, cV (sn b3 (p0.code.length : Int)))], [oA (sn b3 (p0.code.length : Int)) 4 Y9l 1 l16]⟩) (fun l16 => Z61 l16 = some r) ?_ ?_
 ·
  refine zw ?_
  refine AW.lp (v := ()) h (fun (l9, x10) (_ : Unit) => ⟨[(0, C.ip [cM kI64 1 p0.depths, cM Y9k 1 p0.ahead, cM Y9k 1 p0.behind, cM kI64 1 p0.code]), (3, cV (sn b3 (p0.code.length : Int))), (4, cI x10)], [oA (sn b3 (p0.code.length : Int)) 4 Y9l 1 l9]⟩) (gb [0]) ?_
  rintro ⟨l9, x10⟩ _ y25 h
  refine zw ?_
  refine cnd h (fun hb11 h => ?_) fun hb11 h => ?_
  ·
   refine AW.ct hb11 rfl ?_
   refine zw ?_
   refine oi h fun e12 g13 h => ?_
   refine zw ?_
   refine oi h fun e14 g15 h => ?_
   refine Ops.hd (ns := [0]) rfl rfl (Y33 (e' := (e12 == 0)) ld_4.h rfl rfl (One.val rfl) (Y29 g15).2.2 rfl rfl) ?_
   exact go
  exact go
 intro l16 h
 replace h : Z61 l16 = some r := h
 unfold Z61 at h
 refine zw ?_
 refine AW.ret ?_
 rw [← Wj h]
 exact ⟨[cV (sn b3 (p0.code.length : Int))], _, Y21.refl _, (.cons (.tmp rfl) .nil), [0], _, _, rfl, ⟨(sn b3 (p0.code.length : Int)), rfl, rfl⟩⟩
instance Z64' (p0 : Y95) : Sp Tryz.prog 180 [C.ip [cM kI64 1 p0.depths, cM Y9k 1 p0.ahead, cM Y9k 1 p0.behind, cM kI64 1 p0.code]] (Z63 p0) (fun r => cM Y9l 1 r) := ⟨fun r h => Ok.freeze (Z64 p0 r h) (by rintro c qs ⟨v17, rfl, rfl⟩; exact Frz.arr)⟩

def Z65 (p0 : Y92) (p1 : Y95) (l57 : List (List Y94)) : Option (List Y94) := (Z54 p0 p1.depths l57).bind fun r63 => some r63
def Z66 (p0 : Y92) (p1 : Y95) (r2 : List Int) (l30 : List (List Y94)) (x31 : Int) : Option ((List (List Y94) × Int) ⊕ ((List (List Y94)))) := cond (decide (x31 < (r2.length : Int))) ((getI r2 x31).bind fun e46 => (Z25 p0.events e46).bind fun r48 => (getI p1.behind r48).bind fun e50 => (chk (decide ((l30.length + [e50].length) * 24 ≤ 140737488355328))).bind fun u54 => some (.inl ((l30 ++ [e50]), (IntKind.i64.wrap (x31 + 1))))) (some (.inr l30))
def Z67 (p0 : Y92) (p1 : Y95) (p2 : List Bool) : Option (List Y94) := (Z5z p0 p2).bind fun r2 => (iter (fun z66 => Z66 p0 p1 r2 z66.1 z66.2) big (([] : List (List Y94)), 0)).bind fun y67 => Z65 p0 p1 y67
instance Z68 (p0 : Y92) (p1 : Y95) (p2 : List Bool) : Sp Tryz.prog 132 [C.agg [cI p0.room, cM Y9b 9 p0.events, cM Y9b 9 p0.parked], C.ip [cM kI64 1 p1.depths, cM Y9k 1 p1.ahead, cM Y9k 1 p1.behind, cM kI64 1 p1.code], cM Y9l 1 p2] (Z67 p0 p1 p2) (fun r => cM Y9j 3 r) := sp Tryz.func132 rfl rfl fun r X h => by
 unfold Z67 at h
 refine zw ?_
 refine ox fun b1 => ?_
 refine zw ?_
 refine oc h fun r2 g3 h => ?_
 refine zw ?_
 refine Ops.h (ns := []) rfl rfl (Y39 (k := Y9k) (ys := ([] : List (List Y94))) Yc4 .nil rfl rfl rfl) ?_
 rintro _ _ ⟨b4, rfl, rfl⟩
 refine Ops.v rfl (Yr rfl rfl) ?_
 refine Ops.nil ?_
 refine AW.seq ?_
 refine AW.cut (τ := List (List Y94) × Value) (fun (l57, v56) => ⟨[(1, C.ip [cM kI64 1 p1.depths, cM Y9k 1 p1.ahead, cM Y9k 1 p1.behind, cM kI64 1 p1.code]), (3, pt b1), (8, cV v56)], [oB b1 139 [cI p0.room, cM Y9b 9 p0.events, cM Y9b 9 p0.parked], oA v56 27 Y9k 1 l57]⟩) (fun (l57, v56) => Z65 p0 p1 l57 = some r) ?_ ?_
 ·
  refine zw ?_
  refine AW.lp h (fun (l30, x31) (v29 : Value) => ⟨[(1, C.ip [cM kI64 1 p1.depths, cM Y9k 1 p1.ahead, cM Y9k 1 p1.behind, cM kI64 1 p1.code]), (3, pt b1), (7, cM kI64 1 r2), (8, cV v29), (9, cI x31)], [oB b1 139 [cI p0.room, cM Y9b 9 p0.events, cM Y9b 9 p0.parked], oA v29 27 Y9k 1 l30]⟩) (gb [1, 0]) ?_
  rintro ⟨l30, x31⟩ v29 y73 h
  refine zw ?_
  refine cnd h (fun hb32 h => ?_) fun hb32 h => ?_
  ·
   refine AW.ct hb32 rfl ?_
   refine zw ?_
   refine rD [0] [4,6,10,13] [] [0,4,8,12,17,20,25,28,32,36,41,46,48,53,58,62,64] ?_
   refine zw ?_
   refine di h fun e46 g47 h => ?_
   refine zw ?_
   refine dc h fun r48 g49 h => ?_
   refine di h fun e50 g51 h => ?_
   refine OpsD.v rfl rfl (Y1h Ybs.h rfl rfl) ?_
   refine OpsD.one ?_
   refine Y3n.h (ns := []) rfl rfl rfl (Y39 (k := Y9k) (ys := [e50]) Yc4 (.one rfl One.im rfl rfl .nil) rfl rfl rfl) ?_
   rintro _ _ ⟨b52, rfl, rfl⟩
   refine zw ?_
   refine ob' h fun u54 c53 h => ?_
   refine Y3n.h (ns := [1, 0]) rfl rfl rfl (Y2s Yc4 rfl rfl (Wo (Y3t c53)) (Y3w (by decide) c53) rfl) ?_
   rintro _ _ ⟨v55, rfl, rfl⟩
   exact go
  exact go
 rintro ⟨l57, v56⟩ h
 replace h : Z65 p0 p1 l57 = some r := h
 unfold Z65 at h
 refine zw ?_
 refine rD [0] [0,4] [] [1,4,8,12,17,20,26,28] ?_
 refine zw ?_
 refine ob' h fun r63 g64 h => ?_
 refine Y3n.h (ns := [0]) rfl rfl rfl (Y24 (Ok.freezeL (Ok.lend (Z55 p0 p1.depths l57 _ g64) (fT (fT (FrzT.cons (os := [_]) Frz.arr (FrzT.nil)))) (by rintro _ _ ⟨_, rfl, rfl⟩; exact ⟨(Y44.val _), Y48 (Y46.arr Yby) (Y47)⟩)) (by rintro c qs ⟨v65, rfl, rfl⟩; exact Frz.arr)) rfl rfl) ?_
 rintro _ _ ⟨rfl, rfl⟩
 exact go

def Z69 (p0 : Y93) (l147 : List Y95) (l149 : List (List Int)) (l151 : List (List Y94)) : Option Y96 := some (Y96.mk p0 l147 l149 l151)
def Z6a (l76 : List Y95) (l78 : List (List Int)) (l80 : List (List Y94)) (x81 : Int) (r86 : Y95) (r106 : List Y94) (l140 : List Int) : Option ((List Y95 × List (List Int) × List (List Y94) × Int) ⊕ ((List Y95 × List (List Int) × List (List Y94)))) := (chk (decide ((l78.length + [l140].length) * 24 ≤ 140737488355328))).bind fun u143 => some (.inl ((l76 ++ [r86]), (l78 ++ [l140]), (l80 ++ [r106]), (IntKind.i64.wrap (x81 + 1))))
def Z6b (x128 : Int) (l139 : List Int) : Option ((List Int × Int) ⊕ ((List Int))) := some (.inl (l139, (IntKind.i64.wrap (x128 + 1))))
def Z6c (l127 : List Int) (x128 : Int) (r132 : Int) (x135 : Bool) : Option ((List Int × Int) ⊕ ((List Int))) := cond x135 ((getI l127 r132).bind fun e137 => Z6b x128 (List.set l127 (Int.toNat r132) (IntKind.i64.wrap (x128 + 1)))) (Z6b x128 l127)
def Z6d (p0 : Y93) (e83 : Y92) (l127 : List Int) (x128 : Int) : Option ((List Int × Int) ⊕ ((List Int))) := cond (decide (x128 < (p0.stream.length : Int))) ((getI p0.stream x128).bind fun e130 => (Z25 e83.events e130.id).bind fun r132 => cond (e130.room == e83.room) (Z6c l127 x128 r132 (decide (r132 ≥ 0))) (Z6c l127 x128 r132 false)) (some (.inr l127))
def Z6e (p0 : Y93) (l76 : List Y95) (l78 : List (List Int)) (l80 : List (List Y94)) (x81 : Int) : Option ((List Y95 × List (List Int) × List (List Y94) × Int) ⊕ ((List Y95 × List (List Int) × List (List Y94)))) := cond (decide (x81 < (p0.rooms.length : Int))) ((getI p0.rooms x81).bind fun e83 => (Z5o e83).bind fun r86 => (chk (decide ((l76.length + [r86].length) * 8 ≤ 140737488355328))).bind fun u90 => (Z63 r86).bind fun r104 => (Z67 e83 r86 r104).bind fun r106 => (chk (decide ((l80.length + [r106].length) * 24 ≤ 140737488355328))).bind fun u110 => (chk (decide (0 ≤ (e83.events.length : Int) ∧ (e83.events.length : Int) * 8 ≤ 140737488355328))).bind fun u114 => (iter (fun z156 => Z6d p0 e83 z156.1 z156.2) big ((List.replicate (Int.toNat (e83.events.length : Int)) 0), 0)).bind fun y157 => Z6a l76 l78 l80 x81 r86 r106 y157) (some (.inr (l76, l78, l80)))
def Z6f (p0 : Y93) : Option Y96 := (iter (fun z158 => Z6e p0 z158.1 z158.2.1 z158.2.2.1 z158.2.2.2) big ([], [], [], 0)).bind fun (y159, y160, y161) => Z69 p0 y159 y160 y161
theorem Z6g (p0 : Y93) (r : Y96) (h : Z6f p0 = some r) : Ok Tryz.prog 130 [C.agg [cM Y9g 3 p0.rooms, cM Y9d 2 p0.stream]] [] (fun c qs => ∃ (b152 : Nat) (v153 : Value) (v154 : Value) (v155 : Value), c = pt b152 ∧ qs = [oB b152 156 [cM Y9g 3 r.h.rooms, cM Y9d 2 r.h.stream, cV v153, cV v154, cV v155], oA v153 182 Y9m 1 r.rooms, oA v154 57 Y9n 1 r.pos, oA v155 27 Y9k 1 r.now]) := by
 refine Ok.of_body (rs := [.tmp 2]) Tryz.func130 rfl rfl rfl rfl rfl fun X => ?_
 unfold Z6f at h
 refine zw ?_
 refine ox fun b1 => ?_
 refine zw ?_
 refine Ops.v rfl (Y38 (ds := [cM Y9g 3 p0.rooms, cM Y9d 2 p0.stream, cV s0, cV s0, cV s0]) Ycd Yce (Y42 rfl rfl) (.agg rfl rfl rfl .nil) rfl) ?_
 refine ox fun b2 => ?_
 refine Ops.v rfl (Yr rfl rfl) ?_
 refine Ops.nil ?_
 refine AW.seq ?_
 refine AW.cut (τ := List Y95 × List (List Int) × List (List Y94) × Value × Value × Value) (fun (l147, l149, l151, v146, v148, v150) => ⟨[(3, pt b2)], [oB b2 156 [cM Y9g 3 p0.rooms, cM Y9d 2 p0.stream, cV v146, cV v148, cV v150], oA v146 182 Y9m 1 l147, oA v148 57 Y9n 1 l149, oA v150 27 Y9k 1 l151]⟩) (fun (l147, l149, l151, v146, v148, v150) => Z69 p0 l147 l149 l151 = some r) ?_ ?_
 ·
  refine zw ?_
  refine ob' h fun o162 g163 q164 => ?_
  refine AW.loop (τ := List Y95 × List (List Int) × List (List Y94) × Int × Value × Value × Value) (x := ([], [], [], 0, s0, s0, s0)) (fun (l76, l78, l80, x81, v75, v77, v79) => ⟨[(1, pt b1), (3, pt b2), (4, cI x81)], [oB b1 32 [cM Y9g 3 p0.rooms, cM Y9d 2 p0.stream], oB b2 156 [cM Y9g 3 p0.rooms, cM Y9d 2 p0.stream, cV v75, cV v77, cV v79], oA v75 182 Y9m 1 l76, oA v77 57 Y9n 1 l78, oA v79 27 Y9k 1 l80]⟩) (fun k (l76, l78, l80, x81, v75, v77, v79) => iter (fun z158 => Z6e p0 z158.1 z158.2.1 z158.2.2.1 z158.2.2.2) k (l76, l78, l80, x81) = some o162) g163 ((Y21.nil 182 Y9m 1).trans ((Y21.nil 57 Y9n 1).trans ((Y21.nil 27 Y9k 1).trans (Y21.both (ns := [4, 3, 2, 1, 0]) rfl rfl)))) ?_
  rintro k ⟨l76, l78, l80, x81, v75, v77, v79⟩ i166
  refine Y41 (show iter (fun z158 => Z6e p0 z158.1 z158.2.1 z158.2.2.1 z158.2.2.2) k (l76, l78, l80, x81) = some o162 from i166) fun k165 y167 hlt_k165 h h168 => ?_
  replace h : Z6e p0 l76 l78 l80 x81 = some y167 := h
  unfold Z6e at h
  refine zw ?_
  refine cnd h (fun hb82 h => ?_) fun hb82 h => ?_
  ·
   refine AW.ct hb82 rfl ?_
   refine zw ?_
   refine oi h fun e83 g84 h => ?_
   refine zw ?_
   refine Ops.h (ns := []) rfl rfl (Y1p (cs := [cI 0, cV s0, cV s0]) Yay (Y42 rfl rfl) rfl) ?_
   rintro _ _ ⟨b85, rfl, rfl⟩
   refine Ops.hd (ns := [0]) rfl rfl (Y1u (gs := [cI e83.room, cM Y9b 9 e83.events, cM Y9b 9 e83.parked]) Yb4.h rfl rfl rfl rfl rfl) ?_
   refine zw ?_
   refine oc h fun r86 g87 h => ?_
   refine zw ?_
   refine Ops.h (ns := []) rfl rfl (Y39 (k := Y9m) (ys := [r86]) Ych (.one rfl One.ip rfl rfl .nil) rfl rfl rfl) ?_
   rintro _ _ ⟨b88, rfl, rfl⟩
   refine ob' h fun u90 c89 h => ?_
   refine Ops.h (ns := [4, 0]) rfl rfl (Y2s Ych rfl rfl (Wo (Y3t c89)) (Y3w (by decide) c89) rfl) ?_
   rintro _ _ ⟨v91, rfl, rfl⟩
   refine Ops.v rfl (Y14 rfl rfl) ?_
   refine Ops.v rfl (Y1b Ycf.h rfl rfl) ?_
   refine Ops.learn (Sim.arr_one (p := 0) rfl) fun n92 => ?_
   refine Ops.hd (ns := [3]) rfl rfl (Y1t (gs := [cM Y9g 3 p0.rooms, cM Y9d 2 p0.stream, cV v91, cV v77, cV v79]) Ycg.h rfl rfl (One.val n92) rfl rfl) ?_
   refine zw ?_
   refine rD [0,0,0,0,0] [4,5] [14] [0,4,8,12,17,21,24,28,34,38,42,46,48,52,59] ?_
   refine zw ?_
   refine dc h fun r104 g105 h => ?_
   refine zw ?_
   refine dc h fun r106 g107 h => ?_
   refine OpsD.one ?_
   refine Y3n.h (ns := []) rfl rfl rfl (Y39 (k := Y9k) (ys := [r106]) Yc4 (.one rfl One.im rfl rfl .nil) rfl rfl rfl) ?_
   rintro _ _ ⟨b108, rfl, rfl⟩
   refine zw ?_
   refine ob' h fun u110 c109 h => ?_
   refine Y3n.h (ns := [1, 0]) rfl rfl rfl (Y2s Yc4 rfl rfl (Wo (Y3t c109)) (Y3w (by decide) c109) rfl) ?_
   rintro _ _ ⟨v111, rfl, rfl⟩
   refine OpsD.v rfl rfl (Y14 rfl rfl) ?_
   refine OpsD.v rfl rfl (Y1b Yci.h rfl rfl) ?_
   refine OpsD.learn (Sim.arr_one (p := 5) rfl) fun n112 => ?_
   refine OpsD.late (ns := [0]) rfl rfl rfl (Y1t (gs := [cM Y9g 3 p0.rooms, cM Y9d 2 p0.stream, cV v91, cV v77, cV v111]) Yc9.h rfl rfl (One.val n112) rfl rfl) ?_
   rintro _ _ ⟨rfl, rfl⟩
   refine zw ?_
   refine ob' h fun u114 c113 h => ?_
   refine Ops.h (ns := []) rfl rfl (Y3b (k := kI64) (z := 0) Yab ze_2 (Y42 rfl rfl) rfl rfl (Y3x c113).1 (Y3x c113).2 (Y3y (by decide) c113) rfl) ?_
   rintro _ _ ⟨b115, rfl, rfl⟩
   refine Ops.v rfl (Yr rfl rfl) ?_
   refine Ops.nil ?_
   refine AW.seq ?_
   refine AW.cut (τ := List Int) (fun l140 => ⟨[(1, pt b1), (3, pt b2), (4, cI x81), (7, cV (sn b115 (e83.events.length : Int)))], [oB b1 32 [cM Y9g 3 p0.rooms, cM Y9d 2 p0.stream], oB b2 156 [cM Y9g 3 p0.rooms, cM Y9d 2 p0.stream, cV v91, cV v77, cV v111], oA v91 182 Y9m 1 (l76 ++ [r86]), oA v77 57 Y9n 1 l78, oA v111 27 Y9k 1 (l80 ++ [r106]), oA (sn b115 (e83.events.length : Int)) 2 kI64 1 l140]⟩) (fun l140 => Z6a l76 l78 l80 x81 r86 r106 l140 = some y167) ?_ ?_
   ·
    refine zw ?_
    refine AW.lp (v := ()) h (fun (l127, x128) (_ : Unit) => ⟨[(1, pt b1), (3, pt b2), (4, cI x81), (5, pt b85), (7, cV (sn b115 (e83.events.length : Int))), (8, cI x128)], [oB b1 32 [cM Y9g 3 p0.rooms, cM Y9d 2 p0.stream], oB b2 156 [cM Y9g 3 p0.rooms, cM Y9d 2 p0.stream, cV v91, cV v77, cV v111], oA v91 182 Y9m 1 (l76 ++ [r86]), oA v77 57 Y9n 1 l78, oA v111 27 Y9k 1 (l80 ++ [r106]), oB b85 139 [cI e83.room, cM Y9b 9 e83.events, cM Y9b 9 e83.parked], oA (sn b115 (e83.events.length : Int)) 2 kI64 1 l127]⟩) (gb [4, 1, 1, 2, 2, 1, 0]) ?_
    rintro ⟨l127, x128⟩ _ y174 h
    refine zw ?_
    refine cnd h (fun hb129 h => ?_) fun hb129 h => ?_
    ·
     refine AW.ct hb129 rfl ?_
     refine AW.skip ?_
     refine AW.seq ?_
     refine AW.cut (τ := List Int) (fun l139 => ⟨[(1, pt b1), (3, pt b2), (4, cI x81), (5, pt b85), (7, cV (sn b115 (e83.events.length : Int))), (8, cI x128)], [oB b1 32 [cM Y9g 3 p0.rooms, cM Y9d 2 p0.stream], oB b2 156 [cM Y9g 3 p0.rooms, cM Y9d 2 p0.stream, cV v91, cV v77, cV v111], oA v91 182 Y9m 1 (l76 ++ [r86]), oA v77 57 Y9n 1 l78, oA v111 27 Y9k 1 (l80 ++ [r106]), oB b85 139 [cI e83.room, cM Y9b 9 e83.events, cM Y9b 9 e83.parked], oA (sn b115 (e83.events.length : Int)) 2 kI64 1 l139]⟩) (fun l139 => Z6b x128 l139 = some y174) ?_ ?_
     ·
      refine zw ?_
      refine rD [0,0,0,0,0,0,0] [1,3,7] [] [0,5,8,13,16,20,24,29,34,36] ?_
      refine OpsD.v rfl rfl (Y1b Yb1.h rfl rfl) ?_
      refine OpsD.v rfl rfl (Y1k (p := 5) Yb2.h rfl rfl rfl rfl) ?_
      refine zw ?_
      refine di h fun e130 g131 h => ?_
      refine zw ?_
      refine dc h fun r132 g133 h => ?_
      refine OpsD.v rfl rfl (Yr rfl rfl) ?_
      refine OpsD.done ?_
      refine AW.seq ?_
      refine AW.cut (τ := Bool) (fun x135 => ⟨[(1, pt b1), (3, pt b2), (4, cI x81), (5, pt b85), (7, cV (sn b115 (e83.events.length : Int))), (8, cI x128), (9, cI r132), (83, C.bool x135)], [oB b1 32 [cM Y9g 3 p0.rooms, cM Y9d 2 p0.stream], oB b2 156 [cM Y9g 3 p0.rooms, cM Y9d 2 p0.stream, cV v91, cV v77, cV v111], oA v91 182 Y9m 1 (l76 ++ [r86]), oA v77 57 Y9n 1 l78, oA v111 27 Y9k 1 (l80 ++ [r106]), oB b85 139 [cI e83.room, cM Y9b 9 e83.events, cM Y9b 9 e83.parked], oA (sn b115 (e83.events.length : Int)) 2 kI64 1 l127]⟩) (fun x135 => Z6c l127 x128 r132 x135 = some y174) ?_ ?_
      ·
       refine rD [0,0,0,0,0,0,0] [1,5,7] [] [0,5,8,12,16,21,24,29,32,36,40,44,48] ?_
       refine OpsD.v rfl rfl (Y1b Ybk.h rfl rfl) ?_
       refine OpsD.v rfl rfl (Y1k (p := 0) Ybl.h rfl rfl rfl rfl) ?_
       refine OpsD.v rfl rfl (Yq rfl rfl) ?_
       refine OpsD.v rfl rfl (Y2g Ybg.h rfl rfl g131 rfl) ?_
       refine OpsD.v rfl rfl (Y1c Yba.h rfl rfl rfl) ?_
       refine OpsD.v rfl rfl (Y1h ld_2.h rfl rfl) ?_
       refine OpsD.v rfl rfl (Y1b Yb0.h rfl rfl) ?_
       refine OpsD.v rfl rfl (Y1k (p := 5) ld_2.h rfl rfl rfl rfl) ?_
       refine zw ?_
       refine cnd h (fun hb134 h => ?_) fun hb134 h => ?_
       ·
        refine zw ?_
        exact ⟨decide (r132 ≥ 0), h, Y21.both (ns := [0, 0, 0, 0, 0, 0, 0]) rfl rfl⟩
       refine zw ?_
       exact ⟨false, h, Y21.both (ns := [0, 0, 0, 0, 0, 0, 0]) rfl rfl⟩
      intro x135 h
      replace h : Z6c l127 x128 r132 x135 = some y174 := h
      unfold Z6c at h
      refine cnd h (fun hb136 h => ?_) fun hb136 h => ?_
      ·
       refine AW.ct hb136 rfl ?_
       refine zw ?_
       refine ob' h fun e137 g138 h => ?_
       refine Ops.v rfl (Y2x (p := 6) Y9v.h rfl rfl rfl g138 rfl) ?_
       refine Ops.hd (ns := [6]) rfl rfl (Y33 (e' := (IntKind.i64.wrap (x128 + 1))) ld_2.h rfl rfl (One.val rfl) (Y29 g138).2.2 rfl rfl) ?_
       refine zw ?_
       exact ⟨(List.set l127 (Int.toNat r132) (IntKind.i64.wrap (x128 + 1))), h, Y21.both (ns := [1, 1, 1, 1, 1, 1, 0]) rfl rfl⟩
      refine AW.cf hb136 rfl ?_
      refine zw ?_
      exact ⟨l127, h, Y21.both (ns := [0, 0, 0, 0, 0, 0, 0]) rfl rfl⟩
     intro l139 h
     replace h : Z6b x128 l139 = some y174 := h
     unfold Z6b at h
     refine zw ?_
     exact lu h (gb [0, 0, 0, 0, 0, 0, 0])
    refine AW.cf hb129 rfl ?_
    refine AW.exit ?_
    refine lx h fun h => ?_
    exact ⟨l127, h, Y21.both (ns := [0, 0, 0, 0, 0, 1]) rfl rfl⟩
   intro l140 h
   replace h : Z6a l76 l78 l80 x81 r86 r106 l140 = some y167 := h
   unfold Z6a at h
   refine zw ?_
   refine Ops.h (ns := [5]) rfl rfl (HOp.frz (t := 94) rfl Frz.arr (Y39 (k := Y9n) (ys := [l140]) Ycl (.one rfl One.im rfl rfl .nil) rfl rfl rfl)) ?_
   rintro _ _ ⟨b141, rfl, rfl⟩
   refine ob' h fun u143 c142 h => ?_
   refine Ops.h (ns := [4, 0]) rfl rfl (Y2s Ycl rfl rfl (Wo (Y3t c142)) (Y3w (by decide) c142) rfl) ?_
   rintro _ _ ⟨v144, rfl, rfl⟩
   refine Ops.v rfl (Y14 rfl rfl) ?_
   refine Ops.v rfl (Y1b Ycj.h rfl rfl) ?_
   refine Ops.learn (Sim.arr_one (p := 0) rfl) fun n145 => ?_
   refine Ops.hd (ns := [2]) rfl rfl (Y1t (gs := [cM Y9g 3 p0.rooms, cM Y9d 2 p0.stream, cV v91, cV v144, cV v111]) Yck.h rfl rfl (One.val n145) rfl rfl) ?_
   refine zw ?_
   obtain rfl := Wj h
   exact ⟨k165, ((l76 ++ [r86]), (l78 ++ [l140]), (l80 ++ [r106]), (IntKind.i64.wrap (x81 + 1)), v91, v144, v111), hlt_k165, h168, Y21.both (ns := [2, 0, 1, 0, 0]) rfl rfl⟩
  refine AW.cf hb82 rfl ?_
  refine AW.exit ?_
  obtain rfl := Wj h
  obtain rfl := Wj h168
  replace h := q164
  exact ⟨(l76, l78, l80, v75, v77, v79), h, Y21.both (ns := [1, 1, 1, 1]) rfl rfl⟩
 rintro ⟨l147, l149, l151, v146, v148, v150⟩ h
 replace h : Z69 p0 l147 l149 l151 = some r := h
 unfold Z69 at h
 refine zw ?_
 refine AW.ret ?_
 rw [← Wj h]
 exact ⟨[pt b2], _, Y21.refl _, (.cons (.tmp rfl) .nil), [0, 0, 0, 0], _, _, rfl, ⟨b2, v146, v148, v150, rfl, rfl⟩⟩
instance Z6g' (p0 : Y93) : Sp Tryz.prog 130 [C.agg [cM Y9g 3 p0.rooms, cM Y9d 2 p0.stream]] (Z6f p0) (fun r => C.ip [cM Y9g 3 r.h.rooms, cM Y9d 2 r.h.stream, cM Y9m 1 r.rooms, cM Y9n 1 r.pos, cM Y9k 1 r.now]) := ⟨fun r h => Ok.freeze (Z6g p0 r h) (by rintro c qs ⟨b152, v153, v154, v155, rfl, rfl⟩; exact Frz.box (fS (fS (FrzL.cons (os := [_]) (Frz.arr) (FrzL.cons (os := [_]) (Frz.arr) (FrzL.cons (os := [_]) (Frz.arr) (FrzL.nil)))))))⟩

def Z6h (p0 : Y96) (x181 : Int) : Option Bool := some (x181 == (p0.h.stream.length : Int))
def Z6i (x91 : Int) (x180 : Int) : Option ((Int × Int) ⊕ (Bool ⊕ Int)) := some (.inl (x180, (IntKind.i64.wrap (x91 + 1))))
def Z6j (x138 : Int) (x179 : Int) : Option ((Int × Int) ⊕ (Bool ⊕ Int)) := some (.inl (x179, (IntKind.i64.wrap (x138 + 1))))
def Z6k (x137 : Int) (x138 : Int) (e146 : Int) : Option ((Int × Int) ⊕ (Bool ⊕ Int)) := cond (decide (e146 > 0)) (Z6j x138 (IntKind.i64.wrap (x137 + 1))) (Z6j x138 x137)
def Z6l (e93 : Y92) (x138 : Int) (e144 : List Int) (e146 : Int) (x163 : Int) (x167 : Bool) : Option (Int ⊕ (Bool ⊕ Unit)) := cond x167 ((getI e93.events x138).bind fun e169 => (getI e169.prev x163).bind fun e171 => (Z25 e93.events e171).bind fun r173 => (getI e144 r173).bind fun e175 => cond (decide (e175 ≥ e146)) (some (.inr (.inl false))) (some (.inl (IntKind.i64.wrap (x163 + 1))))) (some (.inr (.inr ())))
def Z6m (e93 : Y92) (x138 : Int) (e144 : List Int) (e146 : Int) (x163 : Int) : Option (Int ⊕ (Bool ⊕ Unit)) := (getI e93.events x138).bind fun e164 => cond (decide (x163 < (e164.prev.length : Int))) (Z6l e93 x138 e144 e146 x163 (decide (e146 > 0))) (Z6l e93 x138 e144 e146 x163 false)
def Z6n (p0 : Y96) (x91 : Int) (e93 : Y92) (x137 : Int) (x138 : Int) : Option ((Int × Int) ⊕ (Bool ⊕ Int)) := cond (decide (x138 < (e93.events.length : Int))) ((getI p0.rooms x91).bind fun e140 => (getI e140.code x138).bind fun e142 => (getI p0.pos x91).bind fun e144 => (getI e144 x138).bind fun e146 => cond ((e142 == 0) == decide (e146 > 0)) ((iter (Z6m e93 x138 e144 e146) big 0).bind (fun z183 => match z183 with | .inl y182 => some (.inr (.inl y182)) | .inr () => Z6k x137 x138 e146)) (some (.inr (.inl false)))) (some (.inr (.inr x137)))
def Z6o (p0 : Y96) (x90 : Int) (x91 : Int) : Option ((Int × Int) ⊕ (Bool ⊕ Int)) := cond (decide (x91 < (p0.h.rooms.length : Int))) ((getI p0.h.rooms x91).bind fun e93 => (iter (fun z184 => Z6n p0 x91 e93 z184.1 z184.2) big (x90, 0)).bind (fun z187 => match z187 with | .inl y185 => some (.inr (.inl y185)) | .inr y186 => Z6i x91 y186)) (some (.inr (.inr x90)))
def Z6p (p0 : Y96) : Option Bool := (iter (fun z188 => Z6o p0 z188.1 z188.2) big (0, 0)).bind (fun z191 => match z191 with | .inl y189 => some y189 | .inr y190 => Z6h p0 y190)
theorem Z6q {b00 : Nat} {w01 : Value} {w02 : Value} {w03 : Value} (p0 : Y96) (r : Bool) (h : Z6p p0 = some r) : Ok Tryz.prog 131 [pt b00] [oB b00 156 [cM Y9g 3 p0.h.rooms, cM Y9d 2 p0.h.stream, cV w01, cV w02, cV w03], oA w01 182 Y9m 1 p0.rooms, oA w02 57 Y9n 1 p0.pos, oA w03 27 Y9k 1 p0.now] (fun c qs => c = C.bool r ∧ qs = [oB b00 156 [cM Y9g 3 p0.h.rooms, cM Y9d 2 p0.h.stream, cV w01, cV w02, cV w03], oA w01 182 Y9m 1 p0.rooms, oA w02 57 Y9n 1 p0.pos, oA w03 27 Y9k 1 p0.now]) := by
 refine Ok.of_body (rs := [.tmp 2]) Tryz.func131 rfl rfl rfl rfl rfl fun X => ?_
 unfold Z6p at h
 refine AW.seq ?_
 refine AW.region ?_
 refine Ops.v rfl (Yr rfl rfl) ?_
 refine Ops.nil ?_
 refine AW.seq ?_
 refine AW.region ?_
 refine Ops.v rfl (Yr rfl rfl) ?_
 refine Ops.nil ?_
 refine AW.seq ?_
 refine AW.cut (τ := Int) (fun x181 => ⟨[(0, pt b00), (3, cI x181)], [oB b00 156 [cM Y9g 3 p0.h.rooms, cM Y9d 2 p0.h.stream, cV w01, cV w02, cV w03], oA w01 182 Y9m 1 p0.rooms, oA w02 57 Y9n 1 p0.pos, oA w03 27 Y9k 1 p0.now]⟩) (fun x181 => Z6h p0 x181 = some r) ?_ ?_
 ·
  refine zw ?_
  refine AW.lp (v := ()) h (fun (x90, x91) (_ : Unit) => ⟨[(0, pt b00), (3, cI x90), (4, cI x91)], [oB b00 156 [cM Y9g 3 p0.h.rooms, cM Y9d 2 p0.h.stream, cV w01, cV w02, cV w03], oA w01 182 Y9m 1 p0.rooms, oA w02 57 Y9n 1 p0.pos, oA w03 27 Y9k 1 p0.now]⟩) (gb [0, 0, 0, 0]) ?_
  rintro ⟨x90, x91⟩ _ y197 h
  refine zw ?_
  refine cnd h (fun hb92 h => ?_) fun hb92 h => ?_
  ·
   refine AW.ct hb92 rfl ?_
   refine AW.skip ?_
   refine AW.seq ?_
   refine AW.cut (τ := Int) (fun x180 => ⟨[(0, pt b00), (3, cI x180), (4, cI x91)], [oB b00 156 [cM Y9g 3 p0.h.rooms, cM Y9d 2 p0.h.stream, cV w01, cV w02, cV w03], oA w01 182 Y9m 1 p0.rooms, oA w02 57 Y9n 1 p0.pos, oA w03 27 Y9k 1 p0.now]⟩) (fun x180 => Z6i x91 x180 = some y197) ?_ ?_
   ·
    refine zw ?_
    refine oi h fun e93 g94 h => ?_
    refine zw ?_
    refine Ops.h (ns := []) rfl rfl (Y1p (cs := [cI 0, cV s0, cV s0]) Yay (Y42 rfl rfl) rfl) ?_
    rintro _ _ ⟨b95, rfl, rfl⟩
    refine Ops.hd (ns := [0]) rfl rfl (Y1u (gs := [cI e93.room, cM Y9b 9 e93.events, cM Y9b 9 e93.parked]) Yb4.h rfl rfl rfl rfl rfl) ?_
    refine zw ?_
    refine AW.lp (v := ()) h (fun (x137, x138) (_ : Unit) => ⟨[(0, pt b00), (3, cI x137), (4, cI x91), (5, pt b95), (6, cI x138)], [oB b00 156 [cM Y9g 3 p0.h.rooms, cM Y9d 2 p0.h.stream, cV w01, cV w02, cV w03], oA w01 182 Y9m 1 p0.rooms, oA w02 57 Y9n 1 p0.pos, oA w03 27 Y9k 1 p0.now, oB b95 139 [cI e93.room, cM Y9b 9 e93.events, cM Y9b 9 e93.parked]]⟩) (gb [1, 1, 1, 1, 0]) ?_
    rintro ⟨x137, x138⟩ _ y204 h
    refine AW.seq ?_
    refine AW.seq ?_
    refine AW.region ?_
    refine Ops.v rfl (Yq rfl rfl) ?_
    refine Ops.v rfl (Y1b Yb1.h rfl rfl) ?_
    refine Ops.v rfl (Y1k (p := 4) Yb2.h rfl rfl rfl rfl) ?_
    refine zw ?_
    refine cnd h (fun hb139 h => ?_) fun hb139 h => ?_
    ·
     refine AW.ct hb139 rfl ?_
     refine AW.skip ?_
     refine AW.seq ?_
     refine AW.cut (τ := Int) (fun x179 => ⟨[(0, pt b00), (3, cI x179), (4, cI x91), (5, pt b95), (6, cI x138)], [oB b00 156 [cM Y9g 3 p0.h.rooms, cM Y9d 2 p0.h.stream, cV w01, cV w02, cV w03], oA w01 182 Y9m 1 p0.rooms, oA w02 57 Y9n 1 p0.pos, oA w03 27 Y9k 1 p0.now, oB b95 139 [cI e93.room, cM Y9b 9 e93.events, cM Y9b 9 e93.parked]]⟩) (fun x179 => Z6j x138 x179 = some y204) ?_ ?_
     ·
      refine zw ?_
      refine rD [0,0,0,0,0] [3,6,9,12,17,20,23] [] [0,4,8,13,16,20,25,28,32,37,40,44,49,52,56,60,64,69,72,76,81,84,88,93,96,100] ?_
      refine zw ?_
      refine ob' h fun e140 g141 h => ?_
      refine OpsD.v rfl rfl (Y2x (p := 1) Ycn.h rfl rfl rfl g141 rfl) ?_
      refine OpsD.v rfl rfl (Y30 (p := 1) Yco.h rfl rfl (Y29 g141).2.2 rfl rfl) ?_
      refine zw ?_
      refine di h fun e142 g143 h => ?_
      refine zw ?_
      refine ob' h fun e144 g145 h => ?_
      refine OpsD.v rfl rfl (Y2x (p := 2) Ycp.h rfl rfl rfl g145 rfl) ?_
      refine OpsD.v rfl rfl (Y30 (p := 2) Y9y.h rfl rfl (Y29 g145).2.2 rfl rfl) ?_
      refine zw ?_
      refine di h fun e146 g147 h => ?_
      refine zw ?_
      refine OpsD.v rfl rfl (Y11 un_4 rfl rfl rfl) ?_
      refine zw ?_
      refine cnd h (fun hb148 h => ?_) fun hb148 h => ?_
      ·
       refine AW.cond rfl (fun hn => absurd ((Y3u hb148).symm.trans hn) (by decide)) (fun _ => ?_)
       refine AW.skip ?_
       refine AW.seq ?_
       refine AW.cut (τ := Unit) (fun (_ : Unit) => ⟨[(0, pt b00), (3, cI x137), (4, cI x91), (5, pt b95), (6, cI x138)], [oB b00 156 [cM Y9g 3 p0.h.rooms, cM Y9d 2 p0.h.stream, cV w01, cV w02, cV w03], oA w01 182 Y9m 1 p0.rooms, oA w02 57 Y9n 1 p0.pos, oA w03 27 Y9k 1 p0.now, oB b95 139 [cI e93.room, cM Y9b 9 e93.events, cM Y9b 9 e93.parked]]⟩) (fun (_ : Unit) => Z6k x137 x138 e146 = some y204) ?_ ?_
       ·
        refine zw ?_
        refine AW.lp (v := ()) h (fun x163 (_ : Unit) => ⟨[(0, pt b00), (3, cI x137), (4, cI x91), (5, pt b95), (6, cI x138), (7, cI x163)], [oB b00 156 [cM Y9g 3 p0.h.rooms, cM Y9d 2 p0.h.stream, cV w01, cV w02, cV w03], oA w01 182 Y9m 1 p0.rooms, oA w02 57 Y9n 1 p0.pos, oA w03 27 Y9k 1 p0.now, oB b95 139 [cI e93.room, cM Y9b 9 e93.events, cM Y9b 9 e93.parked]]⟩) (gb [0, 0, 0, 0, 0]) ?_
        rintro x163 _ y211 h
        refine AW.seq ?_
        refine AW.seq ?_
        refine AW.cut (τ := Bool) (fun x167 => ⟨[(0, pt b00), (3, cI x137), (4, cI x91), (5, pt b95), (6, cI x138), (7, cI x163), (80, C.bool x167)], [oB b00 156 [cM Y9g 3 p0.h.rooms, cM Y9d 2 p0.h.stream, cV w01, cV w02, cV w03], oA w01 182 Y9m 1 p0.rooms, oA w02 57 Y9n 1 p0.pos, oA w03 27 Y9k 1 p0.now, oB b95 139 [cI e93.room, cM Y9b 9 e93.events, cM Y9b 9 e93.parked]]⟩) (fun x167 => Z6l e93 x138 e144 e146 x163 x167 = some y211) ?_ ?_
        ·
         refine AW.region ?_
         refine Ops.v rfl (Yq rfl rfl) ?_
         refine Ops.v rfl (Y1b Yb1.h rfl rfl) ?_
         refine Ops.v rfl (Y1k (p := 4) Yb2.h rfl rfl rfl rfl) ?_
         refine zw ?_
         refine oi h fun e164 g165 h => ?_
         refine zw ?_
         refine cnd h (fun hb166 h => ?_) fun hb166 h => ?_
         ·
          refine Ops.gv rfl rfl rfl rfl hb166 (Yq rfl rfl) ?_
          refine Ops.gv rfl rfl rfl rfl hb166 (Y14 rfl rfl) ?_
          refine Ops.gv rfl rfl rfl rfl hb166 (Y1b Ycj.h rfl rfl) ?_
          refine Ops.gv rfl rfl rfl rfl hb166 (Y1k (p := 0) Yck.h rfl rfl rfl rfl) ?_
          refine Ops.gv rfl rfl rfl rfl hb166 (Yq rfl rfl) ?_
          refine Ops.gv rfl rfl rfl rfl hb166 (Y2x (p := 2) Ycp.h rfl rfl rfl g145 rfl) ?_
          refine Ops.gv rfl rfl rfl rfl hb166 (Y30 (p := 2) Y9y.h rfl rfl (Y29 g145).2.2 rfl rfl) ?_
          refine zw ?_
          exact ⟨decide (e146 > 0), h, Y21.both (ns := [0, 0, 0, 0, 0]) rfl rfl⟩
         refine zw ?_
         exact ⟨false, h, Y21.both (ns := [0, 0, 0, 0, 0]) rfl rfl⟩
        intro x167 h
        replace h : Z6l e93 x138 e144 e146 x163 x167 = some y211 := h
        unfold Z6l at h
        refine cnd h (fun hb168 h => ?_) fun hb168 h => ?_
        ·
         refine AW.ct hb168 rfl ?_
         refine zw ?_
         refine rD [0,0,0,0,0] [3,6,8,10,14,17,20,24,27,30] [] [0,4,8,13,16,20,25,28,33,36,41,44,48,52,57,60,64,69,84,88,92,97,100,104,109,112,116,121,74,76,81,124] ?_
         refine OpsD.v rfl rfl (Yq rfl rfl) ?_
         refine OpsD.v rfl rfl (Y14 rfl rfl) ?_
         refine OpsD.v rfl rfl (Y1b Ycj.h rfl rfl) ?_
         refine OpsD.v rfl rfl (Y1k (p := 0) Yck.h rfl rfl rfl rfl) ?_
         refine OpsD.v rfl rfl (Yq rfl rfl) ?_
         refine OpsD.v rfl rfl (Y2x (p := 2) Ycp.h rfl rfl rfl g145 rfl) ?_
         refine OpsD.v rfl rfl (Y30 (p := 2) Y9y.h rfl rfl (Y29 g145).2.2 rfl rfl) ?_
         refine OpsD.v rfl rfl (Y1b Yb1.h rfl rfl) ?_
         refine OpsD.v rfl rfl (Y1k (p := 4) Yb2.h rfl rfl rfl rfl) ?_
         refine OpsD.v rfl rfl (Y1b Yb1.h rfl rfl) ?_
         refine OpsD.v rfl rfl (Y1k (p := 4) Yb2.h rfl rfl rfl rfl) ?_
         refine zw ?_
         refine di h fun e169 g170 h => ?_
         refine zw ?_
         refine di h fun e171 g172 h => ?_
         refine OpsD.v rfl rfl (Y1h ld_2.h rfl rfl) ?_
         refine OpsD.v rfl rfl (Yq rfl rfl) ?_
         refine OpsD.v rfl rfl (Y14 rfl rfl) ?_
         refine OpsD.v rfl rfl (Y1b Ycj.h rfl rfl) ?_
         refine OpsD.v rfl rfl (Y1k (p := 0) Yck.h rfl rfl rfl rfl) ?_
         refine OpsD.v rfl rfl (Yq rfl rfl) ?_
         refine OpsD.v rfl rfl (Y2x (p := 2) Ycp.h rfl rfl rfl g145 rfl) ?_
         refine OpsD.v rfl rfl (Y30 (p := 2) Y9y.h rfl rfl (Y29 g145).2.2 rfl rfl) ?_
         refine zw ?_
         refine dc h fun r173 g174 h => ?_
         refine di h fun e175 g176 h => ?_
         refine zw ?_
         refine cnd h (fun hb177 h => ?_) fun hb177 h => ?_
         ·
          refine AW.ct hb177 rfl ?_
          refine zw ?_
          refine AW.ret ?_
          refine lx h fun h => ?_
          refine lx h fun h => ?_
          refine lx h fun h => ?_
          rw [← Wj h]
          exact ⟨[C.bool false], _, Y21.refl _, (.cons (.tmp rfl) .nil), [0, 0, 0, 0], _, _, rfl, ⟨rfl, rfl⟩⟩
         refine AW.cf hb177 rfl ?_
         refine zw ?_
         exact lu h (gb [0, 0, 0, 0, 0])
        refine AW.cf hb168 rfl ?_
        refine AW.exit ?_
        refine lx h fun h => ?_
        exact ⟨(), h, Y21.both (ns := [0, 0, 0, 0, 0]) rfl rfl⟩
       rintro ⟨⟩ h
       replace h : Z6k x137 x138 e146 = some y204 := h
       unfold Z6k at h
       refine AW.seq ?_
       refine AW.region ?_
       refine Ops.v rfl (Yq rfl rfl) ?_
       refine Ops.v rfl (Y14 rfl rfl) ?_
       refine Ops.v rfl (Y1b Ycj.h rfl rfl) ?_
       refine Ops.v rfl (Y1k (p := 0) Yck.h rfl rfl rfl rfl) ?_
       refine Ops.v rfl (Yq rfl rfl) ?_
       refine Ops.v rfl (Y2x (p := 2) Ycp.h rfl rfl rfl g145 rfl) ?_
       refine Ops.v rfl (Y30 (p := 2) Y9y.h rfl rfl (Y29 g145).2.2 rfl rfl) ?_
       refine zw ?_
       refine cnd h (fun hb178 h => ?_) fun hb178 h => ?_
       ·
        refine AW.ct hb178 rfl ?_
        refine zw ?_
        exact ⟨(IntKind.i64.wrap (x137 + 1)), h, Y21.both (ns := [0, 0, 0, 0, 0]) rfl rfl⟩
       refine AW.cf hb178 rfl ?_
       refine zw ?_
       exact ⟨x137, h, Y21.both (ns := [0, 0, 0, 0, 0]) rfl rfl⟩
      refine AW.cond rfl (fun _ => ?_) (fun hn => absurd ((Y3v hb148).symm.trans hn) (by decide))
      refine zw ?_
      refine AW.ret ?_
      refine lx h fun h => ?_
      refine lx h fun h => ?_
      rw [← Wj h]
      exact ⟨[C.bool false], _, Y21.refl _, (.cons (.tmp rfl) .nil), [0, 0, 0, 0], _, _, rfl, ⟨rfl, rfl⟩⟩
     intro x179 h
     replace h : Z6j x138 x179 = some y204 := h
     unfold Z6j at h
     refine zw ?_
     exact lu h (gb [0, 0, 0, 0, 0])
    refine AW.cf hb139 rfl ?_
    refine AW.exit ?_
    refine lx h fun h => ?_
    exact ⟨x137, h, Y21.both (ns := [0, 0, 0, 0]) rfl rfl⟩
   intro x180 h
   replace h : Z6i x91 x180 = some y197 := h
   unfold Z6i at h
   refine zw ?_
   exact lu h (gb [0, 0, 0, 0])
  refine AW.cf hb92 rfl ?_
  refine AW.exit ?_
  refine lx h fun h => ?_
  exact ⟨x90, h, Y21.both (ns := [0, 0, 0, 0]) rfl rfl⟩
 intro x181 h
 replace h : Z6h p0 x181 = some r := h
 unfold Z6h at h
 refine zw ?_
 refine AW.ret ?_
 rw [← Wj h]
 exact ⟨[C.bool (x181 == (p0.h.stream.length : Int))], _, Y21.refl _, (.cons (.tmp rfl) .nil), [0, 0, 0, 0], _, _, rfl, ⟨rfl, rfl⟩⟩

def Z6r (p0 : Y93) : Option (Y96 × Bool) := (Z6f p0).bind fun r56 => (Z6p r56).bind fun r62 => cond r62 (some (r56, true)) (some ((Y96.mk (Y93.mk [] []) [] [] []), false))
def Z6s (x39 : Int) : Option (Int ⊕ ((Y96 × Bool) ⊕ Unit)) := some (.inl (IntKind.i64.wrap (x39 + 1)))
def Z6t (p0 : Y93) (x39 : Int) (x48 : Int) : Option (Int ⊕ ((Y96 × Bool) ⊕ Unit)) := cond (decide (x48 < x39)) ((getI p0.stream x39).bind fun e50 => (getI p0.stream x48).bind fun e52 => cond ((e50.room == e52.room) && ((e50.id == e52.id) && true)) (some (.inr (.inl ((Y96.mk (Y93.mk [] []) [] [] []), false)))) (some (.inl (IntKind.i64.wrap (x48 + 1))))) (some (.inr (.inr ())))
def Z6u (p0 : Y93) (x39 : Int) : Option (Int ⊕ ((Y96 × Bool) ⊕ Unit)) := cond (decide (x39 < (p0.stream.length : Int))) ((iter (Z6t p0 x39) big 0).bind (fun z67 => match z67 with | .inl y66 => some (.inr (.inl y66)) | .inr () => Z6s x39)) (some (.inr (.inr ())))
def Z6v (p0 : Y93) : Option (Y96 × Bool) := (iter (Z6u p0) big 0).bind (fun z69 => match z69 with | .inl y68 => some y68 | .inr () => Z6r p0)
def Z6w (x15 : Int) (x22 : Bool) : Option (Int ⊕ ((Y96 × Bool) ⊕ Unit)) := cond x22 (some (.inr (.inl ((Y96.mk (Y93.mk [] []) [] [] []), false)))) (some (.inl (IntKind.i64.wrap (x15 + 1))))
def Z6x (p0 : Y93) (x15 : Int) : Option (Int ⊕ ((Y96 × Bool) ⊕ Unit)) := cond (decide (x15 < (p0.rooms.length : Int))) ((getI p0.rooms x15).bind fun e17 => (Z2u e17).bind fun r19 => cond r19 (Z6w x15 (e17.room != (IntKind.i64.wrap (x15 + 1)))) (Z6w x15 true)) (some (.inr (.inr ())))
def Z6y (p0 : Y93) (x3 : Bool) : Option (Y96 × Bool) := cond x3 (some ((Y96.mk (Y93.mk [] []) [] [] []), false)) ((iter (Z6x p0) big 0).bind (fun z71 => match z71 with | .inl y70 => some y70 | .inr () => Z6v p0))
def Z6z (p0 : Y93) : Option (Y96 × Bool) := cond ((p0.rooms.length : Int) != 3) (Z6y p0 true) (Z6y p0 (decide ((p0.stream.length : Int) > 120)))
instance Z70 (p0 : Y93) : Sp Tryz.prog 68 [C.agg [cM Y9g 3 p0.rooms, cM Y9d 2 p0.stream]] (Z6z p0) (fun r => C.tup [C.ip [cM Y9g 3 r.1.h.rooms, cM Y9d 2 r.1.h.stream, cM Y9m 1 r.1.rooms, cM Y9n 1 r.1.pos, cM Y9k 1 r.1.now], C.bool r.2]) := sp Tryz.func68 rfl rfl fun r X h => by
 unfold Z6z at h
 refine zw ?_
 refine ox fun b1 => ?_
 refine Ops.v rfl (Yr rfl rfl) ?_
 refine Ops.v rfl (Yr rfl rfl) ?_
 refine Ops.nil ?_
 refine AW.seq ?_
 refine AW.seq ?_
 refine AW.cut (τ := Bool) (fun x3 => ⟨[(1, pt b1), (17, C.bool x3)], [oB b1 32 [cM Y9g 3 p0.rooms, cM Y9d 2 p0.stream]]⟩) (fun x3 => Z6y p0 x3 = some r) go fun x3 h => ?_
 replace h : Z6y p0 x3 = some r := h
 unfold Z6y at h
 refine cnd h (fun hb4 h => ?_) fun hb4 h => ?_
 ·
  refine AW.ct hb4 rfl ?_
  refine zw ?_
  refine Ops.v rfl (Y38 (ds := [cV s0, cV s0, cV s0, cV s0, cV s0]) Ycd Yce (Y42 rfl rfl) .nil rfl) ?_
  refine ox fun b5 => ?_
  refine zw ?_
  refine AW.ret ?_
  rw [← Wj h]
  exact ⟨[C.ip [cM Y9g 3 [], cM Y9d 2 [], cM Y9m 1 [], cM Y9n 1 [], cM Y9k 1 []], C.bool false], _, Y21.freezeBy (ns := [0]) (t := 2) rfl rfl (Frz.box (FrzL.cons (os := []) (Frz.imp (Imp.nil Y9g 3)) (FrzL.cons (os := []) (Frz.imp (Imp.nil Y9d 2)) (FrzL.cons (os := []) (Frz.imp (Imp.nil Y9m 1)) (FrzL.cons (os := []) (Frz.imp (Imp.nil Y9n 1)) (FrzL.cons (os := []) (Frz.imp (Imp.nil Y9k 1)) FrzL.nil)))))), (.cons (.tmp rfl) (.cons (.tmp rfl) .nil)), [], _, _, rfl, ⟨rfl, rfl⟩⟩
 refine AW.cf hb4 rfl ?_
 refine AW.skip ?_
 refine AW.seq ?_
 refine AW.cut (τ := Unit) (fun (_ : Unit) => ⟨[(1, pt b1)], [oB b1 32 [cM Y9g 3 p0.rooms, cM Y9d 2 p0.stream]]⟩) (fun (_ : Unit) => Z6v p0 = some r) ?_ ?_
 ·
  refine zw ?_
  refine AW.lp (v := ()) h (fun x15 (_ : Unit) => ⟨[(1, pt b1), (4, cI x15)], [oB b1 32 [cM Y9g 3 p0.rooms, cM Y9d 2 p0.stream]]⟩) (gb [0]) ?_
  rintro x15 _ y91 h
  refine zw ?_
  refine cnd h (fun hb16 h => ?_) fun hb16 h => ?_
  ·
   refine AW.ct hb16 rfl ?_
   refine AW.skip ?_
   refine AW.seq ?_
   refine AW.block ?_
   refine AW.seq ?_
   refine AW.cut (τ := Bool) (fun x22 => ⟨[(1, pt b1), (4, cI x15), (44, C.bool x22)], [oB b1 32 [cM Y9g 3 p0.rooms, cM Y9d 2 p0.stream]]⟩) (fun x22 => Z6w x15 x22 = some y91) go fun x22 h => ?_
   replace h : Z6w x15 x22 = some y91 := h
   unfold Z6w at h
   refine cnd h (fun hb23 h => ?_) fun hb23 h => ?_
   ·
    refine AW.ct hb23 rfl ?_
    refine zw ?_
    refine Ops.v rfl (Y38 (ds := [cV s0, cV s0, cV s0, cV s0, cV s0]) Ycd Yce (Y42 rfl rfl) .nil rfl) ?_
    refine ox fun b24 => ?_
    refine zw ?_
    refine AW.ret ?_
    refine lx h fun h => ?_
    rw [← Wj h]
    exact ⟨[C.ip [cM Y9g 3 [], cM Y9d 2 [], cM Y9m 1 [], cM Y9n 1 [], cM Y9k 1 []], C.bool false], _, Y21.freezeBy (ns := [0]) (t := 2) rfl rfl (Frz.box (FrzL.cons (os := []) (Frz.imp (Imp.nil Y9g 3)) (FrzL.cons (os := []) (Frz.imp (Imp.nil Y9d 2)) (FrzL.cons (os := []) (Frz.imp (Imp.nil Y9m 1)) (FrzL.cons (os := []) (Frz.imp (Imp.nil Y9n 1)) (FrzL.cons (os := []) (Frz.imp (Imp.nil Y9k 1)) FrzL.nil)))))), (.cons (.tmp rfl) (.cons (.tmp rfl) .nil)), [], _, _, rfl, ⟨rfl, rfl⟩⟩
   exact go
  exact go
 rintro ⟨⟩ h
 replace h : Z6v p0 = some r := h
 unfold Z6v at h
 refine AW.seq ?_
 refine AW.cut (τ := Unit) (fun (_ : Unit) => ⟨[(1, pt b1)], [oB b1 32 [cM Y9g 3 p0.rooms, cM Y9d 2 p0.stream]]⟩) (fun (_ : Unit) => Z6r p0 = some r) ?_ ?_
 ·
  refine zw ?_
  refine AW.lp (v := ()) h (fun x39 (_ : Unit) => ⟨[(1, pt b1), (5, cI x39)], [oB b1 32 [cM Y9g 3 p0.rooms, cM Y9d 2 p0.stream]]⟩) (gb [0]) ?_
  rintro x39 _ y77 h
  refine zw ?_
  refine cnd h (fun hb40 h => ?_) fun hb40 h => ?_
  ·
   refine AW.ct hb40 rfl ?_
   refine zw ?_
   refine AW.lp (v := ()) h (fun x48 (_ : Unit) => ⟨[(1, pt b1), (5, cI x39), (6, cI x48)], [oB b1 32 [cM Y9g 3 p0.rooms, cM Y9d 2 p0.stream]]⟩) (gb [0]) ?_
   rintro x48 _ y84 h
   refine zw ?_
   refine cnd h (fun hb49 h => ?_) fun hb49 h => ?_
   ·
    refine AW.ct hb49 rfl ?_
    refine zw ?_
    refine rD [0] [1,4,6,9] [] [0,5,8,12,17,20,25,28,32,37,40] ?_
    refine zw ?_
    refine di h fun e50 g51 h => ?_
    refine zw ?_
    refine di h fun e52 g53 h => ?_
    refine zw ?_
    refine OpsD.v rfl rfl (Y5l [.int .i64 e50.room, .int .i64 e50.id] [.int .i64 e52.room, .int .i64 e52.id] Ycq rfl rfl rfl rfl rfl rfl) ?_
    refine zw ?_
    refine cnd h (fun hb54 h => ?_) fun hb54 h => ?_
    ·
     refine AW.ct hb54 rfl ?_
     refine zw ?_
     refine Ops.v rfl (Y38 (ds := [cV s0, cV s0, cV s0, cV s0, cV s0]) Ycd Yce (Y42 rfl rfl) .nil rfl) ?_
     refine ox fun b55 => ?_
     refine zw ?_
     refine AW.ret ?_
     refine lx h fun h => ?_
     refine lx h fun h => ?_
     rw [← Wj h]
     exact ⟨[C.ip [cM Y9g 3 [], cM Y9d 2 [], cM Y9m 1 [], cM Y9n 1 [], cM Y9k 1 []], C.bool false], _, Y21.freezeBy (ns := [0]) (t := 2) rfl rfl (Frz.box (FrzL.cons (os := []) (Frz.imp (Imp.nil Y9g 3)) (FrzL.cons (os := []) (Frz.imp (Imp.nil Y9d 2)) (FrzL.cons (os := []) (Frz.imp (Imp.nil Y9m 1)) (FrzL.cons (os := []) (Frz.imp (Imp.nil Y9n 1)) (FrzL.cons (os := []) (Frz.imp (Imp.nil Y9k 1)) FrzL.nil)))))), (.cons (.tmp rfl) (.cons (.tmp rfl) .nil)), [], _, _, rfl, ⟨rfl, rfl⟩⟩
    exact go
   exact go
  exact go
 rintro ⟨⟩ h
 replace h : Z6r p0 = some r := h
 unfold Z6r at h
 refine zw ?_
 refine ob' h fun r56 g57 h => ?_
 refine Ops.h (ns := []) rfl rfl (Y23 (Z6g _ _ g57) rfl rfl) ?_
 rintro _ _ ⟨_, ⟨b58, v59, v60, v61, rfl, rfl⟩, rfl⟩
 refine zw ?_
 refine ob' h fun r62 g63 h => ?_
 refine Ops.hd (ns := [0, 0, 0, 0]) rfl rfl (Y24 (Z6q r56 _ g63) rfl rfl) ?_
 refine zw ?_
 refine cnd h (fun hb64 h => ?_) fun hb64 h => ?_
 ·
  refine AW.cond rfl (fun hn => absurd ((Y3u hb64).symm.trans hn) (by decide)) (fun _ => ?_)
  refine zw ?_
  refine AW.ret ?_
  rw [← Wj h]
  exact ⟨[C.ip [cM Y9g 3 r56.h.rooms, cM Y9d 2 r56.h.stream, cM Y9m 1 r56.rooms, cM Y9n 1 r56.pos, cM Y9k 1 r56.now], C.bool true], _, Y21.freezeBy (ns := [0, 0, 0, 0]) (t := 2) rfl rfl (Frz.box (fS (fS (FrzL.cons (os := [_]) Frz.arr (FrzL.cons (os := [_]) Frz.arr (FrzL.cons (os := [_]) Frz.arr FrzL.nil)))))), (.cons (.tmp rfl) (.cons (.tmp rfl) .nil)), [], _, _, rfl, ⟨rfl, rfl⟩⟩
 refine AW.cond rfl (fun _ => ?_) (fun hn => absurd ((Y3v hb64).symm.trans hn) (by decide))
 refine zw ?_
 refine Ops.v rfl (Y38 (ds := [cV s0, cV s0, cV s0, cV s0, cV s0]) Ycd Yce (Y42 rfl rfl) .nil rfl) ?_
 refine ox fun b65 => ?_
 refine zw ?_
 refine AW.ret ?_
 rw [← Wj h]
 exact ⟨[C.ip [cM Y9g 3 [], cM Y9d 2 [], cM Y9m 1 [], cM Y9n 1 [], cM Y9k 1 []], C.bool false], _, Y21.freezeBy (ns := [0]) (t := 2) rfl rfl (Frz.box (FrzL.cons (os := []) (Frz.imp (Imp.nil Y9g 3)) (FrzL.cons (os := []) (Frz.imp (Imp.nil Y9d 2)) (FrzL.cons (os := []) (Frz.imp (Imp.nil Y9m 1)) (FrzL.cons (os := []) (Frz.imp (Imp.nil Y9n 1)) (FrzL.cons (os := []) (Frz.imp (Imp.nil Y9k 1)) FrzL.nil)))))), (.cons (.tmp rfl) (.cons (.tmp rfl) .nil)), [], _, _, rfl, ⟨rfl, rfl⟩⟩

def Z71 (p0 : Int) : Option Bool := (Z18 p0 1 3).bind fun r1 => some r1
instance Z72 (p0 : Int) : Sp Tryz.prog 96 [cI p0] (Z71 p0) C.bool := sp Tryz.func96 rfl rfl fun r X h => go

def Z73 (p0 : Int) : Option Y98 := some (Y98.mk [] 0 false p0)
instance Z74 (p0 : Int) : Sp Tryz.prog 126 [cI p0] (Z73 p0) (fun r => C.agg [cM Y9o 10 r.events, cI r.at_, C.bool r.end_, cI r.code]) := sp Tryz.func126 rfl rfl fun r X h => by
 unfold Z73 at h
 refine zw ?_
 refine Ops.h (ns := []) rfl rfl (Y1p (cs := [cV s0, cI 0, C.bool false, cI 0]) Ycr (Y42 rfl rfl) rfl) ?_
 rintro _ _ ⟨b1, rfl, rfl⟩
 refine zw ?_
 refine Ops.v rfl (Y38 (ds := [cV s0, cI 0, C.bool false, cI p0]) Ycs Ycr (Y42 rfl rfl) (.one rfl (One.val rfl) rfl rfl .nil) rfl) ?_
 refine Ops.hd (ns := [0]) rfl rfl (Y1u (gs := [cV s0, cI 0, C.bool false, cI p0]) Yct.h rfl rfl rfl rfl rfl) ?_
 refine zw ?_
 refine AW.ret ?_
 rw [← Wj h]
 exact ⟨[C.agg [cM Y9o 10 [], cI 0, C.bool false, cI p0]], _, Y21.boxFrz (ns := [0]) rfl (FrzL.cons (os := []) (Frz.imp (Imp.nil Y9o 10)) (fS (fS (fS FrzL.nil)))), (.cons (.cell (p := 0) rfl rfl Yct.h rfl) .nil), [], _, _, rfl, ⟨rfl, rfl⟩⟩

def Z75 (p0 : Y92) (p1 : List Y94) : Option Int := (Z42 p0 p1 6 0).bind fun r2 => cond (r2.n == 0) (some 2) (some r2.n)
instance Z76 (p0 : Y92) (p1 : List Y94) : Sp Tryz.prog 161 [C.agg [cI p0.room, cM Y9b 9 p0.events, cM Y9b 9 p0.parked], cM Y9j 3 p1] (Z75 p0 p1) cI := sp Tryz.func161 rfl rfl fun r X h => by
 unfold Z75 at h
 refine zw ?_
 refine ox fun b1 => ?_
 refine zw ?_
 refine oc h fun r2 g3 h => ?_
 refine Ops.v rfl (Y6v Ybw rfl rfl rfl) ?_
 exact go

def Z77 (x13 : Bool) : Option Int := cond x13 (some 1) (some 0)
def Z78 (p0 : Y96) (p1 : Bool) (p2 : Int) (p3 : Int) (p4 : Int) (p5 : Int) : Option Int := cond p1 ((Z1c p2).bind fun r2 => cond r2 ((Z71 p3).bind fun r5 => cond r5 ((Z18 p5 1 20).bind fun r8 => cond r8 ((Z18 p4 0 (p0.h.stream.length : Int)).bind fun r11 => Z77 (!r11)) (Z77 true)) (Z77 true)) (Z77 true)) (Z77 true)
instance Z79 (p0 : Y96) (p1 : Bool) (p2 : Int) (p3 : Int) (p4 : Int) (p5 : Int) : Sp Tryz.prog 119 [C.ip [cM Y9g 3 p0.h.rooms, cM Y9d 2 p0.h.stream, cM Y9m 1 p0.rooms, cM Y9n 1 p0.pos, cM Y9k 1 p0.now], C.bool p1, cI p2, cI p3, cI p4, cI p5] (Z78 p0 p1 p2 p3 p4 p5) cI := sp Tryz.func119 rfl rfl fun r X h => by
 unfold Z78 at h
 refine zw ?_
 refine cnd h (fun hb1 h => ?_) fun hb1 h => ?_
 ·
  refine zw ?_
  refine ob' h fun r2 g3 h => ?_
  refine Ops.ghd (ns := []) rfl rfl rfl rfl (Y3u hb1) rfl (Y24 ((Z1d _).h _ g3) rfl rfl) ?_
  refine zw ?_
  refine cnd h (fun hb4 h => ?_) fun hb4 h => ?_
  ·
   refine zw ?_
   refine ob' h fun r5 g6 h => ?_
   refine Ops.ghd (ns := []) rfl rfl rfl rfl (Y3u hb4) rfl (Y24 ((Z72 _).h _ g6) rfl rfl) ?_
   refine zw ?_
   refine cnd h (fun hb7 h => ?_) fun hb7 h => ?_
   ·
    refine zw ?_
    refine ob' h fun r8 g9 h => ?_
    refine Ops.ghd (ns := []) rfl rfl rfl rfl (Y3u hb7) rfl (Y24 ((Z19 _ _ _).h _ g9) rfl rfl) ?_
    refine zw ?_
    refine cnd h (fun hb10 h => ?_) fun hb10 h => ?_
    ·
     refine zw ?_
     refine ob' h fun r11 g12 h => ?_
     refine Ops.ghd (ns := []) rfl rfl rfl rfl (Y3u hb10) rfl (Y24 ((Z19 _ _ _).h _ g12) rfl rfl) ?_
     exact go
    exact go
   exact go
  exact go
 exact go

def Z7a (x30 : Bool) : Option Bool := some x30
def Z7b (p0 : Y96) (p1 : Int) (p2 : Int) (e6 : Y92) (r16 : Int) (x23 : Bool) : Option Bool := cond x23 (some true) (cond (r16 == 2) ((getI p0.now (IntKind.i64.wrap (p2 - 1))).bind fun e26 => (Z44 e6 e26 p1).bind fun r28 => Z7a (r28 == 1)) (Z7a false))
def Z7c (p0 : Y96) (p1 : Int) (p2 : Int) (p3 : Int) : Option Bool := (getI p0.pos (IntKind.i64.wrap (p2 - 1))).bind fun e1 => (getI e1 p3).bind fun e3 => cond (e3 == 0) (some false) ((getI p0.h.rooms (IntKind.i64.wrap (p2 - 1))).bind fun e6 => (getI p0.rooms (IntKind.i64.wrap (p2 - 1))).bind fun e9 => (getI e9.behind p3).bind fun e11 => (getI e6.events p3).bind fun e13 => (Z75 e6 e11).bind fun r16 => (Z44 e6 e11 p1).bind fun r18 => cond (r18 == 1) (Z7b p0 p1 p2 e6 r16 true) (cond (r16 == 1) (Z7b p0 p1 p2 e6 r16 true) (cond (e13.kind == 2) (Z7b p0 p1 p2 e6 r16 (e13.key == p1)) (Z7b p0 p1 p2 e6 r16 false))))
instance Z7d (p0 : Y96) (p1 : Int) (p2 : Int) (p3 : Int) : Sp Tryz.prog 108 [C.ip [cM Y9g 3 p0.h.rooms, cM Y9d 2 p0.h.stream, cM Y9m 1 p0.rooms, cM Y9n 1 p0.pos, cM Y9k 1 p0.now], cI p1, cI p2, cI p3] (Z7c p0 p1 p2 p3) C.bool := sp Tryz.func108 rfl rfl fun r X h => by
 unfold Z7c at h
 refine zw ?_
 refine oi h fun e1 g2 h => ?_
 refine zw ?_
 refine oi h fun e3 g4 h => ?_
 refine zw ?_
 refine cnd h (fun hb5 h => go) fun hb5 h => ?_
 refine AW.cf hb5 rfl ?_
 refine zw ?_
 refine oi h fun e6 g7 h => ?_
 refine zw ?_
 refine Ops.h (ns := []) rfl rfl (Y1p (cs := [cI 0, cV s0, cV s0]) Yay (Y42 rfl rfl) rfl) ?_
 rintro _ _ ⟨b8, rfl, rfl⟩
 refine Ops.hd (ns := [0]) rfl rfl (Y1u (gs := [cI e6.room, cM Y9b 9 e6.events, cM Y9b 9 e6.parked]) Yb4.h rfl rfl rfl rfl rfl) ?_
 refine zw ?_
 refine oi h fun e9 g10 h => ?_
 refine zw ?_
 refine oi h fun e11 g12 h => ?_
 refine zw ?_
 refine oi h fun e13 g14 h => ?_
 refine zw ?_
 refine Ops.h (ns := []) rfl rfl (Y1p (cs := [cI 0, cI 0, cI 0, cI 0, cI 0, cI 0, C.str ByteArray.empty, cV s0, cI 0]) Yac (Y42 rfl rfl) rfl) ?_
 rintro _ _ ⟨b15, rfl, rfl⟩
 refine Ops.hd (ns := [0]) rfl rfl (Y1u (gs := [cI e13.id, cI e13.room, cI e13.author, cI e13.kind, cI e13.key, cI e13.n, C.str e13.text, cM kI64 1 e13.prev, cI e13.time]) Yat.h rfl rfl rfl rfl rfl) ?_
 refine zw ?_
 refine oc h fun r16 g17 h => ?_
 refine Ops.v rfl (Yr rfl rfl) ?_
 refine Ops.nil ?_
 refine AW.seq ?_
 refine AW.seq ?_
 refine AW.cut (τ := Bool) (fun x23 => ⟨[(0, C.ip [cM Y9g 3 p0.h.rooms, cM Y9d 2 p0.h.stream, cM Y9m 1 p0.rooms, cM Y9n 1 p0.pos, cM Y9k 1 p0.now]), (1, cI p1), (2, cI p2), (9, pt b8), (12, cI r16), (75, C.bool x23)], [oB b8 139 [cI e6.room, cM Y9b 9 e6.events, cM Y9b 9 e6.parked]]⟩) (fun x23 => Z7b p0 p1 p2 e6 r16 x23 = some r) go fun x23 h => ?_
 replace h : Z7b p0 p1 p2 e6 r16 x23 = some r := h
 unfold Z7b at h
 refine cnd h (fun hb24 h => go) fun hb24 h => ?_
 refine AW.cf hb24 rfl ?_
 refine zw ?_
 refine rD [0] [3,7,11] [] [0,4,8,13,16,20,24,29,32,36,40,45,48,54,56,60,64] ?_
 refine zw ?_
 refine cnd h (fun hb25 h => ?_) fun hb25 h => ?_
 ·
  refine zw ?_
  refine ob' h fun e26 g27 h => ?_
  refine zw ?_
  refine ob' h fun r28 g29 h => ?_
  refine Y3n.gh (ns := []) rfl rfl rfl rfl rfl hb25 rfl (Y24 ((Z45 _ _ _).h _ g29) rfl rfl) ?_
  rintro _ _ ⟨rfl, rfl⟩
  exact go
 refine OpsD.gs rfl rfl rfl rfl (.b rfl hb25) rfl rfl ?_
 refine OpsD.gs rfl rfl rfl rfl (.b rfl hb25) rfl rfl ?_
 refine OpsD.gs rfl rfl rfl rfl (.b rfl hb25) rfl rfl ?_
 refine OpsD.gs rfl rfl rfl rfl (.b rfl hb25) rfl rfl ?_
 refine OpsD.gs rfl rfl rfl rfl (.b rfl hb25) rfl rfl ?_
 refine OpsD.gs rfl rfl rfl rfl (.b rfl hb25) rfl rfl ?_
 refine OpsD.gs rfl rfl rfl rfl (.b rfl hb25) rfl rfl ?_
 refine OpsD.gs rfl rfl rfl rfl (.b rfl hb25) rfl rfl ?_
 refine OpsD.gs rfl rfl rfl rfl (.b rfl hb25) rfl rfl ?_
 refine OpsD.gs rfl rfl rfl rfl (.b rfl hb25) rfl rfl ?_
 refine OpsD.one ?_
 refine Y3n.gs rfl rfl rfl rfl (.b rfl hb25) rfl rfl ?_
 exact go

end Go.Proofs.YtbgichfjcnibpaaGreat
