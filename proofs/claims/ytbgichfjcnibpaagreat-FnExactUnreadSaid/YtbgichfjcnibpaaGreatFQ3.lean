/- Printed by gen.py: plain functions for Go functions, and that the walks keep to them. -/
import Derived.Test.YtbgichfjcnibpaaGreatFQ2
set_option autoImplicit false
set_option linter.unusedVariables false
set_option linter.unusedSimpArgs false
set_option maxHeartbeats 1000000
set_option maxRecDepth 100000
namespace Go.Proofs.YtbgichfjcnibpaaGreat
open Go Go.Abs
attribute [local irreducible] AW Ops OpsD Y3k
def Z5u (l164 : List Int) : Option (List Int) := some l164
def Z5v (x79 : Int) (l162 : List Int) : Option ((List Int × Int) ⊕ ((List Int))) := some (.inl (l162, (IntKind.i64.wrap (x79 + 1))))
def Z5w (p0 : Y8l) (l78 : List Int) (x79 : Int) (x153 : Bool) : Option ((List Int × Int) ⊕ ((List Int))) := cond x153 ((getI p0.events x79).bind fun e155 => (chk (decide ((l78.length + [e155.id].length) * 8 ≤ 140737488355328))).bind fun u159 => Z5v x79 (l78 ++ [e155.id])) (Z5v x79 l78)
def Z5x (x118 : Int) (x152 : Bool) : Option ((Bool × Int) ⊕ (Bool)) := some (.inl (x152, (IntKind.i64.wrap (x118 + 1))))
def Z5y (x136 : Int) (x151 : Bool) : Option ((Bool × Int) ⊕ (Bool)) := some (.inl (x151, (IntKind.i64.wrap (x136 + 1))))
def Z5z (p0 : Y8l) (x79 : Int) (x118 : Int) (x135 : Bool) (x136 : Int) (x142 : Bool) : Option ((Bool × Int) ⊕ (Bool)) := cond x142 (cond x135 ((getI p0.events x118).bind fun e145 => (getI e145.prev x136).bind fun e147 => (getI p0.events x79).bind fun e149 => Z5y x136 (e147 != e149.id)) (Z5y x136 false)) (some (.inr x135))
def Z60 (p0 : Y8l) (p1 : List Bool) (x79 : Int) (x118 : Int) (x135 : Bool) (x136 : Int) : Option ((Bool × Int) ⊕ (Bool)) := (getI p1 x118).bind fun e137 => cond e137 ((getI p0.events x118).bind fun e140 => Z5z p0 x79 x118 x135 x136 (decide (x136 < (e140.prev.length : Int)))) (Z5z p0 x79 x118 x135 x136 false)
def Z61 (p0 : Y8l) (p1 : List Bool) (x79 : Int) (x117 : Bool) (x118 : Int) : Option ((Bool × Int) ⊕ (Bool)) := cond (decide (x118 < (p0.events.length : Int))) ((iter (fun z166 => Z60 p0 p1 x79 x118 z166.1 z166.2) big (x117, 0)).bind fun y167 => Z5x x118 y167) (some (.inr x117))
def Z62 (p0 : Y8l) (p1 : List Bool) (l78 : List Int) (x79 : Int) : Option ((List Int × Int) ⊕ ((List Int))) := cond (decide (x79 < (p0.events.length : Int))) ((getI p1 x79).bind fun e81 => (iter (fun z168 => Z61 p0 p1 x79 z168.1 z168.2) big (e81, 0)).bind fun y169 => Z5w p0 l78 x79 y169) (some (.inr l78))
def Z63 (p0 : Y8l) (p1 : List Bool) : Option (List Int) := (iter (fun z170 => Z62 p0 p1 z170.1 z170.2) big (([] : List Int), 0)).bind fun y171 => Z5u y171
theorem Z64 (p0 : Y8l) (p1 : List Bool) (r : List Int) (h : Z63 p0 p1 = some r) : Ok Tryz.prog 181 [C.agg [cI p0.room, cM Y8t 9 p0.events, cM Y8t 9 p0.parked], cM Y93 1 p1] [] (fun c qs => ∃ (v165 : Value), c = cV v165 ∧ qs = [oA v165 2 kI64 1 r]) := by
 refine Ok.of_body (rs := [.tmp 4]) Tryz.func181 rfl rfl rfl rfl rfl fun X => ?_
 unfold Z63 at h
 refine zw ?_
 refine ox fun b1 => ?_
 refine zw ?_
 refine Ops.h (ns := []) rfl rfl (Y36 (k := kI64) (ys := ([] : List Int)) Y9s .nil rfl rfl rfl) ?_
 rintro _ _ ⟨b2, rfl, rfl⟩
 refine Ops.v rfl (Yr rfl rfl) ?_
 refine Ops.nil ?_
 refine AW.seq ?_
 refine AW.cut (τ := List Int × Value) (fun (l164, v163) => ⟨[(5, cV v163)], [oA v163 2 kI64 1 l164]⟩) (fun (l164, v163) => Z5u l164 = some r) ?_ ?_
 ·
  refine zw ?_
  refine AW.lp h (fun (l78, x79) (v77 : Value) => ⟨[(1, cM Y93 1 p1), (2, pt b1), (5, cV v77), (6, cI x79)], [oB b1 139 [cI p0.room, cM Y8t 9 p0.events, cM Y8t 9 p0.parked], oA v77 2 kI64 1 l78]⟩) (gb [1, 0]) ?_
  rintro ⟨l78, x79⟩ v77 y177 h
  refine zw ?_
  refine cnd h (fun hb80 h => ?_) fun hb80 h => ?_
  ·
   refine AW.ct hb80 rfl ?_
   refine zw ?_
   refine oi h fun e81 g82 h => ?_
   refine Ops.v rfl (Y1f ld_4.h rfl rfl) ?_
   refine Ops.v rfl (Yr rfl rfl) ?_
   refine Ops.nil ?_
   refine AW.seq ?_
   refine AW.cut (τ := Bool) (fun x153 => ⟨[(1, cM Y93 1 p1), (2, pt b1), (5, cV v77), (6, cI x79), (7, C.bool x153)], [oB b1 139 [cI p0.room, cM Y8t 9 p0.events, cM Y8t 9 p0.parked], oA v77 2 kI64 1 l78]⟩) (fun x153 => Z5w p0 l78 x79 x153 = some y177) ?_ ?_
   ·
    refine zw ?_
    refine AW.lp (v := ()) h (fun (x117, x118) (_ : Unit) => ⟨[(1, cM Y93 1 p1), (2, pt b1), (5, cV v77), (6, cI x79), (7, C.bool x117), (8, cI x118)], [oB b1 139 [cI p0.room, cM Y8t 9 p0.events, cM Y8t 9 p0.parked], oA v77 2 kI64 1 l78]⟩) (gb [0, 0]) ?_
    rintro ⟨x117, x118⟩ _ y184 h
    refine zw ?_
    refine cnd h (fun hb119 h => ?_) fun hb119 h => ?_
    ·
     refine AW.ct hb119 rfl ?_
     refine zw ?_
     refine AW.lp (v := ()) h (fun (x135, x136) (_ : Unit) => ⟨[(1, cM Y93 1 p1), (2, pt b1), (5, cV v77), (6, cI x79), (7, C.bool x135), (8, cI x118), (9, cI x136)], [oB b1 139 [cI p0.room, cM Y8t 9 p0.events, cM Y8t 9 p0.parked], oA v77 2 kI64 1 l78]⟩) (gb [0, 0]) ?_
     rintro ⟨x135, x136⟩ _ y191 h
     refine AW.seq ?_
     refine AW.seq ?_
     refine AW.cut (τ := Bool) (fun x142 => ⟨[(1, cM Y93 1 p1), (2, pt b1), (5, cV v77), (6, cI x79), (7, C.bool x135), (8, cI x118), (9, cI x136), (43, C.bool x142)], [oB b1 139 [cI p0.room, cM Y8t 9 p0.events, cM Y8t 9 p0.parked], oA v77 2 kI64 1 l78]⟩) (fun x142 => Z5z p0 x79 x118 x135 x136 x142 = some y191) go fun x142 h => ?_
     replace h : Z5z p0 x79 x118 x135 x136 x142 = some y191 := h
     unfold Z5z at h
     refine cnd h (fun hb143 h => ?_) fun hb143 h => ?_
     ·
      refine AW.ct hb143 rfl ?_
      refine zw ?_
      refine rD [0,0] [3,7,10,12,16] [] [0,4,8,13,16,20,24,29,32,36,41,44,49,52,56,60,65,68,72,76] ?_
      exact go
     exact go
    exact go
   intro x153 h
   replace h : Z5w p0 l78 x79 x153 = some y177 := h
   unfold Z5w at h
   refine zw ?_
   refine cnd h (fun hb154 h => ?_) fun hb154 h => ?_
   ·
    refine AW.ct hb154 rfl ?_
    refine zw ?_
    refine oi h fun e155 g156 h => ?_
    refine zw ?_
    refine Ops.h (ns := []) rfl rfl (Y36 (k := kI64) (ys := [e155.id]) Y9s (.one rfl (One.val rfl) rfl rfl .nil) rfl rfl rfl) ?_
    rintro _ _ ⟨b157, rfl, rfl⟩
    refine ob' h fun u159 c158 h => ?_
    refine Ops.h (ns := [2, 0]) rfl rfl (Y2q Y9s rfl rfl (Wo (Y3q c158)) (Y3t (by decide) c158) rfl) ?_
    rintro _ _ ⟨v160, rfl, rfl⟩
    exact go
   exact go
  exact go
 rintro ⟨l164, v163⟩ h
 replace h : Z5u l164 = some r := h
 unfold Z5u at h
 refine zw ?_
 refine AW.ret ?_
 rw [← Wj h]
 exact ⟨[cV v163], _, Y1z.refl _, (.cons (.tmp rfl) .nil), [0], _, _, rfl, ⟨v163, rfl, rfl⟩⟩
instance Z64' (p0 : Y8l) (p1 : List Bool) : Sp Tryz.prog 181 [C.agg [cI p0.room, cM Y8t 9 p0.events, cM Y8t 9 p0.parked], cM Y93 1 p1] (Z63 p0 p1) (fun r => cM kI64 1 r) := ⟨fun r h => Ok.freeze (Z64 p0 p1 r h) (by rintro c qs ⟨v165, rfl, rfl⟩; exact Frz.arr)⟩

def Z65 (l16 : List Bool) : Option (List Bool) := some l16
def Z66 (p0 : Y8o) (l9 : List Bool) (x10 : Int) : Option ((List Bool × Int) ⊕ ((List Bool))) := cond (decide (x10 < (l9.length : Int))) ((getI p0.code x10).bind fun e12 => (getI l9 x10).bind fun e14 => some (.inl ((List.set l9 (Int.toNat x10) (e12 == 0)), (IntKind.i64.wrap (x10 + 1))))) (some (.inr l9))
def Z67 (p0 : Y8o) : Option (List Bool) := (chk (decide (0 ≤ (p0.code.length : Int) ∧ (p0.code.length : Int) * 1 ≤ 140737488355328))).bind fun u2 => (iter (fun z18 => Z66 p0 z18.1 z18.2) big ((List.replicate (Int.toNat (p0.code.length : Int)) false), 0)).bind fun y19 => Z65 y19
theorem Z68 (p0 : Y8o) (r : List Bool) (h : Z67 p0 = some r) : Ok Tryz.prog 180 [C.ip [cM kI64 1 p0.depths, cM Y92 1 p0.ahead, cM Y92 1 p0.behind, cM kI64 1 p0.code]] [] (fun c qs => ∃ (v17 : Value), c = cV v17 ∧ qs = [oA v17 4 Y93 1 r]) := by
 refine Ok.of_body (rs := [.tmp 2]) Tryz.func180 rfl rfl rfl rfl rfl fun X => ?_
 unfold Z67 at h
 refine zw ?_
 refine ob' h fun u2 c1 h => ?_
 refine Ops.h (ns := []) rfl rfl (Y38 (k := Y93) (z := false) Ybm ze_4 (Y3z rfl rfl) rfl rfl (Y3u c1).1 (Y3u c1).2 (Y3v (by decide) c1) rfl) ?_
 rintro _ _ ⟨b3, rfl, rfl⟩
 refine Ops.v rfl (Yr rfl rfl) ?_
 refine Ops.nil ?_
 refine AW.seq ?_
 refine AW.cut (τ := List Bool) (fun l16 => ⟨[(3, cV (sn b3 (p0.code.length : Int)))], [oA (sn b3 (p0.code.length : Int)) 4 Y93 1 l16]⟩) (fun l16 => Z65 l16 = some r) ?_ ?_
 ·
  refine zw ?_
  refine AW.lp (v := ()) h (fun (l9, x10) (_ : Unit) => ⟨[(0, C.ip [cM kI64 1 p0.depths, cM Y92 1 p0.ahead, cM Y92 1 p0.behind, cM kI64 1 p0.code]), (3, cV (sn b3 (p0.code.length : Int))), (4, cI x10)], [oA (sn b3 (p0.code.length : Int)) 4 Y93 1 l9]⟩) (gb [0]) ?_
  rintro ⟨l9, x10⟩ _ y25 h
  refine zw ?_
  refine cnd h (fun hb11 h => ?_) fun hb11 h => ?_
  ·
   refine AW.ct hb11 rfl ?_
   refine zw ?_
   refine oi h fun e12 g13 h => ?_
   refine zw ?_
   refine oi h fun e14 g15 h => ?_
   refine Ops.hd (ns := [0]) rfl rfl (Y30 (e' := (e12 == 0)) ld_4.h rfl rfl (One.val rfl) (Y27 g15).2.2 rfl rfl) ?_
   exact go
  exact go
 intro l16 h
 replace h : Z65 l16 = some r := h
 unfold Z65 at h
 refine zw ?_
 refine AW.ret ?_
 rw [← Wj h]
 exact ⟨[cV (sn b3 (p0.code.length : Int))], _, Y1z.refl _, (.cons (.tmp rfl) .nil), [0], _, _, rfl, ⟨(sn b3 (p0.code.length : Int)), rfl, rfl⟩⟩
instance Z68' (p0 : Y8o) : Sp Tryz.prog 180 [C.ip [cM kI64 1 p0.depths, cM Y92 1 p0.ahead, cM Y92 1 p0.behind, cM kI64 1 p0.code]] (Z67 p0) (fun r => cM Y93 1 r) := ⟨fun r h => Ok.freeze (Z68 p0 r h) (by rintro c qs ⟨v17, rfl, rfl⟩; exact Frz.arr)⟩

def Z69 (p0 : Y8l) (p1 : Y8o) (l57 : List (List Y8n)) : Option (List Y8n) := (Z58 p0 p1.depths l57).bind fun r63 => some r63
def Z6a (p0 : Y8l) (p1 : Y8o) (r2 : List Int) (l30 : List (List Y8n)) (x31 : Int) : Option ((List (List Y8n) × Int) ⊕ ((List (List Y8n)))) := cond (decide (x31 < (r2.length : Int))) ((getI r2 x31).bind fun e46 => (Z29 p0.events e46).bind fun r48 => (getI p1.behind r48).bind fun e50 => (chk (decide ((l30.length + [e50].length) * 24 ≤ 140737488355328))).bind fun u54 => some (.inl ((l30 ++ [e50]), (IntKind.i64.wrap (x31 + 1))))) (some (.inr l30))
def Z6b (p0 : Y8l) (p1 : Y8o) (p2 : List Bool) : Option (List Y8n) := (Z63 p0 p2).bind fun r2 => (iter (fun z66 => Z6a p0 p1 r2 z66.1 z66.2) big (([] : List (List Y8n)), 0)).bind fun y67 => Z69 p0 p1 y67
instance Z6c (p0 : Y8l) (p1 : Y8o) (p2 : List Bool) : Sp Tryz.prog 132 [C.agg [cI p0.room, cM Y8t 9 p0.events, cM Y8t 9 p0.parked], C.ip [cM kI64 1 p1.depths, cM Y92 1 p1.ahead, cM Y92 1 p1.behind, cM kI64 1 p1.code], cM Y93 1 p2] (Z6b p0 p1 p2) (fun r => cM Y91 3 r) := sp Tryz.func132 rfl rfl fun r X h => by
 unfold Z6b at h
 refine zw ?_
 refine ox fun b1 => ?_
 refine zw ?_
 refine oc h fun r2 g3 h => ?_
 refine zw ?_
 refine Ops.h (ns := []) rfl rfl (Y36 (k := Y92) (ys := ([] : List (List Y8n))) Ybp .nil rfl rfl rfl) ?_
 rintro _ _ ⟨b4, rfl, rfl⟩
 refine Ops.v rfl (Yr rfl rfl) ?_
 refine Ops.nil ?_
 refine AW.seq ?_
 refine AW.cut (τ := List (List Y8n) × Value) (fun (l57, v56) => ⟨[(1, C.ip [cM kI64 1 p1.depths, cM Y92 1 p1.ahead, cM Y92 1 p1.behind, cM kI64 1 p1.code]), (3, pt b1), (8, cV v56)], [oB b1 139 [cI p0.room, cM Y8t 9 p0.events, cM Y8t 9 p0.parked], oA v56 27 Y92 1 l57]⟩) (fun (l57, v56) => Z69 p0 p1 l57 = some r) ?_ ?_
 ·
  refine zw ?_
  refine AW.lp h (fun (l30, x31) (v29 : Value) => ⟨[(1, C.ip [cM kI64 1 p1.depths, cM Y92 1 p1.ahead, cM Y92 1 p1.behind, cM kI64 1 p1.code]), (3, pt b1), (7, cM kI64 1 r2), (8, cV v29), (9, cI x31)], [oB b1 139 [cI p0.room, cM Y8t 9 p0.events, cM Y8t 9 p0.parked], oA v29 27 Y92 1 l30]⟩) (gb [1, 0]) ?_
  rintro ⟨l30, x31⟩ v29 y73 h
  refine zw ?_
  refine cnd h (fun hb32 h => ?_) fun hb32 h => ?_
  ·
   refine AW.ct hb32 rfl ?_
   refine zw ?_
   refine rD [0] [4,6,10,13] [] [0,4,8,12,17,20,25,28,32,36,41,46,48,53,58,62,64] ?_
   refine zw ?_
   refine di h fun e46 g47 h => ?_
   refine zw ?_
   refine dc h fun r48 g49 h => ?_
   refine di h fun e50 g51 h => ?_
   refine OpsD.v rfl rfl (Y1f Ybd.h rfl rfl) ?_
   refine OpsD.one ?_
   refine Y3k.h (ns := []) rfl rfl rfl (Y36 (k := Y92) (ys := [e50]) Ybp (.one rfl One.im rfl rfl .nil) rfl rfl rfl) ?_
   rintro _ _ ⟨b52, rfl, rfl⟩
   refine zw ?_
   refine ob' h fun u54 c53 h => ?_
   refine Y3k.h (ns := [1, 0]) rfl rfl rfl (Y2q Ybp rfl rfl (Wo (Y3q c53)) (Y3t (by decide) c53) rfl) ?_
   rintro _ _ ⟨v55, rfl, rfl⟩
   exact go
  exact go
 rintro ⟨l57, v56⟩ h
 replace h : Z69 p0 p1 l57 = some r := h
 unfold Z69 at h
 refine zw ?_
 refine rD [0] [0,4] [] [1,4,8,12,17,20,26,28] ?_
 refine zw ?_
 refine ob' h fun r63 g64 h => ?_
 refine Y3k.h (ns := [0]) rfl rfl rfl (Y22 (Ok.freezeL (Ok.lend (Z59 p0 p1.depths l57 _ g64) (fT (fT (FrzT.cons (os := [_]) Frz.arr (FrzT.nil)))) (by rintro _ _ ⟨_, rfl, rfl⟩; exact ⟨(Y41.val _), Y45 (Y43.arr Ybj) (Y44)⟩)) (by rintro c qs ⟨v65, rfl, rfl⟩; exact Frz.arr)) rfl rfl) ?_
 rintro _ _ ⟨rfl, rfl⟩
 exact go

def Z6d (p0 : Y8m) (l147 : List Y8o) (l149 : List (List Int)) (l151 : List (List Y8n)) : Option Y8p := some (Y8p.mk p0 l147 l149 l151)
def Z6e (l76 : List Y8o) (l78 : List (List Int)) (l80 : List (List Y8n)) (x81 : Int) (r86 : Y8o) (r106 : List Y8n) (l140 : List Int) : Option ((List Y8o × List (List Int) × List (List Y8n) × Int) ⊕ ((List Y8o × List (List Int) × List (List Y8n)))) := (chk (decide ((l78.length + [l140].length) * 24 ≤ 140737488355328))).bind fun u143 => some (.inl ((l76 ++ [r86]), (l78 ++ [l140]), (l80 ++ [r106]), (IntKind.i64.wrap (x81 + 1))))
def Z6f (x128 : Int) (l139 : List Int) : Option ((List Int × Int) ⊕ ((List Int))) := some (.inl (l139, (IntKind.i64.wrap (x128 + 1))))
def Z6g (l127 : List Int) (x128 : Int) (r132 : Int) (x135 : Bool) : Option ((List Int × Int) ⊕ ((List Int))) := cond x135 ((getI l127 r132).bind fun e137 => Z6f x128 (List.set l127 (Int.toNat r132) (IntKind.i64.wrap (x128 + 1)))) (Z6f x128 l127)
def Z6h (p0 : Y8m) (e83 : Y8l) (l127 : List Int) (x128 : Int) : Option ((List Int × Int) ⊕ ((List Int))) := cond (decide (x128 < (p0.stream.length : Int))) ((getI p0.stream x128).bind fun e130 => (Z29 e83.events e130.id).bind fun r132 => cond (e130.room == e83.room) (Z6g l127 x128 r132 (decide (r132 ≥ 0))) (Z6g l127 x128 r132 false)) (some (.inr l127))
def Z6i (p0 : Y8m) (l76 : List Y8o) (l78 : List (List Int)) (l80 : List (List Y8n)) (x81 : Int) : Option ((List Y8o × List (List Int) × List (List Y8n) × Int) ⊕ ((List Y8o × List (List Int) × List (List Y8n)))) := cond (decide (x81 < (p0.rooms.length : Int))) ((getI p0.rooms x81).bind fun e83 => (Z5s e83).bind fun r86 => (chk (decide ((l76.length + [r86].length) * 8 ≤ 140737488355328))).bind fun u90 => (Z67 r86).bind fun r104 => (Z6b e83 r86 r104).bind fun r106 => (chk (decide ((l80.length + [r106].length) * 24 ≤ 140737488355328))).bind fun u110 => (chk (decide (0 ≤ (e83.events.length : Int) ∧ (e83.events.length : Int) * 8 ≤ 140737488355328))).bind fun u114 => (iter (fun z156 => Z6h p0 e83 z156.1 z156.2) big ((List.replicate (Int.toNat (e83.events.length : Int)) 0), 0)).bind fun y157 => Z6e l76 l78 l80 x81 r86 r106 y157) (some (.inr (l76, l78, l80)))
def Z6j (p0 : Y8m) : Option Y8p := (iter (fun z158 => Z6i p0 z158.1 z158.2.1 z158.2.2.1 z158.2.2.2) big ([], [], [], 0)).bind fun (y159, y160, y161) => Z6d p0 y159 y160 y161
theorem Z6k (p0 : Y8m) (r : Y8p) (h : Z6j p0 = some r) : Ok Tryz.prog 130 [C.agg [cM Y8y 3 p0.rooms, cM Y8v 2 p0.stream]] [] (fun c qs => ∃ (b152 : Nat) (v153 : Value) (v154 : Value) (v155 : Value), c = pt b152 ∧ qs = [oB b152 156 [cM Y8y 3 r.h.rooms, cM Y8v 2 r.h.stream, cV v153, cV v154, cV v155], oA v153 182 Y94 1 r.rooms, oA v154 57 Y95 1 r.pos, oA v155 27 Y92 1 r.now]) := by
 refine Ok.of_body (rs := [.tmp 2]) Tryz.func130 rfl rfl rfl rfl rfl fun X => ?_
 unfold Z6j at h
 refine zw ?_
 refine ox fun b1 => ?_
 refine zw ?_
 refine Ops.v rfl (Y35 (ds := [cM Y8y 3 p0.rooms, cM Y8v 2 p0.stream, cV s0, cV s0, cV s0]) Yby Ybz (Y3z rfl rfl) (.agg rfl rfl rfl .nil) rfl) ?_
 refine ox fun b2 => ?_
 refine Ops.v rfl (Yr rfl rfl) ?_
 refine Ops.nil ?_
 refine AW.seq ?_
 refine AW.cut (τ := List Y8o × List (List Int) × List (List Y8n) × Value × Value × Value) (fun (l147, l149, l151, v146, v148, v150) => ⟨[(3, pt b2)], [oB b2 156 [cM Y8y 3 p0.rooms, cM Y8v 2 p0.stream, cV v146, cV v148, cV v150], oA v146 182 Y94 1 l147, oA v148 57 Y95 1 l149, oA v150 27 Y92 1 l151]⟩) (fun (l147, l149, l151, v146, v148, v150) => Z6d p0 l147 l149 l151 = some r) ?_ ?_
 ·
  refine zw ?_
  refine ob' h fun o162 g163 q164 => ?_
  refine AW.loop (τ := List Y8o × List (List Int) × List (List Y8n) × Int × Value × Value × Value) (x := ([], [], [], 0, s0, s0, s0)) (fun (l76, l78, l80, x81, v75, v77, v79) => ⟨[(1, pt b1), (3, pt b2), (4, cI x81)], [oB b1 32 [cM Y8y 3 p0.rooms, cM Y8v 2 p0.stream], oB b2 156 [cM Y8y 3 p0.rooms, cM Y8v 2 p0.stream, cV v75, cV v77, cV v79], oA v75 182 Y94 1 l76, oA v77 57 Y95 1 l78, oA v79 27 Y92 1 l80]⟩) (fun k (l76, l78, l80, x81, v75, v77, v79) => iter (fun z158 => Z6i p0 z158.1 z158.2.1 z158.2.2.1 z158.2.2.2) k (l76, l78, l80, x81) = some o162) g163 ((Y1z.nil 182 Y94 1).trans ((Y1z.nil 57 Y95 1).trans ((Y1z.nil 27 Y92 1).trans (Y1z.both (ns := [4, 3, 2, 1, 0]) rfl rfl)))) ?_
  rintro k ⟨l76, l78, l80, x81, v75, v77, v79⟩ i166
  refine Y3y (show iter (fun z158 => Z6i p0 z158.1 z158.2.1 z158.2.2.1 z158.2.2.2) k (l76, l78, l80, x81) = some o162 from i166) fun k165 y167 hlt_k165 h h168 => ?_
  replace h : Z6i p0 l76 l78 l80 x81 = some y167 := h
  unfold Z6i at h
  refine zw ?_
  refine cnd h (fun hb82 h => ?_) fun hb82 h => ?_
  ·
   refine AW.ct hb82 rfl ?_
   refine zw ?_
   refine oi h fun e83 g84 h => ?_
   refine zw ?_
   refine Ops.h (ns := []) rfl rfl (Y1n (cs := [cI 0, cV s0, cV s0]) Yae (Y3z rfl rfl) rfl) ?_
   rintro _ _ ⟨b85, rfl, rfl⟩
   refine Ops.hd (ns := [0]) rfl rfl (Y1s (gs := [cI e83.room, cM Y8t 9 e83.events, cM Y8t 9 e83.parked]) Yak.h rfl rfl rfl rfl rfl) ?_
   refine zw ?_
   refine oc h fun r86 g87 h => ?_
   refine zw ?_
   refine Ops.h (ns := []) rfl rfl (Y36 (k := Y94) (ys := [r86]) Yc2 (.one rfl One.ip rfl rfl .nil) rfl rfl rfl) ?_
   rintro _ _ ⟨b88, rfl, rfl⟩
   refine ob' h fun u90 c89 h => ?_
   refine Ops.h (ns := [4, 0]) rfl rfl (Y2q Yc2 rfl rfl (Wo (Y3q c89)) (Y3t (by decide) c89) rfl) ?_
   rintro _ _ ⟨v91, rfl, rfl⟩
   refine Ops.v rfl (Y12 rfl rfl) ?_
   refine Ops.v rfl (Y19 Yc0.h rfl rfl) ?_
   refine Ops.learn (Sim.arr_one (p := 0) rfl) fun n92 => ?_
   refine Ops.hd (ns := [3]) rfl rfl (Y1r (gs := [cM Y8y 3 p0.rooms, cM Y8v 2 p0.stream, cV v91, cV v77, cV v79]) Yc1.h rfl rfl (One.val n92) rfl rfl) ?_
   refine zw ?_
   refine rD [0,0,0,0,0] [4,5] [14] [0,4,8,12,17,21,24,28,34,38,42,46,48,52,59] ?_
   refine zw ?_
   refine dc h fun r104 g105 h => ?_
   refine zw ?_
   refine dc h fun r106 g107 h => ?_
   refine OpsD.one ?_
   refine Y3k.h (ns := []) rfl rfl rfl (Y36 (k := Y92) (ys := [r106]) Ybp (.one rfl One.im rfl rfl .nil) rfl rfl rfl) ?_
   rintro _ _ ⟨b108, rfl, rfl⟩
   refine zw ?_
   refine ob' h fun u110 c109 h => ?_
   refine Y3k.h (ns := [1, 0]) rfl rfl rfl (Y2q Ybp rfl rfl (Wo (Y3q c109)) (Y3t (by decide) c109) rfl) ?_
   rintro _ _ ⟨v111, rfl, rfl⟩
   refine OpsD.v rfl rfl (Y12 rfl rfl) ?_
   refine OpsD.v rfl rfl (Y19 Yc3.h rfl rfl) ?_
   refine OpsD.learn (Sim.arr_one (p := 5) rfl) fun n112 => ?_
   refine OpsD.late (ns := [0]) rfl rfl rfl (Y1r (gs := [cM Y8y 3 p0.rooms, cM Y8v 2 p0.stream, cV v91, cV v77, cV v111]) Ybu.h rfl rfl (One.val n112) rfl rfl) ?_
   rintro _ _ ⟨rfl, rfl⟩
   refine zw ?_
   refine ob' h fun u114 c113 h => ?_
   refine Ops.h (ns := []) rfl rfl (Y38 (k := kI64) (z := 0) Y9s ze_2 (Y3z rfl rfl) rfl rfl (Y3u c113).1 (Y3u c113).2 (Y3v (by decide) c113) rfl) ?_
   rintro _ _ ⟨b115, rfl, rfl⟩
   refine Ops.v rfl (Yr rfl rfl) ?_
   refine Ops.nil ?_
   refine AW.seq ?_
   refine AW.cut (τ := List Int) (fun l140 => ⟨[(1, pt b1), (3, pt b2), (4, cI x81), (7, cV (sn b115 (e83.events.length : Int)))], [oB b1 32 [cM Y8y 3 p0.rooms, cM Y8v 2 p0.stream], oB b2 156 [cM Y8y 3 p0.rooms, cM Y8v 2 p0.stream, cV v91, cV v77, cV v111], oA v91 182 Y94 1 (l76 ++ [r86]), oA v77 57 Y95 1 l78, oA v111 27 Y92 1 (l80 ++ [r106]), oA (sn b115 (e83.events.length : Int)) 2 kI64 1 l140]⟩) (fun l140 => Z6e l76 l78 l80 x81 r86 r106 l140 = some y167) ?_ ?_
   ·
    refine zw ?_
    refine AW.lp (v := ()) h (fun (l127, x128) (_ : Unit) => ⟨[(1, pt b1), (3, pt b2), (4, cI x81), (5, pt b85), (7, cV (sn b115 (e83.events.length : Int))), (8, cI x128)], [oB b1 32 [cM Y8y 3 p0.rooms, cM Y8v 2 p0.stream], oB b2 156 [cM Y8y 3 p0.rooms, cM Y8v 2 p0.stream, cV v91, cV v77, cV v111], oA v91 182 Y94 1 (l76 ++ [r86]), oA v77 57 Y95 1 l78, oA v111 27 Y92 1 (l80 ++ [r106]), oB b85 139 [cI e83.room, cM Y8t 9 e83.events, cM Y8t 9 e83.parked], oA (sn b115 (e83.events.length : Int)) 2 kI64 1 l127]⟩) (gb [4, 1, 1, 2, 2, 1, 0]) ?_
    rintro ⟨l127, x128⟩ _ y174 h
    refine zw ?_
    refine cnd h (fun hb129 h => ?_) fun hb129 h => ?_
    ·
     refine AW.ct hb129 rfl ?_
     refine AW.skip ?_
     refine AW.seq ?_
     refine AW.cut (τ := List Int) (fun l139 => ⟨[(1, pt b1), (3, pt b2), (4, cI x81), (5, pt b85), (7, cV (sn b115 (e83.events.length : Int))), (8, cI x128)], [oB b1 32 [cM Y8y 3 p0.rooms, cM Y8v 2 p0.stream], oB b2 156 [cM Y8y 3 p0.rooms, cM Y8v 2 p0.stream, cV v91, cV v77, cV v111], oA v91 182 Y94 1 (l76 ++ [r86]), oA v77 57 Y95 1 l78, oA v111 27 Y92 1 (l80 ++ [r106]), oB b85 139 [cI e83.room, cM Y8t 9 e83.events, cM Y8t 9 e83.parked], oA (sn b115 (e83.events.length : Int)) 2 kI64 1 l139]⟩) (fun l139 => Z6f x128 l139 = some y174) ?_ ?_
     ·
      refine zw ?_
      refine rD [0,0,0,0,0,0,0] [1,3,7] [] [0,5,8,13,16,20,24,29,34,36] ?_
      refine OpsD.v rfl rfl (Y19 Yah.h rfl rfl) ?_
      refine OpsD.v rfl rfl (Y1i (p := 5) Yai.h rfl rfl rfl rfl) ?_
      refine zw ?_
      refine di h fun e130 g131 h => ?_
      refine zw ?_
      refine dc h fun r132 g133 h => ?_
      refine OpsD.v rfl rfl (Yr rfl rfl) ?_
      refine OpsD.done ?_
      refine AW.seq ?_
      refine AW.cut (τ := Bool) (fun x135 => ⟨[(1, pt b1), (3, pt b2), (4, cI x81), (5, pt b85), (7, cV (sn b115 (e83.events.length : Int))), (8, cI x128), (9, cI r132), (83, C.bool x135)], [oB b1 32 [cM Y8y 3 p0.rooms, cM Y8v 2 p0.stream], oB b2 156 [cM Y8y 3 p0.rooms, cM Y8v 2 p0.stream, cV v91, cV v77, cV v111], oA v91 182 Y94 1 (l76 ++ [r86]), oA v77 57 Y95 1 l78, oA v111 27 Y92 1 (l80 ++ [r106]), oB b85 139 [cI e83.room, cM Y8t 9 e83.events, cM Y8t 9 e83.parked], oA (sn b115 (e83.events.length : Int)) 2 kI64 1 l127]⟩) (fun x135 => Z6g l127 x128 r132 x135 = some y174) ?_ ?_
      ·
       refine rD [0,0,0,0,0,0,0] [1,5,7] [] [0,5,8,12,16,21,24,29,32,36,40,44,48] ?_
       refine OpsD.v rfl rfl (Y19 Yb0.h rfl rfl) ?_
       refine OpsD.v rfl rfl (Y1i (p := 0) Yb1.h rfl rfl rfl rfl) ?_
       refine OpsD.v rfl rfl (Yq rfl rfl) ?_
       refine OpsD.v rfl rfl (Y2e Yaw.h rfl rfl g131 rfl) ?_
       refine OpsD.v rfl rfl (Y1a Yaq.h rfl rfl rfl) ?_
       refine OpsD.v rfl rfl (Y1f ld_2.h rfl rfl) ?_
       refine OpsD.v rfl rfl (Y19 Yag.h rfl rfl) ?_
       refine OpsD.v rfl rfl (Y1i (p := 5) ld_2.h rfl rfl rfl rfl) ?_
       refine zw ?_
       refine cnd h (fun hb134 h => ?_) fun hb134 h => ?_
       ·
        refine zw ?_
        exact ⟨decide (r132 ≥ 0), h, Y1z.both (ns := [0, 0, 0, 0, 0, 0, 0]) rfl rfl⟩
       refine zw ?_
       exact ⟨false, h, Y1z.both (ns := [0, 0, 0, 0, 0, 0, 0]) rfl rfl⟩
      intro x135 h
      replace h : Z6g l127 x128 r132 x135 = some y174 := h
      unfold Z6g at h
      refine cnd h (fun hb136 h => ?_) fun hb136 h => ?_
      ·
       refine AW.ct hb136 rfl ?_
       refine zw ?_
       refine ob' h fun e137 g138 h => ?_
       refine Ops.v rfl (Y2v (p := 6) Y9b.h rfl rfl rfl g138 rfl) ?_
       refine Ops.hd (ns := [6]) rfl rfl (Y30 (e' := (IntKind.i64.wrap (x128 + 1))) ld_2.h rfl rfl (One.val rfl) (Y27 g138).2.2 rfl rfl) ?_
       refine zw ?_
       exact ⟨(List.set l127 (Int.toNat r132) (IntKind.i64.wrap (x128 + 1))), h, Y1z.both (ns := [1, 1, 1, 1, 1, 1, 0]) rfl rfl⟩
      refine AW.cf hb136 rfl ?_
      refine zw ?_
      exact ⟨l127, h, Y1z.both (ns := [0, 0, 0, 0, 0, 0, 0]) rfl rfl⟩
     intro l139 h
     replace h : Z6f x128 l139 = some y174 := h
     unfold Z6f at h
     refine zw ?_
     exact lu h (gb [0, 0, 0, 0, 0, 0, 0])
    refine AW.cf hb129 rfl ?_
    refine AW.exit ?_
    refine lx h fun h => ?_
    exact ⟨l127, h, Y1z.both (ns := [0, 0, 0, 0, 0, 1]) rfl rfl⟩
   intro l140 h
   replace h : Z6e l76 l78 l80 x81 r86 r106 l140 = some y167 := h
   unfold Z6e at h
   refine zw ?_
   refine Ops.h (ns := [5]) rfl rfl (HOp.frz (t := 94) rfl Frz.arr (Y36 (k := Y95) (ys := [l140]) Yc6 (.one rfl One.im rfl rfl .nil) rfl rfl rfl)) ?_
   rintro _ _ ⟨b141, rfl, rfl⟩
   refine ob' h fun u143 c142 h => ?_
   refine Ops.h (ns := [4, 0]) rfl rfl (Y2q Yc6 rfl rfl (Wo (Y3q c142)) (Y3t (by decide) c142) rfl) ?_
   rintro _ _ ⟨v144, rfl, rfl⟩
   refine Ops.v rfl (Y12 rfl rfl) ?_
   refine Ops.v rfl (Y19 Yc4.h rfl rfl) ?_
   refine Ops.learn (Sim.arr_one (p := 0) rfl) fun n145 => ?_
   refine Ops.hd (ns := [2]) rfl rfl (Y1r (gs := [cM Y8y 3 p0.rooms, cM Y8v 2 p0.stream, cV v91, cV v144, cV v111]) Yc5.h rfl rfl (One.val n145) rfl rfl) ?_
   refine zw ?_
   obtain rfl := Wj h
   exact ⟨k165, ((l76 ++ [r86]), (l78 ++ [l140]), (l80 ++ [r106]), (IntKind.i64.wrap (x81 + 1)), v91, v144, v111), hlt_k165, h168, Y1z.both (ns := [2, 0, 1, 0, 0]) rfl rfl⟩
  refine AW.cf hb82 rfl ?_
  refine AW.exit ?_
  obtain rfl := Wj h
  obtain rfl := Wj h168
  replace h := q164
  exact ⟨(l76, l78, l80, v75, v77, v79), h, Y1z.both (ns := [1, 1, 1, 1]) rfl rfl⟩
 rintro ⟨l147, l149, l151, v146, v148, v150⟩ h
 replace h : Z6d p0 l147 l149 l151 = some r := h
 unfold Z6d at h
 refine zw ?_
 refine AW.ret ?_
 rw [← Wj h]
 exact ⟨[pt b2], _, Y1z.refl _, (.cons (.tmp rfl) .nil), [0, 0, 0, 0], _, _, rfl, ⟨b2, v146, v148, v150, rfl, rfl⟩⟩
instance Z6k' (p0 : Y8m) : Sp Tryz.prog 130 [C.agg [cM Y8y 3 p0.rooms, cM Y8v 2 p0.stream]] (Z6j p0) (fun r => C.ip [cM Y8y 3 r.h.rooms, cM Y8v 2 r.h.stream, cM Y94 1 r.rooms, cM Y95 1 r.pos, cM Y92 1 r.now]) := ⟨fun r h => Ok.freeze (Z6k p0 r h) (by rintro c qs ⟨b152, v153, v154, v155, rfl, rfl⟩; exact Frz.box (fS (fS (FrzL.cons (os := [_]) (Frz.arr) (FrzL.cons (os := [_]) (Frz.arr) (FrzL.cons (os := [_]) (Frz.arr) (FrzL.nil)))))))⟩

def Z6l (p0 : Y8p) (x181 : Int) : Option Bool := some (x181 == (p0.h.stream.length : Int))
def Z6m (x91 : Int) (x180 : Int) : Option ((Int × Int) ⊕ (Bool ⊕ Int)) := some (.inl (x180, (IntKind.i64.wrap (x91 + 1))))
def Z6n (x138 : Int) (x179 : Int) : Option ((Int × Int) ⊕ (Bool ⊕ Int)) := some (.inl (x179, (IntKind.i64.wrap (x138 + 1))))
def Z6o (x137 : Int) (x138 : Int) (e146 : Int) : Option ((Int × Int) ⊕ (Bool ⊕ Int)) := cond (decide (e146 > 0)) (Z6n x138 (IntKind.i64.wrap (x137 + 1))) (Z6n x138 x137)
def Z6p (e93 : Y8l) (x138 : Int) (e144 : List Int) (e146 : Int) (x163 : Int) (x167 : Bool) : Option (Int ⊕ (Bool ⊕ Unit)) := cond x167 ((getI e93.events x138).bind fun e169 => (getI e169.prev x163).bind fun e171 => (Z29 e93.events e171).bind fun r173 => (getI e144 r173).bind fun e175 => cond (decide (e175 ≥ e146)) (some (.inr (.inl false))) (some (.inl (IntKind.i64.wrap (x163 + 1))))) (some (.inr (.inr ())))
def Z6q (e93 : Y8l) (x138 : Int) (e144 : List Int) (e146 : Int) (x163 : Int) : Option (Int ⊕ (Bool ⊕ Unit)) := (getI e93.events x138).bind fun e164 => cond (decide (x163 < (e164.prev.length : Int))) (Z6p e93 x138 e144 e146 x163 (decide (e146 > 0))) (Z6p e93 x138 e144 e146 x163 false)
def Z6r (p0 : Y8p) (x91 : Int) (e93 : Y8l) (x137 : Int) (x138 : Int) : Option ((Int × Int) ⊕ (Bool ⊕ Int)) := cond (decide (x138 < (e93.events.length : Int))) ((getI p0.rooms x91).bind fun e140 => (getI e140.code x138).bind fun e142 => (getI p0.pos x91).bind fun e144 => (getI e144 x138).bind fun e146 => cond ((e142 == 0) == decide (e146 > 0)) ((iter (Z6q e93 x138 e144 e146) big 0).bind (fun z183 => match z183 with | .inl y182 => some (.inr (.inl y182)) | .inr () => Z6o x137 x138 e146)) (some (.inr (.inl false)))) (some (.inr (.inr x137)))
def Z6s (p0 : Y8p) (x90 : Int) (x91 : Int) : Option ((Int × Int) ⊕ (Bool ⊕ Int)) := cond (decide (x91 < (p0.h.rooms.length : Int))) ((getI p0.h.rooms x91).bind fun e93 => (iter (fun z184 => Z6r p0 x91 e93 z184.1 z184.2) big (x90, 0)).bind (fun z187 => match z187 with | .inl y185 => some (.inr (.inl y185)) | .inr y186 => Z6m x91 y186)) (some (.inr (.inr x90)))
def Z6t (p0 : Y8p) : Option Bool := (iter (fun z188 => Z6s p0 z188.1 z188.2) big (0, 0)).bind (fun z191 => match z191 with | .inl y189 => some y189 | .inr y190 => Z6l p0 y190)
theorem Z6u {b00 : Nat} {w01 : Value} {w02 : Value} {w03 : Value} (p0 : Y8p) (r : Bool) (h : Z6t p0 = some r) : Ok Tryz.prog 131 [pt b00] [oB b00 156 [cM Y8y 3 p0.h.rooms, cM Y8v 2 p0.h.stream, cV w01, cV w02, cV w03], oA w01 182 Y94 1 p0.rooms, oA w02 57 Y95 1 p0.pos, oA w03 27 Y92 1 p0.now] (fun c qs => c = C.bool r ∧ qs = [oB b00 156 [cM Y8y 3 p0.h.rooms, cM Y8v 2 p0.h.stream, cV w01, cV w02, cV w03], oA w01 182 Y94 1 p0.rooms, oA w02 57 Y95 1 p0.pos, oA w03 27 Y92 1 p0.now]) := by
 refine Ok.of_body (rs := [.tmp 2]) Tryz.func131 rfl rfl rfl rfl rfl fun X => ?_
 unfold Z6t at h
 refine AW.seq ?_
 refine AW.region ?_
 refine Ops.v rfl (Yr rfl rfl) ?_
 refine Ops.nil ?_
 refine AW.seq ?_
 refine AW.region ?_
 refine Ops.v rfl (Yr rfl rfl) ?_
 refine Ops.nil ?_
 refine AW.seq ?_
 refine AW.cut (τ := Int) (fun x181 => ⟨[(0, pt b00), (3, cI x181)], [oB b00 156 [cM Y8y 3 p0.h.rooms, cM Y8v 2 p0.h.stream, cV w01, cV w02, cV w03], oA w01 182 Y94 1 p0.rooms, oA w02 57 Y95 1 p0.pos, oA w03 27 Y92 1 p0.now]⟩) (fun x181 => Z6l p0 x181 = some r) ?_ ?_
 ·
  refine zw ?_
  refine AW.lp (v := ()) h (fun (x90, x91) (_ : Unit) => ⟨[(0, pt b00), (3, cI x90), (4, cI x91)], [oB b00 156 [cM Y8y 3 p0.h.rooms, cM Y8v 2 p0.h.stream, cV w01, cV w02, cV w03], oA w01 182 Y94 1 p0.rooms, oA w02 57 Y95 1 p0.pos, oA w03 27 Y92 1 p0.now]⟩) (gb [0, 0, 0, 0]) ?_
  rintro ⟨x90, x91⟩ _ y197 h
  refine zw ?_
  refine cnd h (fun hb92 h => ?_) fun hb92 h => ?_
  ·
   refine AW.ct hb92 rfl ?_
   refine AW.skip ?_
   refine AW.seq ?_
   refine AW.cut (τ := Int) (fun x180 => ⟨[(0, pt b00), (3, cI x180), (4, cI x91)], [oB b00 156 [cM Y8y 3 p0.h.rooms, cM Y8v 2 p0.h.stream, cV w01, cV w02, cV w03], oA w01 182 Y94 1 p0.rooms, oA w02 57 Y95 1 p0.pos, oA w03 27 Y92 1 p0.now]⟩) (fun x180 => Z6m x91 x180 = some y197) ?_ ?_
   ·
    refine zw ?_
    refine oi h fun e93 g94 h => ?_
    refine zw ?_
    refine Ops.h (ns := []) rfl rfl (Y1n (cs := [cI 0, cV s0, cV s0]) Yae (Y3z rfl rfl) rfl) ?_
    rintro _ _ ⟨b95, rfl, rfl⟩
    refine Ops.hd (ns := [0]) rfl rfl (Y1s (gs := [cI e93.room, cM Y8t 9 e93.events, cM Y8t 9 e93.parked]) Yak.h rfl rfl rfl rfl rfl) ?_
    refine zw ?_
    refine AW.lp (v := ()) h (fun (x137, x138) (_ : Unit) => ⟨[(0, pt b00), (3, cI x137), (4, cI x91), (5, pt b95), (6, cI x138)], [oB b00 156 [cM Y8y 3 p0.h.rooms, cM Y8v 2 p0.h.stream, cV w01, cV w02, cV w03], oA w01 182 Y94 1 p0.rooms, oA w02 57 Y95 1 p0.pos, oA w03 27 Y92 1 p0.now, oB b95 139 [cI e93.room, cM Y8t 9 e93.events, cM Y8t 9 e93.parked]]⟩) (gb [1, 1, 1, 1, 0]) ?_
    rintro ⟨x137, x138⟩ _ y204 h
    refine AW.seq ?_
    refine AW.seq ?_
    refine AW.region ?_
    refine Ops.v rfl (Yq rfl rfl) ?_
    refine Ops.v rfl (Y19 Yah.h rfl rfl) ?_
    refine Ops.v rfl (Y1i (p := 4) Yai.h rfl rfl rfl rfl) ?_
    refine zw ?_
    refine cnd h (fun hb139 h => ?_) fun hb139 h => ?_
    ·
     refine AW.ct hb139 rfl ?_
     refine AW.skip ?_
     refine AW.seq ?_
     refine AW.cut (τ := Int) (fun x179 => ⟨[(0, pt b00), (3, cI x179), (4, cI x91), (5, pt b95), (6, cI x138)], [oB b00 156 [cM Y8y 3 p0.h.rooms, cM Y8v 2 p0.h.stream, cV w01, cV w02, cV w03], oA w01 182 Y94 1 p0.rooms, oA w02 57 Y95 1 p0.pos, oA w03 27 Y92 1 p0.now, oB b95 139 [cI e93.room, cM Y8t 9 e93.events, cM Y8t 9 e93.parked]]⟩) (fun x179 => Z6n x138 x179 = some y204) ?_ ?_
     ·
      refine zw ?_
      refine rD [0,0,0,0,0] [3,6,9,12,17,20,23] [] [0,4,8,13,16,20,25,28,32,37,40,44,49,52,56,60,64,69,72,76,81,84,88,93,96,100] ?_
      refine zw ?_
      refine ob' h fun e140 g141 h => ?_
      refine OpsD.v rfl rfl (Y2v (p := 1) Yc8.h rfl rfl rfl g141 rfl) ?_
      refine OpsD.v rfl rfl (Y2x (p := 1) Yc9.h rfl rfl (Y27 g141).2.2 rfl rfl) ?_
      refine zw ?_
      refine di h fun e142 g143 h => ?_
      refine zw ?_
      refine ob' h fun e144 g145 h => ?_
      refine OpsD.v rfl rfl (Y2v (p := 2) Yca.h rfl rfl rfl g145 rfl) ?_
      refine OpsD.v rfl rfl (Y2x (p := 2) Y9e.h rfl rfl (Y27 g145).2.2 rfl rfl) ?_
      refine zw ?_
      refine di h fun e146 g147 h => ?_
      refine zw ?_
      refine OpsD.v rfl rfl (Yz un_4 rfl rfl rfl) ?_
      refine zw ?_
      refine cnd h (fun hb148 h => ?_) fun hb148 h => ?_
      ·
       refine AW.cond rfl (fun hn => absurd ((Y3r hb148).symm.trans hn) (by decide)) (fun _ => ?_)
       refine AW.skip ?_
       refine AW.seq ?_
       refine AW.cut (τ := Unit) (fun (_ : Unit) => ⟨[(0, pt b00), (3, cI x137), (4, cI x91), (5, pt b95), (6, cI x138)], [oB b00 156 [cM Y8y 3 p0.h.rooms, cM Y8v 2 p0.h.stream, cV w01, cV w02, cV w03], oA w01 182 Y94 1 p0.rooms, oA w02 57 Y95 1 p0.pos, oA w03 27 Y92 1 p0.now, oB b95 139 [cI e93.room, cM Y8t 9 e93.events, cM Y8t 9 e93.parked]]⟩) (fun (_ : Unit) => Z6o x137 x138 e146 = some y204) ?_ ?_
       ·
        refine zw ?_
        refine AW.lp (v := ()) h (fun x163 (_ : Unit) => ⟨[(0, pt b00), (3, cI x137), (4, cI x91), (5, pt b95), (6, cI x138), (7, cI x163)], [oB b00 156 [cM Y8y 3 p0.h.rooms, cM Y8v 2 p0.h.stream, cV w01, cV w02, cV w03], oA w01 182 Y94 1 p0.rooms, oA w02 57 Y95 1 p0.pos, oA w03 27 Y92 1 p0.now, oB b95 139 [cI e93.room, cM Y8t 9 e93.events, cM Y8t 9 e93.parked]]⟩) (gb [0, 0, 0, 0, 0]) ?_
        rintro x163 _ y211 h
        refine AW.seq ?_
        refine AW.seq ?_
        refine AW.cut (τ := Bool) (fun x167 => ⟨[(0, pt b00), (3, cI x137), (4, cI x91), (5, pt b95), (6, cI x138), (7, cI x163), (80, C.bool x167)], [oB b00 156 [cM Y8y 3 p0.h.rooms, cM Y8v 2 p0.h.stream, cV w01, cV w02, cV w03], oA w01 182 Y94 1 p0.rooms, oA w02 57 Y95 1 p0.pos, oA w03 27 Y92 1 p0.now, oB b95 139 [cI e93.room, cM Y8t 9 e93.events, cM Y8t 9 e93.parked]]⟩) (fun x167 => Z6p e93 x138 e144 e146 x163 x167 = some y211) ?_ ?_
        ·
         refine AW.region ?_
         refine Ops.v rfl (Yq rfl rfl) ?_
         refine Ops.v rfl (Y19 Yah.h rfl rfl) ?_
         refine Ops.v rfl (Y1i (p := 4) Yai.h rfl rfl rfl rfl) ?_
         refine zw ?_
         refine oi h fun e164 g165 h => ?_
         refine zw ?_
         refine cnd h (fun hb166 h => ?_) fun hb166 h => ?_
         ·
          refine Ops.gv rfl rfl rfl rfl hb166 (Yq rfl rfl) ?_
          refine Ops.gv rfl rfl rfl rfl hb166 (Y12 rfl rfl) ?_
          refine Ops.gv rfl rfl rfl rfl hb166 (Y19 Yc4.h rfl rfl) ?_
          refine Ops.gv rfl rfl rfl rfl hb166 (Y1i (p := 0) Yc5.h rfl rfl rfl rfl) ?_
          refine Ops.gv rfl rfl rfl rfl hb166 (Yq rfl rfl) ?_
          refine Ops.gv rfl rfl rfl rfl hb166 (Y2v (p := 2) Yca.h rfl rfl rfl g145 rfl) ?_
          refine Ops.gv rfl rfl rfl rfl hb166 (Y2x (p := 2) Y9e.h rfl rfl (Y27 g145).2.2 rfl rfl) ?_
          refine zw ?_
          exact ⟨decide (e146 > 0), h, Y1z.both (ns := [0, 0, 0, 0, 0]) rfl rfl⟩
         refine zw ?_
         exact ⟨false, h, Y1z.both (ns := [0, 0, 0, 0, 0]) rfl rfl⟩
        intro x167 h
        replace h : Z6p e93 x138 e144 e146 x163 x167 = some y211 := h
        unfold Z6p at h
        refine cnd h (fun hb168 h => ?_) fun hb168 h => ?_
        ·
         refine AW.ct hb168 rfl ?_
         refine zw ?_
         refine rD [0,0,0,0,0] [3,6,8,10,14,17,20,24,27,30] [] [0,4,8,13,16,20,25,28,33,36,41,44,48,52,57,60,64,69,84,88,92,97,100,104,109,112,116,121,74,76,81,124] ?_
         refine OpsD.v rfl rfl (Yq rfl rfl) ?_
         refine OpsD.v rfl rfl (Y12 rfl rfl) ?_
         refine OpsD.v rfl rfl (Y19 Yc4.h rfl rfl) ?_
         refine OpsD.v rfl rfl (Y1i (p := 0) Yc5.h rfl rfl rfl rfl) ?_
         refine OpsD.v rfl rfl (Yq rfl rfl) ?_
         refine OpsD.v rfl rfl (Y2v (p := 2) Yca.h rfl rfl rfl g145 rfl) ?_
         refine OpsD.v rfl rfl (Y2x (p := 2) Y9e.h rfl rfl (Y27 g145).2.2 rfl rfl) ?_
         refine OpsD.v rfl rfl (Y19 Yah.h rfl rfl) ?_
         refine OpsD.v rfl rfl (Y1i (p := 4) Yai.h rfl rfl rfl rfl) ?_
         refine OpsD.v rfl rfl (Y19 Yah.h rfl rfl) ?_
         refine OpsD.v rfl rfl (Y1i (p := 4) Yai.h rfl rfl rfl rfl) ?_
         refine zw ?_
         refine di h fun e169 g170 h => ?_
         refine zw ?_
         refine di h fun e171 g172 h => ?_
         refine OpsD.v rfl rfl (Y1f ld_2.h rfl rfl) ?_
         refine OpsD.v rfl rfl (Yq rfl rfl) ?_
         refine OpsD.v rfl rfl (Y12 rfl rfl) ?_
         refine OpsD.v rfl rfl (Y19 Yc4.h rfl rfl) ?_
         refine OpsD.v rfl rfl (Y1i (p := 0) Yc5.h rfl rfl rfl rfl) ?_
         refine OpsD.v rfl rfl (Yq rfl rfl) ?_
         refine OpsD.v rfl rfl (Y2v (p := 2) Yca.h rfl rfl rfl g145 rfl) ?_
         refine OpsD.v rfl rfl (Y2x (p := 2) Y9e.h rfl rfl (Y27 g145).2.2 rfl rfl) ?_
         refine zw ?_
         refine dc h fun r173 g174 h => ?_
         refine di h fun e175 g176 h => ?_
         refine zw ?_
         refine cnd h (fun hb177 h => ?_) fun hb177 h => ?_
         ·
          refine AW.ct hb177 rfl ?_
          refine zw ?_
          refine AW.ret ?_
          refine lx h fun h => ?_
          refine lx h fun h => ?_
          refine lx h fun h => ?_
          rw [← Wj h]
          exact ⟨[C.bool false], _, Y1z.refl _, (.cons (.tmp rfl) .nil), [0, 0, 0, 0], _, _, rfl, ⟨rfl, rfl⟩⟩
         refine AW.cf hb177 rfl ?_
         refine zw ?_
         exact lu h (gb [0, 0, 0, 0, 0])
        refine AW.cf hb168 rfl ?_
        refine AW.exit ?_
        refine lx h fun h => ?_
        exact ⟨(), h, Y1z.both (ns := [0, 0, 0, 0, 0]) rfl rfl⟩
       rintro ⟨⟩ h
       replace h : Z6o x137 x138 e146 = some y204 := h
       unfold Z6o at h
       refine AW.seq ?_
       refine AW.region ?_
       refine Ops.v rfl (Yq rfl rfl) ?_
       refine Ops.v rfl (Y12 rfl rfl) ?_
       refine Ops.v rfl (Y19 Yc4.h rfl rfl) ?_
       refine Ops.v rfl (Y1i (p := 0) Yc5.h rfl rfl rfl rfl) ?_
       refine Ops.v rfl (Yq rfl rfl) ?_
       refine Ops.v rfl (Y2v (p := 2) Yca.h rfl rfl rfl g145 rfl) ?_
       refine Ops.v rfl (Y2x (p := 2) Y9e.h rfl rfl (Y27 g145).2.2 rfl rfl) ?_
       refine zw ?_
       refine cnd h (fun hb178 h => ?_) fun hb178 h => ?_
       ·
        refine AW.ct hb178 rfl ?_
        refine zw ?_
        exact ⟨(IntKind.i64.wrap (x137 + 1)), h, Y1z.both (ns := [0, 0, 0, 0, 0]) rfl rfl⟩
       refine AW.cf hb178 rfl ?_
       refine zw ?_
       exact ⟨x137, h, Y1z.both (ns := [0, 0, 0, 0, 0]) rfl rfl⟩
      refine AW.cond rfl (fun _ => ?_) (fun hn => absurd ((Y3s hb148).symm.trans hn) (by decide))
      refine zw ?_
      refine AW.ret ?_
      refine lx h fun h => ?_
      refine lx h fun h => ?_
      rw [← Wj h]
      exact ⟨[C.bool false], _, Y1z.refl _, (.cons (.tmp rfl) .nil), [0, 0, 0, 0], _, _, rfl, ⟨rfl, rfl⟩⟩
     intro x179 h
     replace h : Z6n x138 x179 = some y204 := h
     unfold Z6n at h
     refine zw ?_
     exact lu h (gb [0, 0, 0, 0, 0])
    refine AW.cf hb139 rfl ?_
    refine AW.exit ?_
    refine lx h fun h => ?_
    exact ⟨x137, h, Y1z.both (ns := [0, 0, 0, 0]) rfl rfl⟩
   intro x180 h
   replace h : Z6m x91 x180 = some y197 := h
   unfold Z6m at h
   refine zw ?_
   exact lu h (gb [0, 0, 0, 0])
  refine AW.cf hb92 rfl ?_
  refine AW.exit ?_
  refine lx h fun h => ?_
  exact ⟨x90, h, Y1z.both (ns := [0, 0, 0, 0]) rfl rfl⟩
 intro x181 h
 replace h : Z6l p0 x181 = some r := h
 unfold Z6l at h
 refine zw ?_
 refine AW.ret ?_
 rw [← Wj h]
 exact ⟨[C.bool (x181 == (p0.h.stream.length : Int))], _, Y1z.refl _, (.cons (.tmp rfl) .nil), [0, 0, 0, 0], _, _, rfl, ⟨rfl, rfl⟩⟩

def Z6v (p0 : Y8m) : Option (Y8p × Bool) := (Z6j p0).bind fun r56 => (Z6t r56).bind fun r62 => cond r62 (some (r56, true)) (some ((Y8p.mk (Y8m.mk [] []) [] [] []), false))
def Z6w (x39 : Int) : Option (Int ⊕ ((Y8p × Bool) ⊕ Unit)) := some (.inl (IntKind.i64.wrap (x39 + 1)))
def Z6x (p0 : Y8m) (x39 : Int) (x48 : Int) : Option (Int ⊕ ((Y8p × Bool) ⊕ Unit)) := cond (decide (x48 < x39)) ((getI p0.stream x39).bind fun e50 => (getI p0.stream x48).bind fun e52 => cond ((e50.room == e52.room) && ((e50.id == e52.id) && true)) (some (.inr (.inl ((Y8p.mk (Y8m.mk [] []) [] [] []), false)))) (some (.inl (IntKind.i64.wrap (x48 + 1))))) (some (.inr (.inr ())))
def Z6y (p0 : Y8m) (x39 : Int) : Option (Int ⊕ ((Y8p × Bool) ⊕ Unit)) := cond (decide (x39 < (p0.stream.length : Int))) ((iter (Z6x p0 x39) big 0).bind (fun z67 => match z67 with | .inl y66 => some (.inr (.inl y66)) | .inr () => Z6w x39)) (some (.inr (.inr ())))
def Z6z (p0 : Y8m) : Option (Y8p × Bool) := (iter (Z6y p0) big 0).bind (fun z69 => match z69 with | .inl y68 => some y68 | .inr () => Z6v p0)
def Z70 (x15 : Int) (x22 : Bool) : Option (Int ⊕ ((Y8p × Bool) ⊕ Unit)) := cond x22 (some (.inr (.inl ((Y8p.mk (Y8m.mk [] []) [] [] []), false)))) (some (.inl (IntKind.i64.wrap (x15 + 1))))
def Z71 (p0 : Y8m) (x15 : Int) : Option (Int ⊕ ((Y8p × Bool) ⊕ Unit)) := cond (decide (x15 < (p0.rooms.length : Int))) ((getI p0.rooms x15).bind fun e17 => (Z2y e17).bind fun r19 => cond r19 (Z70 x15 (e17.room != (IntKind.i64.wrap (x15 + 1)))) (Z70 x15 true)) (some (.inr (.inr ())))
def Z72 (p0 : Y8m) (x3 : Bool) : Option (Y8p × Bool) := cond x3 (some ((Y8p.mk (Y8m.mk [] []) [] [] []), false)) ((iter (Z71 p0) big 0).bind (fun z71 => match z71 with | .inl y70 => some y70 | .inr () => Z6z p0))
def Z73 (p0 : Y8m) : Option (Y8p × Bool) := cond ((p0.rooms.length : Int) != 3) (Z72 p0 true) (Z72 p0 (decide ((p0.stream.length : Int) > 120)))
instance Z74 (p0 : Y8m) : Sp Tryz.prog 68 [C.agg [cM Y8y 3 p0.rooms, cM Y8v 2 p0.stream]] (Z73 p0) (fun r => C.tup [C.ip [cM Y8y 3 r.1.h.rooms, cM Y8v 2 r.1.h.stream, cM Y94 1 r.1.rooms, cM Y95 1 r.1.pos, cM Y92 1 r.1.now], C.bool r.2]) := sp Tryz.func68 rfl rfl fun r X h => by
 unfold Z73 at h
 refine zw ?_
 refine ox fun b1 => ?_
 refine Ops.v rfl (Yr rfl rfl) ?_
 refine Ops.v rfl (Yr rfl rfl) ?_
 refine Ops.nil ?_
 refine AW.seq ?_
 refine AW.seq ?_
 refine AW.cut (τ := Bool) (fun x3 => ⟨[(1, pt b1), (17, C.bool x3)], [oB b1 32 [cM Y8y 3 p0.rooms, cM Y8v 2 p0.stream]]⟩) (fun x3 => Z72 p0 x3 = some r) go fun x3 h => ?_
 replace h : Z72 p0 x3 = some r := h
 unfold Z72 at h
 refine cnd h (fun hb4 h => ?_) fun hb4 h => ?_
 ·
  refine AW.ct hb4 rfl ?_
  refine zw ?_
  refine Ops.v rfl (Y35 (ds := [cV s0, cV s0, cV s0, cV s0, cV s0]) Yby Ybz (Y3z rfl rfl) .nil rfl) ?_
  refine ox fun b5 => ?_
  refine zw ?_
  refine AW.ret ?_
  rw [← Wj h]
  exact ⟨[C.ip [cM Y8y 3 [], cM Y8v 2 [], cM Y94 1 [], cM Y95 1 [], cM Y92 1 []], C.bool false], _, Y1z.freezeBy (ns := [0]) (t := 2) rfl rfl (Frz.box (FrzL.cons (os := []) (Frz.imp (Imp.nil Y8y 3)) (FrzL.cons (os := []) (Frz.imp (Imp.nil Y8v 2)) (FrzL.cons (os := []) (Frz.imp (Imp.nil Y94 1)) (FrzL.cons (os := []) (Frz.imp (Imp.nil Y95 1)) (FrzL.cons (os := []) (Frz.imp (Imp.nil Y92 1)) FrzL.nil)))))), (.cons (.tmp rfl) (.cons (.tmp rfl) .nil)), [], _, _, rfl, ⟨rfl, rfl⟩⟩
 refine AW.cf hb4 rfl ?_
 refine AW.skip ?_
 refine AW.seq ?_
 refine AW.cut (τ := Unit) (fun (_ : Unit) => ⟨[(1, pt b1)], [oB b1 32 [cM Y8y 3 p0.rooms, cM Y8v 2 p0.stream]]⟩) (fun (_ : Unit) => Z6z p0 = some r) ?_ ?_
 ·
  refine zw ?_
  refine AW.lp (v := ()) h (fun x15 (_ : Unit) => ⟨[(1, pt b1), (4, cI x15)], [oB b1 32 [cM Y8y 3 p0.rooms, cM Y8v 2 p0.stream]]⟩) (gb [0]) ?_
  rintro x15 _ y91 h
  refine zw ?_
  refine cnd h (fun hb16 h => ?_) fun hb16 h => ?_
  ·
   refine AW.ct hb16 rfl ?_
   refine AW.skip ?_
   refine AW.seq ?_
   refine AW.block ?_
   refine AW.seq ?_
   refine AW.cut (τ := Bool) (fun x22 => ⟨[(1, pt b1), (4, cI x15), (44, C.bool x22)], [oB b1 32 [cM Y8y 3 p0.rooms, cM Y8v 2 p0.stream]]⟩) (fun x22 => Z70 x15 x22 = some y91) go fun x22 h => ?_
   replace h : Z70 x15 x22 = some y91 := h
   unfold Z70 at h
   refine cnd h (fun hb23 h => ?_) fun hb23 h => ?_
   ·
    refine AW.ct hb23 rfl ?_
    refine zw ?_
    refine Ops.v rfl (Y35 (ds := [cV s0, cV s0, cV s0, cV s0, cV s0]) Yby Ybz (Y3z rfl rfl) .nil rfl) ?_
    refine ox fun b24 => ?_
    refine zw ?_
    refine AW.ret ?_
    refine lx h fun h => ?_
    rw [← Wj h]
    exact ⟨[C.ip [cM Y8y 3 [], cM Y8v 2 [], cM Y94 1 [], cM Y95 1 [], cM Y92 1 []], C.bool false], _, Y1z.freezeBy (ns := [0]) (t := 2) rfl rfl (Frz.box (FrzL.cons (os := []) (Frz.imp (Imp.nil Y8y 3)) (FrzL.cons (os := []) (Frz.imp (Imp.nil Y8v 2)) (FrzL.cons (os := []) (Frz.imp (Imp.nil Y94 1)) (FrzL.cons (os := []) (Frz.imp (Imp.nil Y95 1)) (FrzL.cons (os := []) (Frz.imp (Imp.nil Y92 1)) FrzL.nil)))))), (.cons (.tmp rfl) (.cons (.tmp rfl) .nil)), [], _, _, rfl, ⟨rfl, rfl⟩⟩
   exact go
  exact go
 rintro ⟨⟩ h
 replace h : Z6z p0 = some r := h
 unfold Z6z at h
 refine AW.seq ?_
 refine AW.cut (τ := Unit) (fun (_ : Unit) => ⟨[(1, pt b1)], [oB b1 32 [cM Y8y 3 p0.rooms, cM Y8v 2 p0.stream]]⟩) (fun (_ : Unit) => Z6v p0 = some r) ?_ ?_
 ·
  refine zw ?_
  refine AW.lp (v := ()) h (fun x39 (_ : Unit) => ⟨[(1, pt b1), (5, cI x39)], [oB b1 32 [cM Y8y 3 p0.rooms, cM Y8v 2 p0.stream]]⟩) (gb [0]) ?_
  rintro x39 _ y77 h
  refine zw ?_
  refine cnd h (fun hb40 h => ?_) fun hb40 h => ?_
  ·
   refine AW.ct hb40 rfl ?_
   refine zw ?_
   refine AW.lp (v := ()) h (fun x48 (_ : Unit) => ⟨[(1, pt b1), (5, cI x39), (6, cI x48)], [oB b1 32 [cM Y8y 3 p0.rooms, cM Y8v 2 p0.stream]]⟩) (gb [0]) ?_
   rintro x48 _ y84 h
   refine zw ?_
   refine cnd h (fun hb49 h => ?_) fun hb49 h => ?_
   ·
    refine AW.ct hb49 rfl ?_
    refine zw ?_
    refine rD [0] [1,4,6,9] [] [0,5,8,12,17,20,25,28,32,37,40] ?_
    refine zw ?_
    refine di h fun e50 g51 h => ?_
    refine zw ?_
    refine di h fun e52 g53 h => ?_
    refine zw ?_
    refine OpsD.v rfl rfl (Y5i [.int .i64 e50.room, .int .i64 e50.id] [.int .i64 e52.room, .int .i64 e52.id] Ycb rfl rfl rfl rfl rfl rfl) ?_
    refine zw ?_
    refine cnd h (fun hb54 h => ?_) fun hb54 h => ?_
    ·
     refine AW.ct hb54 rfl ?_
     refine zw ?_
     refine Ops.v rfl (Y35 (ds := [cV s0, cV s0, cV s0, cV s0, cV s0]) Yby Ybz (Y3z rfl rfl) .nil rfl) ?_
     refine ox fun b55 => ?_
     refine zw ?_
     refine AW.ret ?_
     refine lx h fun h => ?_
     refine lx h fun h => ?_
     rw [← Wj h]
     exact ⟨[C.ip [cM Y8y 3 [], cM Y8v 2 [], cM Y94 1 [], cM Y95 1 [], cM Y92 1 []], C.bool false], _, Y1z.freezeBy (ns := [0]) (t := 2) rfl rfl (Frz.box (FrzL.cons (os := []) (Frz.imp (Imp.nil Y8y 3)) (FrzL.cons (os := []) (Frz.imp (Imp.nil Y8v 2)) (FrzL.cons (os := []) (Frz.imp (Imp.nil Y94 1)) (FrzL.cons (os := []) (Frz.imp (Imp.nil Y95 1)) (FrzL.cons (os := []) (Frz.imp (Imp.nil Y92 1)) FrzL.nil)))))), (.cons (.tmp rfl) (.cons (.tmp rfl) .nil)), [], _, _, rfl, ⟨rfl, rfl⟩⟩
    exact go
   exact go
  exact go
 rintro ⟨⟩ h
 replace h : Z6v p0 = some r := h
 unfold Z6v at h
 refine zw ?_
 refine ob' h fun r56 g57 h => ?_
 refine Ops.h (ns := []) rfl rfl (Y21 (Z6k _ _ g57) rfl rfl) ?_
 rintro _ _ ⟨_, ⟨b58, v59, v60, v61, rfl, rfl⟩, rfl⟩
 refine zw ?_
 refine ob' h fun r62 g63 h => ?_
 refine Ops.hd (ns := [0, 0, 0, 0]) rfl rfl (Y22 (Z6u r56 _ g63) rfl rfl) ?_
 refine zw ?_
 refine cnd h (fun hb64 h => ?_) fun hb64 h => ?_
 ·
  refine AW.cond rfl (fun hn => absurd ((Y3r hb64).symm.trans hn) (by decide)) (fun _ => ?_)
  refine zw ?_
  refine AW.ret ?_
  rw [← Wj h]
  exact ⟨[C.ip [cM Y8y 3 r56.h.rooms, cM Y8v 2 r56.h.stream, cM Y94 1 r56.rooms, cM Y95 1 r56.pos, cM Y92 1 r56.now], C.bool true], _, Y1z.freezeBy (ns := [0, 0, 0, 0]) (t := 2) rfl rfl (Frz.box (fS (fS (FrzL.cons (os := [_]) Frz.arr (FrzL.cons (os := [_]) Frz.arr (FrzL.cons (os := [_]) Frz.arr FrzL.nil)))))), (.cons (.tmp rfl) (.cons (.tmp rfl) .nil)), [], _, _, rfl, ⟨rfl, rfl⟩⟩
 refine AW.cond rfl (fun _ => ?_) (fun hn => absurd ((Y3s hb64).symm.trans hn) (by decide))
 refine zw ?_
 refine Ops.v rfl (Y35 (ds := [cV s0, cV s0, cV s0, cV s0, cV s0]) Yby Ybz (Y3z rfl rfl) .nil rfl) ?_
 refine ox fun b65 => ?_
 refine zw ?_
 refine AW.ret ?_
 rw [← Wj h]
 exact ⟨[C.ip [cM Y8y 3 [], cM Y8v 2 [], cM Y94 1 [], cM Y95 1 [], cM Y92 1 []], C.bool false], _, Y1z.freezeBy (ns := [0]) (t := 2) rfl rfl (Frz.box (FrzL.cons (os := []) (Frz.imp (Imp.nil Y8y 3)) (FrzL.cons (os := []) (Frz.imp (Imp.nil Y8v 2)) (FrzL.cons (os := []) (Frz.imp (Imp.nil Y94 1)) (FrzL.cons (os := []) (Frz.imp (Imp.nil Y95 1)) (FrzL.cons (os := []) (Frz.imp (Imp.nil Y92 1)) FrzL.nil)))))), (.cons (.tmp rfl) (.cons (.tmp rfl) .nil)), [], _, _, rfl, ⟨rfl, rfl⟩⟩

def Z75 : Option Bool := some true
def Z76 (p0 : Y8k) (x13 : Int) : Option (Int ⊕ (Bool ⊕ Unit)) := cond (decide (x13 < (p0.at_.length : Int))) ((getI p0.at_ x13).bind fun e15 => (Z1c e15 0 120).bind fun r17 => cond r17 (some (.inl (IntKind.i64.wrap (x13 + 1)))) (some (.inr (.inl false)))) (some (.inr (.inr ())))
def Z77 (p0 : Y8k) (x5 : Bool) : Option Bool := cond x5 (some false) ((iter (Z76 p0) big 0).bind (fun z21 => match z21 with | .inl y20 => some y20 | .inr () => Z75))
def Z78 (p0 : Y8k) : Option Bool := (Z1g p0.user).bind fun r2 => cond r2 (Z77 p0 ((p0.at_.length : Int) != 3)) (Z77 p0 true)
instance Z79 (p0 : Y8k) : Sp Tryz.prog 102 [C.agg [cI p0.user, cM kI64 1 p0.at_]] (Z78 p0) C.bool := sp Tryz.func102 rfl rfl fun r X h => by
 unfold Z78 at h
 refine zw ?_
 refine ox fun b1 => ?_
 refine Ops.v rfl (Yr rfl rfl) ?_
 refine Ops.nil ?_
 refine AW.seq ?_
 refine AW.seq ?_
 refine AW.cut (τ := Bool) (fun x5 => ⟨[(1, pt b1), (13, C.bool x5)], [oB b1 65 [cI p0.user, cM kI64 1 p0.at_]]⟩) (fun x5 => Z77 p0 x5 = some r) go fun x5 h => ?_
 replace h : Z77 p0 x5 = some r := h
 unfold Z77 at h
 refine cnd h (fun hb6 h => go) fun hb6 h => ?_
 refine AW.cf hb6 rfl ?_
 refine zw ?_
 refine AW.lp (v := ()) h (fun x13 (_ : Unit) => ⟨[(1, pt b1), (3, cI x13)], [oB b1 65 [cI p0.user, cM kI64 1 p0.at_]]⟩) (gb [0]) ?_
 rintro x13 _ y27 h
 exact go

def Z7a (p0 : Int) : Option Bool := (Z1c p0 1 3).bind fun r1 => some r1
instance Z7b (p0 : Int) : Sp Tryz.prog 96 [cI p0] (Z7a p0) C.bool := sp Tryz.func96 rfl rfl fun r X h => go

def Z7c (p0 : Y8l) (p1 : List Y8n) : Option Int := (Z46 p0 p1 6 0).bind fun r2 => cond (r2.n == 0) (some 2) (some r2.n)
instance Z7d (p0 : Y8l) (p1 : List Y8n) : Sp Tryz.prog 161 [C.agg [cI p0.room, cM Y8t 9 p0.events, cM Y8t 9 p0.parked], cM Y91 3 p1] (Z7c p0 p1) cI := sp Tryz.func161 rfl rfl fun r X h => by
 unfold Z7c at h
 refine zw ?_
 refine ox fun b1 => ?_
 refine zw ?_
 refine oc h fun r2 g3 h => ?_
 refine Ops.v rfl (Y6m Ybh rfl rfl rfl) ?_
 exact go

def Z7e (x30 : Bool) : Option Bool := some x30
def Z7f (p0 : Y8p) (p1 : Int) (p2 : Int) (e6 : Y8l) (r16 : Int) (x23 : Bool) : Option Bool := cond x23 (some true) (cond (r16 == 2) ((getI p0.now (IntKind.i64.wrap (p2 - 1))).bind fun e26 => (Z48 e6 e26 p1).bind fun r28 => Z7e (r28 == 1)) (Z7e false))
def Z7g (p0 : Y8p) (p1 : Int) (p2 : Int) (p3 : Int) : Option Bool := (getI p0.pos (IntKind.i64.wrap (p2 - 1))).bind fun e1 => (getI e1 p3).bind fun e3 => cond (e3 == 0) (some false) ((getI p0.h.rooms (IntKind.i64.wrap (p2 - 1))).bind fun e6 => (getI p0.rooms (IntKind.i64.wrap (p2 - 1))).bind fun e9 => (getI e9.behind p3).bind fun e11 => (getI e6.events p3).bind fun e13 => (Z7c e6 e11).bind fun r16 => (Z48 e6 e11 p1).bind fun r18 => cond (r18 == 1) (Z7f p0 p1 p2 e6 r16 true) (cond (r16 == 1) (Z7f p0 p1 p2 e6 r16 true) (cond (e13.kind == 2) (Z7f p0 p1 p2 e6 r16 (e13.key == p1)) (Z7f p0 p1 p2 e6 r16 false))))
instance Z7h (p0 : Y8p) (p1 : Int) (p2 : Int) (p3 : Int) : Sp Tryz.prog 108 [C.ip [cM Y8y 3 p0.h.rooms, cM Y8v 2 p0.h.stream, cM Y94 1 p0.rooms, cM Y95 1 p0.pos, cM Y92 1 p0.now], cI p1, cI p2, cI p3] (Z7g p0 p1 p2 p3) C.bool := sp Tryz.func108 rfl rfl fun r X h => by
 unfold Z7g at h
 refine zw ?_
 refine oi h fun e1 g2 h => ?_
 refine zw ?_
 refine oi h fun e3 g4 h => ?_
 refine zw ?_
 refine cnd h (fun hb5 h => go) fun hb5 h => ?_
 refine AW.cf hb5 rfl ?_
 refine zw ?_
 refine oi h fun e6 g7 h => ?_
 refine zw ?_
 refine Ops.h (ns := []) rfl rfl (Y1n (cs := [cI 0, cV s0, cV s0]) Yae (Y3z rfl rfl) rfl) ?_
 rintro _ _ ⟨b8, rfl, rfl⟩
 refine Ops.hd (ns := [0]) rfl rfl (Y1s (gs := [cI e6.room, cM Y8t 9 e6.events, cM Y8t 9 e6.parked]) Yak.h rfl rfl rfl rfl rfl) ?_
 refine zw ?_
 refine oi h fun e9 g10 h => ?_
 refine zw ?_
 refine oi h fun e11 g12 h => ?_
 refine zw ?_
 refine oi h fun e13 g14 h => ?_
 refine zw ?_
 refine Ops.h (ns := []) rfl rfl (Y1n (cs := [cI 0, cI 0, cI 0, cI 0, cI 0, cI 0, C.str ByteArray.empty, cV s0, cI 0]) Y9t (Y3z rfl rfl) rfl) ?_
 rintro _ _ ⟨b15, rfl, rfl⟩
 refine Ops.hd (ns := [0]) rfl rfl (Y1s (gs := [cI e13.id, cI e13.room, cI e13.author, cI e13.kind, cI e13.key, cI e13.n, C.str e13.text, cM kI64 1 e13.prev, cI e13.time]) Yaa.h rfl rfl rfl rfl rfl) ?_
 refine zw ?_
 refine oc h fun r16 g17 h => ?_
 refine Ops.v rfl (Yr rfl rfl) ?_
 refine Ops.nil ?_
 refine AW.seq ?_
 refine AW.seq ?_
 refine AW.cut (τ := Bool) (fun x23 => ⟨[(0, C.ip [cM Y8y 3 p0.h.rooms, cM Y8v 2 p0.h.stream, cM Y94 1 p0.rooms, cM Y95 1 p0.pos, cM Y92 1 p0.now]), (1, cI p1), (2, cI p2), (9, pt b8), (12, cI r16), (75, C.bool x23)], [oB b8 139 [cI e6.room, cM Y8t 9 e6.events, cM Y8t 9 e6.parked]]⟩) (fun x23 => Z7f p0 p1 p2 e6 r16 x23 = some r) go fun x23 h => ?_
 replace h : Z7f p0 p1 p2 e6 r16 x23 = some r := h
 unfold Z7f at h
 refine cnd h (fun hb24 h => go) fun hb24 h => ?_
 refine AW.cf hb24 rfl ?_
 refine zw ?_
 refine rD [0] [3,7,11] [] [0,4,8,13,16,20,24,29,32,36,40,45,48,54,56,60,64] ?_
 refine zw ?_
 refine cnd h (fun hb25 h => ?_) fun hb25 h => ?_
 ·
  refine zw ?_
  refine ob' h fun e26 g27 h => ?_
  refine zw ?_
  refine ob' h fun r28 g29 h => ?_
  refine Y3k.gh (ns := []) rfl rfl rfl rfl rfl hb25 rfl (Y22 ((Z49 _ _ _).h _ g29) rfl rfl) ?_
  rintro _ _ ⟨rfl, rfl⟩
  exact go
 refine OpsD.gs rfl rfl rfl rfl (.b rfl hb25) rfl rfl ?_
 refine OpsD.gs rfl rfl rfl rfl (.b rfl hb25) rfl rfl ?_
 refine OpsD.gs rfl rfl rfl rfl (.b rfl hb25) rfl rfl ?_
 refine OpsD.gs rfl rfl rfl rfl (.b rfl hb25) rfl rfl ?_
 refine OpsD.gs rfl rfl rfl rfl (.b rfl hb25) rfl rfl ?_
 refine OpsD.gs rfl rfl rfl rfl (.b rfl hb25) rfl rfl ?_
 refine OpsD.gs rfl rfl rfl rfl (.b rfl hb25) rfl rfl ?_
 refine OpsD.gs rfl rfl rfl rfl (.b rfl hb25) rfl rfl ?_
 refine OpsD.gs rfl rfl rfl rfl (.b rfl hb25) rfl rfl ?_
 refine OpsD.gs rfl rfl rfl rfl (.b rfl hb25) rfl rfl ?_
 refine OpsD.one ?_
 refine Y3k.gs rfl rfl rfl rfl (.b rfl hb25) rfl rfl ?_
 exact go

def Z7i (l82 : List Int) : Option (List Int) := some l82
def Z7j (x42 : Int) (l80 : List Int) : Option ((List Int × Int) ⊕ ((List Int))) := some (.inl (l80, (IntKind.i64.wrap (x42 + 1))))
def Z7k (x62 : Int) (l78 : List Int) : Option ((List Int × Int) ⊕ ((List Int))) := some (.inl (l78, (IntKind.i64.wrap (x62 + 1))))
def Z7l (l61 : List Int) (x62 : Int) (x71 : Bool) : Option ((List Int × Int) ⊕ ((List Int))) := cond x71 ((chk (decide ((l61.length + [x62].length) * 8 ≤ 140737488355328))).bind fun u75 => Z7k x62 (l61 ++ [x62])) (Z7k x62 l61)
def Z7m (p0 : Y8p) (p1 : Int) (p2 : Int) (x42 : Int) (l61 : List Int) (x62 : Int) : Option ((List Int × Int) ⊕ ((List Int))) := (getI p0.pos (IntKind.i64.wrap (p2 - 1))).bind fun e63 => cond (decide (x62 < (e63.length : Int))) ((getI e63 x62).bind fun e66 => cond (e66 == x42) ((Z7g p0 p1 p2 x62).bind fun r69 => Z7l l61 x62 r69) (Z7l l61 x62 false)) (some (.inr l61))
def Z7n (p0 : Y8p) (p1 : Int) (p2 : Int) (l41 : List Int) (x42 : Int) : Option ((List Int × Int) ⊕ ((List Int))) := cond (decide (x42 ≤ (p0.h.stream.length : Int))) ((iter (fun z84 => Z7m p0 p1 p2 x42 z84.1 z84.2) big (l41, 0)).bind fun y85 => Z7j x42 y85) (some (.inr l41))
def Z7o (p0 : Y8p) (p1 : Int) (p2 : Int) : Option (List Int) := (iter (fun z86 => Z7n p0 p1 p2 z86.1 z86.2) big (([] : List Int), 1)).bind fun y87 => Z7i y87
theorem Z7p (p0 : Y8p) (p1 : Int) (p2 : Int) (r : List Int) (h : Z7o p0 p1 p2 = some r) : Ok Tryz.prog 98 [C.ip [cM Y8y 3 p0.h.rooms, cM Y8v 2 p0.h.stream, cM Y94 1 p0.rooms, cM Y95 1 p0.pos, cM Y92 1 p0.now], cI p1, cI p2] [] (fun c qs => ∃ (v83 : Value), c = cV v83 ∧ qs = [oA v83 3 kI64 1 r]) := by
 refine Ok.of_body (rs := [.tmp 6]) Tryz.func98 rfl rfl rfl rfl rfl fun X => ?_
 unfold Z7o at h
 refine zw ?_
 refine Ops.h (ns := []) rfl rfl (Y36 (k := kI64) (ys := ([] : List Int)) Ycc .nil rfl rfl rfl) ?_
 rintro _ _ ⟨b1, rfl, rfl⟩
 refine Ops.v rfl (Yr rfl rfl) ?_
 refine Ops.nil ?_
 refine AW.seq ?_
 refine AW.cut (τ := List Int × Value) (fun (l82, v81) => ⟨[(7, cV v81)], [oA v81 3 kI64 1 l82]⟩) (fun (l82, v81) => Z7i l82 = some r) ?_ ?_
 ·
  refine zw ?_
  refine AW.lp h (fun (l41, x42) (v40 : Value) => ⟨[(0, C.ip [cM Y8y 3 p0.h.rooms, cM Y8v 2 p0.h.stream, cM Y94 1 p0.rooms, cM Y95 1 p0.pos, cM Y92 1 p0.now]), (1, cI p1), (2, cI p2), (7, cV v40), (8, cI x42)], [oA v40 3 kI64 1 l41]⟩) (gb [0]) ?_
  rintro ⟨l41, x42⟩ v40 y93 h
  refine zw ?_
  refine cnd h (fun hb43 h => ?_) fun hb43 h => ?_
  ·
   refine AW.ct hb43 rfl ?_
   refine zw ?_
   refine AW.lp h (fun (l61, x62) (v60 : Value) => ⟨[(0, C.ip [cM Y8y 3 p0.h.rooms, cM Y8v 2 p0.h.stream, cM Y94 1 p0.rooms, cM Y95 1 p0.pos, cM Y92 1 p0.now]), (1, cI p1), (2, cI p2), (7, cV v60), (8, cI x42), (9, cI x62)], [oA v60 3 kI64 1 l61]⟩) (gb [0]) ?_
   rintro ⟨l61, x62⟩ v60 y100 h
   refine zw ?_
   refine oi h fun e63 g64 h => ?_
   refine zw ?_
   refine cnd h (fun hb65 h => ?_) fun hb65 h => ?_
   ·
    refine AW.ct hb65 rfl ?_
    refine AW.skip ?_
    refine AW.seq ?_
    refine AW.block ?_
    refine AW.seq ?_
    refine AW.cut (τ := Bool) (fun x71 => ⟨[(0, C.ip [cM Y8y 3 p0.h.rooms, cM Y8v 2 p0.h.stream, cM Y94 1 p0.rooms, cM Y95 1 p0.pos, cM Y92 1 p0.now]), (1, cI p1), (2, cI p2), (7, cV v60), (8, cI x42), (9, cI x62), (53, C.bool x71)], [oA v60 3 kI64 1 l61]⟩) (fun x71 => Z7l l61 x62 x71 = some y100) ?_ ?_
    ·
     refine zw ?_
     refine oi h fun e66 g67 h => ?_
     refine zw ?_
     refine cnd h (fun hb68 h => ?_) fun hb68 h => ?_
     ·
      refine zw ?_
      refine ob' h fun r69 g70 h => ?_
      refine Ops.ghd (ns := []) rfl rfl rfl rfl hb68 rfl (Y22 ((Z7h _ _ _ _).h _ g70) rfl rfl) ?_
      exact go
     exact go
    intro x71 h
    replace h : Z7l l61 x62 x71 = some y100 := h
    unfold Z7l at h
    refine cnd h (fun hb72 h => ?_) fun hb72 h => ?_
    ·
     refine AW.ct hb72 rfl ?_
     refine zw ?_
     refine Ops.h (ns := []) rfl rfl (Y36 (k := kI64) (ys := [x62]) Ycc (.one rfl (One.val rfl) rfl rfl .nil) rfl rfl rfl) ?_
     rintro _ _ ⟨b73, rfl, rfl⟩
     refine ob' h fun u75 c74 h => ?_
     refine Ops.h (ns := [1, 0]) rfl rfl (Y2q Ycc rfl rfl (Wo (Y3q c74)) (Y3t (by decide) c74) rfl) ?_
     rintro _ _ ⟨v76, rfl, rfl⟩
     exact go
    exact go
   exact go
  exact go
 rintro ⟨l82, v81⟩ h
 replace h : Z7i l82 = some r := h
 unfold Z7i at h
 refine zw ?_
 refine AW.ret ?_
 rw [← Wj h]
 exact ⟨[cV v81], _, Y1z.refl _, (.cons (.tmp rfl) .nil), [0], _, _, rfl, ⟨v81, rfl, rfl⟩⟩
instance Z7p' (p0 : Y8p) (p1 : Int) (p2 : Int) : Sp Tryz.prog 98 [C.ip [cM Y8y 3 p0.h.rooms, cM Y8v 2 p0.h.stream, cM Y94 1 p0.rooms, cM Y95 1 p0.pos, cM Y92 1 p0.now], cI p1, cI p2] (Z7o p0 p1 p2) (fun r => cM kI64 1 r) := ⟨fun r h => Ok.freeze (Z7p p0 p1 p2 r h) (by rintro c qs ⟨v83, rfl, rfl⟩; exact Frz.arr)⟩

def Z7q (l57 : List Int) : Option (List Int) := some l57
def Z7r (x31 : Int) (l55 : List Int) : Option ((List Int × Int) ⊕ ((List Int))) := some (.inl (l55, (IntKind.i64.wrap (x31 + 1))))
def Z7s (l30 : List Int) (x31 : Int) (e35 : Int) (x48 : Bool) : Option ((List Int × Int) ⊕ ((List Int))) := cond x48 ((chk (decide ((l30.length + [e35].length) * 8 ≤ 140737488355328))).bind fun u52 => Z7r x31 (l30 ++ [e35])) (Z7r x31 l30)
def Z7t (p0 : Y8p) (p1 : Y8k) (p2 : Int) (r3 : List Int) (l30 : List Int) (x31 : Int) : Option ((List Int × Int) ⊕ ((List Int))) := cond (decide (x31 < (r3.length : Int))) ((getI p0.h.rooms (IntKind.i64.wrap (p2 - 1))).bind fun e33 => (getI r3 x31).bind fun e35 => (getI e33.events e35).bind fun e37 => cond (e37.kind == 7) (cond (e37.author != p1.user) ((getI p0.pos (IntKind.i64.wrap (p2 - 1))).bind fun e42 => (getI e42 e35).bind fun e44 => (getI p1.at_ (IntKind.i64.wrap (p2 - 1))).bind fun e46 => Z7s l30 x31 e35 (decide (e44 > e46))) (Z7s l30 x31 e35 false)) (Z7s l30 x31 e35 false)) (some (.inr l30))
def Z7u (p0 : Y8p) (p1 : Y8k) (p2 : Int) : Option (List Int) := (Z7o p0 p1.user p2).bind fun r3 => (iter (fun z59 => Z7t p0 p1 p2 r3 z59.1 z59.2) big (([] : List Int), 0)).bind fun y60 => Z7q y60
theorem Z7v (p0 : Y8p) (p1 : Y8k) (p2 : Int) (r : List Int) (h : Z7u p0 p1 p2 = some r) : Ok Tryz.prog 103 [C.ip [cM Y8y 3 p0.h.rooms, cM Y8v 2 p0.h.stream, cM Y94 1 p0.rooms, cM Y95 1 p0.pos, cM Y92 1 p0.now], C.agg [cI p1.user, cM kI64 1 p1.at_], cI p2] [] (fun c qs => ∃ (v58 : Value), c = cV v58 ∧ qs = [oA v58 3 kI64 1 r]) := by
 refine Ok.of_body (rs := [.tmp 6]) Tryz.func103 rfl rfl rfl rfl rfl fun X => ?_
 unfold Z7u at h
 refine zw ?_
 refine ox fun b1 => ?_
 refine zw ?_
 refine Ops.h (ns := []) rfl rfl (Y36 (k := kI64) (ys := ([] : List Int)) Ycc .nil rfl rfl rfl) ?_
 rintro _ _ ⟨b2, rfl, rfl⟩
 refine zw ?_
 refine oc h fun r3 g4 h => ?_
 refine Ops.v rfl (Yr rfl rfl) ?_
 refine Ops.nil ?_
 refine AW.seq ?_
 refine AW.cut (τ := List Int × Value) (fun (l57, v56) => ⟨[(7, cV v56)], [oA v56 3 kI64 1 l57]⟩) (fun (l57, v56) => Z7q l57 = some r) ?_ ?_
 ·
  refine zw ?_
  refine AW.lp h (fun (l30, x31) (v29 : Value) => ⟨[(0, C.ip [cM Y8y 3 p0.h.rooms, cM Y8v 2 p0.h.stream, cM Y94 1 p0.rooms, cM Y95 1 p0.pos, cM Y92 1 p0.now]), (2, cI p2), (4, pt b1), (7, cV v29), (8, cM kI64 1 r3), (9, cI x31)], [oB b1 65 [cI p1.user, cM kI64 1 p1.at_], oA v29 3 kI64 1 l30]⟩) (gb [1, 0]) ?_
  rintro ⟨l30, x31⟩ v29 y66 h
  refine zw ?_
  refine cnd h (fun hb32 h => ?_) fun hb32 h => ?_
  ·
   refine AW.ct hb32 rfl ?_
   refine zw ?_
   refine rD [0,0] [4,9,13,15] [17] [0,4,8,12,17,20,24,28,32,37,40,44,48,53,56,61,66,71] ?_
   refine zw ?_
   refine di h fun e33 g34 h => ?_
   refine zw ?_
   refine di h fun e35 g36 h => ?_
   refine zw ?_
   refine di h fun e37 g38 h => ?_
   refine OpsD.v rfl rfl (Y1g Yaa.h rfl rfl rfl rfl) ?_
   refine OpsD.one ?_
   refine Y3k.h (ns := []) rfl rfl rfl (Y1n (cs := [cI 0, cI 0, cI 0, cI 0, cI 0, cI 0, C.str ByteArray.empty, cV s0, cI 0]) Y9t (Y3z rfl rfl) rfl) ?_
   rintro _ _ ⟨b39, rfl, rfl⟩
   refine OpsD.late (ns := [2]) rfl rfl rfl (Y1s (gs := [cI e37.id, cI e37.room, cI e37.author, cI e37.kind, cI e37.key, cI e37.n, C.str e37.text, cM kI64 1 e37.prev, cI e37.time]) Yaa.h rfl rfl rfl rfl rfl) ?_
   rintro _ _ ⟨rfl, rfl⟩
   refine OpsD.done ?_
   refine AW.seq ?_
   refine AW.cut (τ := Bool) (fun x48 => ⟨[(0, C.ip [cM Y8y 3 p0.h.rooms, cM Y8v 2 p0.h.stream, cM Y94 1 p0.rooms, cM Y95 1 p0.pos, cM Y92 1 p0.now]), (2, cI p2), (4, pt b1), (7, cV v29), (8, cM kI64 1 r3), (9, cI x31), (71, C.bool x48)], [oB b1 65 [cI p1.user, cM kI64 1 p1.at_], oA v29 3 kI64 1 l30]⟩) (fun x48 => Z7s l30 x31 e35 x48 = some y66) ?_ ?_
   ·
    refine rD [0,0,0] [1,5,7,14,18,22,24,26,30] [] [0,5,8,12,16,21,24,29,32,36,40,44,48,52,57,60,64,68,73,76,80,84,89,92,97,100,105,108,112,116,121,124,128] ?_
    exact go
   intro x48 h
   replace h : Z7s l30 x31 e35 x48 = some y66 := h
   unfold Z7s at h
   refine cnd h (fun hb49 h => ?_) fun hb49 h => ?_
   ·
    refine AW.ct hb49 rfl ?_
    refine zw ?_
    refine Ops.h (ns := []) rfl rfl (Y36 (k := kI64) (ys := [e35]) Ycc (.one rfl (One.val rfl) rfl rfl .nil) rfl rfl rfl) ?_
    rintro _ _ ⟨b50, rfl, rfl⟩
    refine ob' h fun u52 c51 h => ?_
    refine Ops.h (ns := [2, 0]) rfl rfl (Y2q Ycc rfl rfl (Wo (Y3q c51)) (Y3t (by decide) c51) rfl) ?_
    rintro _ _ ⟨v53, rfl, rfl⟩
    exact go
   exact go
  exact go
 rintro ⟨l57, v56⟩ h
 replace h : Z7q l57 = some r := h
 unfold Z7q at h
 refine zw ?_
 refine AW.ret ?_
 rw [← Wj h]
 exact ⟨[cV v56], _, Y1z.refl _, (.cons (.tmp rfl) .nil), [0], _, _, rfl, ⟨v56, rfl, rfl⟩⟩
instance Z7v' (p0 : Y8p) (p1 : Y8k) (p2 : Int) : Sp Tryz.prog 103 [C.ip [cM Y8y 3 p0.h.rooms, cM Y8v 2 p0.h.stream, cM Y94 1 p0.rooms, cM Y95 1 p0.pos, cM Y92 1 p0.now], C.agg [cI p1.user, cM kI64 1 p1.at_], cI p2] (Z7u p0 p1 p2) (fun r => cM kI64 1 r) := ⟨fun r h => Ok.freeze (Z7v p0 p1 p2 r h) (by rintro c qs ⟨v58, rfl, rfl⟩; exact Frz.arr)⟩

end Go.Proofs.YtbgichfjcnibpaaGreat
