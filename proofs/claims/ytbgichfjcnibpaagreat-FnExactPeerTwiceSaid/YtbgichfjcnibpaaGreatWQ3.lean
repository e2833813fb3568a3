/- Printed by gen.py: plain functions for Go functions, and that the walks keep to them. -/
import Derived.Test.YtbgichfjcnibpaaGreatWQ2
set_option autoImplicit false
set_option linter.unusedVariables false
set_option linter.unusedSimpArgs false
set_option maxHeartbeats 1000000
set_option maxRecDepth 100000
namespace Go.Proofs.YtbgichfjcnibpaaGreat
open Go Go.Abs
attribute [local irreducible] AW Ops OpsD Y3n
def Z63 (l38 : List Int) (l260 : List (List Y93)) (l261 : List (List Y93)) (l262 : List Int) : Option Y94 := some (Y94.mk l38 l260 l261 l262)
def Z64 (x152 : Int) (l257 : List (List Y93)) (l258 : List (List Y93)) (l259 : List Int) : Option ((List (List Y93) × List (List Y93) × List Int × Int) ⊕ ((List (List Y93) × List (List Y93) × List Int))) := some (.inl (l257, l258, l259, (IntKind.i64.wrap (x152 + 1))))
def Z65 (l149 : List (List Y93)) (l150 : List (List Y93)) (x152 : Int) (r156 : Int) (e158 : Y8v) (r220 : List Y93) (e225 : List Y93) (l241 : List Int) (x251 : Bool) : Option ((List (List Y93) × List (List Y93) × List Int × Int) ⊕ ((List (List Y93) × List (List Y93) × List Int))) := cond x251 ((Z4c e225 (Y93.mk e158.kind e158.key e158.id)).bind fun r253 => (getI (List.set l150 (Int.toNat r156) (([] : List Y93) ++ e225)) r156).bind fun e255 => Z64 x152 (List.set l149 (Int.toNat r156) r220) (List.set (List.set l150 (Int.toNat r156) (([] : List Y93) ++ e225)) (Int.toNat r156) r253) l241) (Z64 x152 (List.set l149 (Int.toNat r156) r220) (List.set l150 (Int.toNat r156) (([] : List Y93) ++ e225)) l241)
def Z66 (l149 : List (List Y93)) (l150 : List (List Y93)) (x152 : Int) (r156 : Int) (e158 : Y8v) (r220 : List Y93) (e225 : List Y93) (l241 : List Int) : Option ((List (List Y93) × List (List Y93) × List Int × Int) ⊕ ((List (List Y93) × List (List Y93) × List Int))) := (chk (decide ((([] : List Y93).length + e225.length) * 24 ≤ 140737488355328))).bind fun u244 => (getI l150 r156).bind fun e246 => (getI l241 r156).bind fun e248 => cond (e248 == 0) (Z65 l149 l150 x152 r156 e158 r220 e225 l241 (decide (e158.kind ≤ 6))) (Z65 l149 l150 x152 r156 e158 r220 e225 l241 false)
def Z67 (l149 : List (List Y93)) (l150 : List (List Y93)) (l151 : List Int) (x152 : Int) (r156 : Int) (e158 : Y8v) (r220 : List Y93) (e225 : List Y93) (r227 : Int) (x237 : Bool) : Option ((List (List Y93) × List (List Y93) × List Int × Int) ⊕ ((List (List Y93) × List (List Y93) × List Int))) := cond x237 ((getI (List.set l151 (Int.toNat r156) r227) r156).bind fun e239 => Z66 l149 l150 x152 r156 e158 r220 e225 (List.set (List.set l151 (Int.toNat r156) r227) (Int.toNat r156) 6)) (Z66 l149 l150 x152 r156 e158 r220 e225 (List.set l151 (Int.toNat r156) r227))
def Z68 (p0 : Y90) (l38 : List Int) (l149 : List (List Y93)) (l150 : List (List Y93)) (l151 : List Int) (x152 : Int) (r156 : Int) (e158 : Y8v) (l214 : List (List Y93)) : Option ((List (List Y93) × List (List Y93) × List Int × Int) ⊕ ((List (List Y93) × List (List Y93) × List Int))) := (Z5s p0 l38 l214).bind fun r220 => (getI l149 r156).bind fun e223 => (getI (List.set l149 (Int.toNat r156) r220) r156).bind fun e225 => (Z5c p0 e225 e158).bind fun r227 => (getI l151 r156).bind fun e229 => (getI (List.set l151 (Int.toNat r156) r227) r156).bind fun e231 => cond (e231 == 0) (cond (e158.kind == 8) ((Z61 p0 e158.key e158.id).bind fun r235 => Z67 l149 l150 l151 x152 r156 e158 r220 e225 r227 (!r235)) (Z67 l149 l150 l151 x152 r156 e158 r220 e225 r227 false)) (Z67 l149 l150 l151 x152 r156 e158 r220 e225 r227 false)
def Z69 (p0 : Y90) (l150 : List (List Y93)) (e158 : Y8v) (l187 : List (List Y93)) (x188 : Int) : Option ((List (List Y93) × Int) ⊕ ((List (List Y93)))) := cond (decide (x188 < (e158.prev.length : Int))) ((getI e158.prev x188).bind fun e203 => (Z2t p0.events e203).bind fun r205 => (getI l150 r205).bind fun e207 => (chk (decide ((l187.length + [e207].length) * 24 ≤ 140737488355328))).bind fun u211 => some (.inl ((l187 ++ [e207]), (IntKind.i64.wrap (x188 + 1))))) (some (.inr l187))
def Z6a (p0 : Y90) (l38 : List Int) (r42 : List Int) (l149 : List (List Y93)) (l150 : List (List Y93)) (l151 : List Int) (x152 : Int) : Option ((List (List Y93) × List (List Y93) × List Int × Int) ⊕ ((List (List Y93) × List (List Y93) × List Int))) := cond (decide (x152 < (p0.events.length : Int))) ((getI r42 x152).bind fun e154 => (Z2t p0.events e154).bind fun r156 => (getI p0.events r156).bind fun e158 => (iter (fun z267 => Z69 p0 l150 e158 z267.1 z267.2) big (([] : List (List Y93)), 0)).bind fun y268 => Z68 p0 l38 l149 l150 l151 x152 r156 e158 y268) (some (.inr (l149, l150, l151)))
def Z6b (p0 : Y90) (l38 : List Int) : Option Y94 := (Z3p p0).bind fun r42 => (iter (fun z269 => Z6a p0 l38 r42 z269.1 z269.2.1 z269.2.2.1 z269.2.2.2) big ((List.replicate (Int.toNat (p0.events.length : Int)) []), (List.replicate (Int.toNat (p0.events.length : Int)) []), (List.replicate (Int.toNat (p0.events.length : Int)) 0), 0)).bind fun (y270, y271, y272) => Z63 l38 y270 y271 y272
def Z6c (p0 : Y90) : Option Y94 := (Z38 p0.events).bind fun r2 => (chk (decide (0 ≤ (p0.events.length : Int) ∧ (p0.events.length : Int) * 24 ≤ 140737488355328))).bind fun u5 => (chk (decide (0 ≤ (p0.events.length : Int) ∧ (p0.events.length : Int) * 24 ≤ 140737488355328))).bind fun u8 => (chk (decide (0 ≤ (p0.events.length : Int) ∧ (p0.events.length : Int) * 8 ≤ 140737488355328))).bind fun u11 => Z6b p0 r2
theorem Z6d (p0 : Y90) (r : Y94) (h : Z6c p0 = some r) : Ok Tryz.prog 179 [C.agg [cI p0.room, cM Y99 9 p0.events, cM Y99 9 p0.parked]] [] (fun c qs => ∃ (b263 : Nat) (v264 : Value) (v265 : Value) (v266 : Value), c = pt b263 ∧ qs = [oB b263 215 [cM kI64 1 r.depths, cV v264, cV v265, cV v266], oA v264 27 Y9m 1 r.ahead, oA v265 27 Y9m 1 r.behind, oA v266 2 kI64 1 r.code]) := by
 refine Ok.of_body (rs := [.tmp 2]) Tryz.func179 rfl rfl rfl rfl rfl fun X => ?_
 unfold Z6c at h
 refine zw ?_
 refine ox fun b1 => ?_
 refine Ops.v rfl (Yr rfl rfl) ?_
 refine Ops.nil ?_
 refine AW.seq ?_
 refine AW.region ?_
 refine Ops.v rfl (Y1b Ybc.h rfl rfl) ?_
 refine Ops.v rfl (Y1k (p := 0) Ybd.h rfl rfl rfl rfl) ?_
 refine Ops.v rfl (Y2c Yb8.h rfl rfl) ?_
 refine Ops.v rfl (Yr rfl rfl) ?_
 refine Ops.nil ?_
 refine AW.seq ?_
 refine AW.cut (τ := List Int × Nat × Value × Value × Value) (fun (l38, b37, v39, v40, v41) => ⟨[(1, pt b1), (3, cI (p0.events.length : Int)), (4, pt b37)], [oB b1 139 [cI p0.room, cM Y99 9 p0.events, cM Y99 9 p0.parked], oB b37 215 [cM kI64 1 l38, cV v39, cV v40, cV v41], oA v39 27 Y9m 1 (List.replicate (Int.toNat (p0.events.length : Int)) []), oA v40 27 Y9m 1 (List.replicate (Int.toNat (p0.events.length : Int)) []), oA v41 2 kI64 1 (List.replicate (Int.toNat (p0.events.length : Int)) 0)]⟩) (fun (l38, b37, v39, v40, v41) => Z6b p0 l38 = some r) ?_ ?_
 ·
  refine AW.regionD (L := [1]) (Lt := []) (k := .light 0 false (.light 1 true (.light 3 false (.light 5 false (.light 7 false (.four 2 4 6 8 (.three 4 6 8 (.two 6 8 (.one 8 (.light 9 false (.one 10 (.light 11 false .done)))) (.one 6 (.light 9 false (.one 10 (.light 11 false .done))))) (.two 4 8 (.one 8 (.light 9 false (.one 10 (.light 11 false .done)))) (.one 4 (.light 9 false (.one 10 (.light 11 false .done))))) (.two 4 6 (.one 6 (.light 9 false (.one 10 (.light 11 false .done)))) (.one 4 (.light 9 false (.one 10 (.light 11 false .done)))))) (.three 2 6 8 (.two 6 8 (.one 8 (.light 9 false (.one 10 (.light 11 false .done)))) (.one 6 (.light 9 false (.one 10 (.light 11 false .done))))) (.two 2 8 (.one 8 (.light 9 false (.one 10 (.light 11 false .done)))) (.one 2 (.light 9 false (.one 10 (.light 11 false .done))))) (.two 2 6 (.one 6 (.light 9 false (.one 10 (.light 11 false .done)))) (.one 2 (.light 9 false (.one 10 (.light 11 false .done)))))) (.three 2 4 8 (.two 4 8 (.one 8 (.light 9 false (.one 10 (.light 11 false .done)))) (.one 4 (.light 9 false (.one 10 (.light 11 false .done))))) (.two 2 8 (.one 8 (.light 9 false (.one 10 (.light 11 false .done)))) (.one 2 (.light 9 false (.one 10 (.light 11 false .done))))) (.two 2 4 (.one 4 (.light 9 false (.one 10 (.light 11 false .done)))) (.one 2 (.light 9 false (.one 10 (.light 11 false .done)))))) (.three 2 4 6 (.two 4 6 (.one 6 (.light 9 false (.one 10 (.light 11 false .done)))) (.one 4 (.light 9 false (.one 10 (.light 11 false .done))))) (.two 2 6 (.one 6 (.light 9 false (.one 10 (.light 11 false .done)))) (.one 2 (.light 9 false (.one 10 (.light 11 false .done))))) (.two 2 4 (.one 4 (.light 9 false (.one 10 (.light 11 false .done)))) (.one 2 (.light 9 false (.one 10 (.light 11 false .done)))))))))))) (ns := [0]) (by kernel_rfl) (by kernel_rfl) (by kernel_rfl) (by kernel_rfl) rfl ?_
  refine zw ?_
  refine ob' h fun r2 g3 h => ?_
  refine ob' h fun u5 c4 h => ?_
  refine ob' h fun u8 c7 h => ?_
  refine ob' h fun u11 c10 h => ?_
  refine OpsD.four ?_ ?_ ?_ ?_
  ·
   refine Y3n.h (ns := []) rfl rfl rfl (Y24 ((Z39' _).h _ g3) rfl rfl) ?_
   rintro _ _ ⟨rfl, rfl⟩
   refine OpsD.three ?_ ?_ ?_
   ·
    refine Y3n.h (ns := []) rfl rfl rfl (Y3b (k := Y9m) (z := []) Yd6 Yd7 (fun w F => Imps.cells (.cons (Imp.nil Y9l 3) .nil) (Y42 (cs := [cV s0]) rfl rfl w F)) rfl rfl (Y3x c4).1 (Y3x c4).2 (Y3y (by decide) c4) rfl) ?_
    rintro _ _ ⟨b6, rfl, rfl⟩
    refine OpsD.two ?_ ?_
    ·
     refine Y3n.h (ns := []) rfl rfl rfl (Y3b (k := Y9m) (z := []) Yd6 Yd7 (fun w F => Imps.cells (.cons (Imp.nil Y9l 3) .nil) (Y42 (cs := [cV s0]) rfl rfl w F)) rfl rfl (Y3x c7).1 (Y3x c7).2 (Y3y (by decide) c7) rfl) ?_
     rintro _ _ ⟨b9, rfl, rfl⟩
     refine OpsD.one ?_
     refine Y3n.h (ns := []) rfl rfl rfl (Y3b (k := kI64) (z := 0) Yak ze_2 (Y42 rfl rfl) rfl rfl (Y3x c10).1 (Y3x c10).2 (Y3y (by decide) c10) rfl) ?_
     rintro _ _ ⟨b12, rfl, rfl⟩
     refine OpsD.v rfl rfl (Y38 (ds := [cM kI64 1 r2, cV (sn b6 (p0.events.length : Int)), cV (sn b9 (p0.events.length : Int)), cV (sn b12 (p0.events.length : Int))]) Yd8 Yd9 (Y42 rfl rfl) (.one rfl One.im rfl rfl (.one rfl (One.val rfl) rfl rfl (.one rfl (One.val rfl) rfl rfl (.one rfl (One.val rfl) rfl rfl .nil)))) rfl) ?_
     refine zw ?_
     refine dx fun b13 => ?_
     refine zw ?_
     exact ⟨(r2, b13, (sn b6 (p0.events.length : Int)), (sn b9 (p0.events.length : Int)), (sn b12 (p0.events.length : Int))), h, Y21.both (ns := [0, 0, 2, 1, 0]) rfl rfl⟩
    refine Y3n.h (ns := []) rfl rfl rfl (Y3b (k := kI64) (z := 0) Yak ze_2 (Y42 rfl rfl) rfl rfl (Y3x c10).1 (Y3x c10).2 (Y3y (by decide) c10) rfl) ?_
    rintro _ _ ⟨b12, rfl, rfl⟩
    refine OpsD.one ?_
    refine Y3n.h (ns := []) rfl rfl rfl (Y3b (k := Y9m) (z := []) Yd6 Yd7 (fun w F => Imps.cells (.cons (Imp.nil Y9l 3) .nil) (Y42 (cs := [cV s0]) rfl rfl w F)) rfl rfl (Y3x c7).1 (Y3x c7).2 (Y3y (by decide) c7) rfl) ?_
    rintro _ _ ⟨b9, rfl, rfl⟩
    refine OpsD.v rfl rfl (Y38 (ds := [cM kI64 1 r2, cV (sn b6 (p0.events.length : Int)), cV (sn b9 (p0.events.length : Int)), cV (sn b12 (p0.events.length : Int))]) Yd8 Yd9 (Y42 rfl rfl) (.one rfl One.im rfl rfl (.one rfl (One.val rfl) rfl rfl (.one rfl (One.val rfl) rfl rfl (.one rfl (One.val rfl) rfl rfl .nil)))) rfl) ?_
    refine zw ?_
    refine dx fun b14 => ?_
    refine zw ?_
    exact ⟨(r2, b14, (sn b6 (p0.events.length : Int)), (sn b9 (p0.events.length : Int)), (sn b12 (p0.events.length : Int))), h, Y21.both (ns := [0, 0, 2, 0, 0]) rfl rfl⟩
   ·
    refine Y3n.h (ns := []) rfl rfl rfl (Y3b (k := Y9m) (z := []) Yd6 Yd7 (fun w F => Imps.cells (.cons (Imp.nil Y9l 3) .nil) (Y42 (cs := [cV s0]) rfl rfl w F)) rfl rfl (Y3x c7).1 (Y3x c7).2 (Y3y (by decide) c7) rfl) ?_
    rintro _ _ ⟨b9, rfl, rfl⟩
    refine OpsD.two ?_ ?_
    ·
     refine Y3n.h (ns := []) rfl rfl rfl (Y3b (k := Y9m) (z := []) Yd6 Yd7 (fun w F => Imps.cells (.cons (Imp.nil Y9l 3) .nil) (Y42 (cs := [cV s0]) rfl rfl w F)) rfl rfl (Y3x c4).1 (Y3x c4).2 (Y3y (by decide) c4) rfl) ?_
     rintro _ _ ⟨b6, rfl, rfl⟩
     refine OpsD.one ?_
     refine Y3n.h (ns := []) rfl rfl rfl (Y3b (k := kI64) (z := 0) Yak ze_2 (Y42 rfl rfl) rfl rfl (Y3x c10).1 (Y3x c10).2 (Y3y (by decide) c10) rfl) ?_
     rintro _ _ ⟨b12, rfl, rfl⟩
     refine OpsD.v rfl rfl (Y38 (ds := [cM kI64 1 r2, cV (sn b6 (p0.events.length : Int)), cV (sn b9 (p0.events.length : Int)), cV (sn b12 (p0.events.length : Int))]) Yd8 Yd9 (Y42 rfl rfl) (.one rfl One.im rfl rfl (.one rfl (One.val rfl) rfl rfl (.one rfl (One.val rfl) rfl rfl (.one rfl (One.val rfl) rfl rfl .nil)))) rfl) ?_
     refine zw ?_
     refine dx fun b15 => ?_
     refine zw ?_
     exact ⟨(r2, b15, (sn b6 (p0.events.length : Int)), (sn b9 (p0.events.length : Int)), (sn b12 (p0.events.length : Int))), h, Y21.both (ns := [0, 0, 1, 1, 0]) rfl rfl⟩
    refine Y3n.h (ns := []) rfl rfl rfl (Y3b (k := kI64) (z := 0) Yak ze_2 (Y42 rfl rfl) rfl rfl (Y3x c10).1 (Y3x c10).2 (Y3y (by decide) c10) rfl) ?_
    rintro _ _ ⟨b12, rfl, rfl⟩
    refine OpsD.one ?_
    refine Y3n.h (ns := []) rfl rfl rfl (Y3b (k := Y9m) (z := []) Yd6 Yd7 (fun w F => Imps.cells (.cons (Imp.nil Y9l 3) .nil) (Y42 (cs := [cV s0]) rfl rfl w F)) rfl rfl (Y3x c4).1 (Y3x c4).2 (Y3y (by decide) c4) rfl) ?_
    rintro _ _ ⟨b6, rfl, rfl⟩
    refine OpsD.v rfl rfl (Y38 (ds := [cM kI64 1 r2, cV (sn b6 (p0.events.length : Int)), cV (sn b9 (p0.events.length : Int)), cV (sn b12 (p0.events.length : Int))]) Yd8 Yd9 (Y42 rfl rfl) (.one rfl One.im rfl rfl (.one rfl (One.val rfl) rfl rfl (.one rfl (One.val rfl) rfl rfl (.one rfl (One.val rfl) rfl rfl .nil)))) rfl) ?_
    refine zw ?_
    refine dx fun b16 => ?_
    refine zw ?_
    exact ⟨(r2, b16, (sn b6 (p0.events.length : Int)), (sn b9 (p0.events.length : Int)), (sn b12 (p0.events.length : Int))), h, Y21.both (ns := [0, 0, 0, 1, 0]) rfl rfl⟩
   refine Y3n.h (ns := []) rfl rfl rfl (Y3b (k := kI64) (z := 0) Yak ze_2 (Y42 rfl rfl) rfl rfl (Y3x c10).1 (Y3x c10).2 (Y3y (by decide) c10) rfl) ?_
   rintro _ _ ⟨b12, rfl, rfl⟩
   refine OpsD.two ?_ ?_
   ·
    refine Y3n.h (ns := []) rfl rfl rfl (Y3b (k := Y9m) (z := []) Yd6 Yd7 (fun w F => Imps.cells (.cons (Imp.nil Y9l 3) .nil) (Y42 (cs := [cV s0]) rfl rfl w F)) rfl rfl (Y3x c4).1 (Y3x c4).2 (Y3y (by decide) c4) rfl) ?_
    rintro _ _ ⟨b6, rfl, rfl⟩
    refine OpsD.one ?_
    refine Y3n.h (ns := []) rfl rfl rfl (Y3b (k := Y9m) (z := []) Yd6 Yd7 (fun w F => Imps.cells (.cons (Imp.nil Y9l 3) .nil) (Y42 (cs := [cV s0]) rfl rfl w F)) rfl rfl (Y3x c7).1 (Y3x c7).2 (Y3y (by decide) c7) rfl) ?_
    rintro _ _ ⟨b9, rfl, rfl⟩
    refine OpsD.v rfl rfl (Y38 (ds := [cM kI64 1 r2, cV (sn b6 (p0.events.length : Int)), cV (sn b9 (p0.events.length : Int)), cV (sn b12 (p0.events.length : Int))]) Yd8 Yd9 (Y42 rfl rfl) (.one rfl One.im rfl rfl (.one rfl (One.val rfl) rfl rfl (.one rfl (One.val rfl) rfl rfl (.one rfl (One.val rfl) rfl rfl .nil)))) rfl) ?_
    refine zw ?_
    refine dx fun b17 => ?_
    refine zw ?_
    exact ⟨(r2, b17, (sn b6 (p0.events.length : Int)), (sn b9 (p0.events.length : Int)), (sn b12 (p0.events.length : Int))), h, Y21.both (ns := [0, 0, 1, 0, 0]) rfl rfl⟩
   refine Y3n.h (ns := []) rfl rfl rfl (Y3b (k := Y9m) (z := []) Yd6 Yd7 (fun w F => Imps.cells (.cons (Imp.nil Y9l 3) .nil) (Y42 (cs := [cV s0]) rfl rfl w F)) rfl rfl (Y3x c7).1 (Y3x c7).2 (Y3y (by decide) c7) rfl) ?_
   rintro _ _ ⟨b9, rfl, rfl⟩
   refine OpsD.one ?_
   refine Y3n.h (ns := []) rfl rfl rfl (Y3b (k := Y9m) (z := []) Yd6 Yd7 (fun w F => Imps.cells (.cons (Imp.nil Y9l 3) .nil) (Y42 (cs := [cV s0]) rfl rfl w F)) rfl rfl (Y3x c4).1 (Y3x c4).2 (Y3y (by decide) c4) rfl) ?_
   rintro _ _ ⟨b6, rfl, rfl⟩
   refine OpsD.v rfl rfl (Y38 (ds := [cM kI64 1 r2, cV (sn b6 (p0.events.length : Int)), cV (sn b9 (p0.events.length : Int)), cV (sn b12 (p0.events.length : Int))]) Yd8 Yd9 (Y42 rfl rfl) (.one rfl One.im rfl rfl (.one rfl (One.val rfl) rfl rfl (.one rfl (One.val rfl) rfl rfl (.one rfl (One.val rfl) rfl rfl .nil)))) rfl) ?_
   refine zw ?_
   refine dx fun b18 => ?_
   refine zw ?_
   exact ⟨(r2, b18, (sn b6 (p0.events.length : Int)), (sn b9 (p0.events.length : Int)), (sn b12 (p0.events.length : Int))), h, Y21.both (ns := [0, 0, 0, 0, 0]) rfl rfl⟩
  ·
   refine Y3n.h (ns := []) rfl rfl rfl (Y3b (k := Y9m) (z := []) Yd6 Yd7 (fun w F => Imps.cells (.cons (Imp.nil Y9l 3) .nil) (Y42 (cs := [cV s0]) rfl rfl w F)) rfl rfl (Y3x c4).1 (Y3x c4).2 (Y3y (by decide) c4) rfl) ?_
   rintro _ _ ⟨b6, rfl, rfl⟩
   refine OpsD.three ?_ ?_ ?_
   ·
    refine Y3n.h (ns := []) rfl rfl rfl (Y24 ((Z39' _).h _ g3) rfl rfl) ?_
    rintro _ _ ⟨rfl, rfl⟩
    refine OpsD.two ?_ ?_
    ·
     refine Y3n.h (ns := []) rfl rfl rfl (Y3b (k := Y9m) (z := []) Yd6 Yd7 (fun w F => Imps.cells (.cons (Imp.nil Y9l 3) .nil) (Y42 (cs := [cV s0]) rfl rfl w F)) rfl rfl (Y3x c7).1 (Y3x c7).2 (Y3y (by decide) c7) rfl) ?_
     rintro _ _ ⟨b9, rfl, rfl⟩
     refine OpsD.one ?_
     refine Y3n.h (ns := []) rfl rfl rfl (Y3b (k := kI64) (z := 0) Yak ze_2 (Y42 rfl rfl) rfl rfl (Y3x c10).1 (Y3x c10).2 (Y3y (by decide) c10) rfl) ?_
     rintro _ _ ⟨b12, rfl, rfl⟩
     refine OpsD.v rfl rfl (Y38 (ds := [cM kI64 1 r2, cV (sn b6 (p0.events.length : Int)), cV (sn b9 (p0.events.length : Int)), cV (sn b12 (p0.events.length : Int))]) Yd8 Yd9 (Y42 rfl rfl) (.one rfl One.im rfl rfl (.one rfl (One.val rfl) rfl rfl (.one rfl (One.val rfl) rfl rfl (.one rfl (One.val rfl) rfl rfl .nil)))) rfl) ?_
     refine zw ?_
     refine dx fun b19 => ?_
     refine zw ?_
     exact ⟨(r2, b19, (sn b6 (p0.events.length : Int)), (sn b9 (p0.events.length : Int)), (sn b12 (p0.events.length : Int))), h, Y21.both (ns := [0, 0, 2, 1, 0]) rfl rfl⟩
    refine Y3n.h (ns := []) rfl rfl rfl (Y3b (k := kI64) (z := 0) Yak ze_2 (Y42 rfl rfl) rfl rfl (Y3x c10).1 (Y3x c10).2 (Y3y (by decide) c10) rfl) ?_
    rintro _ _ ⟨b12, rfl, rfl⟩
    refine OpsD.one ?_
    refine Y3n.h (ns := []) rfl rfl rfl (Y3b (k := Y9m) (z := []) Yd6 Yd7 (fun w F => Imps.cells (.cons (Imp.nil Y9l 3) .nil) (Y42 (cs := [cV s0]) rfl rfl w F)) rfl rfl (Y3x c7).1 (Y3x c7).2 (Y3y (by decide) c7) rfl) ?_
    rintro _ _ ⟨b9, rfl, rfl⟩
    refine OpsD.v rfl rfl (Y38 (ds := [cM kI64 1 r2, cV (sn b6 (p0.events.length : Int)), cV (sn b9 (p0.events.length : Int)), cV (sn b12 (p0.events.length : Int))]) Yd8 Yd9 (Y42 rfl rfl) (.one rfl One.im rfl rfl (.one rfl (One.val rfl) rfl rfl (.one rfl (One.val rfl) rfl rfl (.one rfl (One.val rfl) rfl rfl .nil)))) rfl) ?_
    refine zw ?_
    refine dx fun b20 => ?_
    refine zw ?_
    exact ⟨(r2, b20, (sn b6 (p0.events.length : Int)), (sn b9 (p0.events.length : Int)), (sn b12 (p0.events.length : Int))), h, Y21.both (ns := [0, 0, 2, 0, 0]) rfl rfl⟩
   ·
    refine Y3n.h (ns := []) rfl rfl rfl (Y3b (k := Y9m) (z := []) Yd6 Yd7 (fun w F => Imps.cells (.cons (Imp.nil Y9l 3) .nil) (Y42 (cs := [cV s0]) rfl rfl w F)) rfl rfl (Y3x c7).1 (Y3x c7).2 (Y3y (by decide) c7) rfl) ?_
    rintro _ _ ⟨b9, rfl, rfl⟩
    refine OpsD.two ?_ ?_
    ·
     refine Y3n.h (ns := []) rfl rfl rfl (Y24 ((Z39' _).h _ g3) rfl rfl) ?_
     rintro _ _ ⟨rfl, rfl⟩
     refine OpsD.one ?_
     refine Y3n.h (ns := []) rfl rfl rfl (Y3b (k := kI64) (z := 0) Yak ze_2 (Y42 rfl rfl) rfl rfl (Y3x c10).1 (Y3x c10).2 (Y3y (by decide) c10) rfl) ?_
     rintro _ _ ⟨b12, rfl, rfl⟩
     refine OpsD.v rfl rfl (Y38 (ds := [cM kI64 1 r2, cV (sn b6 (p0.events.length : Int)), cV (sn b9 (p0.events.length : Int)), cV (sn b12 (p0.events.length : Int))]) Yd8 Yd9 (Y42 rfl rfl) (.one rfl One.im rfl rfl (.one rfl (One.val rfl) rfl rfl (.one rfl (One.val rfl) rfl rfl (.one rfl (One.val rfl) rfl rfl .nil)))) rfl) ?_
     refine zw ?_
     refine dx fun b21 => ?_
     refine zw ?_
     exact ⟨(r2, b21, (sn b6 (p0.events.length : Int)), (sn b9 (p0.events.length : Int)), (sn b12 (p0.events.length : Int))), h, Y21.both (ns := [0, 0, 2, 1, 0]) rfl rfl⟩
    refine Y3n.h (ns := []) rfl rfl rfl (Y3b (k := kI64) (z := 0) Yak ze_2 (Y42 rfl rfl) rfl rfl (Y3x c10).1 (Y3x c10).2 (Y3y (by decide) c10) rfl) ?_
    rintro _ _ ⟨b12, rfl, rfl⟩
    refine OpsD.one ?_
    refine Y3n.h (ns := []) rfl rfl rfl (Y24 ((Z39' _).h _ g3) rfl rfl) ?_
    rintro _ _ ⟨rfl, rfl⟩
    refine OpsD.v rfl rfl (Y38 (ds := [cM kI64 1 r2, cV (sn b6 (p0.events.length : Int)), cV (sn b9 (p0.events.length : Int)), cV (sn b12 (p0.events.length : Int))]) Yd8 Yd9 (Y42 rfl rfl) (.one rfl One.im rfl rfl (.one rfl (One.val rfl) rfl rfl (.one rfl (One.val rfl) rfl rfl (.one rfl (One.val rfl) rfl rfl .nil)))) rfl) ?_
    refine zw ?_
    refine dx fun b22 => ?_
    refine zw ?_
    exact ⟨(r2, b22, (sn b6 (p0.events.length : Int)), (sn b9 (p0.events.length : Int)), (sn b12 (p0.events.length : Int))), h, Y21.both (ns := [0, 0, 2, 1, 0]) rfl rfl⟩
   refine Y3n.h (ns := []) rfl rfl rfl (Y3b (k := kI64) (z := 0) Yak ze_2 (Y42 rfl rfl) rfl rfl (Y3x c10).1 (Y3x c10).2 (Y3y (by decide) c10) rfl) ?_
   rintro _ _ ⟨b12, rfl, rfl⟩
   refine OpsD.two ?_ ?_
   ·
    refine Y3n.h (ns := []) rfl rfl rfl (Y24 ((Z39' _).h _ g3) rfl rfl) ?_
    rintro _ _ ⟨rfl, rfl⟩
    refine OpsD.one ?_
    refine Y3n.h (ns := []) rfl rfl rfl (Y3b (k := Y9m) (z := []) Yd6 Yd7 (fun w F => Imps.cells (.cons (Imp.nil Y9l 3) .nil) (Y42 (cs := [cV s0]) rfl rfl w F)) rfl rfl (Y3x c7).1 (Y3x c7).2 (Y3y (by decide) c7) rfl) ?_
    rintro _ _ ⟨b9, rfl, rfl⟩
    refine OpsD.v rfl rfl (Y38 (ds := [cM kI64 1 r2, cV (sn b6 (p0.events.length : Int)), cV (sn b9 (p0.events.length : Int)), cV (sn b12 (p0.events.length : Int))]) Yd8 Yd9 (Y42 rfl rfl) (.one rfl One.im rfl rfl (.one rfl (One.val rfl) rfl rfl (.one rfl (One.val rfl) rfl rfl (.one rfl (One.val rfl) rfl rfl .nil)))) rfl) ?_
    refine zw ?_
    refine dx fun b23 => ?_
    refine zw ?_
    exact ⟨(r2, b23, (sn b6 (p0.events.length : Int)), (sn b9 (p0.events.length : Int)), (sn b12 (p0.events.length : Int))), h, Y21.both (ns := [0, 0, 2, 0, 0]) rfl rfl⟩
   refine Y3n.h (ns := []) rfl rfl rfl (Y3b (k := Y9m) (z := []) Yd6 Yd7 (fun w F => Imps.cells (.cons (Imp.nil Y9l 3) .nil) (Y42 (cs := [cV s0]) rfl rfl w F)) rfl rfl (Y3x c7).1 (Y3x c7).2 (Y3y (by decide) c7) rfl) ?_
   rintro _ _ ⟨b9, rfl, rfl⟩
   refine OpsD.one ?_
   refine Y3n.h (ns := []) rfl rfl rfl (Y24 ((Z39' _).h _ g3) rfl rfl) ?_
   rintro _ _ ⟨rfl, rfl⟩
   refine OpsD.v rfl rfl (Y38 (ds := [cM kI64 1 r2, cV (sn b6 (p0.events.length : Int)), cV (sn b9 (p0.events.length : Int)), cV (sn b12 (p0.events.length : Int))]) Yd8 Yd9 (Y42 rfl rfl) (.one rfl One.im rfl rfl (.one rfl (One.val rfl) rfl rfl (.one rfl (One.val rfl) rfl rfl (.one rfl (One.val rfl) rfl rfl .nil)))) rfl) ?_
   refine zw ?_
   refine dx fun b24 => ?_
   refine zw ?_
   exact ⟨(r2, b24, (sn b6 (p0.events.length : Int)), (sn b9 (p0.events.length : Int)), (sn b12 (p0.events.length : Int))), h, Y21.both (ns := [0, 0, 2, 0, 0]) rfl rfl⟩
  ·
   refine Y3n.h (ns := []) rfl rfl rfl (Y3b (k := Y9m) (z := []) Yd6 Yd7 (fun w F => Imps.cells (.cons (Imp.nil Y9l 3) .nil) (Y42 (cs := [cV s0]) rfl rfl w F)) rfl rfl (Y3x c7).1 (Y3x c7).2 (Y3y (by decide) c7) rfl) ?_
   rintro _ _ ⟨b9, rfl, rfl⟩
   refine OpsD.three ?_ ?_ ?_
   ·
    refine Y3n.h (ns := []) rfl rfl rfl (Y24 ((Z39' _).h _ g3) rfl rfl) ?_
    rintro _ _ ⟨rfl, rfl⟩
    refine OpsD.two ?_ ?_
    ·
     refine Y3n.h (ns := []) rfl rfl rfl (Y3b (k := Y9m) (z := []) Yd6 Yd7 (fun w F => Imps.cells (.cons (Imp.nil Y9l 3) .nil) (Y42 (cs := [cV s0]) rfl rfl w F)) rfl rfl (Y3x c4).1 (Y3x c4).2 (Y3y (by decide) c4) rfl) ?_
     rintro _ _ ⟨b6, rfl, rfl⟩
     refine OpsD.one ?_
     refine Y3n.h (ns := []) rfl rfl rfl (Y3b (k := kI64) (z := 0) Yak ze_2 (Y42 rfl rfl) rfl rfl (Y3x c10).1 (Y3x c10).2 (Y3y (by decide) c10) rfl) ?_
     rintro _ _ ⟨b12, rfl, rfl⟩
     refine OpsD.v rfl rfl (Y38 (ds := [cM kI64 1 r2, cV (sn b6 (p0.events.length : Int)), cV (sn b9 (p0.events.length : Int)), cV (sn b12 (p0.events.length : Int))]) Yd8 Yd9 (Y42 rfl rfl) (.one rfl One.im rfl rfl (.one rfl (One.val rfl) rfl rfl (.one rfl (One.val rfl) rfl rfl (.one rfl (One.val rfl) rfl rfl .nil)))) rfl) ?_
     refine zw ?_
     refine dx fun b25 => ?_
     refine zw ?_
     exact ⟨(r2, b25, (sn b6 (p0.events.length : Int)), (sn b9 (p0.events.length : Int)), (sn b12 (p0.events.length : Int))), h, Y21.both (ns := [0, 0, 1, 1, 0]) rfl rfl⟩
    refine Y3n.h (ns := []) rfl rfl rfl (Y3b (k := kI64) (z := 0) Yak ze_2 (Y42 rfl rfl) rfl rfl (Y3x c10).1 (Y3x c10).2 (Y3y (by decide) c10) rfl) ?_
    rintro _ _ ⟨b12, rfl, rfl⟩
    refine OpsD.one ?_
    refine Y3n.h (ns := []) rfl rfl rfl (Y3b (k := Y9m) (z := []) Yd6 Yd7 (fun w F => Imps.cells (.cons (Imp.nil Y9l 3) .nil) (Y42 (cs := [cV s0]) rfl rfl w F)) rfl rfl (Y3x c4).1 (Y3x c4).2 (Y3y (by decide) c4) rfl) ?_
    rintro _ _ ⟨b6, rfl, rfl⟩
    refine OpsD.v rfl rfl (Y38 (ds := [cM kI64 1 r2, cV (sn b6 (p0.events.length : Int)), cV (sn b9 (p0.events.length : Int)), cV (sn b12 (p0.events.length : Int))]) Yd8 Yd9 (Y42 rfl rfl) (.one rfl One.im rfl rfl (.one rfl (One.val rfl) rfl rfl (.one rfl (One.val rfl) rfl rfl (.one rfl (One.val rfl) rfl rfl .nil)))) rfl) ?_
    refine zw ?_
    refine dx fun b26 => ?_
    refine zw ?_
    exact ⟨(r2, b26, (sn b6 (p0.events.length : Int)), (sn b9 (p0.events.length : Int)), (sn b12 (p0.events.length : Int))), h, Y21.both (ns := [0, 0, 0, 1, 0]) rfl rfl⟩
   ·
    refine Y3n.h (ns := []) rfl rfl rfl (Y3b (k := Y9m) (z := []) Yd6 Yd7 (fun w F => Imps.cells (.cons (Imp.nil Y9l 3) .nil) (Y42 (cs := [cV s0]) rfl rfl w F)) rfl rfl (Y3x c4).1 (Y3x c4).2 (Y3y (by decide) c4) rfl) ?_
    rintro _ _ ⟨b6, rfl, rfl⟩
    refine OpsD.two ?_ ?_
    ·
     refine Y3n.h (ns := []) rfl rfl rfl (Y24 ((Z39' _).h _ g3) rfl rfl) ?_
     rintro _ _ ⟨rfl, rfl⟩
     refine OpsD.one ?_
     refine Y3n.h (ns := []) rfl rfl rfl (Y3b (k := kI64) (z := 0) Yak ze_2 (Y42 rfl rfl) rfl rfl (Y3x c10).1 (Y3x c10).2 (Y3y (by decide) c10) rfl) ?_
     rintro _ _ ⟨b12, rfl, rfl⟩
     refine OpsD.v rfl rfl (Y38 (ds := [cM kI64 1 r2, cV (sn b6 (p0.events.length : Int)), cV (sn b9 (p0.events.length : Int)), cV (sn b12 (p0.events.length : Int))]) Yd8 Yd9 (Y42 rfl rfl) (.one rfl One.im rfl rfl (.one rfl (One.val rfl) rfl rfl (.one rfl (One.val rfl) rfl rfl (.one rfl (One.val rfl) rfl rfl .nil)))) rfl) ?_
     refine zw ?_
     refine dx fun b27 => ?_
     refine zw ?_
     exact ⟨(r2, b27, (sn b6 (p0.events.length : Int)), (sn b9 (p0.events.length : Int)), (sn b12 (p0.events.length : Int))), h, Y21.both (ns := [0, 0, 1, 1, 0]) rfl rfl⟩
    refine Y3n.h (ns := []) rfl rfl rfl (Y3b (k := kI64) (z := 0) Yak ze_2 (Y42 rfl rfl) rfl rfl (Y3x c10).1 (Y3x c10).2 (Y3y (by decide) c10) rfl) ?_
    rintro _ _ ⟨b12, rfl, rfl⟩
    refine OpsD.one ?_
    refine Y3n.h (ns := []) rfl rfl rfl (Y24 ((Z39' _).h _ g3) rfl rfl) ?_
    rintro _ _ ⟨rfl, rfl⟩
    refine OpsD.v rfl rfl (Y38 (ds := [cM kI64 1 r2, cV (sn b6 (p0.events.length : Int)), cV (sn b9 (p0.events.length : Int)), cV (sn b12 (p0.events.length : Int))]) Yd8 Yd9 (Y42 rfl rfl) (.one rfl One.im rfl rfl (.one rfl (One.val rfl) rfl rfl (.one rfl (One.val rfl) rfl rfl (.one rfl (One.val rfl) rfl rfl .nil)))) rfl) ?_
    refine zw ?_
    refine dx fun b28 => ?_
    refine zw ?_
    exact ⟨(r2, b28, (sn b6 (p0.events.length : Int)), (sn b9 (p0.events.length : Int)), (sn b12 (p0.events.length : Int))), h, Y21.both (ns := [0, 0, 1, 1, 0]) rfl rfl⟩
   refine Y3n.h (ns := []) rfl rfl rfl (Y3b (k := kI64) (z := 0) Yak ze_2 (Y42 rfl rfl) rfl rfl (Y3x c10).1 (Y3x c10).2 (Y3y (by decide) c10) rfl) ?_
   rintro _ _ ⟨b12, rfl, rfl⟩
   refine OpsD.two ?_ ?_
   ·
    refine Y3n.h (ns := []) rfl rfl rfl (Y24 ((Z39' _).h _ g3) rfl rfl) ?_
    rintro _ _ ⟨rfl, rfl⟩
    refine OpsD.one ?_
    refine Y3n.h (ns := []) rfl rfl rfl (Y3b (k := Y9m) (z := []) Yd6 Yd7 (fun w F => Imps.cells (.cons (Imp.nil Y9l 3) .nil) (Y42 (cs := [cV s0]) rfl rfl w F)) rfl rfl (Y3x c4).1 (Y3x c4).2 (Y3y (by decide) c4) rfl) ?_
    rintro _ _ ⟨b6, rfl, rfl⟩
    refine OpsD.v rfl rfl (Y38 (ds := [cM kI64 1 r2, cV (sn b6 (p0.events.length : Int)), cV (sn b9 (p0.events.length : Int)), cV (sn b12 (p0.events.length : Int))]) Yd8 Yd9 (Y42 rfl rfl) (.one rfl One.im rfl rfl (.one rfl (One.val rfl) rfl rfl (.one rfl (One.val rfl) rfl rfl (.one rfl (One.val rfl) rfl rfl .nil)))) rfl) ?_
    refine zw ?_
    refine dx fun b29 => ?_
    refine zw ?_
    exact ⟨(r2, b29, (sn b6 (p0.events.length : Int)), (sn b9 (p0.events.length : Int)), (sn b12 (p0.events.length : Int))), h, Y21.both (ns := [0, 0, 0, 1, 0]) rfl rfl⟩
   refine Y3n.h (ns := []) rfl rfl rfl (Y3b (k := Y9m) (z := []) Yd6 Yd7 (fun w F => Imps.cells (.cons (Imp.nil Y9l 3) .nil) (Y42 (cs := [cV s0]) rfl rfl w F)) rfl rfl (Y3x c4).1 (Y3x c4).2 (Y3y (by decide) c4) rfl) ?_
   rintro _ _ ⟨b6, rfl, rfl⟩
   refine OpsD.one ?_
   refine Y3n.h (ns := []) rfl rfl rfl (Y24 ((Z39' _).h _ g3) rfl rfl) ?_
   rintro _ _ ⟨rfl, rfl⟩
   refine OpsD.v rfl rfl (Y38 (ds := [cM kI64 1 r2, cV (sn b6 (p0.events.length : Int)), cV (sn b9 (p0.events.length : Int)), cV (sn b12 (p0.events.length : Int))]) Yd8 Yd9 (Y42 rfl rfl) (.one rfl One.im rfl rfl (.one rfl (One.val rfl) rfl rfl (.one rfl (One.val rfl) rfl rfl (.one rfl (One.val rfl) rfl rfl .nil)))) rfl) ?_
   refine zw ?_
   refine dx fun b30 => ?_
   refine zw ?_
   exact ⟨(r2, b30, (sn b6 (p0.events.length : Int)), (sn b9 (p0.events.length : Int)), (sn b12 (p0.events.length : Int))), h, Y21.both (ns := [0, 0, 0, 1, 0]) rfl rfl⟩
  refine Y3n.h (ns := []) rfl rfl rfl (Y3b (k := kI64) (z := 0) Yak ze_2 (Y42 rfl rfl) rfl rfl (Y3x c10).1 (Y3x c10).2 (Y3y (by decide) c10) rfl) ?_
  rintro _ _ ⟨b12, rfl, rfl⟩
  refine OpsD.three ?_ ?_ ?_
  ·
   refine Y3n.h (ns := []) rfl rfl rfl (Y24 ((Z39' _).h _ g3) rfl rfl) ?_
   rintro _ _ ⟨rfl, rfl⟩
   refine OpsD.two ?_ ?_
   ·
    refine Y3n.h (ns := []) rfl rfl rfl (Y3b (k := Y9m) (z := []) Yd6 Yd7 (fun w F => Imps.cells (.cons (Imp.nil Y9l 3) .nil) (Y42 (cs := [cV s0]) rfl rfl w F)) rfl rfl (Y3x c4).1 (Y3x c4).2 (Y3y (by decide) c4) rfl) ?_
    rintro _ _ ⟨b6, rfl, rfl⟩
    refine OpsD.one ?_
    refine Y3n.h (ns := []) rfl rfl rfl (Y3b (k := Y9m) (z := []) Yd6 Yd7 (fun w F => Imps.cells (.cons (Imp.nil Y9l 3) .nil) (Y42 (cs := [cV s0]) rfl rfl w F)) rfl rfl (Y3x c7).1 (Y3x c7).2 (Y3y (by decide) c7) rfl) ?_
    rintro _ _ ⟨b9, rfl, rfl⟩
    refine OpsD.v rfl rfl (Y38 (ds := [cM kI64 1 r2, cV (sn b6 (p0.events.length : Int)), cV (sn b9 (p0.events.length : Int)), cV (sn b12 (p0.events.length : Int))]) Yd8 Yd9 (Y42 rfl rfl) (.one rfl One.im rfl rfl (.one rfl (One.val rfl) rfl rfl (.one rfl (One.val rfl) rfl rfl (.one rfl (One.val rfl) rfl rfl .nil)))) rfl) ?_
    refine zw ?_
    refine dx fun b31 => ?_
    refine zw ?_
    exact ⟨(r2, b31, (sn b6 (p0.events.length : Int)), (sn b9 (p0.events.length : Int)), (sn b12 (p0.events.length : Int))), h, Y21.both (ns := [0, 0, 1, 0, 0]) rfl rfl⟩
   refine Y3n.h (ns := []) rfl rfl rfl (Y3b (k := Y9m) (z := []) Yd6 Yd7 (fun w F => Imps.cells (.cons (Imp.nil Y9l 3) .nil) (Y42 (cs := [cV s0]) rfl rfl w F)) rfl rfl (Y3x c7).1 (Y3x c7).2 (Y3y (by decide) c7) rfl) ?_
   rintro _ _ ⟨b9, rfl, rfl⟩
   refine OpsD.one ?_
   refine Y3n.h (ns := []) rfl rfl rfl (Y3b (k := Y9m) (z := []) Yd6 Yd7 (fun w F => Imps.cells (.cons (Imp.nil Y9l 3) .nil) (Y42 (cs := [cV s0]) rfl rfl w F)) rfl rfl (Y3x c4).1 (Y3x c4).2 (Y3y (by decide) c4) rfl) ?_
   rintro _ _ ⟨b6, rfl, rfl⟩
   refine OpsD.v rfl rfl (Y38 (ds := [cM kI64 1 r2, cV (sn b6 (p0.events.length : Int)), cV (sn b9 (p0.events.length : Int)), cV (sn b12 (p0.events.length : Int))]) Yd8 Yd9 (Y42 rfl rfl) (.one rfl One.im rfl rfl (.one rfl (One.val rfl) rfl rfl (.one rfl (One.val rfl) rfl rfl (.one rfl (One.val rfl) rfl rfl .nil)))) rfl) ?_
   refine zw ?_
   refine dx fun b32 => ?_
   refine zw ?_
   exact ⟨(r2, b32, (sn b6 (p0.events.length : Int)), (sn b9 (p0.events.length : Int)), (sn b12 (p0.events.length : Int))), h, Y21.both (ns := [0, 0, 0, 0, 0]) rfl rfl⟩
  ·
   refine Y3n.h (ns := []) rfl rfl rfl (Y3b (k := Y9m) (z := []) Yd6 Yd7 (fun w F => Imps.cells (.cons (Imp.nil Y9l 3) .nil) (Y42 (cs := [cV s0]) rfl rfl w F)) rfl rfl (Y3x c4).1 (Y3x c4).2 (Y3y (by decide) c4) rfl) ?_
   rintro _ _ ⟨b6, rfl, rfl⟩
   refine OpsD.two ?_ ?_
   ·
    refine Y3n.h (ns := []) rfl rfl rfl (Y24 ((Z39' _).h _ g3) rfl rfl) ?_
    rintro _ _ ⟨rfl, rfl⟩
    refine OpsD.one ?_
    refine Y3n.h (ns := []) rfl rfl rfl (Y3b (k := Y9m) (z := []) Yd6 Yd7 (fun w F => Imps.cells (.cons (Imp.nil Y9l 3) .nil) (Y42 (cs := [cV s0]) rfl rfl w F)) rfl rfl (Y3x c7).1 (Y3x c7).2 (Y3y (by decide) c7) rfl) ?_
    rintro _ _ ⟨b9, rfl, rfl⟩
    refine OpsD.v rfl rfl (Y38 (ds := [cM kI64 1 r2, cV (sn b6 (p0.events.length : Int)), cV (sn b9 (p0.events.length : Int)), cV (sn b12 (p0.events.length : Int))]) Yd8 Yd9 (Y42 rfl rfl) (.one rfl One.im rfl rfl (.one rfl (One.val rfl) rfl rfl (.one rfl (One.val rfl) rfl rfl (.one rfl (One.val rfl) rfl rfl .nil)))) rfl) ?_
    refine zw ?_
    refine dx fun b33 => ?_
    refine zw ?_
    exact ⟨(r2, b33, (sn b6 (p0.events.length : Int)), (sn b9 (p0.events.length : Int)), (sn b12 (p0.events.length : Int))), h, Y21.both (ns := [0, 0, 1, 0, 0]) rfl rfl⟩
   refine Y3n.h (ns := []) rfl rfl rfl (Y3b (k := Y9m) (z := []) Yd6 Yd7 (fun w F => Imps.cells (.cons (Imp.nil Y9l 3) .nil) (Y42 (cs := [cV s0]) rfl rfl w F)) rfl rfl (Y3x c7).1 (Y3x c7).2 (Y3y (by decide) c7) rfl) ?_
   rintro _ _ ⟨b9, rfl, rfl⟩
   refine OpsD.one ?_
   refine Y3n.h (ns := []) rfl rfl rfl (Y24 ((Z39' _).h _ g3) rfl rfl) ?_
   rintro _ _ ⟨rfl, rfl⟩
   refine OpsD.v rfl rfl (Y38 (ds := [cM kI64 1 r2, cV (sn b6 (p0.events.length : Int)), cV (sn b9 (p0.events.length : Int)), cV (sn b12 (p0.events.length : Int))]) Yd8 Yd9 (Y42 rfl rfl) (.one rfl One.im rfl rfl (.one rfl (One.val rfl) rfl rfl (.one rfl (One.val rfl) rfl rfl (.one rfl (One.val rfl) rfl rfl .nil)))) rfl) ?_
   refine zw ?_
   refine dx fun b34 => ?_
   refine zw ?_
   exact ⟨(r2, b34, (sn b6 (p0.events.length : Int)), (sn b9 (p0.events.length : Int)), (sn b12 (p0.events.length : Int))), h, Y21.both (ns := [0, 0, 1, 0, 0]) rfl rfl⟩
  refine Y3n.h (ns := []) rfl rfl rfl (Y3b (k := Y9m) (z := []) Yd6 Yd7 (fun w F => Imps.cells (.cons (Imp.nil Y9l 3) .nil) (Y42 (cs := [cV s0]) rfl rfl w F)) rfl rfl (Y3x c7).1 (Y3x c7).2 (Y3y (by decide) c7) rfl) ?_
  rintro _ _ ⟨b9, rfl, rfl⟩
  refine OpsD.two ?_ ?_
  ·
   refine Y3n.h (ns := []) rfl rfl rfl (Y24 ((Z39' _).h _ g3) rfl rfl) ?_
   rintro _ _ ⟨rfl, rfl⟩
   refine OpsD.one ?_
   refine Y3n.h (ns := []) rfl rfl rfl (Y3b (k := Y9m) (z := []) Yd6 Yd7 (fun w F => Imps.cells (.cons (Imp.nil Y9l 3) .nil) (Y42 (cs := [cV s0]) rfl rfl w F)) rfl rfl (Y3x c4).1 (Y3x c4).2 (Y3y (by decide) c4) rfl) ?_
   rintro _ _ ⟨b6, rfl, rfl⟩
   refine OpsD.v rfl rfl (Y38 (ds := [cM kI64 1 r2, cV (sn b6 (p0.events.length : Int)), cV (sn b9 (p0.events.length : Int)), cV (sn b12 (p0.events.length : Int))]) Yd8 Yd9 (Y42 rfl rfl) (.one rfl One.im rfl rfl (.one rfl (One.val rfl) rfl rfl (.one rfl (One.val rfl) rfl rfl (.one rfl (One.val rfl) rfl rfl .nil)))) rfl) ?_
   refine zw ?_
   refine dx fun b35 => ?_
   refine zw ?_
   exact ⟨(r2, b35, (sn b6 (p0.events.length : Int)), (sn b9 (p0.events.length : Int)), (sn b12 (p0.events.length : Int))), h, Y21.both (ns := [0, 0, 0, 0, 0]) rfl rfl⟩
  refine Y3n.h (ns := []) rfl rfl rfl (Y3b (k := Y9m) (z := []) Yd6 Yd7 (fun w F => Imps.cells (.cons (Imp.nil Y9l 3) .nil) (Y42 (cs := [cV s0]) rfl rfl w F)) rfl rfl (Y3x c4).1 (Y3x c4).2 (Y3y (by decide) c4) rfl) ?_
  rintro _ _ ⟨b6, rfl, rfl⟩
  refine OpsD.one ?_
  refine Y3n.h (ns := []) rfl rfl rfl (Y24 ((Z39' _).h _ g3) rfl rfl) ?_
  rintro _ _ ⟨rfl, rfl⟩
  refine OpsD.v rfl rfl (Y38 (ds := [cM kI64 1 r2, cV (sn b6 (p0.events.length : Int)), cV (sn b9 (p0.events.length : Int)), cV (sn b12 (p0.events.length : Int))]) Yd8 Yd9 (Y42 rfl rfl) (.one rfl One.im rfl rfl (.one rfl (One.val rfl) rfl rfl (.one rfl (One.val rfl) rfl rfl (.one rfl (One.val rfl) rfl rfl .nil)))) rfl) ?_
  refine zw ?_
  refine dx fun b36 => ?_
  refine zw ?_
  exact ⟨(r2, b36, (sn b6 (p0.events.length : Int)), (sn b9 (p0.events.length : Int)), (sn b12 (p0.events.length : Int))), h, Y21.both (ns := [0, 0, 0, 0, 0]) rfl rfl⟩
 rintro ⟨l38, b37, v39, v40, v41⟩ h
 replace h : Z6b p0 l38 = some r := h
 unfold Z6b at h
 refine zw ?_
 refine oc h fun r42 g43 h => ?_
 refine Ops.v rfl (Yr rfl rfl) ?_
 refine Ops.nil ?_
 refine AW.seq ?_
 refine AW.cut (τ := List (List Y93) × List (List Y93) × List Int) (fun (l260, l261, l262) => ⟨[(4, pt b37)], [oB b37 215 [cM kI64 1 l38, cV v39, cV v40, cV v41], oA v39 27 Y9m 1 l260, oA v40 27 Y9m 1 l261, oA v41 2 kI64 1 l262]⟩) (fun (l260, l261, l262) => Z63 l38 l260 l261 l262 = some r) ?_ ?_
 ·
  refine zw ?_
  refine AW.lp (v := ()) h (fun (l149, l150, l151, x152) (_ : Unit) => ⟨[(1, pt b1), (3, cI (p0.events.length : Int)), (4, pt b37), (5, cM kI64 1 r42), (6, cI x152)], [oB b1 139 [cI p0.room, cM Y99 9 p0.events, cM Y99 9 p0.parked], oB b37 215 [cM kI64 1 l38, cV v39, cV v40, cV v41], oA v39 27 Y9m 1 l149, oA v40 27 Y9m 1 l150, oA v41 2 kI64 1 l151]⟩) (gb [0, 0, 0, 0, 0]) ?_
  rintro ⟨l149, l150, l151, x152⟩ _ y278 h
  refine zw ?_
  refine cnd h (fun hb153 h => ?_) fun hb153 h => ?_
  ·
   refine AW.ct hb153 rfl ?_
   refine AW.skip ?_
   refine AW.seq ?_
   refine AW.cut (τ := List (List Y93) × List (List Y93) × List Int) (fun (l257, l258, l259) => ⟨[(1, pt b1), (3, cI (p0.events.length : Int)), (4, pt b37), (5, cM kI64 1 r42), (6, cI x152)], [oB b1 139 [cI p0.room, cM Y99 9 p0.events, cM Y99 9 p0.parked], oB b37 215 [cM kI64 1 l38, cV v39, cV v40, cV v41], oA v39 27 Y9m 1 l257, oA v40 27 Y9m 1 l258, oA v41 2 kI64 1 l259]⟩) (fun (l257, l258, l259) => Z64 x152 l257 l258 l259 = some y278) ?_ ?_
   ·
    refine zw ?_
    refine rD [0,0,0,0,0] [1,5] [] [0,5,8,12,16,21,26,28] ?_
    refine zw ?_
    refine di h fun e154 g155 h => ?_
    refine zw ?_
    refine dc h fun r156 g157 h => ?_
    refine zw ?_
    refine oi h fun e158 g159 h => ?_
    refine zw ?_
    refine Ops.h (ns := []) rfl rfl (Y1p (cs := [cI 0, cI 0, cI 0, cI 0, cI 0, cI 0, C.str ByteArray.empty, cV s0, cI 0]) Yal (Y42 rfl rfl) rfl) ?_
    rintro _ _ ⟨b160, rfl, rfl⟩
    refine Ops.hd (ns := [0]) rfl rfl (Y1u (gs := [cI e158.id, cI e158.room, cI e158.author, cI e158.kind, cI e158.key, cI e158.n, C.str e158.text, cM kI64 1 e158.prev, cI e158.time]) Yb2.h rfl rfl rfl rfl rfl) ?_
    refine zw ?_
    refine Ops.h (ns := []) rfl rfl (Y39 (k := Y9m) (ys := ([] : List (List Y93))) Yd6 .nil rfl rfl rfl) ?_
    rintro _ _ ⟨b161, rfl, rfl⟩
    refine Ops.v rfl (Yr rfl rfl) ?_
    refine Ops.nil ?_
    refine AW.seq ?_
    refine AW.cut (τ := List (List Y93) × Value) (fun (l214, v213) => ⟨[(1, pt b1), (3, cI (p0.events.length : Int)), (4, pt b37), (5, cM kI64 1 r42), (6, cI x152), (7, cI r156), (8, pt b160), (9, cV v213)], [oB b1 139 [cI p0.room, cM Y99 9 p0.events, cM Y99 9 p0.parked], oB b37 215 [cM kI64 1 l38, cV v39, cV v40, cV v41], oA v39 27 Y9m 1 l149, oA v40 27 Y9m 1 l150, oA v41 2 kI64 1 l151, oB b160 136 [cI e158.id, cI e158.room, cI e158.author, cI e158.kind, cI e158.key, cI e158.n, C.str e158.text, cM kI64 1 e158.prev, cI e158.time], oA v213 27 Y9m 1 l214]⟩) (fun (l214, v213) => Z68 p0 l38 l149 l150 l151 x152 r156 e158 l214 = some y278) ?_ ?_
    ·
     refine zw ?_
     refine AW.lp h (fun (l187, x188) (v186 : Value) => ⟨[(1, pt b1), (3, cI (p0.events.length : Int)), (4, pt b37), (5, cM kI64 1 r42), (6, cI x152), (7, cI r156), (8, pt b160), (9, cV v186), (10, cI x188)], [oB b1 139 [cI p0.room, cM Y99 9 p0.events, cM Y99 9 p0.parked], oB b37 215 [cM kI64 1 l38, cV v39, cV v40, cV v41], oA v39 27 Y9m 1 l149, oA v40 27 Y9m 1 l150, oA v41 2 kI64 1 l151, oB b160 136 [cI e158.id, cI e158.room, cI e158.author, cI e158.kind, cI e158.key, cI e158.n, C.str e158.text, cM kI64 1 e158.prev, cI e158.time], oA v186 27 Y9m 1 l187]⟩) (gb [2, 2, 2, 2, 2, 1, 0]) ?_
     rintro ⟨l187, x188⟩ v186 y285 h
     refine AW.seq ?_
     refine AW.seq ?_
     refine AW.region ?_
     refine Ops.v rfl (Yq rfl rfl) ?_
     refine Ops.v rfl (Y1b Yaz.h rfl rfl) ?_
     refine Ops.v rfl (Y1k (p := 5) Y9y.h rfl rfl rfl rfl) ?_
     refine zw ?_
     refine cnd h (fun hb189 h => ?_) fun hb189 h => ?_
     ·
      refine AW.ct hb189 rfl ?_
      refine zw ?_
      refine rD [0,0,0,0,0,0] [4,6,8,11,14] [] [0,4,8,12,17,20,25,28,33,36,40,45,50,52,57,62,66,68] ?_
      refine OpsD.v rfl rfl (Yq rfl rfl) ?_
      refine OpsD.v rfl rfl (Yq rfl rfl) ?_
      refine OpsD.v rfl rfl (Y14 rfl rfl) ?_
      refine OpsD.v rfl rfl (Y1b Yda.h rfl rfl) ?_
      refine OpsD.v rfl rfl (Y1k (p := 1) Ydb.h rfl rfl rfl rfl) ?_
      refine OpsD.v rfl rfl (Y1b Ybc.h rfl rfl) ?_
      refine OpsD.v rfl rfl (Y1k (p := 0) Ybd.h rfl rfl rfl rfl) ?_
      refine OpsD.v rfl rfl (Y1b Yaz.h rfl rfl) ?_
      refine OpsD.v rfl rfl (Y1k (p := 5) Y9y.h rfl rfl rfl rfl) ?_
      refine zw ?_
      refine di h fun e203 g204 h => ?_
      refine zw ?_
      refine dc h fun r205 g206 h => ?_
      refine ob' h fun e207 g208 h => ?_
      refine OpsD.v rfl rfl (Y2x (p := 3) Yct.h rfl rfl rfl g208 rfl) ?_
      refine OpsD.v rfl rfl (Y30 (p := 3) Ycu.h rfl rfl (Y29 g208).2.2 rfl rfl) ?_
      refine OpsD.one ?_
      refine Y3n.h (ns := []) rfl rfl rfl (Y39 (k := Y9m) (ys := [e207]) Yd6 (.one rfl One.im rfl rfl .nil) rfl rfl rfl) ?_
      rintro _ _ ⟨b209, rfl, rfl⟩
      refine zw ?_
      refine ob' h fun u211 c210 h => ?_
      refine Y3n.h (ns := [1, 0]) rfl rfl rfl (Y2s Yd6 rfl rfl (Wo (Y3t c210)) (Y3w (by decide) c210) rfl) ?_
      rintro _ _ ⟨v212, rfl, rfl⟩
      refine zw ?_
      exact le h (gb [0, 0, 0, 0, 0, 0, 0])
     refine AW.cf hb189 rfl ?_
     refine AW.exit ?_
     refine lx h fun h => ?_
     exact ⟨(l187, v186), h, Y21.both (ns := [0, 0, 0, 0, 0, 0, 0]) rfl rfl⟩
    rintro ⟨l214, v213⟩ h
    replace h : Z68 p0 l38 l149 l150 l151 x152 r156 e158 l214 = some y278 := h
    unfold Z68 at h
    refine zw ?_
    refine rD [0,0,0,0,0,0] [3,5,9] [13] [0,4,8,13,16,21,24,28,32,37,40,46,48,55] ?_
    refine zw ?_
    refine ob' h fun r220 g221 h => ?_
    refine Y3n.h (ns := [0]) rfl rfl rfl (Y24 (Ok.freezeL (Ok.lend (Z5t p0 l38 l214 _ g221) (fT (fT (FrzT.cons (os := [_]) Frz.arr (FrzT.nil)))) (by rintro _ _ ⟨_, rfl, rfl⟩; exact ⟨(Y44.val _), Y48 (Y46.arr Yd0) (Y47)⟩)) (by rintro c qs ⟨v222, rfl, rfl⟩; exact Frz.arr)) rfl rfl) ?_
    rintro _ _ ⟨rfl, rfl⟩
    refine ob' h fun e223 g224 h => ?_
    refine OpsD.v rfl rfl (Y2x (p := 2) Yct.h rfl rfl rfl g224 rfl) ?_
    refine OpsD.late (ns := [2]) rfl rfl rfl (Y33 (e' := r220) Ycu.h rfl rfl One.im (Y29 g224).2.2 rfl rfl) ?_
    rintro _ _ ⟨rfl, rfl⟩
    refine zw ?_
    refine rD [0,0,0,0,0,0,0] [3,5,9,12,13] [16] [0,4,8,13,16,21,24,28,32,37,40,44,49,53,58,60,67] ?_
    refine zw ?_
    refine di h fun e225 g226 h => ?_
    refine OpsD.v rfl rfl (Y30 (p := 0) Ycu.h rfl rfl (Y29 g226).2.2 rfl rfl) ?_
    refine OpsD.v rfl rfl (Y1l (p := 5) (ds := [cI e158.id, cI e158.room, cI e158.author, cI e158.kind, cI e158.key, cI e158.n, C.str e158.text, cM kI64 1 e158.prev, cI e158.time]) Yb2.h rfl rfl rfl rfl rfl) ?_
    refine zw ?_
    refine dc h fun r227 g228 h => ?_
    refine ob' h fun e229 g230 h => ?_
    refine OpsD.v rfl rfl (Y2x (p := 4) Y9v.h rfl rfl rfl g230 rfl) ?_
    refine OpsD.late (ns := [4]) rfl rfl rfl (Y33 (e' := r227) ld_2.h rfl rfl (One.val rfl) (Y29 g230).2.2 rfl rfl) ?_
    rintro _ _ ⟨rfl, rfl⟩
    refine OpsD.done ?_
    refine AW.seq ?_
    refine AW.cut (τ := List Int) (fun l241 => ⟨[(1, pt b1), (3, cI (p0.events.length : Int)), (4, pt b37), (5, cM kI64 1 r42), (6, cI x152), (7, cI r156), (8, pt b160)], [oB b1 139 [cI p0.room, cM Y99 9 p0.events, cM Y99 9 p0.parked], oB b37 215 [cM kI64 1 l38, cV v39, cV v40, cV v41], oA v39 27 Y9m 1 (List.set l149 (Int.toNat r156) r220), oA v40 27 Y9m 1 l150, oA v41 2 kI64 1 l241, oB b160 136 [cI e158.id, cI e158.room, cI e158.author, cI e158.kind, cI e158.key, cI e158.n, C.str e158.text, cM kI64 1 e158.prev, cI e158.time]]⟩) (fun l241 => Z66 l149 l150 x152 r156 e158 r220 e225 l241 = some y278) ?_ ?_
    ·
     refine AW.seq ?_
     refine AW.cut (τ := Bool) (fun x237 => ⟨[(1, pt b1), (3, cI (p0.events.length : Int)), (4, pt b37), (5, cM kI64 1 r42), (6, cI x152), (7, cI r156), (8, pt b160), (119, C.bool x237)], [oB b1 139 [cI p0.room, cM Y99 9 p0.events, cM Y99 9 p0.parked], oB b37 215 [cM kI64 1 l38, cV v39, cV v40, cV v41], oA v39 27 Y9m 1 (List.set l149 (Int.toNat r156) r220), oA v40 27 Y9m 1 l150, oA v41 2 kI64 1 (List.set l151 (Int.toNat r156) r227), oB b160 136 [cI e158.id, cI e158.room, cI e158.author, cI e158.kind, cI e158.key, cI e158.n, C.str e158.text, cM kI64 1 e158.prev, cI e158.time]]⟩) (fun x237 => Z67 l149 l150 l151 x152 r156 e158 r220 e225 r227 x237 = some y278) ?_ ?_
     ·
      refine zw ?_
      refine oi h fun e231 g232 h => ?_
      refine Ops.v rfl (Y30 (p := 0) ld_2.h rfl rfl (Y29 g232).2.2 rfl rfl) ?_
      refine zw ?_
      refine cnd h (fun hb233 h => ?_) fun hb233 h => ?_
      ·
       refine Ops.gv rfl rfl rfl rfl hb233 (Y1b Yat.h rfl rfl) ?_
       refine Ops.gv rfl rfl rfl rfl hb233 (Y1k (p := 5) ld_2.h rfl rfl rfl rfl) ?_
       refine zw ?_
       refine cnd h (fun hb234 h => ?_) fun hb234 h => ?_
       ·
        refine Ops.gv rfl rfl rfl rfl hb234 (Y1l (p := 2) (ds := [cI p0.room, cM Y99 9 p0.events, cM Y99 9 p0.parked]) Ybf.h rfl rfl rfl rfl rfl) ?_
        refine Ops.gv rfl rfl rfl rfl hb234 (Y1b Yav.h rfl rfl) ?_
        refine Ops.gv rfl rfl rfl rfl hb234 (Y1k (p := 5) ld_2.h rfl rfl rfl rfl) ?_
        refine Ops.gv rfl rfl rfl rfl hb234 (Y1b Yan.h rfl rfl) ?_
        refine Ops.gv rfl rfl rfl rfl hb234 (Y1k (p := 5) ld_2.h rfl rfl rfl rfl) ?_
        refine ob' h fun r235 g236 h => ?_
        refine Ops.ghd (ns := []) rfl rfl rfl rfl hb234 rfl (Y24 ((Z62 _ _ _).h _ g236) rfl rfl) ?_
        refine zw ?_
        exact ⟨(!r235), h, Y21.both (ns := [2, 2, 1, 1, 0, 0]) rfl rfl⟩
       refine zw ?_
       exact ⟨false, h, Y21.both (ns := [2, 2, 1, 1, 0, 0]) rfl rfl⟩
      refine zw ?_
      exact ⟨false, h, Y21.both (ns := [2, 2, 1, 1, 0, 0]) rfl rfl⟩
     intro x237 h
     replace h : Z67 l149 l150 l151 x152 r156 e158 r220 e225 r227 x237 = some y278 := h
     unfold Z67 at h
     refine cnd h (fun hb238 h => ?_) fun hb238 h => ?_
     ·
      refine AW.ct hb238 rfl ?_
      refine zw ?_
      refine ob' h fun e239 g240 h => ?_
      refine Ops.v rfl (Y2x (p := 4) Y9v.h rfl rfl rfl g240 rfl) ?_
      refine Ops.hd (ns := [4]) rfl rfl (Y33 (e' := 6) ld_2.h rfl rfl (One.val rfl) (Y29 g240).2.2 rfl rfl) ?_
      refine zw ?_
      exact ⟨(List.set (List.set l151 (Int.toNat r156) r227) (Int.toNat r156) 6), h, Y21.both (ns := [1, 1, 1, 1, 0, 0]) rfl rfl⟩
     refine AW.cf hb238 rfl ?_
     refine zw ?_
     exact ⟨(List.set l151 (Int.toNat r156) r227), h, Y21.both (ns := [0, 0, 0, 0, 0, 0]) rfl rfl⟩
    intro l241 h
    replace h : Z66 l149 l150 x152 r156 e158 r220 e225 l241 = some y278 := h
    unfold Z66 at h
    refine zw ?_
    refine rD [0,0,0,0,0,0] [3,9,12] [15] [0,4,8,13,16,24,28,32,37,40,44,49,22,54,56,63] ?_
    refine OpsD.v rfl rfl (Yq rfl rfl) ?_
    refine OpsD.v rfl rfl (Y14 rfl rfl) ?_
    refine OpsD.v rfl rfl (Y1b Yda.h rfl rfl) ?_
    refine OpsD.v rfl rfl (Y1k (p := 1) Ydb.h rfl rfl rfl rfl) ?_
    refine OpsD.v rfl rfl (Yq rfl rfl) ?_
    refine OpsD.v rfl rfl (Yq rfl rfl) ?_
    refine OpsD.v rfl rfl (Y14 rfl rfl) ?_
    refine OpsD.v rfl rfl (Y1b Ydc.h rfl rfl) ?_
    refine OpsD.v rfl rfl (Y1k (p := 1) Ydb.h rfl rfl rfl rfl) ?_
    refine OpsD.v rfl rfl (Yq rfl rfl) ?_
    refine OpsD.v rfl rfl (Y2x (p := 2) Yct.h rfl rfl rfl g226 rfl) ?_
    refine OpsD.v rfl rfl (Y30 (p := 2) Ycu.h rfl rfl (Y29 g226).2.2 rfl rfl) ?_
    refine OpsD.one ?_
    refine Y3n.h (ns := []) rfl rfl rfl (Y39 (k := Y9l) (ys := ([] : List Y93)) Ycv .nil rfl rfl rfl) ?_
    rintro _ _ ⟨b242, rfl, rfl⟩
    refine zw ?_
    refine ob' h fun u244 c243 h => ?_
    refine Y3n.h (ns := [0]) rfl rfl rfl (Y2r Ycv rfl rfl (Wo (Y3t c243)) (Y3w (by decide) c243) rfl) ?_
    rintro _ _ ⟨v245, rfl, rfl⟩
    refine ob' h fun e246 g247 h => ?_
    refine OpsD.v rfl rfl (Y2x (p := 3) Yct.h rfl rfl rfl g247 rfl) ?_
    refine OpsD.late (ns := [6, 3]) rfl rfl rfl (HOp.frz (t := 139) rfl Frz.arr (Y33 (e' := (([] : List Y93) ++ e225)) Ycu.h rfl rfl One.im (Y29 g247).2.2 rfl rfl)) ?_
    rintro _ _ ⟨rfl, rfl⟩
    refine OpsD.done ?_
    refine AW.seq ?_
    refine AW.cut (τ := Bool) (fun x251 => ⟨[(1, pt b1), (3, cI (p0.events.length : Int)), (4, pt b37), (5, cM kI64 1 r42), (6, cI x152), (7, cI r156), (8, pt b160), (153, C.bool x251)], [oB b1 139 [cI p0.room, cM Y99 9 p0.events, cM Y99 9 p0.parked], oB b37 215 [cM kI64 1 l38, cV v39, cV v40, cV v41], oA v39 27 Y9m 1 (List.set l149 (Int.toNat r156) r220), oA v40 27 Y9m 1 (List.set l150 (Int.toNat r156) (([] : List Y93) ++ e225)), oA v41 2 kI64 1 l241, oB b160 136 [cI e158.id, cI e158.room, cI e158.author, cI e158.kind, cI e158.key, cI e158.n, C.str e158.text, cM kI64 1 e158.prev, cI e158.time]]⟩) (fun x251 => Z65 l149 l150 x152 r156 e158 r220 e225 l241 x251 = some y278) ?_ ?_
    ·
     refine zw ?_
     refine ob' h fun e248 g249 h => ?_
     refine Ops.v rfl (Y2x (p := 4) Y9v.h rfl rfl rfl g249 rfl) ?_
     refine Ops.v rfl (Y30 (p := 4) ld_2.h rfl rfl (Y29 g249).2.2 rfl rfl) ?_
     refine zw ?_
     refine cnd h (fun hb250 h => ?_) fun hb250 h => ?_
     ·
      refine Ops.gv rfl rfl rfl rfl hb250 (Y1b Yat.h rfl rfl) ?_
      refine Ops.gv rfl rfl rfl rfl hb250 (Y1k (p := 5) ld_2.h rfl rfl rfl rfl) ?_
      refine zw ?_
      exact ⟨decide (e158.kind ≤ 6), h, Y21.both (ns := [1, 1, 1, 0, 0, 0]) rfl rfl⟩
     refine zw ?_
     exact ⟨false, h, Y21.both (ns := [1, 1, 1, 0, 0, 0]) rfl rfl⟩
    intro x251 h
    replace h : Z65 l149 l150 x152 r156 e158 r220 e225 l241 x251 = some y278 := h
    unfold Z65 at h
    refine cnd h (fun hb252 h => ?_) fun hb252 h => ?_
    ·
     refine AW.ct hb252 rfl ?_
     refine rD [0,0,0,0,0,0] [3,8,11,13,15,17] [21] [0,4,8,13,16,20,24,28,33,36,40,45,48,53,56,61,64,69,72,78,80,87] ?_
     refine OpsD.v rfl rfl (Yq rfl rfl) ?_
     refine OpsD.v rfl rfl (Y14 rfl rfl) ?_
     refine OpsD.v rfl rfl (Y1b Yda.h rfl rfl) ?_
     refine OpsD.v rfl rfl (Y1k (p := 1) Ydb.h rfl rfl rfl rfl) ?_
     refine OpsD.v rfl rfl (Yq rfl rfl) ?_
     refine OpsD.v rfl rfl (Yq rfl rfl) ?_
     refine OpsD.v rfl rfl (Y14 rfl rfl) ?_
     refine OpsD.v rfl rfl (Y1b Ydc.h rfl rfl) ?_
     refine OpsD.v rfl rfl (Y1k (p := 1) Ydb.h rfl rfl rfl rfl) ?_
     refine OpsD.v rfl rfl (Yq rfl rfl) ?_
     refine OpsD.v rfl rfl (Y2x (p := 2) Yct.h rfl rfl rfl g226 rfl) ?_
     refine OpsD.v rfl rfl (Y30 (p := 2) Ycu.h rfl rfl (Y29 g226).2.2 rfl rfl) ?_
     refine OpsD.v rfl rfl (Y1b Yat.h rfl rfl) ?_
     refine OpsD.v rfl rfl (Y1k (p := 5) ld_2.h rfl rfl rfl rfl) ?_
     refine OpsD.v rfl rfl (Y1b Yav.h rfl rfl) ?_
     refine OpsD.v rfl rfl (Y1k (p := 5) ld_2.h rfl rfl rfl rfl) ?_
     refine OpsD.v rfl rfl (Y1b Yan.h rfl rfl) ?_
     refine OpsD.v rfl rfl (Y1k (p := 5) ld_2.h rfl rfl rfl rfl) ?_
     refine OpsD.v rfl rfl (Y38 (ds := [cI e158.kind, cI e158.key, cI e158.id]) Yd1 Yd2 (Y42 rfl rfl) (.one rfl (One.val rfl) rfl rfl (.one rfl (One.val rfl) rfl rfl (.one rfl (One.val rfl) rfl rfl .nil))) rfl) ?_
     refine zw ?_
     refine dc h fun r253 g254 h => ?_
     refine ob' h fun e255 g256 h => ?_
     refine OpsD.v rfl rfl (Y2x (p := 3) Yct.h rfl rfl rfl g256 rfl) ?_
     refine OpsD.late (ns := [3]) rfl rfl rfl (Y33 (e' := r253) Ycu.h rfl rfl One.im (Y29 g256).2.2 rfl rfl) ?_
     rintro _ _ ⟨rfl, rfl⟩
     refine zw ?_
     exact ⟨((List.set l149 (Int.toNat r156) r220), (List.set (List.set l150 (Int.toNat r156) (([] : List Y93) ++ e225)) (Int.toNat r156) r253), l241), h, Y21.both (ns := [1, 1, 1, 0, 0]) rfl rfl⟩
    refine AW.cf hb252 rfl ?_
    refine zw ?_
    exact ⟨((List.set l149 (Int.toNat r156) r220), (List.set l150 (Int.toNat r156) (([] : List Y93) ++ e225)), l241), h, Y21.both (ns := [0, 0, 0, 0, 0]) rfl rfl⟩
   rintro ⟨l257, l258, l259⟩ h
   replace h : Z64 x152 l257 l258 l259 = some y278 := h
   unfold Z64 at h
   refine zw ?_
   exact lu h (gb [0, 0, 0, 0, 0])
  refine AW.cf hb153 rfl ?_
  refine AW.exit ?_
  refine lx h fun h => ?_
  exact ⟨(l149, l150, l151), h, Y21.both (ns := [1, 1, 1, 1]) rfl rfl⟩
 rintro ⟨l260, l261, l262⟩ h
 replace h : Z63 l38 l260 l261 l262 = some r := h
 unfold Z63 at h
 refine zw ?_
 refine AW.ret ?_
 rw [← Wj h]
 exact ⟨[pt b37], _, Y21.refl _, (.cons (.tmp rfl) .nil), [0, 0, 0, 0], _, _, rfl, ⟨b37, v39, v40, v41, rfl, rfl⟩⟩
instance Z6d' (p0 : Y90) : Sp Tryz.prog 179 [C.agg [cI p0.room, cM Y99 9 p0.events, cM Y99 9 p0.parked]] (Z6c p0) (fun r => C.ip [cM kI64 1 r.depths, cM Y9m 1 r.ahead, cM Y9m 1 r.behind, cM kI64 1 r.code]) := ⟨fun r h => Ok.freeze (Z6d p0 r h) (by rintro c qs ⟨b263, v264, v265, v266, rfl, rfl⟩; exact Frz.box (fS (FrzL.cons (os := [_]) (Frz.arr) (FrzL.cons (os := [_]) (Frz.arr) (FrzL.cons (os := [_]) (Frz.arr) (FrzL.nil))))))⟩

def Z6e (l164 : List Int) : Option (List Int) := some l164
def Z6f (x79 : Int) (l162 : List Int) : Option ((List Int × Int) ⊕ ((List Int))) := some (.inl (l162, (IntKind.i64.wrap (x79 + 1))))
def Z6g (p0 : Y90) (l78 : List Int) (x79 : Int) (x153 : Bool) : Option ((List Int × Int) ⊕ ((List Int))) := cond x153 ((getI p0.events x79).bind fun e155 => (chk (decide ((l78.length + [e155.id].length) * 8 ≤ 140737488355328))).bind fun u159 => Z6f x79 (l78 ++ [e155.id])) (Z6f x79 l78)
def Z6h (x118 : Int) (x152 : Bool) : Option ((Bool × Int) ⊕ (Bool)) := some (.inl (x152, (IntKind.i64.wrap (x118 + 1))))
def Z6i (x136 : Int) (x151 : Bool) : Option ((Bool × Int) ⊕ (Bool)) := some (.inl (x151, (IntKind.i64.wrap (x136 + 1))))
def Z6j (p0 : Y90) (x79 : Int) (x118 : Int) (x135 : Bool) (x136 : Int) (x142 : Bool) : Option ((Bool × Int) ⊕ (Bool)) := cond x142 (cond x135 ((getI p0.events x118).bind fun e145 => (getI e145.prev x136).bind fun e147 => (getI p0.events x79).bind fun e149 => Z6i x136 (e147 != e149.id)) (Z6i x136 false)) (some (.inr x135))
def Z6k (p0 : Y90) (p1 : List Bool) (x79 : Int) (x118 : Int) (x135 : Bool) (x136 : Int) : Option ((Bool × Int) ⊕ (Bool)) := (getI p1 x118).bind fun e137 => cond e137 ((getI p0.events x118).bind fun e140 => Z6j p0 x79 x118 x135 x136 (decide (x136 < (e140.prev.length : Int)))) (Z6j p0 x79 x118 x135 x136 false)
def Z6l (p0 : Y90) (p1 : List Bool) (x79 : Int) (x117 : Bool) (x118 : Int) : Option ((Bool × Int) ⊕ (Bool)) := cond (decide (x118 < (p0.events.length : Int))) ((iter (fun z166 => Z6k p0 p1 x79 x118 z166.1 z166.2) big (x117, 0)).bind fun y167 => Z6h x118 y167) (some (.inr x117))
def Z6m (p0 : Y90) (p1 : List Bool) (l78 : List Int) (x79 : Int) : Option ((List Int × Int) ⊕ ((List Int))) := cond (decide (x79 < (p0.events.length : Int))) ((getI p1 x79).bind fun e81 => (iter (fun z168 => Z6l p0 p1 x79 z168.1 z168.2) big (e81, 0)).bind fun y169 => Z6g p0 l78 x79 y169) (some (.inr l78))
def Z6n (p0 : Y90) (p1 : List Bool) : Option (List Int) := (iter (fun z170 => Z6m p0 p1 z170.1 z170.2) big (([] : List Int), 0)).bind fun y171 => Z6e y171
theorem Z6o (p0 : Y90) (p1 : List Bool) (r : List Int) (h : Z6n p0 p1 = some r) : Ok Tryz.prog 181 [C.agg [cI p0.room, cM Y99 9 p0.events, cM Y99 9 p0.parked], cM Y9n 1 p1] [] (fun c qs => ∃ (v165 : Value), c = cV v165 ∧ qs = [oA v165 2 kI64 1 r]) := by
 refine Ok.of_body (rs := [.tmp 4]) Tryz.func181 rfl rfl rfl rfl rfl fun X => ?_
 unfold Z6n at h
 refine zw ?_
 refine ox fun b1 => ?_
 refine zw ?_
 refine Ops.h (ns := []) rfl rfl (Y39 (k := kI64) (ys := ([] : List Int)) Yak .nil rfl rfl rfl) ?_
 rintro _ _ ⟨b2, rfl, rfl⟩
 refine Ops.v rfl (Yr rfl rfl) ?_
 refine Ops.nil ?_
 refine AW.seq ?_
 refine AW.cut (τ := List Int × Value) (fun (l164, v163) => ⟨[(5, cV v163)], [oA v163 2 kI64 1 l164]⟩) (fun (l164, v163) => Z6e l164 = some r) ?_ ?_
 ·
  refine zw ?_
  refine AW.lp h (fun (l78, x79) (v77 : Value) => ⟨[(1, cM Y9n 1 p1), (2, pt b1), (5, cV v77), (6, cI x79)], [oB b1 139 [cI p0.room, cM Y99 9 p0.events, cM Y99 9 p0.parked], oA v77 2 kI64 1 l78]⟩) (gb [1, 0]) ?_
  rintro ⟨l78, x79⟩ v77 y177 h
  refine zw ?_
  refine cnd h (fun hb80 h => ?_) fun hb80 h => ?_
  ·
   refine AW.ct hb80 rfl ?_
   refine zw ?_
   refine oi h fun e81 g82 h => ?_
   refine Ops.v rfl (Y1h ld_4.h rfl rfl) ?_
   refine Ops.v rfl (Yr rfl rfl) ?_
   refine Ops.nil ?_
   refine AW.seq ?_
   refine AW.cut (τ := Bool) (fun x153 => ⟨[(1, cM Y9n 1 p1), (2, pt b1), (5, cV v77), (6, cI x79), (7, C.bool x153)], [oB b1 139 [cI p0.room, cM Y99 9 p0.events, cM Y99 9 p0.parked], oA v77 2 kI64 1 l78]⟩) (fun x153 => Z6g p0 l78 x79 x153 = some y177) ?_ ?_
   ·
    refine zw ?_
    refine AW.lp (v := ()) h (fun (x117, x118) (_ : Unit) => ⟨[(1, cM Y9n 1 p1), (2, pt b1), (5, cV v77), (6, cI x79), (7, C.bool x117), (8, cI x118)], [oB b1 139 [cI p0.room, cM Y99 9 p0.events, cM Y99 9 p0.parked], oA v77 2 kI64 1 l78]⟩) (gb [0, 0]) ?_
    rintro ⟨x117, x118⟩ _ y184 h
    refine zw ?_
    refine cnd h (fun hb119 h => ?_) fun hb119 h => ?_
    ·
     refine AW.ct hb119 rfl ?_
     refine zw ?_
     refine AW.lp (v := ()) h (fun (x135, x136) (_ : Unit) => ⟨[(1, cM Y9n 1 p1), (2, pt b1), (5, cV v77), (6, cI x79), (7, C.bool x135), (8, cI x118), (9, cI x136)], [oB b1 139 [cI p0.room, cM Y99 9 p0.events, cM Y99 9 p0.parked], oA v77 2 kI64 1 l78]⟩) (gb [0, 0]) ?_
     rintro ⟨x135, x136⟩ _ y191 h
     refine AW.seq ?_
     refine AW.seq ?_
     refine AW.cut (τ := Bool) (fun x142 => ⟨[(1, cM Y9n 1 p1), (2, pt b1), (5, cV v77), (6, cI x79), (7, C.bool x135), (8, cI x118), (9, cI x136), (43, C.bool x142)], [oB b1 139 [cI p0.room, cM Y99 9 p0.events, cM Y99 9 p0.parked], oA v77 2 kI64 1 l78]⟩) (fun x142 => Z6j p0 x79 x118 x135 x136 x142 = some y191) go fun x142 h => ?_
     replace h : Z6j p0 x79 x118 x135 x136 x142 = some y191 := h
     unfold Z6j at h
     refine cnd h (fun hb143 h => ?_) fun hb143 h => ?_
     ·
      refine AW.ct hb143 rfl ?_
      refine zw ?_
      refine rD [0,0] [3,7,10,12,16] [] [0,4,8,13,16,20,24,29,32,36,41,44,49,52,56,60,65,68,72,76] ?_
      exact go
     exact go
    exact go
   intro x153 h
   replace h : Z6g p0 l78 x79 x153 = some y177 := h
   unfold Z6g at h
   refine zw ?_
   refine cnd h (fun hb154 h => ?_) fun hb154 h => ?_
   ·
    refine AW.ct hb154 rfl ?_
    refine zw ?_
    refine oi h fun e155 g156 h => ?_
    refine zw ?_
    refine Ops.h (ns := []) rfl rfl (Y39 (k := kI64) (ys := [e155.id]) Yak (.one rfl (One.val rfl) rfl rfl .nil) rfl rfl rfl) ?_
    rintro _ _ ⟨b157, rfl, rfl⟩
    refine ob' h fun u159 c158 h => ?_
    refine Ops.h (ns := [2, 0]) rfl rfl (Y2s Yak rfl rfl (Wo (Y3t c158)) (Y3w (by decide) c158) rfl) ?_
    rintro _ _ ⟨v160, rfl, rfl⟩
    exact go
   exact go
  exact go
 rintro ⟨l164, v163⟩ h
 replace h : Z6e l164 = some r := h
 unfold Z6e at h
 refine zw ?_
 refine AW.ret ?_
 rw [← Wj h]
 exact ⟨[cV v163], _, Y21.refl _, (.cons (.tmp rfl) .nil), [0], _, _, rfl, ⟨v163, rfl, rfl⟩⟩
instance Z6o' (p0 : Y90) (p1 : List Bool) : Sp Tryz.prog 181 [C.agg [cI p0.room, cM Y99 9 p0.events, cM Y99 9 p0.parked], cM Y9n 1 p1] (Z6n p0 p1) (fun r => cM kI64 1 r) := ⟨fun r h => Ok.freeze (Z6o p0 p1 r h) (by rintro c qs ⟨v165, rfl, rfl⟩; exact Frz.arr)⟩

def Z6p (l16 : List Bool) : Option (List Bool) := some l16
def Z6q (p0 : Y94) (l9 : List Bool) (x10 : Int) : Option ((List Bool × Int) ⊕ ((List Bool))) := cond (decide (x10 < (l9.length : Int))) ((getI p0.code x10).bind fun e12 => (getI l9 x10).bind fun e14 => some (.inl ((List.set l9 (Int.toNat x10) (e12 == 0)), (IntKind.i64.wrap (x10 + 1))))) (some (.inr l9))
def Z6r (p0 : Y94) : Option (List Bool) := (chk (decide (0 ≤ (p0.code.length : Int) ∧ (p0.code.length : Int) * 1 ≤ 140737488355328))).bind fun u2 => (iter (fun z18 => Z6q p0 z18.1 z18.2) big ((List.replicate (Int.toNat (p0.code.length : Int)) false), 0)).bind fun y19 => Z6p y19
theorem Z6s (p0 : Y94) (r : List Bool) (h : Z6r p0 = some r) : Ok Tryz.prog 180 [C.ip [cM kI64 1 p0.depths, cM Y9m 1 p0.ahead, cM Y9m 1 p0.behind, cM kI64 1 p0.code]] [] (fun c qs => ∃ (v17 : Value), c = cV v17 ∧ qs = [oA v17 4 Y9n 1 r]) := by
 refine Ok.of_body (rs := [.tmp 2]) Tryz.func180 rfl rfl rfl rfl rfl fun X => ?_
 unfold Z6r at h
 refine zw ?_
 refine ob' h fun u2 c1 h => ?_
 refine Ops.h (ns := []) rfl rfl (Y3b (k := Y9n) (z := false) Yd3 ze_4 (Y42 rfl rfl) rfl rfl (Y3x c1).1 (Y3x c1).2 (Y3y (by decide) c1) rfl) ?_
 rintro _ _ ⟨b3, rfl, rfl⟩
 refine Ops.v rfl (Yr rfl rfl) ?_
 refine Ops.nil ?_
 refine AW.seq ?_
 refine AW.cut (τ := List Bool) (fun l16 => ⟨[(3, cV (sn b3 (p0.code.length : Int)))], [oA (sn b3 (p0.code.length : Int)) 4 Y9n 1 l16]⟩) (fun l16 => Z6p l16 = some r) ?_ ?_
 ·
  refine zw ?_
  refine AW.lp (v := ()) h (fun (l9, x10) (_ : Unit) => ⟨[(0, C.ip [cM kI64 1 p0.depths, cM Y9m 1 p0.ahead, cM Y9m 1 p0.behind, cM kI64 1 p0.code]), (3, cV (sn b3 (p0.code.length : Int))), (4, cI x10)], [oA (sn b3 (p0.code.length : Int)) 4 Y9n 1 l9]⟩) (gb [0]) ?_
  rintro ⟨l9, x10⟩ _ y25 h
  refine zw ?_
  refine cnd h (fun hb11 h => ?_) fun hb11 h => ?_
  ·
   refine AW.ct hb11 rfl ?_
   refine zw ?_
   refine oi h fun e12 g13 h => ?_
   refine zw ?_
   refine oi h fun e14 g15 h => ?_
   refine Ops.hd (ns := [0]) rfl rfl (Y33 (e' := (e12 == 0)) ld_4.h rfl rfl (One.val rfl) (Y29 g15).2.2 rfl rfl) ?_
   exact go
  exact go
 intro l16 h
 replace h : Z6p l16 = some r := h
 unfold Z6p at h
 refine zw ?_
 refine AW.ret ?_
 rw [← Wj h]
 exact ⟨[cV (sn b3 (p0.code.length : Int))], _, Y21.refl _, (.cons (.tmp rfl) .nil), [0], _, _, rfl, ⟨(sn b3 (p0.code.length : Int)), rfl, rfl⟩⟩
instance Z6s' (p0 : Y94) : Sp Tryz.prog 180 [C.ip [cM kI64 1 p0.depths, cM Y9m 1 p0.ahead, cM Y9m 1 p0.behind, cM kI64 1 p0.code]] (Z6r p0) (fun r => cM Y9n 1 r) := ⟨fun r h => Ok.freeze (Z6s p0 r h) (by rintro c qs ⟨v17, rfl, rfl⟩; exact Frz.arr)⟩

def Z6t (p0 : Y90) (p1 : Y94) (l57 : List (List Y93)) : Option (List Y93) := (Z5s p0 p1.depths l57).bind fun r63 => some r63
def Z6u (p0 : Y90) (p1 : Y94) (r2 : List Int) (l30 : List (List Y93)) (x31 : Int) : Option ((List (List Y93) × Int) ⊕ ((List (List Y93)))) := cond (decide (x31 < (r2.length : Int))) ((getI r2 x31).bind fun e46 => (Z2t p0.events e46).bind fun r48 => (getI p1.behind r48).bind fun e50 => (chk (decide ((l30.length + [e50].length) * 24 ≤ 140737488355328))).bind fun u54 => some (.inl ((l30 ++ [e50]), (IntKind.i64.wrap (x31 + 1))))) (some (.inr l30))
def Z6v (p0 : Y90) (p1 : Y94) (p2 : List Bool) : Option (List Y93) := (Z6n p0 p2).bind fun r2 => (iter (fun z66 => Z6u p0 p1 r2 z66.1 z66.2) big (([] : List (List Y93)), 0)).bind fun y67 => Z6t p0 p1 y67
instance Z6w (p0 : Y90) (p1 : Y94) (p2 : List Bool) : Sp Tryz.prog 132 [C.agg [cI p0.room, cM Y99 9 p0.events, cM Y99 9 p0.parked], C.ip [cM kI64 1 p1.depths, cM Y9m 1 p1.ahead, cM Y9m 1 p1.behind, cM kI64 1 p1.code], cM Y9n 1 p2] (Z6v p0 p1 p2) (fun r => cM Y9l 3 r) := sp Tryz.func132 rfl rfl fun r X h => by
 unfold Z6v at h
 refine zw ?_
 refine ox fun b1 => ?_
 refine zw ?_
 refine oc h fun r2 g3 h => ?_
 refine zw ?_
 refine Ops.h (ns := []) rfl rfl (Y39 (k := Y9m) (ys := ([] : List (List Y93))) Yd6 .nil rfl rfl rfl) ?_
 rintro _ _ ⟨b4, rfl, rfl⟩
 refine Ops.v rfl (Yr rfl rfl) ?_
 refine Ops.nil ?_
 refine AW.seq ?_
 refine AW.cut (τ := List (List Y93) × Value) (fun (l57, v56) => ⟨[(1, C.ip [cM kI64 1 p1.depths, cM Y9m 1 p1.ahead, cM Y9m 1 p1.behind, cM kI64 1 p1.code]), (3, pt b1), (8, cV v56)], [oB b1 139 [cI p0.room, cM Y99 9 p0.events, cM Y99 9 p0.parked], oA v56 27 Y9m 1 l57]⟩) (fun (l57, v56) => Z6t p0 p1 l57 = some r) ?_ ?_
 ·
  refine zw ?_
  refine AW.lp h (fun (l30, x31) (v29 : Value) => ⟨[(1, C.ip [cM kI64 1 p1.depths, cM Y9m 1 p1.ahead, cM Y9m 1 p1.behind, cM kI64 1 p1.code]), (3, pt b1), (7, cM kI64 1 r2), (8, cV v29), (9, cI x31)], [oB b1 139 [cI p0.room, cM Y99 9 p0.events, cM Y99 9 p0.parked], oA v29 27 Y9m 1 l30]⟩) (gb [1, 0]) ?_
  rintro ⟨l30, x31⟩ v29 y73 h
  refine zw ?_
  refine cnd h (fun hb32 h => ?_) fun hb32 h => ?_
  ·
   refine AW.ct hb32 rfl ?_
   refine zw ?_
   refine rD [0] [4,6,10,13] [] [0,4,8,12,17,20,25,28,32,36,41,46,48,53,58,62,64] ?_
   refine zw ?_
   refine di h fun e46 g47 h => ?_
   refine zw ?_
   refine dc h fun r48 g49 h => ?_
   refine di h fun e50 g51 h => ?_
   refine OpsD.v rfl rfl (Y1h Ycu.h rfl rfl) ?_
   refine OpsD.one ?_
   refine Y3n.h (ns := []) rfl rfl rfl (Y39 (k := Y9m) (ys := [e50]) Yd6 (.one rfl One.im rfl rfl .nil) rfl rfl rfl) ?_
   rintro _ _ ⟨b52, rfl, rfl⟩
   refine zw ?_
   refine ob' h fun u54 c53 h => ?_
   refine Y3n.h (ns := [1, 0]) rfl rfl rfl (Y2s Yd6 rfl rfl (Wo (Y3t c53)) (Y3w (by decide) c53) rfl) ?_
   rintro _ _ ⟨v55, rfl, rfl⟩
   exact go
  exact go
 rintro ⟨l57, v56⟩ h
 replace h : Z6t p0 p1 l57 = some r := h
 unfold Z6t at h
 refine zw ?_
 refine rD [0] [0,4] [] [1,4,8,12,17,20,26,28] ?_
 refine zw ?_
 refine ob' h fun r63 g64 h => ?_
 refine Y3n.h (ns := [0]) rfl rfl rfl (Y24 (Ok.freezeL (Ok.lend (Z5t p0 p1.depths l57 _ g64) (fT (fT (FrzT.cons (os := [_]) Frz.arr (FrzT.nil)))) (by rintro _ _ ⟨_, rfl, rfl⟩; exact ⟨(Y44.val _), Y48 (Y46.arr Yd0) (Y47)⟩)) (by rintro c qs ⟨v65, rfl, rfl⟩; exact Frz.arr)) rfl rfl) ?_
 rintro _ _ ⟨rfl, rfl⟩
 exact go

def Z6x (p0 : Y91) (l147 : List Y94) (l149 : List (List Int)) (l151 : List (List Y93)) : Option Y95 := some (Y95.mk p0 l147 l149 l151)
def Z6y (l76 : List Y94) (l78 : List (List Int)) (l80 : List (List Y93)) (x81 : Int) (r86 : Y94) (r106 : List Y93) (l140 : List Int) : Option ((List Y94 × List (List Int) × List (List Y93) × Int) ⊕ ((List Y94 × List (List Int) × List (List Y93)))) := (chk (decide ((l78.length + [l140].length) * 24 ≤ 140737488355328))).bind fun u143 => some (.inl ((l76 ++ [r86]), (l78 ++ [l140]), (l80 ++ [r106]), (IntKind.i64.wrap (x81 + 1))))
def Z6z (x128 : Int) (l139 : List Int) : Option ((List Int × Int) ⊕ ((List Int))) := some (.inl (l139, (IntKind.i64.wrap (x128 + 1))))
def Z70 (l127 : List Int) (x128 : Int) (r132 : Int) (x135 : Bool) : Option ((List Int × Int) ⊕ ((List Int))) := cond x135 ((getI l127 r132).bind fun e137 => Z6z x128 (List.set l127 (Int.toNat r132) (IntKind.i64.wrap (x128 + 1)))) (Z6z x128 l127)
def Z71 (p0 : Y91) (e83 : Y90) (l127 : List Int) (x128 : Int) : Option ((List Int × Int) ⊕ ((List Int))) := cond (decide (x128 < (p0.stream.length : Int))) ((getI p0.stream x128).bind fun e130 => (Z2t e83.events e130.id).bind fun r132 => cond (e130.room == e83.room) (Z70 l127 x128 r132 (decide (r132 ≥ 0))) (Z70 l127 x128 r132 false)) (some (.inr l127))
def Z72 (p0 : Y91) (l76 : List Y94) (l78 : List (List Int)) (l80 : List (List Y93)) (x81 : Int) : Option ((List Y94 × List (List Int) × List (List Y93) × Int) ⊕ ((List Y94 × List (List Int) × List (List Y93)))) := cond (decide (x81 < (p0.rooms.length : Int))) ((getI p0.rooms x81).bind fun e83 => (Z6c e83).bind fun r86 => (chk (decide ((l76.length + [r86].length) * 8 ≤ 140737488355328))).bind fun u90 => (Z6r r86).bind fun r104 => (Z6v e83 r86 r104).bind fun r106 => (chk (decide ((l80.length + [r106].length) * 24 ≤ 140737488355328))).bind fun u110 => (chk (decide (0 ≤ (e83.events.length : Int) ∧ (e83.events.length : Int) * 8 ≤ 140737488355328))).bind fun u114 => (iter (fun z156 => Z71 p0 e83 z156.1 z156.2) big ((List.replicate (Int.toNat (e83.events.length : Int)) 0), 0)).bind fun y157 => Z6y l76 l78 l80 x81 r86 r106 y157) (some (.inr (l76, l78, l80)))
def Z73 (p0 : Y91) : Option Y95 := (iter (fun z158 => Z72 p0 z158.1 z158.2.1 z158.2.2.1 z158.2.2.2) big ([], [], [], 0)).bind fun (y159, y160, y161) => Z6x p0 y159 y160 y161
theorem Z74 (p0 : Y91) (r : Y95) (h : Z73 p0 = some r) : Ok Tryz.prog 130 [C.agg [cM Y9f 3 p0.rooms, cM Y9b 2 p0.stream]] [] (fun c qs => ∃ (b152 : Nat) (v153 : Value) (v154 : Value) (v155 : Value), c = pt b152 ∧ qs = [oB b152 156 [cM Y9f 3 r.h.rooms, cM Y9b 2 r.h.stream, cV v153, cV v154, cV v155], oA v153 182 Y9o 1 r.rooms, oA v154 57 Y9p 1 r.pos, oA v155 27 Y9m 1 r.now]) := by
 refine Ok.of_body (rs := [.tmp 2]) Tryz.func130 rfl rfl rfl rfl rfl fun X => ?_
 unfold Z73 at h
 refine zw ?_
 refine ox fun b1 => ?_
 refine zw ?_
 refine Ops.v rfl (Y38 (ds := [cM Y9f 3 p0.rooms, cM Y9b 2 p0.stream, cV s0, cV s0, cV s0]) Ydf Ydg (Y42 rfl rfl) (.agg rfl rfl rfl .nil) rfl) ?_
 refine ox fun b2 => ?_
 refine Ops.v rfl (Yr rfl rfl) ?_
 refine Ops.nil ?_
 refine AW.seq ?_
 refine AW.cut (τ := List Y94 × List (List Int) × List (List Y93) × Value × Value × Value) (fun (l147, l149, l151, v146, v148, v150) => ⟨[(3, pt b2)], [oB b2 156 [cM Y9f 3 p0.rooms, cM Y9b 2 p0.stream, cV v146, cV v148, cV v150], oA v146 182 Y9o 1 l147, oA v148 57 Y9p 1 l149, oA v150 27 Y9m 1 l151]⟩) (fun (l147, l149, l151, v146, v148, v150) => Z6x p0 l147 l149 l151 = some r) ?_ ?_
 ·
  refine zw ?_
  refine ob' h fun o162 g163 q164 => ?_
  refine AW.loop (τ := List Y94 × List (List Int) × List (List Y93) × Int × Value × Value × Value) (x := ([], [], [], 0, s0, s0, s0)) (fun (l76, l78, l80, x81, v75, v77, v79) => ⟨[(1, pt b1), (3, pt b2), (4, cI x81)], [oB b1 32 [cM Y9f 3 p0.rooms, cM Y9b 2 p0.stream], oB b2 156 [cM Y9f 3 p0.rooms, cM Y9b 2 p0.stream, cV v75, cV v77, cV v79], oA v75 182 Y9o 1 l76, oA v77 57 Y9p 1 l78, oA v79 27 Y9m 1 l80]⟩) (fun k (l76, l78, l80, x81, v75, v77, v79) => iter (fun z158 => Z72 p0 z158.1 z158.2.1 z158.2.2.1 z158.2.2.2) k (l76, l78, l80, x81) = some o162) g163 ((Y21.nil 182 Y9o 1).trans ((Y21.nil 57 Y9p 1).trans ((Y21.nil 27 Y9m 1).trans (Y21.both (ns := [4, 3, 2, 1, 0]) rfl rfl)))) ?_
  rintro k ⟨l76, l78, l80, x81, v75, v77, v79⟩ i166
  refine Y41 (show iter (fun z158 => Z72 p0 z158.1 z158.2.1 z158.2.2.1 z158.2.2.2) k (l76, l78, l80, x81) = some o162 from i166) fun k165 y167 hlt_k165 h h168 => ?_
  replace h : Z72 p0 l76 l78 l80 x81 = some y167 := h
  unfold Z72 at h
  refine zw ?_
  refine cnd h (fun hb82 h => ?_) fun hb82 h => ?_
  ·
   refine AW.ct hb82 rfl ?_
   refine zw ?_
   refine oi h fun e83 g84 h => ?_
   refine zw ?_
   refine Ops.h (ns := []) rfl rfl (Y1p (cs := [cI 0, cV s0, cV s0]) Yb9 (Y42 rfl rfl) rfl) ?_
   rintro _ _ ⟨b85, rfl, rfl⟩
   refine Ops.hd (ns := [0]) rfl rfl (Y1u (gs := [cI e83.room, cM Y99 9 e83.events, cM Y99 9 e83.parked]) Ybf.h rfl rfl rfl rfl rfl) ?_
   refine zw ?_
   refine oc h fun r86 g87 h => ?_
   refine zw ?_
   refine Ops.h (ns := []) rfl rfl (Y39 (k := Y9o) (ys := [r86]) Ydj (.one rfl One.ip rfl rfl .nil) rfl rfl rfl) ?_
   rintro _ _ ⟨b88, rfl, rfl⟩
   refine ob' h fun u90 c89 h => ?_
   refine Ops.h (ns := [4, 0]) rfl rfl (Y2s Ydj rfl rfl (Wo (Y3t c89)) (Y3w (by decide) c89) rfl) ?_
   rintro _ _ ⟨v91, rfl, rfl⟩
   refine Ops.v rfl (Y14 rfl rfl) ?_
   refine Ops.v rfl (Y1b Ydh.h rfl rfl) ?_
   refine Ops.learn (Sim.arr_one (p := 0) rfl) fun n92 => ?_
   refine Ops.hd (ns := [3]) rfl rfl (Y1t (gs := [cM Y9f 3 p0.rooms, cM Y9b 2 p0.stream, cV v91, cV v77, cV v79]) Ydi.h rfl rfl (One.val n92) rfl rfl) ?_
   refine zw ?_
   refine rD [0,0,0,0,0] [4,5] [14] [0,4,8,12,17,21,24,28,34,38,42,46,48,52,59] ?_
   refine zw ?_
   refine dc h fun r104 g105 h => ?_
   refine zw ?_
   refine dc h fun r106 g107 h => ?_
   refine OpsD.one ?_
   refine Y3n.h (ns := []) rfl rfl rfl (Y39 (k := Y9m) (ys := [r106]) Yd6 (.one rfl One.im rfl rfl .nil) rfl rfl rfl) ?_
   rintro _ _ ⟨b108, rfl, rfl⟩
   refine zw ?_
   refine ob' h fun u110 c109 h => ?_
   refine Y3n.h (ns := [1, 0]) rfl rfl rfl (Y2s Yd6 rfl rfl (Wo (Y3t c109)) (Y3w (by decide) c109) rfl) ?_
   rintro _ _ ⟨v111, rfl, rfl⟩
   refine OpsD.v rfl rfl (Y14 rfl rfl) ?_
   refine OpsD.v rfl rfl (Y1b Ydk.h rfl rfl) ?_
   refine OpsD.learn (Sim.arr_one (p := 5) rfl) fun n112 => ?_
   refine OpsD.late (ns := [0]) rfl rfl rfl (Y1t (gs := [cM Y9f 3 p0.rooms, cM Y9b 2 p0.stream, cV v91, cV v77, cV v111]) Ydb.h rfl rfl (One.val n112) rfl rfl) ?_
   rintro _ _ ⟨rfl, rfl⟩
   refine zw ?_
   refine ob' h fun u114 c113 h => ?_
   refine Ops.h (ns := []) rfl rfl (Y3b (k := kI64) (z := 0) Yak ze_2 (Y42 rfl rfl) rfl rfl (Y3x c113).1 (Y3x c113).2 (Y3y (by decide) c113) rfl) ?_
   rintro _ _ ⟨b115, rfl, rfl⟩
   refine Ops.v rfl (Yr rfl rfl) ?_
   refine Ops.nil ?_
   refine AW.seq ?_
   refine AW.cut (τ := List Int) (fun l140 => ⟨[(1, pt b1), (3, pt b2), (4, cI x81), (7, cV (sn b115 (e83.events.length : Int)))], [oB b1 32 [cM Y9f 3 p0.rooms, cM Y9b 2 p0.stream], oB b2 156 [cM Y9f 3 p0.rooms, cM Y9b 2 p0.stream, cV v91, cV v77, cV v111], oA v91 182 Y9o 1 (l76 ++ [r86]), oA v77 57 Y9p 1 l78, oA v111 27 Y9m 1 (l80 ++ [r106]), oA (sn b115 (e83.events.length : Int)) 2 kI64 1 l140]⟩) (fun l140 => Z6y l76 l78 l80 x81 r86 r106 l140 = some y167) ?_ ?_
   ·
    refine zw ?_
    refine AW.lp (v := ()) h (fun (l127, x128) (_ : Unit) => ⟨[(1, pt b1), (3, pt b2), (4, cI x81), (5, pt b85), (7, cV (sn b115 (e83.events.length : Int))), (8, cI x128)], [oB b1 32 [cM Y9f 3 p0.rooms, cM Y9b 2 p0.stream], oB b2 156 [cM Y9f 3 p0.rooms, cM Y9b 2 p0.stream, cV v91, cV v77, cV v111], oA v91 182 Y9o 1 (l76 ++ [r86]), oA v77 57 Y9p 1 l78, oA v111 27 Y9m 1 (l80 ++ [r106]), oB b85 139 [cI e83.room, cM Y99 9 e83.events, cM Y99 9 e83.parked], oA (sn b115 (e83.events.length : Int)) 2 kI64 1 l127]⟩) (gb [4, 1, 1, 2, 2, 1, 0]) ?_
    rintro ⟨l127, x128⟩ _ y174 h
    refine zw ?_
    refine cnd h (fun hb129 h => ?_) fun hb129 h => ?_
    ·
     refine AW.ct hb129 rfl ?_
     refine AW.skip ?_
     refine AW.seq ?_
     refine AW.cut (τ := List Int) (fun l139 => ⟨[(1, pt b1), (3, pt b2), (4, cI x81), (5, pt b85), (7, cV (sn b115 (e83.events.length : Int))), (8, cI x128)], [oB b1 32 [cM Y9f 3 p0.rooms, cM Y9b 2 p0.stream], oB b2 156 [cM Y9f 3 p0.rooms, cM Y9b 2 p0.stream, cV v91, cV v77, cV v111], oA v91 182 Y9o 1 (l76 ++ [r86]), oA v77 57 Y9p 1 l78, oA v111 27 Y9m 1 (l80 ++ [r106]), oB b85 139 [cI e83.room, cM Y99 9 e83.events, cM Y99 9 e83.parked], oA (sn b115 (e83.events.length : Int)) 2 kI64 1 l139]⟩) (fun l139 => Z6z x128 l139 = some y174) ?_ ?_
     ·
      refine zw ?_
      refine rD [0,0,0,0,0,0,0] [1,3,7] [] [0,5,8,13,16,20,24,29,34,36] ?_
      refine OpsD.v rfl rfl (Y1b Ybc.h rfl rfl) ?_
      refine OpsD.v rfl rfl (Y1k (p := 5) Ybd.h rfl rfl rfl rfl) ?_
      refine zw ?_
      refine di h fun e130 g131 h => ?_
      refine zw ?_
      refine dc h fun r132 g133 h => ?_
      refine OpsD.v rfl rfl (Yr rfl rfl) ?_
      refine OpsD.done ?_
      refine AW.seq ?_
      refine AW.cut (τ := Bool) (fun x135 => ⟨[(1, pt b1), (3, pt b2), (4, cI x81), (5, pt b85), (7, cV (sn b115 (e83.events.length : Int))), (8, cI x128), (9, cI r132), (83, C.bool x135)], [oB b1 32 [cM Y9f 3 p0.rooms, cM Y9b 2 p0.stream], oB b2 156 [cM Y9f 3 p0.rooms, cM Y9b 2 p0.stream, cV v91, cV v77, cV v111], oA v91 182 Y9o 1 (l76 ++ [r86]), oA v77 57 Y9p 1 l78, oA v111 27 Y9m 1 (l80 ++ [r106]), oB b85 139 [cI e83.room, cM Y99 9 e83.events, cM Y99 9 e83.parked], oA (sn b115 (e83.events.length : Int)) 2 kI64 1 l127]⟩) (fun x135 => Z70 l127 x128 r132 x135 = some y174) ?_ ?_
      ·
       refine rD [0,0,0,0,0,0,0] [1,5,7] [] [0,5,8,12,16,21,24,29,32,36,40,44,48] ?_
       refine OpsD.v rfl rfl (Y1b Ybx.h rfl rfl) ?_
       refine OpsD.v rfl rfl (Y1k (p := 0) Yby.h rfl rfl rfl rfl) ?_
       refine OpsD.v rfl rfl (Yq rfl rfl) ?_
       refine OpsD.v rfl rfl (Y2g Ybt.h rfl rfl g131 rfl) ?_
       refine OpsD.v rfl rfl (Y1c Ybn.h rfl rfl rfl) ?_
       refine OpsD.v rfl rfl (Y1h ld_2.h rfl rfl) ?_
       refine OpsD.v rfl rfl (Y1b Ybb.h rfl rfl) ?_
       refine OpsD.v rfl rfl (Y1k (p := 5) ld_2.h rfl rfl rfl rfl) ?_
       refine zw ?_
       refine cnd h (fun hb134 h => ?_) fun hb134 h => ?_
       ·
        refine zw ?_
        exact ⟨decide (r132 ≥ 0), h, Y21.both (ns := [0, 0, 0, 0, 0, 0, 0]) rfl rfl⟩
       refine zw ?_
       exact ⟨false, h, Y21.both (ns := [0, 0, 0, 0, 0, 0, 0]) rfl rfl⟩
      intro x135 h
      replace h : Z70 l127 x128 r132 x135 = some y174 := h
      unfold Z70 at h
      refine cnd h (fun hb136 h => ?_) fun hb136 h => ?_
      ·
       refine AW.ct hb136 rfl ?_
       refine zw ?_
       refine ob' h fun e137 g138 h => ?_
       refine Ops.v rfl (Y2x (p := 6) Y9v.h rfl rfl rfl g138 rfl) ?_
       refine Ops.hd (ns := [6]) rfl rfl (Y33 (e' := (IntKind.i64.wrap (x128 + 1))) ld_2.h rfl rfl (One.val rfl) (Y29 g138).2.2 rfl rfl) ?_
       refine zw ?_
       exact ⟨(List.set l127 (Int.toNat r132) (IntKind.i64.wrap (x128 + 1))), h, Y21.both (ns := [1, 1, 1, 1, 1, 1, 0]) rfl rfl⟩
      refine AW.cf hb136 rfl ?_
      refine zw ?_
      exact ⟨l127, h, Y21.both (ns := [0, 0, 0, 0, 0, 0, 0]) rfl rfl⟩
     intro l139 h
     replace h : Z6z x128 l139 = some y174 := h
     unfold Z6z at h
     refine zw ?_
     exact lu h (gb [0, 0, 0, 0, 0, 0, 0])
    refine AW.cf hb129 rfl ?_
    refine AW.exit ?_
    refine lx h fun h => ?_
    exact ⟨l127, h, Y21.both (ns := [0, 0, 0, 0, 0, 1]) rfl rfl⟩
   intro l140 h
   replace h : Z6y l76 l78 l80 x81 r86 r106 l140 = some y167 := h
   unfold Z6y at h
   refine zw ?_
   refine Ops.h (ns := [5]) rfl rfl (HOp.frz (t := 94) rfl Frz.arr (Y39 (k := Y9p) (ys := [l140]) Ydn (.one rfl One.im rfl rfl .nil) rfl rfl rfl)) ?_
   rintro _ _ ⟨b141, rfl, rfl⟩
   refine ob' h fun u143 c142 h => ?_
   refine Ops.h (ns := [4, 0]) rfl rfl (Y2s Ydn rfl rfl (Wo (Y3t c142)) (Y3w (by decide) c142) rfl) ?_
   rintro _ _ ⟨v144, rfl, rfl⟩
   refine Ops.v rfl (Y14 rfl rfl) ?_
   refine Ops.v rfl (Y1b Ydl.h rfl rfl) ?_
   refine Ops.learn (Sim.arr_one (p := 0) rfl) fun n145 => ?_
   refine Ops.hd (ns := [2]) rfl rfl (Y1t (gs := [cM Y9f 3 p0.rooms, cM Y9b 2 p0.stream, cV v91, cV v144, cV v111]) Ydm.h rfl rfl (One.val n145) rfl rfl) ?_
   refine zw ?_
   obtain rfl := Wj h
   exact ⟨k165, ((l76 ++ [r86]), (l78 ++ [l140]), (l80 ++ [r106]), (IntKind.i64.wrap (x81 + 1)), v91, v144, v111), hlt_k165, h168, Y21.both (ns := [2, 0, 1, 0, 0]) rfl rfl⟩
  refine AW.cf hb82 rfl ?_
  refine AW.exit ?_
  obtain rfl := Wj h
  obtain rfl := Wj h168
  replace h := q164
  exact ⟨(l76, l78, l80, v75, v77, v79), h, Y21.both (ns := [1, 1, 1, 1]) rfl rfl⟩
 rintro ⟨l147, l149, l151, v146, v148, v150⟩ h
 replace h : Z6x p0 l147 l149 l151 = some r := h
 unfold Z6x at h
 refine zw ?_
 refine AW.ret ?_
 rw [← Wj h]
 exact ⟨[pt b2], _, Y21.refl _, (.cons (.tmp rfl) .nil), [0, 0, 0, 0], _, _, rfl, ⟨b2, v146, v148, v150, rfl, rfl⟩⟩
instance Z74' (p0 : Y91) : Sp Tryz.prog 130 [C.agg [cM Y9f 3 p0.rooms, cM Y9b 2 p0.stream]] (Z73 p0) (fun r => C.ip [cM Y9f 3 r.h.rooms, cM Y9b 2 r.h.stream, cM Y9o 1 r.rooms, cM Y9p 1 r.pos, cM Y9m 1 r.now]) := ⟨fun r h => Ok.freeze (Z74 p0 r h) (by rintro c qs ⟨b152, v153, v154, v155, rfl, rfl⟩; exact Frz.box (fS (fS (FrzL.cons (os := [_]) (Frz.arr) (FrzL.cons (os := [_]) (Frz.arr) (FrzL.cons (os := [_]) (Frz.arr) (FrzL.nil)))))))⟩

def Z75 (p0 : Y95) (x181 : Int) : Option Bool := some (x181 == (p0.h.stream.length : Int))
def Z76 (x91 : Int) (x180 : Int) : Option ((Int × Int) ⊕ (Bool ⊕ Int)) := some (.inl (x180, (IntKind.i64.wrap (x91 + 1))))
def Z77 (x138 : Int) (x179 : Int) : Option ((Int × Int) ⊕ (Bool ⊕ Int)) := some (.inl (x179, (IntKind.i64.wrap (x138 + 1))))
def Z78 (x137 : Int) (x138 : Int) (e146 : Int) : Option ((Int × Int) ⊕ (Bool ⊕ Int)) := cond (decide (e146 > 0)) (Z77 x138 (IntKind.i64.wrap (x137 + 1))) (Z77 x138 x137)
def Z79 (e93 : Y90) (x138 : Int) (e144 : List Int) (e146 : Int) (x163 : Int) (x167 : Bool) : Option (Int ⊕ (Bool ⊕ Unit)) := cond x167 ((getI e93.events x138).bind fun e169 => (getI e169.prev x163).bind fun e171 => (Z2t e93.events e171).bind fun r173 => (getI e144 r173).bind fun e175 => cond (decide (e175 ≥ e146)) (some (.inr (.inl false))) (some (.inl (IntKind.i64.wrap (x163 + 1))))) (some (.inr (.inr ())))
def Z7a (e93 : Y90) (x138 : Int) (e144 : List Int) (e146 : Int) (x163 : Int) : Option (Int ⊕ (Bool ⊕ Unit)) := (getI e93.events x138).bind fun e164 => cond (decide (x163 < (e164.prev.length : Int))) (Z79 e93 x138 e144 e146 x163 (decide (e146 > 0))) (Z79 e93 x138 e144 e146 x163 false)
def Z7b (p0 : Y95) (x91 : Int) (e93 : Y90) (x137 : Int) (x138 : Int) : Option ((Int × Int) ⊕ (Bool ⊕ Int)) := cond (decide (x138 < (e93.events.length : Int))) ((getI p0.rooms x91).bind fun e140 => (getI e140.code x138).bind fun e142 => (getI p0.pos x91).bind fun e144 => (getI e144 x138).bind fun e146 => cond ((e142 == 0) == decide (e146 > 0)) ((iter (Z7a e93 x138 e144 e146) big 0).bind (fun z183 => match z183 with | .inl y182 => some (.inr (.inl y182)) | .inr () => Z78 x137 x138 e146)) (some (.inr (.inl false)))) (some (.inr (.inr x137)))
def Z7c (p0 : Y95) (x90 : Int) (x91 : Int) : Option ((Int × Int) ⊕ (Bool ⊕ Int)) := cond (decide (x91 < (p0.h.rooms.length : Int))) ((getI p0.h.rooms x91).bind fun e93 => (iter (fun z184 => Z7b p0 x91 e93 z184.1 z184.2) big (x90, 0)).bind (fun z187 => match z187 with | .inl y185 => some (.inr (.inl y185)) | .inr y186 => Z76 x91 y186)) (some (.inr (.inr x90)))
def Z7d (p0 : Y95) : Option Bool := (iter (fun z188 => Z7c p0 z188.1 z188.2) big (0, 0)).bind (fun z191 => match z191 with | .inl y189 => some y189 | .inr y190 => Z75 p0 y190)
theorem Z7e {b00 : Nat} {w01 : Value} {w02 : Value} {w03 : Value} (p0 : Y95) (r : Bool) (h : Z7d p0 = some r) : Ok Tryz.prog 131 [pt b00] [oB b00 156 [cM Y9f 3 p0.h.rooms, cM Y9b 2 p0.h.stream, cV w01, cV w02, cV w03], oA w01 182 Y9o 1 p0.rooms, oA w02 57 Y9p 1 p0.pos, oA w03 27 Y9m 1 p0.now] (fun c qs => c = C.bool r ∧ qs = [oB b00 156 [cM Y9f 3 p0.h.rooms, cM Y9b 2 p0.h.stream, cV w01, cV w02, cV w03], oA w01 182 Y9o 1 p0.rooms, oA w02 57 Y9p 1 p0.pos, oA w03 27 Y9m 1 p0.now]) := by
 refine Ok.of_body (rs := [.tmp 2]) Tryz.func131 rfl rfl rfl rfl rfl fun X => ?_
 unfold Z7d at h
 refine AW.seq ?_
 refine AW.region ?_
 refine Ops.v rfl (Yr rfl rfl) ?_
 refine Ops.nil ?_
 refine AW.seq ?_
 refine AW.region ?_
 refine Ops.v rfl (Yr rfl rfl) ?_
 refine Ops.nil ?_
 refine AW.seq ?_
 refine AW.cut (τ := Int) (fun x181 => ⟨[(0, pt b00), (3, cI x181)], [oB b00 156 [cM Y9f 3 p0.h.rooms, cM Y9b 2 p0.h.stream, cV w01, cV w02, cV w03], oA w01 182 Y9o 1 p0.rooms, oA w02 57 Y9p 1 p0.pos, oA w03 27 Y9m 1 p0.now]⟩) (fun x181 => Z75 p0 x181 = some r) ?_ ?_
 ·
  refine zw ?_
  refine AW.lp (v := ()) h (fun (x90, x91) (_ : Unit) => ⟨[(0, pt b00), (3, cI x90), (4, cI x91)], [oB b00 156 [cM Y9f 3 p0.h.rooms, cM Y9b 2 p0.h.stream, cV w01, cV w02, cV w03], oA w01 182 Y9o 1 p0.rooms, oA w02 57 Y9p 1 p0.pos, oA w03 27 Y9m 1 p0.now]⟩) (gb [0, 0, 0, 0]) ?_
  rintro ⟨x90, x91⟩ _ y197 h
  refine zw ?_
  refine cnd h (fun hb92 h => ?_) fun hb92 h => ?_
  ·
   refine AW.ct hb92 rfl ?_
   refine AW.skip ?_
   refine AW.seq ?_
   refine AW.cut (τ := Int) (fun x180 => ⟨[(0, pt b00), (3, cI x180), (4, cI x91)], [oB b00 156 [cM Y9f 3 p0.h.rooms, cM Y9b 2 p0.h.stream, cV w01, cV w02, cV w03], oA w01 182 Y9o 1 p0.rooms, oA w02 57 Y9p 1 p0.pos, oA w03 27 Y9m 1 p0.now]⟩) (fun x180 => Z76 x91 x180 = some y197) ?_ ?_
   ·
    refine zw ?_
    refine oi h fun e93 g94 h => ?_
    refine zw ?_
    refine Ops.h (ns := []) rfl rfl (Y1p (cs := [cI 0, cV s0, cV s0]) Yb9 (Y42 rfl rfl) rfl) ?_
    rintro _ _ ⟨b95, rfl, rfl⟩
    refine Ops.hd (ns := [0]) rfl rfl (Y1u (gs := [cI e93.room, cM Y99 9 e93.events, cM Y99 9 e93.parked]) Ybf.h rfl rfl rfl rfl rfl) ?_
    refine zw ?_
    refine AW.lp (v := ()) h (fun (x137, x138) (_ : Unit) => ⟨[(0, pt b00), (3, cI x137), (4, cI x91), (5, pt b95), (6, cI x138)], [oB b00 156 [cM Y9f 3 p0.h.rooms, cM Y9b 2 p0.h.stream, cV w01, cV w02, cV w03], oA w01 182 Y9o 1 p0.rooms, oA w02 57 Y9p 1 p0.pos, oA w03 27 Y9m 1 p0.now, oB b95 139 [cI e93.room, cM Y99 9 e93.events, cM Y99 9 e93.parked]]⟩) (gb [1, 1, 1, 1, 0]) ?_
    rintro ⟨x137, x138⟩ _ y204 h
    refine AW.seq ?_
    refine AW.seq ?_
    refine AW.region ?_
    refine Ops.v rfl (Yq rfl rfl) ?_
    refine Ops.v rfl (Y1b Ybc.h rfl rfl) ?_
    refine Ops.v rfl (Y1k (p := 4) Ybd.h rfl rfl rfl rfl) ?_
    refine zw ?_
    refine cnd h (fun hb139 h => ?_) fun hb139 h => ?_
    ·
     refine AW.ct hb139 rfl ?_
     refine AW.skip ?_
     refine AW.seq ?_
     refine AW.cut (τ := Int) (fun x179 => ⟨[(0, pt b00), (3, cI x179), (4, cI x91), (5, pt b95), (6, cI x138)], [oB b00 156 [cM Y9f 3 p0.h.rooms, cM Y9b 2 p0.h.stream, cV w01, cV w02, cV w03], oA w01 182 Y9o 1 p0.rooms, oA w02 57 Y9p 1 p0.pos, oA w03 27 Y9m 1 p0.now, oB b95 139 [cI e93.room, cM Y99 9 e93.events, cM Y99 9 e93.parked]]⟩) (fun x179 => Z77 x138 x179 = some y204) ?_ ?_
     ·
      refine zw ?_
      refine rD [0,0,0,0,0] [3,6,9,12,17,20,23] [] [0,4,8,13,16,20,25,28,32,37,40,44,49,52,56,60,64,69,72,76,81,84,88,93,96,100] ?_
      refine zw ?_
      refine ob' h fun e140 g141 h => ?_
      refine OpsD.v rfl rfl (Y2x (p := 1) Ydp.h rfl rfl rfl g141 rfl) ?_
      refine OpsD.v rfl rfl (Y30 (p := 1) Ydq.h rfl rfl (Y29 g141).2.2 rfl rfl) ?_
      refine zw ?_
      refine di h fun e142 g143 h => ?_
      refine zw ?_
      refine ob' h fun e144 g145 h => ?_
      refine OpsD.v rfl rfl (Y2x (p := 2) Ydr.h rfl rfl rfl g145 rfl) ?_
      refine OpsD.v rfl rfl (Y30 (p := 2) Y9y.h rfl rfl (Y29 g145).2.2 rfl rfl) ?_
      refine zw ?_
      refine di h fun e146 g147 h => ?_
      refine zw ?_
      refine OpsD.v rfl rfl (Y11 un_4 rfl rfl rfl) ?_
      refine zw ?_
      refine cnd h (fun hb148 h => ?_) fun hb148 h => ?_
      ·
       refine AW.cond rfl (fun hn => absurd ((Y3u hb148).symm.trans hn) (by decide)) (fun _ => ?_)
       refine AW.skip ?_
       refine AW.seq ?_
       refine AW.cut (τ := Unit) (fun (_ : Unit) => ⟨[(0, pt b00), (3, cI x137), (4, cI x91), (5, pt b95), (6, cI x138)], [oB b00 156 [cM Y9f 3 p0.h.rooms, cM Y9b 2 p0.h.stream, cV w01, cV w02, cV w03], oA w01 182 Y9o 1 p0.rooms, oA w02 57 Y9p 1 p0.pos, oA w03 27 Y9m 1 p0.now, oB b95 139 [cI e93.room, cM Y99 9 e93.events, cM Y99 9 e93.parked]]⟩) (fun (_ : Unit) => Z78 x137 x138 e146 = some y204) ?_ ?_
       ·
        refine zw ?_
        refine AW.lp (v := ()) h (fun x163 (_ : Unit) => ⟨[(0, pt b00), (3, cI x137), (4, cI x91), (5, pt b95), (6, cI x138), (7, cI x163)], [oB b00 156 [cM Y9f 3 p0.h.rooms, cM Y9b 2 p0.h.stream, cV w01, cV w02, cV w03], oA w01 182 Y9o 1 p0.rooms, oA w02 57 Y9p 1 p0.pos, oA w03 27 Y9m 1 p0.now, oB b95 139 [cI e93.room, cM Y99 9 e93.events, cM Y99 9 e93.parked]]⟩) (gb [0, 0, 0, 0, 0]) ?_
        rintro x163 _ y211 h
        refine AW.seq ?_
        refine AW.seq ?_
        refine AW.cut (τ := Bool) (fun x167 => ⟨[(0, pt b00), (3, cI x137), (4, cI x91), (5, pt b95), (6, cI x138), (7, cI x163), (80, C.bool x167)], [oB b00 156 [cM Y9f 3 p0.h.rooms, cM Y9b 2 p0.h.stream, cV w01, cV w02, cV w03], oA w01 182 Y9o 1 p0.rooms, oA w02 57 Y9p 1 p0.pos, oA w03 27 Y9m 1 p0.now, oB b95 139 [cI e93.room, cM Y99 9 e93.events, cM Y99 9 e93.parked]]⟩) (fun x167 => Z79 e93 x138 e144 e146 x163 x167 = some y211) ?_ ?_
        ·
         refine AW.region ?_
         refine Ops.v rfl (Yq rfl rfl) ?_
         refine Ops.v rfl (Y1b Ybc.h rfl rfl) ?_
         refine Ops.v rfl (Y1k (p := 4) Ybd.h rfl rfl rfl rfl) ?_
         refine zw ?_
         refine oi h fun e164 g165 h => ?_
         refine zw ?_
         refine cnd h (fun hb166 h => ?_) fun hb166 h => ?_
         ·
          refine Ops.gv rfl rfl rfl rfl hb166 (Yq rfl rfl) ?_
          refine Ops.gv rfl rfl rfl rfl hb166 (Y14 rfl rfl) ?_
          refine Ops.gv rfl rfl rfl rfl hb166 (Y1b Ydl.h rfl rfl) ?_
          refine Ops.gv rfl rfl rfl rfl hb166 (Y1k (p := 0) Ydm.h rfl rfl rfl rfl) ?_
          refine Ops.gv rfl rfl rfl rfl hb166 (Yq rfl rfl) ?_
          refine Ops.gv rfl rfl rfl rfl hb166 (Y2x (p := 2) Ydr.h rfl rfl rfl g145 rfl) ?_
          refine Ops.gv rfl rfl rfl rfl hb166 (Y30 (p := 2) Y9y.h rfl rfl (Y29 g145).2.2 rfl rfl) ?_
          refine zw ?_
          exact ⟨decide (e146 > 0), h, Y21.both (ns := [0, 0, 0, 0, 0]) rfl rfl⟩
         refine zw ?_
         exact ⟨false, h, Y21.both (ns := [0, 0, 0, 0, 0]) rfl rfl⟩
        intro x167 h
        replace h : Z79 e93 x138 e144 e146 x163 x167 = some y211 := h
        unfold Z79 at h
        refine cnd h (fun hb168 h => ?_) fun hb168 h => ?_
        ·
         refine AW.ct hb168 rfl ?_
         refine zw ?_
         refine rD [0,0,0,0,0] [3,6,8,10,14,17,20,24,27,30] [] [0,4,8,13,16,20,25,28,33,36,41,44,48,52,57,60,64,69,84,88,92,97,100,104,109,112,116,121,74,76,81,124] ?_
         refine OpsD.v rfl rfl (Yq rfl rfl) ?_
         refine OpsD.v rfl rfl (Y14 rfl rfl) ?_
         refine OpsD.v rfl rfl (Y1b Ydl.h rfl rfl) ?_
         refine OpsD.v rfl rfl (Y1k (p := 0) Ydm.h rfl rfl rfl rfl) ?_
         refine OpsD.v rfl rfl (Yq rfl rfl) ?_
         refine OpsD.v rfl rfl (Y2x (p := 2) Ydr.h rfl rfl rfl g145 rfl) ?_
         refine OpsD.v rfl rfl (Y30 (p := 2) Y9y.h rfl rfl (Y29 g145).2.2 rfl rfl) ?_
         refine OpsD.v rfl rfl (Y1b Ybc.h rfl rfl) ?_
         refine OpsD.v rfl rfl (Y1k (p := 4) Ybd.h rfl rfl rfl rfl) ?_
         refine OpsD.v rfl rfl (Y1b Ybc.h rfl rfl) ?_
         refine OpsD.v rfl rfl (Y1k (p := 4) Ybd.h rfl rfl rfl rfl) ?_
         refine zw ?_
         refine di h fun e169 g170 h => ?_
         refine zw ?_
         refine di h fun e171 g172 h => ?_
         refine OpsD.v rfl rfl (Y1h ld_2.h rfl rfl) ?_
         refine OpsD.v rfl rfl (Yq rfl rfl) ?_
         refine OpsD.v rfl rfl (Y14 rfl rfl) ?_
         refine OpsD.v rfl rfl (Y1b Ydl.h rfl rfl) ?_
         refine OpsD.v rfl rfl (Y1k (p := 0) Ydm.h rfl rfl rfl rfl) ?_
         refine OpsD.v rfl rfl (Yq rfl rfl) ?_
         refine OpsD.v rfl rfl (Y2x (p := 2) Ydr.h rfl rfl rfl g145 rfl) ?_
         refine OpsD.v rfl rfl (Y30 (p := 2) Y9y.h rfl rfl (Y29 g145).2.2 rfl rfl) ?_
         refine zw ?_
         refine dc h fun r173 g174 h => ?_
         refine di h fun e175 g176 h => ?_
         refine zw ?_
         refine cnd h (fun hb177 h => ?_) fun hb177 h => ?_
         ·
          refine AW.ct hb177 rfl ?_
          refine zw ?_
          refine AW.ret ?_
          refine lx h fun h => ?_
          refine lx h fun h => ?_
          refine lx h fun h => ?_
          rw [← Wj h]
          exact ⟨[C.bool false], _, Y21.refl _, (.cons (.tmp rfl) .nil), [0, 0, 0, 0], _, _, rfl, ⟨rfl, rfl⟩⟩
         refine AW.cf hb177 rfl ?_
         refine zw ?_
         exact lu h (gb [0, 0, 0, 0, 0])
        refine AW.cf hb168 rfl ?_
        refine AW.exit ?_
        refine lx h fun h => ?_
        exact ⟨(), h, Y21.both (ns := [0, 0, 0, 0, 0]) rfl rfl⟩
       rintro ⟨⟩ h
       replace h : Z78 x137 x138 e146 = some y204 := h
       unfold Z78 at h
       refine AW.seq ?_
       refine AW.region ?_
       refine Ops.v rfl (Yq rfl rfl) ?_
       refine Ops.v rfl (Y14 rfl rfl) ?_
       refine Ops.v rfl (Y1b Ydl.h rfl rfl) ?_
       refine Ops.v rfl (Y1k (p := 0) Ydm.h rfl rfl rfl rfl) ?_
       refine Ops.v rfl (Yq rfl rfl) ?_
       refine Ops.v rfl (Y2x (p := 2) Ydr.h rfl rfl rfl g145 rfl) ?_
       refine Ops.v rfl (Y30 (p := 2) Y9y.h rfl rfl (Y29 g145).2.2 rfl rfl) ?_
       refine zw ?_
       refine cnd h (fun hb178 h => ?_) fun hb178 h => ?_
       ·
        refine AW.ct hb178 rfl ?_
        refine zw ?_
        exact ⟨(IntKind.i64.wrap (x137 + 1)), h, Y21.both (ns := [0, 0, 0, 0, 0]) rfl rfl⟩
       refine AW.cf hb178 rfl ?_
       refine zw ?_
       exact ⟨x137, h, Y21.both (ns := [0, 0, 0, 0, 0]) rfl rfl⟩
      refine AW.cond rfl (fun _ => ?_) (fun hn => absurd ((Y3v hb148).symm.trans hn) (by decide))
      refine zw ?_
      refine AW.ret ?_
      refine lx h fun h => ?_
      refine lx h fun h => ?_
      rw [← Wj h]
      exact ⟨[C.bool false], _, Y21.refl _, (.cons (.tmp rfl) .nil), [0, 0, 0, 0], _, _, rfl, ⟨rfl, rfl⟩⟩
     intro x179 h
     replace h : Z77 x138 x179 = some y204 := h
     unfold Z77 at h
     refine zw ?_
     exact lu h (gb [0, 0, 0, 0, 0])
    refine AW.cf hb139 rfl ?_
    refine AW.exit ?_
    refine lx h fun h => ?_
    exact ⟨x137, h, Y21.both (ns := [0, 0, 0, 0]) rfl rfl⟩
   intro x180 h
   replace h : Z76 x91 x180 = some y197 := h
   unfold Z76 at h
   refine zw ?_
   exact lu h (gb [0, 0, 0, 0])
  refine AW.cf hb92 rfl ?_
  refine AW.exit ?_
  refine lx h fun h => ?_
  exact ⟨x90, h, Y21.both (ns := [0, 0, 0, 0]) rfl rfl⟩
 intro x181 h
 replace h : Z75 p0 x181 = some r := h
 unfold Z75 at h
 refine zw ?_
 refine AW.ret ?_
 rw [← Wj h]
 exact ⟨[C.bool (x181 == (p0.h.stream.length : Int))], _, Y21.refl _, (.cons (.tmp rfl) .nil), [0, 0, 0, 0], _, _, rfl, ⟨rfl, rfl⟩⟩

def Z7f (p0 : Y91) : Option (Y95 × Bool) := (Z73 p0).bind fun r56 => (Z7d r56).bind fun r62 => cond r62 (some (r56, true)) (some ((Y95.mk (Y91.mk [] []) [] [] []), false))
def Z7g (x39 : Int) : Option (Int ⊕ ((Y95 × Bool) ⊕ Unit)) := some (.inl (IntKind.i64.wrap (x39 + 1)))
def Z7h (p0 : Y91) (x39 : Int) (x48 : Int) : Option (Int ⊕ ((Y95 × Bool) ⊕ Unit)) := cond (decide (x48 < x39)) ((getI p0.stream x39).bind fun e50 => (getI p0.stream x48).bind fun e52 => cond ((e50.room == e52.room) && ((e50.id == e52.id) && true)) (some (.inr (.inl ((Y95.mk (Y91.mk [] []) [] [] []), false)))) (some (.inl (IntKind.i64.wrap (x48 + 1))))) (some (.inr (.inr ())))
def Z7i (p0 : Y91) (x39 : Int) : Option (Int ⊕ ((Y95 × Bool) ⊕ Unit)) := cond (decide (x39 < (p0.stream.length : Int))) ((iter (Z7h p0 x39) big 0).bind (fun z67 => match z67 with | .inl y66 => some (.inr (.inl y66)) | .inr () => Z7g x39)) (some (.inr (.inr ())))
def Z7j (p0 : Y91) : Option (Y95 × Bool) := (iter (Z7i p0) big 0).bind (fun z69 => match z69 with | .inl y68 => some y68 | .inr () => Z7f p0)
def Z7k (x15 : Int) (x22 : Bool) : Option (Int ⊕ ((Y95 × Bool) ⊕ Unit)) := cond x22 (some (.inr (.inl ((Y95.mk (Y91.mk [] []) [] [] []), false)))) (some (.inl (IntKind.i64.wrap (x15 + 1))))
def Z7l (p0 : Y91) (x15 : Int) : Option (Int ⊕ ((Y95 × Bool) ⊕ Unit)) := cond (decide (x15 < (p0.rooms.length : Int))) ((getI p0.rooms x15).bind fun e17 => (Z3i e17).bind fun r19 => cond r19 (Z7k x15 (e17.room != (IntKind.i64.wrap (x15 + 1)))) (Z7k x15 true)) (some (.inr (.inr ())))
def Z7m (p0 : Y91) (x3 : Bool) : Option (Y95 × Bool) := cond x3 (some ((Y95.mk (Y91.mk [] []) [] [] []), false)) ((iter (Z7l p0) big 0).bind (fun z71 => match z71 with | .inl y70 => some y70 | .inr () => Z7j p0))
def Z7n (p0 : Y91) : Option (Y95 × Bool) := cond ((p0.rooms.length : Int) != 3) (Z7m p0 true) (Z7m p0 (decide ((p0.stream.length : Int) > 120)))
instance Z7o (p0 : Y91) : Sp Tryz.prog 68 [C.agg [cM Y9f 3 p0.rooms, cM Y9b 2 p0.stream]] (Z7n p0) (fun r => C.tup [C.ip [cM Y9f 3 r.1.h.rooms, cM Y9b 2 r.1.h.stream, cM Y9o 1 r.1.rooms, cM Y9p 1 r.1.pos, cM Y9m 1 r.1.now], C.bool r.2]) := sp Tryz.func68 rfl rfl fun r X h => by
 unfold Z7n at h
 refine zw ?_
 refine ox fun b1 => ?_
 refine Ops.v rfl (Yr rfl rfl) ?_
 refine Ops.v rfl (Yr rfl rfl) ?_
 refine Ops.nil ?_
 refine AW.seq ?_
 refine AW.seq ?_
 refine AW.cut (τ := Bool) (fun x3 => ⟨[(1, pt b1), (17, C.bool x3)], [oB b1 32 [cM Y9f 3 p0.rooms, cM Y9b 2 p0.stream]]⟩) (fun x3 => Z7m p0 x3 = some r) go fun x3 h => ?_
 replace h : Z7m p0 x3 = some r := h
 unfold Z7m at h
 refine cnd h (fun hb4 h => ?_) fun hb4 h => ?_
 ·
  refine AW.ct hb4 rfl ?_
  refine zw ?_
  refine Ops.v rfl (Y38 (ds := [cV s0, cV s0, cV s0, cV s0, cV s0]) Ydf Ydg (Y42 rfl rfl) .nil rfl) ?_
  refine ox fun b5 => ?_
  refine zw ?_
  refine AW.ret ?_
  rw [← Wj h]
  exact ⟨[C.ip [cM Y9f 3 [], cM Y9b 2 [], cM Y9o 1 [], cM Y9p 1 [], cM Y9m 1 []], C.bool false], _, Y21.freezeBy (ns := [0]) (t := 2) rfl rfl (Frz.box (FrzL.cons (os := []) (Frz.imp (Imp.nil Y9f 3)) (FrzL.cons (os := []) (Frz.imp (Imp.nil Y9b 2)) (FrzL.cons (os := []) (Frz.imp (Imp.nil Y9o 1)) (FrzL.cons (os := []) (Frz.imp (Imp.nil Y9p 1)) (FrzL.cons (os := []) (Frz.imp (Imp.nil Y9m 1)) FrzL.nil)))))), (.cons (.tmp rfl) (.cons (.tmp rfl) .nil)), [], _, _, rfl, ⟨rfl, rfl⟩⟩
 refine AW.cf hb4 rfl ?_
 refine AW.skip ?_
 refine AW.seq ?_
 refine AW.cut (τ := Unit) (fun (_ : Unit) => ⟨[(1, pt b1)], [oB b1 32 [cM Y9f 3 p0.rooms, cM Y9b 2 p0.stream]]⟩) (fun (_ : Unit) => Z7j p0 = some r) ?_ ?_
 ·
  refine zw ?_
  refine AW.lp (v := ()) h (fun x15 (_ : Unit) => ⟨[(1, pt b1), (4, cI x15)], [oB b1 32 [cM Y9f 3 p0.rooms, cM Y9b 2 p0.stream]]⟩) (gb [0]) ?_
  rintro x15 _ y91 h
  refine zw ?_
  refine cnd h (fun hb16 h => ?_) fun hb16 h => ?_
  ·
   refine AW.ct hb16 rfl ?_
   refine AW.skip ?_
   refine AW.seq ?_
   refine AW.block ?_
   refine AW.seq ?_
   refine AW.cut (τ := Bool) (fun x22 => ⟨[(1, pt b1), (4, cI x15), (44, C.bool x22)], [oB b1 32 [cM Y9f 3 p0.rooms, cM Y9b 2 p0.stream]]⟩) (fun x22 => Z7k x15 x22 = some y91) go fun x22 h => ?_
   replace h : Z7k x15 x22 = some y91 := h
   unfold Z7k at h
   refine cnd h (fun hb23 h => ?_) fun hb23 h => ?_
   ·
    refine AW.ct hb23 rfl ?_
    refine zw ?_
    refine Ops.v rfl (Y38 (ds := [cV s0, cV s0, cV s0, cV s0, cV s0]) Ydf Ydg (Y42 rfl rfl) .nil rfl) ?_
    refine ox fun b24 => ?_
    refine zw ?_
    refine AW.ret ?_
    refine lx h fun h => ?_
    rw [← Wj h]
    exact ⟨[C.ip [cM Y9f 3 [], cM Y9b 2 [], cM Y9o 1 [], cM Y9p 1 [], cM Y9m 1 []], C.bool false], _, Y21.freezeBy (ns := [0]) (t := 2) rfl rfl (Frz.box (FrzL.cons (os := []) (Frz.imp (Imp.nil Y9f 3)) (FrzL.cons (os := []) (Frz.imp (Imp.nil Y9b 2)) (FrzL.cons (os := []) (Frz.imp (Imp.nil Y9o 1)) (FrzL.cons (os := []) (Frz.imp (Imp.nil Y9p 1)) (FrzL.cons (os := []) (Frz.imp (Imp.nil Y9m 1)) FrzL.nil)))))), (.cons (.tmp rfl) (.cons (.tmp rfl) .nil)), [], _, _, rfl, ⟨rfl, rfl⟩⟩
   exact go
  exact go
 rintro ⟨⟩ h
 replace h : Z7j p0 = some r := h
 unfold Z7j at h
 refine AW.seq ?_
 refine AW.cut (τ := Unit) (fun (_ : Unit) => ⟨[(1, pt b1)], [oB b1 32 [cM Y9f 3 p0.rooms, cM Y9b 2 p0.stream]]⟩) (fun (_ : Unit) => Z7f p0 = some r) ?_ ?_
 ·
  refine zw ?_
  refine AW.lp (v := ()) h (fun x39 (_ : Unit) => ⟨[(1, pt b1), (5, cI x39)], [oB b1 32 [cM Y9f 3 p0.rooms, cM Y9b 2 p0.stream]]⟩) (gb [0]) ?_
  rintro x39 _ y77 h
  refine zw ?_
  refine cnd h (fun hb40 h => ?_) fun hb40 h => ?_
  ·
   refine AW.ct hb40 rfl ?_
   refine zw ?_
   refine AW.lp (v := ()) h (fun x48 (_ : Unit) => ⟨[(1, pt b1), (5, cI x39), (6, cI x48)], [oB b1 32 [cM Y9f 3 p0.rooms, cM Y9b 2 p0.stream]]⟩) (gb [0]) ?_
   rintro x48 _ y84 h
   refine zw ?_
   refine cnd h (fun hb49 h => ?_) fun hb49 h => ?_
   ·
    refine AW.ct hb49 rfl ?_
    refine zw ?_
    refine rD [0] [1,4,6,9] [] [0,5,8,12,17,20,25,28,32,37,40] ?_
    refine zw ?_
    refine di h fun e50 g51 h => ?_
    refine zw ?_
    refine di h fun e52 g53 h => ?_
    refine zw ?_
    refine OpsD.v rfl rfl (Y5l [.int .i64 e50.room, .int .i64 e50.id] [.int .i64 e52.room, .int .i64 e52.id] Yds rfl rfl rfl rfl rfl rfl) ?_
    refine zw ?_
    refine cnd h (fun hb54 h => ?_) fun hb54 h => ?_
    ·
     refine AW.ct hb54 rfl ?_
     refine zw ?_
     refine Ops.v rfl (Y38 (ds := [cV s0, cV s0, cV s0, cV s0, cV s0]) Ydf Ydg (Y42 rfl rfl) .nil rfl) ?_
     refine ox fun b55 => ?_
     refine zw ?_
     refine AW.ret ?_
     refine lx h fun h => ?_
     refine lx h fun h => ?_
     rw [← Wj h]
     exact ⟨[C.ip [cM Y9f 3 [], cM Y9b 2 [], cM Y9o 1 [], cM Y9p 1 [], cM Y9m 1 []], C.bool false], _, Y21.freezeBy (ns := [0]) (t := 2) rfl rfl (Frz.box (FrzL.cons (os := []) (Frz.imp (Imp.nil Y9f 3)) (FrzL.cons (os := []) (Frz.imp (Imp.nil Y9b 2)) (FrzL.cons (os := []) (Frz.imp (Imp.nil Y9o 1)) (FrzL.cons (os := []) (Frz.imp (Imp.nil Y9p 1)) (FrzL.cons (os := []) (Frz.imp (Imp.nil Y9m 1)) FrzL.nil)))))), (.cons (.tmp rfl) (.cons (.tmp rfl) .nil)), [], _, _, rfl, ⟨rfl, rfl⟩⟩
    exact go
   exact go
  exact go
 rintro ⟨⟩ h
 replace h : Z7f p0 = some r := h
 unfold Z7f at h
 refine zw ?_
 refine ob' h fun r56 g57 h => ?_
 refine Ops.h (ns := []) rfl rfl (Y23 (Z74 _ _ g57) rfl rfl) ?_
 rintro _ _ ⟨_, ⟨b58, v59, v60, v61, rfl, rfl⟩, rfl⟩
 refine zw ?_
 refine ob' h fun r62 g63 h => ?_
 refine Ops.hd (ns := [0, 0, 0, 0]) rfl rfl (Y24 (Z7e r56 _ g63) rfl rfl) ?_
 refine zw ?_
 refine cnd h (fun hb64 h => ?_) fun hb64 h => ?_
 ·
  refine AW.cond rfl (fun hn => absurd ((Y3u hb64).symm.trans hn) (by decide)) (fun _ => ?_)
  refine zw ?_
  refine AW.ret ?_
  rw [← Wj h]
  exact ⟨[C.ip [cM Y9f 3 r56.h.rooms, cM Y9b 2 r56.h.stream, cM Y9o 1 r56.rooms, cM Y9p 1 r56.pos, cM Y9m 1 r56.now], C.bool true], _, Y21.freezeBy (ns := [0, 0, 0, 0]) (t := 2) rfl rfl (Frz.box (fS (fS (FrzL.cons (os := [_]) Frz.arr (FrzL.cons (os := [_]) Frz.arr (FrzL.cons (os := [_]) Frz.arr FrzL.nil)))))), (.cons (.tmp rfl) (.cons (.tmp rfl) .nil)), [], _, _, rfl, ⟨rfl, rfl⟩⟩
 refine AW.cond rfl (fun _ => ?_) (fun hn => absurd ((Y3v hb64).symm.trans hn) (by decide))
 refine zw ?_
 refine Ops.v rfl (Y38 (ds := [cV s0, cV s0, cV s0, cV s0, cV s0]) Ydf Ydg (Y42 rfl rfl) .nil rfl) ?_
 refine ox fun b65 => ?_
 refine zw ?_
 refine AW.ret ?_
 rw [← Wj h]
 exact ⟨[C.ip [cM Y9f 3 [], cM Y9b 2 [], cM Y9o 1 [], cM Y9p 1 [], cM Y9m 1 []], C.bool false], _, Y21.freezeBy (ns := [0]) (t := 2) rfl rfl (Frz.box (FrzL.cons (os := []) (Frz.imp (Imp.nil Y9f 3)) (FrzL.cons (os := []) (Frz.imp (Imp.nil Y9b 2)) (FrzL.cons (os := []) (Frz.imp (Imp.nil Y9o 1)) (FrzL.cons (os := []) (Frz.imp (Imp.nil Y9p 1)) (FrzL.cons (os := []) (Frz.imp (Imp.nil Y9m 1)) FrzL.nil)))))), (.cons (.tmp rfl) (.cons (.tmp rfl) .nil)), [], _, _, rfl, ⟨rfl, rfl⟩⟩

def Z7p (p0 : Y91) : Option Bool := (Z7n p0).bind fun r2 => some r2.2
instance Z7q (p0 : Y91) : Sp Tryz.prog 210 [C.agg [cM Y9f 3 p0.rooms, cM Y9b 2 p0.stream]] (Z7p p0) C.bool := sp Tryz.func210 rfl rfl fun r X h => go

def Z7r (p0 : Y92) (p1 : Int) : Option Bool := (Z1w p1 0 (IntKind.i64.wrap ((p0.hubs.length : Int) - 1))).bind fun r2 => some r2
instance Z7s (p0 : Y92) (p1 : Int) : Sp Tryz.prog 211 [C.agg [cM Y9i 2 p0.hubs, cM Y9c 5 p0.letters], cI p1] (Z7r p0 p1) C.bool := sp Tryz.func211 rfl rfl fun r X h => go

def Z7t (p0 : Int) : Option Bool := (Z1w p0 1 3).bind fun r1 => some r1
instance Z7u (p0 : Int) : Sp Tryz.prog 96 [cI p0] (Z7t p0) C.bool := sp Tryz.func96 rfl rfl fun r X h => go

end Go.Proofs.YtbgichfjcnibpaaGreat
