/- Printed by gen.py: plain functions for Go functions, and that the walks keep to them. -/
import Derived.Test.YtomachnjepgpbaaGreatEQ4
set_option autoImplicit false
set_option linter.unusedVariables false
set_option linter.unusedSimpArgs false
set_option maxHeartbeats 8000000
set_option maxRecDepth 100000
namespace Go.Proofs.YtomachnjepgpbaaGreat
open Go Go.Abs
attribute [local irreducible] AW Ops OpsD Y3z VoK HoK GhF UsC Go.Abs.Fin PkK LenT LenL Y98 BldK FzK FzLK
def Z54 (x128 : Int) (l129 : List Y9j) (l130 : List Y9j) (l131 : List Int) (x132 : Int) (x133 : Int) (x134 : Int) : Option (Y9k × Y9i) := some ((Y9k.mk x128 l129 l130), (Y9i.mk l131 x132 x133 x134))
def Z55 (x71 : Int) (l121 : List Int) (x122 : Int) (x123 : Int) (x124 : Int) (x125 : Int) (l126 : List Y9j) (l127 : List Y9j) : Option ((List Int × Int × Int × Int × Int × List Y9j × List Y9j × Int) ⊕ ((Int × List Y9j × List Y9j × List Int × Int × Int × Int))) := some (.inl (l121, x122, x123, x124, x125, l126, l127, (IntKind.i64.wrap (x71 - 1))))
def Z56 (x68 : Int) (l69 : List Y9j) (l70 : List Y9j) (x71 : Int) (e75 : Y9j) (x103 : Int) (l111 : List Int) (x112 : Int) (x113 : Int) (x114 : Int) (x115 : Int) (x116 : Int) : Option ((List Int × Int × Int × Int × Int × List Y9j × List Y9j × Int) ⊕ ((Int × List Y9j × List Y9j × List Int × Int × Int × Int))) := (Z3z (Y9k.mk x68 l69 l70) (Y9j.mk (IntKind.i64.wrap (e75.id + 1)) 1 1 x115 x103 x116 ByteArray.empty [e75.id] 0)).bind fun r117 => cond (r117.code == 0) (Z55 x71 l111 x112 x113 x114 r117.graph.room r117.graph.events r117.graph.parked) (Z55 x71 l111 x112 x113 x114 x68 l69 l70)
def Z57 (x68 : Int) (l69 : List Y9j) (l70 : List Y9j) (x71 : Int) (e75 : Y9j) (l98 : List Int) (x99 : Int) (x100 : Int) (x101 : Int) (x103 : Int) (x104 : Int) : Option ((List Int × Int × Int × Int × Int × List Y9j × List Y9j × Int) ⊕ ((Int × List Y9j × List Y9j × List Int × Int × Int × Int))) := (Zc (Y9i.mk l98 x99 x100 x101) 3).bind fun r106 => cond r106.1 ((Z9 r106.2 3).bind fun r109 => Z56 x68 l69 l70 x71 e75 x103 r109.2.b r109.2.at_ r109.2.mix r109.2.size 3 (IntKind.i64.wrap (50 * r109.1))) (Z56 x68 l69 l70 x71 e75 x103 r106.2.b r106.2.at_ r106.2.mix r106.2.size 2 x104)
def Z58 (l64 : List Int) (x65 : Int) (x66 : Int) (x67 : Int) (x68 : Int) (l69 : List Y9j) (l70 : List Y9j) (x71 : Int) (x73 : Bool) : Option ((List Int × Int × Int × Int × Int × List Y9j × List Y9j × Int) ⊕ ((Int × List Y9j × List Y9j × List Int × Int × Int × Int))) := cond x73 ((getI l69 (IntKind.i64.wrap ((l69.length : Int) - 1))).bind fun e75 => (Z9 (Y9i.mk l64 x65 x66 x67) 4).bind fun r84 => (Z9 r84.2 3).bind fun r88 => Z57 x68 l69 l70 x71 e75 r88.2.b r88.2.at_ r88.2.mix r88.2.size (IntKind.i64.wrap (1 + r84.1)) (IntKind.i64.wrap (2 + r88.1))) (some (.inr (x68, l69, l70, l64, x65, x66, x67)))
def Z59 (l64 : List Int) (x65 : Int) (x66 : Int) (x67 : Int) (x68 : Int) (l69 : List Y9j) (l70 : List Y9j) (x71 : Int) : Option ((List Int × Int × Int × Int × Int × List Y9j × List Y9j × Int) ⊕ ((Int × List Y9j × List Y9j × List Int × Int × Int × Int))) := cond (decide (x71 > 0)) (Z58 l64 x65 x66 x67 x68 l69 l70 x71 (decide ((l69.length : Int) > 0))) (Z58 l64 x65 x66 x67 x68 l69 l70 x71 false)
def Z5a (p0 : Y9i) : Option (Y9k × Y9i) := (Z51 p0).bind fun r2 => (Z9 r2.2 5).bind fun r6 => (iter (fun z135 => Z59 z135.1 z135.2.1 z135.2.2.1 z135.2.2.2.1 z135.2.2.2.2.1 z135.2.2.2.2.2.1 z135.2.2.2.2.2.2.1 z135.2.2.2.2.2.2.2) big (r6.2.b, r6.2.at_, r6.2.mix, r6.2.size, r2.1.room, r2.1.events, r2.1.parked, r6.1)).bind fun (y136, y137, y138, y139, y140, y141, y142) => Z54 y136 y137 y138 y139 y140 y141 y142
theorem Z5b {b00 : Nat} (p0 : Y9i) (r : Y9k × Y9i) (h : Z5a p0 = some r) : Ok Tryz.prog 96 [pt b00] [oB b00 159 [cM kU8 1 p0.b, cI p0.at_, cV (.int .u64 p0.mix), cI p0.size]] (fun c qs => c = C.agg [cI r.1.room, cM Y9q 9 r.1.events, cM Y9q 9 r.1.parked] ∧ qs = [oB b00 159 [cM kU8 1 r.2.b, cI r.2.at_, cV (.int .u64 r.2.mix), cI r.2.size]]) := by
 refine Ok.of_body (rs := [.cell 2 25]) Tryz.func96 rfl rfl rfl rfl rfl fun X => ?_
 unfold Z5a at h
 refine zw ?_
 refine al fun b1 => ?_
 refine zw ?_
 refine ob' h fun r2 g3 h => ?_
 refine Ops.h (ns := [1]) rfl rfl (Y27 (Z52 p0 _ g3) rfl rfl) ?_
 rintro _ _ ⟨_, ⟨v4, rfl, rfl⟩, rfl⟩
 refine al fun b5 => ?_
 refine Ops.sA Yb8.h rfl rfl rfl inferInstance rfl ?_
 refine Ops.nil ?_
 refine AW.seq ?_
 refine AW.cut (τ := Int × List Y9j × List Y9j × List Int × Int × Int × Int) (fun (x128, l129, l130, l131, x132, x133, x134) => ⟨[(2, pt b1), (3, pt b5)], [oB b5 25 [cI x128, cM Y9q 9 l129, cM Y9q 9 l130], oB b00 159 [cM kU8 1 l131, cI x132, cV (.int .u64 x133), cI x134], oB b1 25 [cI 0, cV s0, cV s0]]⟩) (fun (x128, l129, l130, l131, x132, x133, x134) => Z54 x128 l129 l130 l131 x132 x133 x134 = some r) ?_ ?_
 ·
  refine zw ?_
  refine ob' h fun r6 g7 h => ?_
  refine Ops.hd (ns := [2]) rfl rfl (Y28 (Za r2.2 5 _ g7) rfl rfl) ?_
  refine zw ?_
  refine ob' h fun o143 g144 q145 => ?_
  refine AW.loop (τ := List Int × Int × Int × Int × Int × List Y9j × List Y9j × Int) (x := (r6.2.b, r6.2.at_, r6.2.mix, r6.2.size, r2.1.room, r2.1.events, r2.1.parked, r6.1)) (fun (l64, x65, x66, x67, x68, l69, l70, x71) => ⟨[(0, pt b00), (2, pt b1), (3, pt b5), (4, cI x71)], [oB b00 159 [cM kU8 1 l64, cI x65, cV (.int .u64 x66), cI x67], oB b5 25 [cI x68, cM Y9q 9 l69, cM Y9q 9 l70], oB b1 25 [cI 0, cV s0, cV s0]]⟩) (fun k (l64, x65, x66, x67, x68, l69, l70, x71) => iter (fun z135 => Z59 z135.1 z135.2.1 z135.2.2.1 z135.2.2.2.1 z135.2.2.2.2.1 z135.2.2.2.2.2.1 z135.2.2.2.2.2.2.1 z135.2.2.2.2.2.2.2) k (l64, x65, x66, x67, x68, l69, l70, x71) = some o143) g144 ((Y25.boxFrz (ns := [1, 1]) rfl (fS (fS (FrzL.cons (os := [_]) Frz.arr FrzL.nil)))).trans (Y25.both (ns := [1, 0, 0]) rfl rfl)) ?_
  rintro k ⟨l64, x65, x66, x67, x68, l69, l70, x71⟩ i147
  refine Y4f (show iter (fun z135 => Z59 z135.1 z135.2.1 z135.2.2.1 z135.2.2.2.1 z135.2.2.2.2.1 z135.2.2.2.2.2.1 z135.2.2.2.2.2.2.1 z135.2.2.2.2.2.2.2) k (l64, x65, x66, x67, x68, l69, l70, x71) = some o143 from i147) fun k146 y148 hlt_k146 h h149 => ?_
  replace h : Z59 l64 x65 x66 x67 x68 l69 l70 x71 = some y148 := h
  unfold Z59 at h
  refine AW.seq ?_
  refine AW.seq ?_
  refine AW.cut (τ := Bool) (fun x73 => ⟨[(0, pt b00), (2, pt b1), (3, pt b5), (4, cI x71), (19, C.bool x73)], [oB b00 159 [cM kU8 1 l64, cI x65, cV (.int .u64 x66), cI x67], oB b1 25 [cI 0, cV s0, cV s0], oB b5 25 [cI x68, cM Y9q 9 l69, cM Y9q 9 l70]]⟩) (fun x73 => Z58 l64 x65 x66 x67 x68 l69 l70 x71 x73 = some y148) ?_ ?_
  ·
   refine zw ?_
   refine cnd h (fun hb72 h => ?_) fun hb72 h => ?_
   ·
    refine zw ?_
    exact ⟨decide ((l69.length : Int) > 0), h, Y25.both (ns := [0, 1, 0]) rfl rfl⟩
   refine zw ?_
   exact ⟨false, h, Y25.both (ns := [0, 1, 0]) rfl rfl⟩
  intro x73 h
  replace h : Z58 l64 x65 x66 x67 x68 l69 l70 x71 x73 = some y148 := h
  unfold Z58 at h
  refine cnd h (fun hb74 h => ?_) fun hb74 h => ?_
  ·
   refine AW.ct hb74 rfl ?_
   refine AW.skip ?_
   refine AW.seq ?_
   refine AW.cut (τ := List Int × Int × Int × Int × Int × List Y9j × List Y9j) (fun (l121, x122, x123, x124, x125, l126, l127) => ⟨[(0, pt b00), (2, pt b1), (3, pt b5), (4, cI x71)], [oB b00 159 [cM kU8 1 l121, cI x122, cV (.int .u64 x123), cI x124], oB b5 25 [cI x125, cM Y9q 9 l126, cM Y9q 9 l127], oB b1 25 [cI 0, cV s0, cV s0]]⟩) (fun (l121, x122, x123, x124, x125, l126, l127) => Z55 x71 l121 x122 x123 x124 x125 l126 l127 = some y148) ?_ ?_
   ·
    refine zw ?_
    refine oi h fun e75 g76 h => ?_
    refine zw ?_
    refine al fun b77 => ?_
    refine Ops.sA Yaq.h rfl rfl rfl inferInstance rfl ?_
    refine Ops.nil ?_
    refine AW.seq ?_
    refine AW.cut (τ := List Int × Int × Int × Int × Int × Int × Nat × Value) (fun (l98, x99, x100, x101, x103, x104, b102, v105) => ⟨[(0, pt b00), (2, pt b1), (3, pt b5), (4, cI x71), (6, pt b102)], [oB b00 159 [cM kU8 1 l98, cI x99, cV (.int .u64 x100), cI x101], oB b102 42 [cI (IntKind.i64.wrap (e75.id + 1)), cI 1, cI 1, cI 2, cI x103, cI x104, C.str ByteArray.empty, cV v105, cI 0], oA v105 2 kI64 1 [e75.id], oB b1 25 [cI 0, cV s0, cV s0], oB b5 25 [cI x68, cM Y9q 9 l69, cM Y9q 9 l70]]⟩) (fun (l98, x99, x100, x101, x103, x104, b102, v105) => Z57 x68 l69 l70 x71 e75 l98 x99 x100 x101 x103 x104 = some y148) ?_ ?_
    ·
     refine AW.regionD (L := [1, 10]) (Lt := [14]) (k := .light 0 false (.light 1 true (.light 2 false (.light 3 false (.light 6 false (.light 9 false (.light 10 true (.three 4 11 13 (.light 5 false (.three 7 11 13 (.light 8 false (.two 11 13 (.light 12 false (.one 13 (.late 14 (.done)))) (.one 11 (.light 12 false (.late 14 (.done)))))) (.two 7 13 (.light 8 false (.light 12 false (.one 13 (.late 14 (.done))))) (.one 7 (.light 8 false (.light 12 false (.late 14 (.done)))))) (.two 7 11 (.light 8 false (.one 11 (.light 12 false (.late 14 (.done))))) (.one 7 (.light 8 false (.light 12 false (.late 14 (.done)))))))) (.two 4 13 (.light 5 false (.two 7 13 (.light 8 false (.light 12 false (.one 13 (.late 14 (.done))))) (.one 7 (.light 8 false (.light 12 false (.late 14 (.done))))))) (.one 4 (.light 5 false (.one 7 (.light 8 false (.light 12 false (.late 14 (.done)))))))) (.two 4 11 (.light 5 false (.two 7 11 (.light 8 false (.one 11 (.light 12 false (.late 14 (.done))))) (.one 7 (.light 8 false (.light 12 false (.late 14 (.done))))))) (.one 4 (.light 5 false (.one 7 (.light 8 false (.light 12 false (.late 14 (.done)))))))))))))))) (ns := [0, 1, 1]) (by kernel_rfl) (by kernel_rfl) (by kernel_rfl) (by kernel_rfl) rfl ?_
     refine zw ?_
     refine ob' h fun r84 g85 h => ?_
     refine OpsD.three ?_ ?_ ?_
     ·
      refine Y3z.h (ns := [0]) rfl rfl rfl (Y28 (Za (Y9i.mk l64 x65 x66 x67) 4 _ g85) rfl rfl) ?_
      rintro _ _ ⟨rfl, rfl⟩
      refine zw ?_
      refine ob' h fun r88 g89 h => ?_
      refine OpsD.three ?_ ?_ ?_
      ·
       refine Y3z.h (ns := [0]) rfl rfl rfl (Y28 (Za r84.2 3 _ g89) rfl rfl) ?_
       rintro _ _ ⟨rfl, rfl⟩
       refine zw ?_
       refine OpsD.two ?_ ?_
       ·
        refine Y3z.h (ns := []) rfl rfl rfl (Y3l (k := kI64) (ys := [e75.id]) Yai (.one rfl (One.val rfl) rfl rfl .nil) rfl rfl rfl) ?_
        rintro _ _ ⟨b86, rfl, rfl⟩
        refine OpsD.v rfl rfl (Y3k (ds := [cI (IntKind.i64.wrap (e75.id + 1)), cI 1, cI 1, cI 2, cI (IntKind.i64.wrap (1 + r84.1)), cI (IntKind.i64.wrap (2 + r88.1)), C.str ByteArray.empty, cV (sv b86 1 1), cI 0]) Yat Yah (Y4g rfl rfl) (.one rfl (One.val rfl) rfl rfl (.one rfl (One.val rfl) rfl rfl (.one rfl (One.val rfl) rfl rfl (.one rfl (One.val rfl) rfl rfl (.one rfl (One.val rfl) rfl rfl (.one rfl (One.val rfl) rfl rfl (.one rfl (One.val rfl) rfl rfl .nil))))))) rfl) ?_
        refine zw ?_
        refine dal fun b87 => ?_
        refine zw ?_
        exact ⟨(r88.2.b, r88.2.at_, r88.2.mix, r88.2.size, (IntKind.i64.wrap (1 + r84.1)), (IntKind.i64.wrap (2 + r88.1)), b87, (sv b86 1 1)), h, Y25.both (ns := [5, 0, 3, 1, 1]) rfl rfl⟩
       refine dal fun b87 => ?_
       refine OpsD.one ?_
       refine Y3z.h (ns := []) rfl rfl rfl (Y3l (k := kI64) (ys := [e75.id]) Yai (.one rfl (One.val rfl) rfl rfl .nil) rfl rfl rfl) ?_
       rintro _ _ ⟨b86, rfl, rfl⟩
       refine OpsD.v rfl rfl (Y3k (ds := [cI (IntKind.i64.wrap (e75.id + 1)), cI 1, cI 1, cI 2, cI (IntKind.i64.wrap (1 + r84.1)), cI (IntKind.i64.wrap (2 + r88.1)), C.str ByteArray.empty, cV (sv b86 1 1), cI 0]) Yat Yah (Y4g rfl rfl) (.one rfl (One.val rfl) rfl rfl (.one rfl (One.val rfl) rfl rfl (.one rfl (One.val rfl) rfl rfl (.one rfl (One.val rfl) rfl rfl (.one rfl (One.val rfl) rfl rfl (.one rfl (One.val rfl) rfl rfl (.one rfl (One.val rfl) rfl rfl .nil))))))) rfl) ?_
       refine zw ?_
       exact ⟨(r88.2.b, r88.2.at_, r88.2.mix, r88.2.size, (IntKind.i64.wrap (1 + r84.1)), (IntKind.i64.wrap (2 + r88.1)), b87, (sv b86 1 1)), h, Y25.both (ns := [5, 0, 3, 1, 1]) rfl rfl⟩
      ·
       refine Y3z.h (ns := []) rfl rfl rfl (Y3l (k := kI64) (ys := [e75.id]) Yai (.one rfl (One.val rfl) rfl rfl .nil) rfl rfl rfl) ?_
       rintro _ _ ⟨b86, rfl, rfl⟩
       refine OpsD.two ?_ ?_
       ·
        refine Y3z.h (ns := [1]) rfl rfl rfl (Y28 (Za r84.2 3 _ g89) rfl rfl) ?_
        rintro _ _ ⟨rfl, rfl⟩
        refine OpsD.v rfl rfl (Yx rfl rfl rfl rfl) ?_
        refine OpsD.v rfl rfl (Y3k (ds := [cI (IntKind.i64.wrap (e75.id + 1)), cI 1, cI 1, cI 2, cI (IntKind.i64.wrap (1 + r84.1)), cI (IntKind.i64.wrap (2 + r88.1)), C.str ByteArray.empty, cV (sv b86 1 1), cI 0]) Yat Yah (Y4g rfl rfl) (.one rfl (One.val rfl) rfl rfl (.one rfl (One.val rfl) rfl rfl (.one rfl (One.val rfl) rfl rfl (.one rfl (One.val rfl) rfl rfl (.one rfl (One.val rfl) rfl rfl (.one rfl (One.val rfl) rfl rfl (.one rfl (One.val rfl) rfl rfl .nil))))))) rfl) ?_
        refine zw ?_
        refine dal fun b87 => ?_
        refine zw ?_
        exact ⟨(r88.2.b, r88.2.at_, r88.2.mix, r88.2.size, (IntKind.i64.wrap (1 + r84.1)), (IntKind.i64.wrap (2 + r88.1)), b87, (sv b86 1 1)), h, Y25.both (ns := [4, 0, 3, 1, 1]) rfl rfl⟩
       refine dal fun b87 => ?_
       refine OpsD.one ?_
       refine Y3z.h (ns := [2]) rfl rfl rfl (Y28 (Za r84.2 3 _ g89) rfl rfl) ?_
       rintro _ _ ⟨rfl, rfl⟩
       refine OpsD.v rfl rfl (Yx rfl rfl rfl rfl) ?_
       refine OpsD.v rfl rfl (Y3k (ds := [cI (IntKind.i64.wrap (e75.id + 1)), cI 1, cI 1, cI 2, cI (IntKind.i64.wrap (1 + r84.1)), cI (IntKind.i64.wrap (2 + r88.1)), C.str ByteArray.empty, cV (sv b86 1 1), cI 0]) Yat Yah (Y4g rfl rfl) (.one rfl (One.val rfl) rfl rfl (.one rfl (One.val rfl) rfl rfl (.one rfl (One.val rfl) rfl rfl (.one rfl (One.val rfl) rfl rfl (.one rfl (One.val rfl) rfl rfl (.one rfl (One.val rfl) rfl rfl (.one rfl (One.val rfl) rfl rfl .nil))))))) rfl) ?_
       refine zw ?_
       exact ⟨(r88.2.b, r88.2.at_, r88.2.mix, r88.2.size, (IntKind.i64.wrap (1 + r84.1)), (IntKind.i64.wrap (2 + r88.1)), b87, (sv b86 1 1)), h, Y25.both (ns := [4, 0, 3, 1, 1]) rfl rfl⟩
      refine dal fun b87 => ?_
      refine OpsD.two ?_ ?_
      ·
       refine Y3z.h (ns := [1]) rfl rfl rfl (Y28 (Za r84.2 3 _ g89) rfl rfl) ?_
       rintro _ _ ⟨rfl, rfl⟩
       refine OpsD.v rfl rfl (Yx rfl rfl rfl rfl) ?_
       refine OpsD.one ?_
       refine Y3z.h (ns := []) rfl rfl rfl (Y3l (k := kI64) (ys := [e75.id]) Yai (.one rfl (One.val rfl) rfl rfl .nil) rfl rfl rfl) ?_
       rintro _ _ ⟨b86, rfl, rfl⟩
       refine OpsD.v rfl rfl (Y3k (ds := [cI (IntKind.i64.wrap (e75.id + 1)), cI 1, cI 1, cI 2, cI (IntKind.i64.wrap (1 + r84.1)), cI (IntKind.i64.wrap (2 + r88.1)), C.str ByteArray.empty, cV (sv b86 1 1), cI 0]) Yat Yah (Y4g rfl rfl) (.one rfl (One.val rfl) rfl rfl (.one rfl (One.val rfl) rfl rfl (.one rfl (One.val rfl) rfl rfl (.one rfl (One.val rfl) rfl rfl (.one rfl (One.val rfl) rfl rfl (.one rfl (One.val rfl) rfl rfl (.one rfl (One.val rfl) rfl rfl .nil))))))) rfl) ?_
       refine zw ?_
       exact ⟨(r88.2.b, r88.2.at_, r88.2.mix, r88.2.size, (IntKind.i64.wrap (1 + r84.1)), (IntKind.i64.wrap (2 + r88.1)), b87, (sv b86 1 1)), h, Y25.both (ns := [5, 0, 3, 1, 1]) rfl rfl⟩
      refine Y3z.h (ns := []) rfl rfl rfl (Y3l (k := kI64) (ys := [e75.id]) Yai (.one rfl (One.val rfl) rfl rfl .nil) rfl rfl rfl) ?_
      rintro _ _ ⟨b86, rfl, rfl⟩
      refine OpsD.one ?_
      refine Y3z.h (ns := [2]) rfl rfl rfl (Y28 (Za r84.2 3 _ g89) rfl rfl) ?_
      rintro _ _ ⟨rfl, rfl⟩
      refine OpsD.v rfl rfl (Yx rfl rfl rfl rfl) ?_
      refine OpsD.v rfl rfl (Y3k (ds := [cI (IntKind.i64.wrap (e75.id + 1)), cI 1, cI 1, cI 2, cI (IntKind.i64.wrap (1 + r84.1)), cI (IntKind.i64.wrap (2 + r88.1)), C.str ByteArray.empty, cV (sv b86 1 1), cI 0]) Yat Yah (Y4g rfl rfl) (.one rfl (One.val rfl) rfl rfl (.one rfl (One.val rfl) rfl rfl (.one rfl (One.val rfl) rfl rfl (.one rfl (One.val rfl) rfl rfl (.one rfl (One.val rfl) rfl rfl (.one rfl (One.val rfl) rfl rfl (.one rfl (One.val rfl) rfl rfl .nil))))))) rfl) ?_
      refine zw ?_
      exact ⟨(r88.2.b, r88.2.at_, r88.2.mix, r88.2.size, (IntKind.i64.wrap (1 + r84.1)), (IntKind.i64.wrap (2 + r88.1)), b87, (sv b86 1 1)), h, Y25.both (ns := [4, 0, 3, 1, 1]) rfl rfl⟩
     ·
      refine Y3z.h (ns := []) rfl rfl rfl (Y3l (k := kI64) (ys := [e75.id]) Yai (.one rfl (One.val rfl) rfl rfl .nil) rfl rfl rfl) ?_
      rintro _ _ ⟨b86, rfl, rfl⟩
      refine OpsD.two ?_ ?_
      ·
       refine Y3z.h (ns := [1]) rfl rfl rfl (Y28 (Za (Y9i.mk l64 x65 x66 x67) 4 _ g85) rfl rfl) ?_
       rintro _ _ ⟨rfl, rfl⟩
       refine zw ?_
       refine ob' h fun r90 g91 h => ?_
       refine OpsD.two ?_ ?_
       ·
        refine Y3z.h (ns := [0]) rfl rfl rfl (Y28 (Za r84.2 3 _ g91) rfl rfl) ?_
        rintro _ _ ⟨rfl, rfl⟩
        refine OpsD.v rfl rfl (Yx rfl rfl rfl rfl) ?_
        refine OpsD.v rfl rfl (Y3k (ds := [cI (IntKind.i64.wrap (e75.id + 1)), cI 1, cI 1, cI 2, cI (IntKind.i64.wrap (1 + r84.1)), cI (IntKind.i64.wrap (2 + r90.1)), C.str ByteArray.empty, cV (sv b86 1 1), cI 0]) Yat Yah (Y4g rfl rfl) (.one rfl (One.val rfl) rfl rfl (.one rfl (One.val rfl) rfl rfl (.one rfl (One.val rfl) rfl rfl (.one rfl (One.val rfl) rfl rfl (.one rfl (One.val rfl) rfl rfl (.one rfl (One.val rfl) rfl rfl (.one rfl (One.val rfl) rfl rfl .nil))))))) rfl) ?_
        refine zw ?_
        refine dal fun b87 => ?_
        refine zw ?_
        exact ⟨(r90.2.b, r90.2.at_, r90.2.mix, r90.2.size, (IntKind.i64.wrap (1 + r84.1)), (IntKind.i64.wrap (2 + r90.1)), b87, (sv b86 1 1)), h, Y25.both (ns := [4, 0, 3, 1, 1]) rfl rfl⟩
       refine dal fun b87 => ?_
       refine OpsD.one ?_
       refine Y3z.h (ns := [1]) rfl rfl rfl (Y28 (Za r84.2 3 _ g91) rfl rfl) ?_
       rintro _ _ ⟨rfl, rfl⟩
       refine OpsD.v rfl rfl (Yx rfl rfl rfl rfl) ?_
       refine OpsD.v rfl rfl (Y3k (ds := [cI (IntKind.i64.wrap (e75.id + 1)), cI 1, cI 1, cI 2, cI (IntKind.i64.wrap (1 + r84.1)), cI (IntKind.i64.wrap (2 + r90.1)), C.str ByteArray.empty, cV (sv b86 1 1), cI 0]) Yat Yah (Y4g rfl rfl) (.one rfl (One.val rfl) rfl rfl (.one rfl (One.val rfl) rfl rfl (.one rfl (One.val rfl) rfl rfl (.one rfl (One.val rfl) rfl rfl (.one rfl (One.val rfl) rfl rfl (.one rfl (One.val rfl) rfl rfl (.one rfl (One.val rfl) rfl rfl .nil))))))) rfl) ?_
       refine zw ?_
       exact ⟨(r90.2.b, r90.2.at_, r90.2.mix, r90.2.size, (IntKind.i64.wrap (1 + r84.1)), (IntKind.i64.wrap (2 + r90.1)), b87, (sv b86 1 1)), h, Y25.both (ns := [4, 0, 3, 1, 1]) rfl rfl⟩
      refine dal fun b87 => ?_
      refine OpsD.one ?_
      refine Y3z.h (ns := [2]) rfl rfl rfl (Y28 (Za (Y9i.mk l64 x65 x66 x67) 4 _ g85) rfl rfl) ?_
      rintro _ _ ⟨rfl, rfl⟩
      refine zw ?_
      refine ob' h fun r92 g93 h => ?_
      refine Y3z.h (ns := [0]) rfl rfl rfl (Y28 (Za r84.2 3 _ g93) rfl rfl) ?_
      rintro _ _ ⟨rfl, rfl⟩
      refine OpsD.v rfl rfl (Yx rfl rfl rfl rfl) ?_
      refine OpsD.v rfl rfl (Y3k (ds := [cI (IntKind.i64.wrap (e75.id + 1)), cI 1, cI 1, cI 2, cI (IntKind.i64.wrap (1 + r84.1)), cI (IntKind.i64.wrap (2 + r92.1)), C.str ByteArray.empty, cV (sv b86 1 1), cI 0]) Yat Yah (Y4g rfl rfl) (.one rfl (One.val rfl) rfl rfl (.one rfl (One.val rfl) rfl rfl (.one rfl (One.val rfl) rfl rfl (.one rfl (One.val rfl) rfl rfl (.one rfl (One.val rfl) rfl rfl (.one rfl (One.val rfl) rfl rfl (.one rfl (One.val rfl) rfl rfl .nil))))))) rfl) ?_
      refine zw ?_
      exact ⟨(r92.2.b, r92.2.at_, r92.2.mix, r92.2.size, (IntKind.i64.wrap (1 + r84.1)), (IntKind.i64.wrap (2 + r92.1)), b87, (sv b86 1 1)), h, Y25.both (ns := [4, 0, 3, 1, 1]) rfl rfl⟩
     refine dal fun b87 => ?_
     refine OpsD.two ?_ ?_
     ·
      refine Y3z.h (ns := [1]) rfl rfl rfl (Y28 (Za (Y9i.mk l64 x65 x66 x67) 4 _ g85) rfl rfl) ?_
      rintro _ _ ⟨rfl, rfl⟩
      refine zw ?_
      refine ob' h fun r94 g95 h => ?_
      refine OpsD.two ?_ ?_
      ·
       refine Y3z.h (ns := [0]) rfl rfl rfl (Y28 (Za r84.2 3 _ g95) rfl rfl) ?_
       rintro _ _ ⟨rfl, rfl⟩
       refine OpsD.v rfl rfl (Yx rfl rfl rfl rfl) ?_
       refine OpsD.one ?_
       refine Y3z.h (ns := []) rfl rfl rfl (Y3l (k := kI64) (ys := [e75.id]) Yai (.one rfl (One.val rfl) rfl rfl .nil) rfl rfl rfl) ?_
       rintro _ _ ⟨b86, rfl, rfl⟩
       refine OpsD.v rfl rfl (Y3k (ds := [cI (IntKind.i64.wrap (e75.id + 1)), cI 1, cI 1, cI 2, cI (IntKind.i64.wrap (1 + r84.1)), cI (IntKind.i64.wrap (2 + r94.1)), C.str ByteArray.empty, cV (sv b86 1 1), cI 0]) Yat Yah (Y4g rfl rfl) (.one rfl (One.val rfl) rfl rfl (.one rfl (One.val rfl) rfl rfl (.one rfl (One.val rfl) rfl rfl (.one rfl (One.val rfl) rfl rfl (.one rfl (One.val rfl) rfl rfl (.one rfl (One.val rfl) rfl rfl (.one rfl (One.val rfl) rfl rfl .nil))))))) rfl) ?_
       refine zw ?_
       exact ⟨(r94.2.b, r94.2.at_, r94.2.mix, r94.2.size, (IntKind.i64.wrap (1 + r84.1)), (IntKind.i64.wrap (2 + r94.1)), b87, (sv b86 1 1)), h, Y25.both (ns := [5, 0, 3, 1, 1]) rfl rfl⟩
      refine Y3z.h (ns := []) rfl rfl rfl (Y3l (k := kI64) (ys := [e75.id]) Yai (.one rfl (One.val rfl) rfl rfl .nil) rfl rfl rfl) ?_
      rintro _ _ ⟨b86, rfl, rfl⟩
      refine OpsD.one ?_
      refine Y3z.h (ns := [1]) rfl rfl rfl (Y28 (Za r84.2 3 _ g95) rfl rfl) ?_
      rintro _ _ ⟨rfl, rfl⟩
      refine OpsD.v rfl rfl (Yx rfl rfl rfl rfl) ?_
      refine OpsD.v rfl rfl (Y3k (ds := [cI (IntKind.i64.wrap (e75.id + 1)), cI 1, cI 1, cI 2, cI (IntKind.i64.wrap (1 + r84.1)), cI (IntKind.i64.wrap (2 + r94.1)), C.str ByteArray.empty, cV (sv b86 1 1), cI 0]) Yat Yah (Y4g rfl rfl) (.one rfl (One.val rfl) rfl rfl (.one rfl (One.val rfl) rfl rfl (.one rfl (One.val rfl) rfl rfl (.one rfl (One.val rfl) rfl rfl (.one rfl (One.val rfl) rfl rfl (.one rfl (One.val rfl) rfl rfl (.one rfl (One.val rfl) rfl rfl .nil))))))) rfl) ?_
      refine zw ?_
      exact ⟨(r94.2.b, r94.2.at_, r94.2.mix, r94.2.size, (IntKind.i64.wrap (1 + r84.1)), (IntKind.i64.wrap (2 + r94.1)), b87, (sv b86 1 1)), h, Y25.both (ns := [4, 0, 3, 1, 1]) rfl rfl⟩
     refine Y3z.h (ns := []) rfl rfl rfl (Y3l (k := kI64) (ys := [e75.id]) Yai (.one rfl (One.val rfl) rfl rfl .nil) rfl rfl rfl) ?_
     rintro _ _ ⟨b86, rfl, rfl⟩
     refine OpsD.one ?_
     refine Y3z.h (ns := [2]) rfl rfl rfl (Y28 (Za (Y9i.mk l64 x65 x66 x67) 4 _ g85) rfl rfl) ?_
     rintro _ _ ⟨rfl, rfl⟩
     refine zw ?_
     refine ob' h fun r96 g97 h => ?_
     refine Y3z.h (ns := [0]) rfl rfl rfl (Y28 (Za r84.2 3 _ g97) rfl rfl) ?_
     rintro _ _ ⟨rfl, rfl⟩
     refine OpsD.v rfl rfl (Yx rfl rfl rfl rfl) ?_
     refine OpsD.v rfl rfl (Y3k (ds := [cI (IntKind.i64.wrap (e75.id + 1)), cI 1, cI 1, cI 2, cI (IntKind.i64.wrap (1 + r84.1)), cI (IntKind.i64.wrap (2 + r96.1)), C.str ByteArray.empty, cV (sv b86 1 1), cI 0]) Yat Yah (Y4g rfl rfl) (.one rfl (One.val rfl) rfl rfl (.one rfl (One.val rfl) rfl rfl (.one rfl (One.val rfl) rfl rfl (.one rfl (One.val rfl) rfl rfl (.one rfl (One.val rfl) rfl rfl (.one rfl (One.val rfl) rfl rfl (.one rfl (One.val rfl) rfl rfl .nil))))))) rfl) ?_
     refine zw ?_
     exact ⟨(r96.2.b, r96.2.at_, r96.2.mix, r96.2.size, (IntKind.i64.wrap (1 + r84.1)), (IntKind.i64.wrap (2 + r96.1)), b87, (sv b86 1 1)), h, Y25.both (ns := [4, 0, 3, 1, 1]) rfl rfl⟩
    rintro ⟨l98, x99, x100, x101, x103, x104, b102, v105⟩ h
    replace h : Z57 x68 l69 l70 x71 e75 l98 x99 x100 x101 x103 x104 = some y148 := h
    unfold Z57 at h
    refine AW.seq ?_
    refine AW.cut (τ := List Int × Int × Int × Int × Int × Int) (fun (l111, x112, x113, x114, x115, x116) => ⟨[(0, pt b00), (2, pt b1), (3, pt b5), (4, cI x71), (6, pt b102)], [oB b00 159 [cM kU8 1 l111, cI x112, cV (.int .u64 x113), cI x114], oB b102 42 [cI (IntKind.i64.wrap (e75.id + 1)), cI 1, cI 1, cI x115, cI x103, cI x116, C.str ByteArray.empty, cV v105, cI 0], oB b1 25 [cI 0, cV s0, cV s0], oB b5 25 [cI x68, cM Y9q 9 l69, cM Y9q 9 l70], oA v105 2 kI64 1 [e75.id]]⟩) (fun (l111, x112, x113, x114, x115, x116) => Z56 x68 l69 l70 x71 e75 x103 l111 x112 x113 x114 x115 x116 = some y148) ?_ ?_
    ·
     refine zw ?_
     refine ob' h fun r106 g107 h => ?_
     refine Ops.hd (ns := [0]) rfl rfl (Y28 ((Zd (Y9i.mk l98 x99 x100 x101) 3).h _ _ g107) rfl rfl) ?_
     refine zw ?_
     refine cnd h (fun hb108 h => ?_) fun hb108 h => ?_
     ·
      refine AW.ct hb108 rfl ?_
      refine zw ?_
      refine ob' h fun r109 g110 h => ?_
      refine Ops.hd (ns := [1]) rfl rfl (Y28 (Za r106.2 3 _ g110) rfl rfl) ?_
      refine zw ?_
      exact ⟨(r109.2.b, r109.2.at_, r109.2.mix, r109.2.size, 3, (IntKind.i64.wrap (50 * r109.1))), h, Y25.both (ns := [1, 0, 1, 1, 0]) rfl rfl⟩
     refine AW.cf hb108 rfl ?_
     refine zw ?_
     exact ⟨(r106.2.b, r106.2.at_, r106.2.mix, r106.2.size, 2, x104), h, Y25.both (ns := [0, 0, 1, 1, 0]) rfl rfl⟩
    rintro ⟨l111, x112, x113, x114, x115, x116⟩ h
    replace h : Z56 x68 l69 l70 x71 e75 x103 l111 x112 x113 x114 x115 x116 = some y148 := h
    unfold Z56 at h
    refine AW.seq ?_
    refine AW.region ?_
    refine Ops.v rfl (Y1p (p := 3) (ds := [cI x68, cM Y9q 9 l69, cM Y9q 9 l70]) Yb8.h rfl rfl rfl rfl rfl) ?_
    refine Ops.ghost (Y25.boxFrz (ns := [1, 3]) rfl (fS (fS (fS (fS (fS (fS (fS (FrzL.cons (os := [_]) Frz.arr (fS FrzL.nil)))))))))) ?_
    refine zw ?_
    refine oc h fun r117 g118 h => ?_
    refine al fun b119 => ?_
    refine zw ?_
    refine cnd h (fun hb120 h => ?_) fun hb120 h => ?_
    ·
     refine AW.ct hb120 rfl ?_
     refine zw ?_
     exact ⟨(l111, x112, x113, x114, r117.graph.room, r117.graph.events, r117.graph.parked), h, Y25.both (ns := [3, 0, 2]) rfl rfl⟩
    refine AW.cf hb120 rfl ?_
    refine zw ?_
    exact ⟨(l111, x112, x113, x114, x68, l69, l70), h, Y25.both (ns := [2, 3, 2]) rfl rfl⟩
   rintro ⟨l121, x122, x123, x124, x125, l126, l127⟩ h
   replace h : Z55 x71 l121 x122 x123 x124 x125 l126 l127 = some y148 := h
   unfold Z55 at h
   refine zw ?_
   obtain rfl := Wj h
   exact ⟨k146, (l121, x122, x123, x124, x125, l126, l127, (IntKind.i64.wrap (x71 - 1))), hlt_k146, h149, Y25.both (ns := [0, 0, 0]) rfl rfl⟩
  refine AW.cf hb74 rfl ?_
  refine AW.exit ?_
  obtain rfl := Wj h
  obtain rfl := Wj h149
  replace h := q145
  exact ⟨(x68, l69, l70, l64, x65, x66, x67), h, Y25.both (ns := [2, 0, 0]) rfl rfl⟩
 rintro ⟨x128, l129, l130, l131, x132, x133, x134⟩ h
 replace h : Z54 x128 l129 l130 l131 x132 x133 x134 = some r := h
 unfold Z54 at h
 refine zw ?_
 refine AW.ret ?_
 rw [← Wj h]
 exact finI ⟨[C.agg [cI x128, cM Y9q 9 l129, cM Y9q 9 l130]], _, Y25.refl _, (.cons (.cell (p := 0) rfl rfl Yb8.h rfl) .nil), [2], _, _, rfl, ⟨rfl, rfl⟩⟩
instance Z5c (p0 : Y9i) : SpO Tryz.prog 96 (Z5a p0) (.x fun (b00 : Nat) => .d [pt b00] [oB b00 159 [cM kU8 1 p0.b, cI p0.at_, cV (.int .u64 p0.mix), cI p0.size]] fun r => .d (C.agg [cI r.1.room, cM Y9q 9 r.1.events, cM Y9q 9 r.1.parked]) [oB b00 159 [cM kU8 1 r.2.b, cI r.2.at_, cV (.int .u64 r.2.mix), cI r.2.size]]) := ⟨fun b00 r h => Z5b p0 r h⟩

def Z5d (p0 : List Int) : Option (Y9k × Int) := (Z5 p0).bind fun r2 => (Z5a r2).bind fun r5 => (Z9 r5.2 6).bind fun r12 => some (r5.1, r12.1)
instance Z5e (p0 : List Int) : Sp Tryz.prog 27 [cM kU8 1 p0] (Z5d p0) (fun r => C.tup [C.agg [cI r.1.room, cM Y9q 9 r.1.events, cM Y9q 9 r.1.parked], cI r.2]) := Sp.of (so Tryz.func27 rfl rfl fun r X h => gh (.k (.r [0,1] [0] [3] [1,4,10,15,16] .z)))

def Z5f (x2 : Bool) : Option Bool := some x2
def Z5g (p0 : Int) (p1 : Int) (p2 : Int) : Option Bool := cond (decide (p1 ≤ p0)) (Z5f (decide (p0 ≤ p2))) (Z5f false)
instance Z5h (p0 : Int) (p1 : Int) (p2 : Int) : Sp Tryz.prog 176 [cI p0, cI p1, cI p2] (Z5g p0 p1 p2) (fun r => C.bool r) := Sp.of (so Tryz.func176 rfl rfl fun r X h => gh (.q 1 (.c1 (fun x2 => .d [(6, C.bool x2)] []) [] [] .z .z)))

def Z5i (p0 : Int) : Option Bool := (Z5g p0 1 3).bind fun r1 => some r1
instance Z5j (p0 : Int) : Sp Tryz.prog 111 [cI p0] (Z5i p0) (fun r => C.bool r) := Sp.of (so Tryz.func111 rfl rfl fun r X h => gh .z)

def Z5k (p0 : Int) : Option Bool := (Z5g p0 1 1000000).bind fun r1 => some r1
instance Z5l (p0 : Int) : Sp Tryz.prog 262 [cI p0] (Z5k p0) (fun r => C.bool r) := Sp.of (so Tryz.func262 rfl rfl fun r X h => gh .z)

def Z5m (p0 : Int) : Option Bool := (Z5g p0 1 6).bind fun r1 => some r1
instance Z5n (p0 : Int) : Sp Tryz.prog 97 [cI p0] (Z5m p0) (fun r => C.bool r) := Sp.of (so Tryz.func97 rfl rfl fun r X h => gh .z)

def Z5o (p0 : Int) : Option Bool := (Z5g p0 0 1000000).bind fun r1 => some r1
instance Z5p (p0 : Int) : Sp Tryz.prog 263 [cI p0] (Z5o p0) (fun r => C.bool r) := Sp.of (so Tryz.func263 rfl rfl fun r X h => gh .z)

def Z5q : Option Bool := some true
def Z5r (x12 : Int) (x22 : Bool) : Option (Int ⊕ (Bool ⊕ Unit)) := cond x22 (some (.inr (.inl false))) (some (.inl (IntKind.i64.wrap (x12 + 1))))
def Z5s (p0 : List Int) (p1 : Int) (p2 : Int) (x12 : Int) : Option (Int ⊕ (Bool ⊕ Unit)) := cond (decide (x12 < (p0.length : Int))) ((getI p0 x12).bind fun e14 => (Z5g e14 p1 p2).bind fun r16 => cond r16 (cond (decide (x12 > 0)) ((getI p0 (IntKind.i64.wrap (x12 - 1))).bind fun e20 => Z5r x12 (decide (e20 ≥ e14))) (Z5r x12 false)) (Z5r x12 true)) (some (.inr (.inr ())))
def Z5t (p0 : List Int) (p1 : Int) (p2 : Int) : Option Bool := (iter (Z5s p0 p1 p2) big 0).bind (fun z25 => match z25 with | .inl y24 => some y24 | .inr () => Z5q)
instance Z5u (p0 : List Int) (p1 : Int) (p2 : Int) : Sp Tryz.prog 264 [cM kI64 1 p0, cI p1, cI p2] (Z5t p0 p1 p2) (fun r => C.bool r) := Sp.of (so Tryz.func264 rfl rfl fun r X h => gh (.q 1 (.c0 (.d [] []) [] [] (.l1 (fun x12 => .d [(11, cI x12)] []) [0,1,2,9,10] [] (.b (.q 2 (.c1 (fun x22 => .d [(33, C.bool x22)] []) [0,1,2,9,10,11] [] .z .z)) .z)) .z)))

def Z5v : Option Int := some (-1)
def Z5w (p0 : List Int) (p1 : Int) (x5 : Int) : Option (Int ⊕ (Int ⊕ Unit)) := cond (decide (x5 < (p0.length : Int))) ((getI p0 x5).bind fun e7 => cond (p1 == e7) (some (.inr (.inl x5))) (some (.inl (IntKind.i64.wrap (x5 + 1))))) (some (.inr (.inr ())))
def Z5x (p0 : List Int) (p1 : Int) : Option Int := (iter (Z5w p0 p1) big 0).bind (fun z11 => match z11 with | .inl y10 => some y10 | .inr () => Z5v)
instance Z5y (p0 : List Int) (p1 : Int) : Sp Tryz.prog 258 [cM kI64 1 p0, cI p1] (Z5x p0 p1) (fun r => cI r) := Sp.of (so Tryz.func258 rfl rfl fun r X h => gh (.q 1 (.c0 (.d [] []) [] [] (.l1 (fun x5 => .d [(8, cI x5)] []) [0,1,7] [] .z) .z)))

def Z5z (p0 : List Int) (p1 : Int) : Option Bool := (Z5x p0 p1).bind fun r1 => some (decide (r1 ≥ 0))
instance Z60 (p0 : List Int) (p1 : Int) : Sp Tryz.prog 232 [cM kI64 1 p0, cI p1] (Z5z p0 p1) (fun r => C.bool r) := Sp.of (so Tryz.func232 rfl rfl fun r X h => gh .z)

def Z61 (x5 : Bool) : Option Bool := some x5
def Z62 (x13 : Bool) : Option Bool := some x13
def Z63 (x21 : Bool) : Option Bool := some x21
def Z64 (x25 : Bool) : Option Bool := some x25
def Z65 (x31 : Bool) : Option Bool := some x31
def Z66 (x37 : Bool) : Option Bool := some x37
def Z67 (x43 : Bool) : Option Bool := some x43
def Z68 (x49 : Bool) : Option Bool := some x49
def Z69 (p0 : Y9j) : Option Bool := cond (p0.kind == 1) (cond (p0.key == 0) (cond (p0.n == 0) (Z61 ((p0.text.size : Int) == 0)) (Z61 false)) (Z61 false)) (cond (p0.kind == 2) ((Z5m p0.key).bind fun r7 => cond r7 ((Z5g p0.n 1 4).bind fun r10 => cond r10 (Z62 ((p0.text.size : Int) == 0)) (Z62 false)) (Z62 false)) (cond (p0.kind == 3) ((Z5m p0.key).bind fun r15 => cond r15 ((Z5g p0.n 0 100).bind fun r18 => cond r18 (Z63 ((p0.text.size : Int) == 0)) (Z63 false)) (Z63 false)) (cond (p0.kind == 4) (cond (p0.key == 0) (cond (p0.n == 0) (Z64 (decide ((p0.text.size : Int) ≤ 30))) (Z64 false)) (Z64 false)) (cond (p0.kind == 5) (cond (p0.key == 0) ((Z5g p0.n 1 2).bind fun r28 => cond r28 (Z65 ((p0.text.size : Int) == 0)) (Z65 false)) (Z65 false)) (cond (p0.kind == 6) (cond (p0.key == 0) ((Z5g p0.n 1 3).bind fun r34 => cond r34 (Z66 ((p0.text.size : Int) == 0)) (Z66 false)) (Z66 false)) (cond (p0.kind == 7) (cond (p0.key == 0) (cond (p0.n == 0) ((Z5g (p0.text.size : Int) 1 30).bind fun r41 => Z67 r41) (Z67 false)) (Z67 false)) (cond (p0.kind == 8) ((Z5k p0.key).bind fun r45 => cond r45 (cond (p0.n == 0) (Z68 ((p0.text.size : Int) == 0)) (Z68 false)) (Z68 false)) (Z68 false))))))))
instance Z6a (p0 : Y9j) : Sp Tryz.prog 265 [C.agg [cI p0.id, cI p0.room, cI p0.author, cI p0.kind, cI p0.key, cI p0.n, C.str p0.text, cM kI64 1 p0.prev, cI p0.time]] (Z69 p0) (fun r => C.bool r) := Sp.of (so Tryz.func265 rfl rfl fun r X h => gh (.r [0] [1,4,7] [] [0,5,8,12,17,20,24,29,32,36,40,44] (.b (.c1 (fun x5 => .d [(2, C.bool x5)] []) [] [] .z .z) (.b (.c1 (fun x13 => .d [(2, C.bool x13)] []) [] [] .z .z) (.b (.c1 (fun x21 => .d [(2, C.bool x21)] []) [] [] .z .z) (.b (.c1 (fun x25 => .d [(2, C.bool x25)] []) [] [] .z .z) (.b (.c1 (fun x31 => .d [(2, C.bool x31)] []) [] [] .z .z) (.b (.c1 (fun x37 => .d [(2, C.bool x37)] []) [] [] .z .z) (.b (.c1 (fun x43 => .d [(2, C.bool x43)] []) [] [] .z .z) (.c1 (fun x49 => .d [(2, C.bool x49)] []) [] [] .z .z))))))))))

def Z6b (x23 : Bool) : Option Bool := some x23
def Z6c (p0 : Y9j) : Option Bool := (Z5k p0.id).bind fun r2 => cond r2 ((Z5i p0.room).bind fun r5 => cond r5 ((Z5m p0.author).bind fun r8 => cond r8 ((Z5o p0.time).bind fun r11 => cond r11 (cond (decide ((p0.prev.length : Int) ≤ 4)) ((Z5t p0.prev 1 1000000).bind fun r15 => cond r15 ((Z5z p0.prev p0.id).bind fun r18 => cond r18 (Z6b false) ((Z69 p0).bind fun r21 => Z6b r21)) (Z6b false)) (Z6b false)) (Z6b false)) (Z6b false)) (Z6b false)) (Z6b false)
instance Z6d (p0 : Y9j) : Sp Tryz.prog 242 [C.agg [cI p0.id, cI p0.room, cI p0.author, cI p0.kind, cI p0.key, cI p0.n, C.str p0.text, cM kI64 1 p0.prev, cI p0.time]] (Z6c p0) (fun r => C.bool r) := Sp.of (so Tryz.func242 rfl rfl fun r X h => gh (.q 1 (.c1 (fun x23 => .d [(2, C.bool x23)] []) [] [] .z .z)))

def Z6e (x5 : Bool) : Option Bool := some x5
def Z6f (p0 : Y9j) : Option Bool := (Z6c p0).bind fun r2 => cond r2 (Z6e ((p0.kind == 1) == ((p0.prev.length : Int) == 0))) (Z6e false)
instance Z6g (p0 : Y9j) : Sp Tryz.prog 203 [C.agg [cI p0.id, cI p0.room, cI p0.author, cI p0.kind, cI p0.key, cI p0.n, C.str p0.text, cM kI64 1 p0.prev, cI p0.time]] (Z6f p0) (fun r => C.bool r) := Sp.of (so Tryz.func203 rfl rfl fun r X h => gh (.q 1 (.c1 (fun x5 => .d [(2, C.bool x5)] []) [] [] .z .z)))

def Z6h : Option Bool := some true
def Z6i (x15 : Int) (x27 : Bool) : Option (Int ⊕ (Bool ⊕ Unit)) := cond x27 (some (.inr (.inl false))) (some (.inl (IntKind.i64.wrap (x15 + 1))))
def Z6j (p0 : Y9k) (p1 : List Y9j) (x15 : Int) : Option (Int ⊕ (Bool ⊕ Unit)) := cond (decide (x15 < (p1.length : Int))) ((getI p1 x15).bind fun e17 => (Z6f e17).bind fun r20 => cond r20 (cond (e17.room != p0.room) (Z6i x15 true) (cond (decide (x15 > 0)) ((getI p1 (IntKind.i64.wrap (x15 - 1))).bind fun e25 => Z6i x15 (decide (e25.id ≥ e17.id))) (Z6i x15 false))) (Z6i x15 true)) (some (.inr (.inr ())))
def Z6k (p0 : Y9k) (p1 : List Y9j) : Option Bool := (iter (Z6j p0 p1) big 0).bind (fun z30 => match z30 with | .inl y29 => some y29 | .inr () => Z6h)
instance Z6l (p0 : Y9k) (p1 : List Y9j) : Sp Tryz.prog 139 [C.agg [cI p0.room, cM Y9q 9 p0.events, cM Y9q 9 p0.parked], cM Y9q 9 p1] (Z6k p0 p1) (fun r => C.bool r) := Sp.of (so Tryz.func139 rfl rfl fun r X h => gh (.q 1 (.c0 (.d [] []) [] [] (.l1 (fun x15 => .d [(9, cI x15)] []) [1,2,7,8] [0] (.b (.q 2 (.c1 (fun x27 => .d [(38, C.bool x27)] []) [1,2,7,8,9] [1] (.r [0,0] [0,5,7,19,21] [] [1,6,8,12,16,21,24,29,32,36,40,44,48,52,56,60,64,68,72,77,80,85,88,92,96] .z) .z)) .z)) .z)))

def Z6m (p0 : Int) : Option Bool := some (p0 != p0)
instance Z6n (p0 : Int) : Sp Tryz.prog 213 [cI p0] (Z6m p0) (fun r => C.bool r) := Sp.of (so Tryz.func213 rfl rfl fun r X h => gh .z)

def Z6o (p0 : Int) (p1 : Int) : Option Int := (Z6m p0).bind fun r1 => (Z6m p1).bind fun r3 => cond r1 (cond r3 (some 0) (some (-1))) (cond r3 (some 1) (cond (decide (p0 < p1)) (some (-1)) (cond (decide (p0 > p1)) (some 1) (some 0))))
instance Z6p (p0 : Int) (p1 : Int) : Sp Tryz.prog 156 [cI p0, cI p1] (Z6o p0 p1) (fun r => cI r) := Sp.of (so Tryz.func156 rfl rfl fun r X h => gh .z)

def Z6q (p0 : Y9j) (p1 : Int) : Option Int := (Z6o p0.id p1).bind fun r2 => some r2
instance Z6r (p0 : Y9j) (p1 : Int) : Sp Tryz.prog 220 [C.agg [cI p0.id, cI p0.room, cI p0.author, cI p0.kind, cI p0.key, cI p0.n, C.str p0.text, cM kI64 1 p0.prev, cI p0.time], cI p1] (Z6q p0 p1) (fun r => cI r) := Sp.of (so Tryz.func220 rfl rfl fun r X h => gh .z)

def Z6s (x15 : Int) (x21 : Bool) : Option (Int × Bool) := some (x15, x21)
def Z6t (p0 : List Y9j) (p1 : Int) (x15 : Int) : Option (Int × Bool) := cond (decide (x15 < (p0.length : Int))) ((getI p0 x15).bind fun e17 => (Z6q e17 p1).bind fun r19 => Z6s x15 (r19 == 0)) (Z6s x15 false)
def Z6u (p0 : List Y9j) (p1 : Int) (x7 : Int) (x8 : Int) : Option ((Int × Int) ⊕ (Int)) := cond (decide (x7 < x8)) ((getI p0 (IntKind.i64.wrap (shrI .u64 (IntKind.u64.wrap (IntKind.i64.wrap (x7 + x8))) 1))).bind fun e10 => (Z6q e10 p1).bind fun r12 => cond (decide (r12 < 0)) (some (.inl ((IntKind.i64.wrap ((IntKind.i64.wrap (shrI .u64 (IntKind.u64.wrap (IntKind.i64.wrap (x7 + x8))) 1)) + 1)), x8))) (some (.inl (x7, (IntKind.i64.wrap (shrI .u64 (IntKind.u64.wrap (IntKind.i64.wrap (x7 + x8))) 1)))))) (some (.inr x7))
def Z6v (p0 : List Y9j) (p1 : Int) : Option (Int × Bool) := (iter (fun z22 => Z6u p0 p1 z22.1 z22.2) big (0, (p0.length : Int))).bind fun y23 => Z6t p0 p1 y23
instance Z6w (p0 : List Y9j) (p1 : Int) : Sp Tryz.prog 219 [cM Y9q 9 p0, cI p1, cV (.func (.func 220) #[] #[])] (Z6v p0 p1) (fun r => C.tup [cI r.1, C.bool r.2]) := Sp.of (so Tryz.func219 rfl rfl fun r X h => gh (.q 3 (.c1 (fun x15 => .d [(9, cI x15)] []) [0,1,2,8] [] (.l2 (fun x7 x8 => .d [(9, cI x7), (10, cI x8)] []) [0,1,2,8] [] .z) (.e 9 cI fun x15 => .c1 (fun x21 => .d [(6, cI x15), (7, C.bool x21)] []) [] [] .z .z))))

def Z6x (p0 : List Y9j) (p1 : Int) : Option (Int × Bool) := (Z6v p0 p1).bind fun r1 => some (r1.1, r1.2)
instance Z6y (p0 : List Y9j) (p1 : Int) : Sp Tryz.prog 159 [cM Y9q 9 p0, cI p1] (Z6x p0 p1) (fun r => C.tup [cI r.1, C.bool r.2]) := Sp.of (so Tryz.func159 rfl rfl fun r X h => gh .z)

def Z6z (p0 : Y9k) (p1 : Int) : Option Bool := (Z6x p0.events p1).bind fun r2 => some r2.2
instance Z70 (p0 : Y9k) (p1 : Int) : Sp Tryz.prog 79 [C.agg [cI p0.room, cM Y9q 9 p0.events, cM Y9q 9 p0.parked], cI p1] (Z6z p0 p1) (fun r => C.bool r) := Sp.of (so Tryz.func79 rfl rfl fun r X h => gh .z)

def Z71 (p0 : Int) (q0 : Y9k) : Option Bool := (Z6z q0 p0).bind fun r1 => some (!r1)
instance Z72 (p0 : Int) (q0 : Y9k) : SpO Tryz.prog 205 (Z71 p0 q0) (.x fun (b00 : Nat) => .d [cI p0, pt b00] [oB b00 25 [cI q0.room, cM Y9q 9 q0.events, cM Y9q 9 q0.parked]] fun r => .d (C.bool r) [oB b00 25 [cI q0.room, cM Y9q 9 q0.events, cM Y9q 9 q0.parked]]) := ⟨fun b00 => so Tryz.func205 rfl rfl fun r X h => gh .z⟩

def Z73 : Option Int := some (-1)
def Z74 (p0 : List Int) (p1_0 : Y9k) (x7 : Int) : Option (Int ⊕ (Int ⊕ Unit)) := cond (decide (x7 < (p0.length : Int))) ((getI p0 x7).bind fun e9 => (Z71 e9 p1_0).bind fun r11 => cond r11 (some (.inr (.inl x7))) (some (.inl (IntKind.i64.wrap (x7 + 1))))) (some (.inr (.inr ())))
def Z75 (p0 : List Int) (p1_0 : Y9k) : Option Int := (iter (Z74 p0 p1_0) big 0).bind (fun z15 => match z15 with | .inl y14 => some y14 | .inr () => Z73)
instance Z76 (p0 : List Int) (p1_0 : Y9k) : SpO Tryz.prog 237 (Z75 p0 p1_0) (.x fun (b00 : Nat) => .d [cM kI64 1 p0, C.clo 205 [pt b00]] [oB b00 25 [cI p1_0.room, cM Y9q 9 p1_0.events, cM Y9q 9 p1_0.parked]] fun r => .d (cI r) [oB b00 25 [cI p1_0.room, cM Y9q 9 p1_0.events, cM Y9q 9 p1_0.parked]]) := ⟨fun b00 => so Tryz.func237 rfl rfl fun r X h => gh (.q 1 (.c0 (.d [] []) [] [0] (.l1 (fun x7 => .d [(8, cI x7)] []) [0,1,7] [0] .z) .z))⟩

def Z77 (p0 : List Int) (p1_0 : Y9k) : Option Bool := (Z75 p0 p1_0).bind fun r1 => some (decide (r1 ≥ 0))
instance Z78 (p0 : List Int) (p1_0 : Y9k) : SpO Tryz.prog 188 (Z77 p0 p1_0) (.x fun (b00 : Nat) => .d [cM kI64 1 p0, C.clo 205 [pt b00]] [oB b00 25 [cI p1_0.room, cM Y9q 9 p1_0.events, cM Y9q 9 p1_0.parked]] fun r => .d (C.bool r) [oB b00 25 [cI p1_0.room, cM Y9q 9 p1_0.events, cM Y9q 9 p1_0.parked]]) := ⟨fun b00 => so Tryz.func188 rfl rfl fun r X h => gh .z⟩

def Z79 (p0 : Y9k) (p1 : Y9j) : Option Bool := (Z77 p1.prev p0).bind fun r3 => some (!r3)
instance Z7a (p0 : Y9k) (p1 : Y9j) : Sp Tryz.prog 142 [C.agg [cI p0.room, cM Y9q 9 p0.events, cM Y9q 9 p0.parked], C.agg [cI p1.id, cI p1.room, cI p1.author, cI p1.kind, cI p1.key, cI p1.n, C.str p1.text, cM kI64 1 p1.prev, cI p1.time]] (Z79 p0 p1) (fun r => C.bool r) := Sp.of (so Tryz.func142 rfl rfl fun r X h => gh .z)

def Z7b (l140 : List Int) (x141 : Int) : Option (List Int × Bool) := some (l140, (x141 == 0))
def Z7c (x109 : Int) (l137 : List Int) (x138 : Int) (x139 : Bool) : Option ((List Int × Int × Bool × Int) ⊕ ((List Int × Int × Bool))) := some (.inl (l137, x138, x139, (IntKind.i64.wrap (x109 + 1))))
def Z7d (l106 : List Int) (x107 : Int) (x108 : Bool) (x109 : Int) (x135 : Int) : Option ((List Int × Int × Bool × Int) ⊕ ((List Int × Int × Bool))) := cond (decide (x135 > 0)) (Z7c x109 (List.set l106 (Int.toNat x109) x135) (IntKind.i64.wrap (x107 - 1)) true) (Z7c x109 l106 x107 x108)
def Z7e (p0 : Y9k) (l106 : List Int) (e111 : Y9j) (x125 : Int) (x126 : Int) : Option ((Int × Int) ⊕ (Int)) := cond (decide (x126 < (e111.prev.length : Int))) ((getI e111.prev x126).bind fun e128 => (Z6x p0.events e128).bind fun r130 => (getI l106 r130.1).bind fun e132 => cond (e132 == 0) (some (.inr 0)) (some (.inl ((if (IntKind.i64.wrap (e132 + 1)) > x125 then (IntKind.i64.wrap (e132 + 1)) else x125), (IntKind.i64.wrap (x126 + 1)))))) (some (.inr x125))
def Z7f (p0 : Y9k) (l106 : List Int) (x107 : Int) (x108 : Bool) (x109 : Int) : Option ((List Int × Int × Bool × Int) ⊕ ((List Int × Int × Bool))) := cond (decide (x109 < (p0.events.length : Int))) ((getI p0.events x109).bind fun e111 => (getI l106 x109).bind fun e114 => cond (decide (e114 > 0)) (Z7c x109 l106 x107 x108) ((iter (fun z143 => Z7e p0 l106 e111 z143.1 z143.2) big (1, 0)).bind fun y144 => Z7d l106 x107 x108 x109 y144)) (some (.inr (l106, x107, x108)))
def Z7g (p0 : Y9k) (l70 : List Int) (x71 : Int) (x74 : Bool) : Option ((List Int × Int × Bool) ⊕ ((List Int × Int))) := cond x74 ((iter (fun z145 => Z7f p0 z145.1 z145.2.1 z145.2.2.1 z145.2.2.2) big (l70, x71, false, 0)).bind fun (y146, y147, y148) => some (.inl (y146, y147, y148))) (some (.inr (l70, x71)))
def Z7h (p0 : Y9k) (l70 : List Int) (x71 : Int) (x72 : Bool) : Option ((List Int × Int × Bool) ⊕ ((List Int × Int))) := cond x72 (Z7g p0 l70 x71 (decide (x71 > 0))) (Z7g p0 l70 x71 false)
def Z7i (p0 : Y9k) : Option (List Int × Bool) := (chk (decide (0 ≤ (p0.events.length : Int) ∧ (p0.events.length : Int) * 8 ≤ 140737488355328))).bind fun u3 => (iter (fun z149 => Z7h p0 z149.1 z149.2.1 z149.2.2) big ((List.replicate (Int.toNat (p0.events.length : Int)) 0), (p0.events.length : Int), true)).bind fun (y150, y151) => Z7b y150 y151
instance Z7j (p0 : Y9k) : SpO Tryz.prog 144 (Z7i p0) (.d [C.agg [cI p0.room, cM Y9q 9 p0.events, cM Y9q 9 p0.parked]] [] fun r => .x fun (v142 : Value) => .d (C.tup [cV v142, C.bool r.2]) [oA v142 2 kI64 1 r.1]) := ⟨so Tryz.func144 rfl rfl fun r X h => gh (.r [0] [1,5] [] [0,5,8,16,21,24,14,28,32] (.a 1 fun w1 => .c2 (fun l140 x141 => .d [(5, cI x141)] [oA w1 2 kI64 1 l140]) [4] [] (.A 1 fun w1 => .l3 (fun l70 x71 x72 => .d [(5, cI x71), (6, C.bool x72)] [oA w1 2 kI64 1 l70]) [1,4] [0] (.q 1 (.c1 (fun x74 => .d [(25, C.bool x74)] []) [1,4,5] [1,0] .z (.b (.A 1 fun w1 => .l4 (fun l106 x107 x108 x109 => .d [(5, cI x107), (6, C.bool x108), (29, cI x109)] [oA w1 2 kI64 1 l106]) [1,4,27,28] [0] (.b (.a 0 fun w0 => .c3 (fun l137 x138 x139 => .d [(5, cI x138), (6, C.bool x139)] [oA w0 2 kI64 1 l137]) [1,4,27,28,29] [1] (.b .z (.q 1 (.c1 (fun x135 => .d [(9, cI x135)] []) [1,4,5,6,7,27,28,29] [2,1] (.l2 (fun x125 x126 => .d [(9, cI x125), (42, cI x126)] []) [1,4,5,6,7,27,28,29,40,41] [2,1] .z) .z))) .z) .z)) .z)))) .z))⟩
instance Z7j' (p0 : Y9k) : Sp Tryz.prog 144 [C.agg [cI p0.room, cM Y9q 9 p0.events, cM Y9q 9 p0.parked]] (Z7i p0) (fun r => C.tup [cM kI64 1 r.1, C.bool r.2]) := ⟨fun r h => Ok.freeze ((Z7j p0).h r h) (by rintro c qs ⟨v142, rfl, rfl⟩; exact Frz.tup (FrzT.cons (os := [_]) (Frz.arr) (fT (FrzT.nil))))⟩

def Z7k (p0 : Y9j) (q0 : Y9k) : Option Bool := (Z79 q0 p0).bind fun r2 => some (!r2)
instance Z7l (p0 : Y9j) (q0 : Y9k) : SpO Tryz.prog 141 (Z7k p0 q0) (.x fun (b00 : Nat) => .d [C.agg [cI p0.id, cI p0.room, cI p0.author, cI p0.kind, cI p0.key, cI p0.n, C.str p0.text, cM kI64 1 p0.prev, cI p0.time], pt b00] [oB b00 25 [cI q0.room, cM Y9q 9 q0.events, cM Y9q 9 q0.parked]] fun r => .d (C.bool r) [oB b00 25 [cI q0.room, cM Y9q 9 q0.events, cM Y9q 9 q0.parked]]) := ⟨fun b00 => so Tryz.func141 rfl rfl fun r X h => gh .z⟩

def Z7m : Option Int := some (-1)
def Z7n (p0 : List Y9j) (p1_0 : Y9k) (x7 : Int) : Option (Int ⊕ (Int ⊕ Unit)) := cond (decide (x7 < (p0.length : Int))) ((getI p0 x7).bind fun e9 => (Z7k e9 p1_0).bind fun r11 => cond r11 (some (.inr (.inl x7))) (some (.inl (IntKind.i64.wrap (x7 + 1))))) (some (.inr (.inr ())))
def Z7o (p0 : List Y9j) (p1_0 : Y9k) : Option Int := (iter (Z7n p0 p1_0) big 0).bind (fun z15 => match z15 with | .inl y14 => some y14 | .inr () => Z7m)
instance Z7p (p0 : List Y9j) (p1_0 : Y9k) : SpO Tryz.prog 204 (Z7o p0 p1_0) (.x fun (b00 : Nat) => .d [cM Y9q 9 p0, C.clo 141 [pt b00]] [oB b00 25 [cI p1_0.room, cM Y9q 9 p1_0.events, cM Y9q 9 p1_0.parked]] fun r => .d (cI r) [oB b00 25 [cI p1_0.room, cM Y9q 9 p1_0.events, cM Y9q 9 p1_0.parked]]) := ⟨fun b00 => so Tryz.func204 rfl rfl fun r X h => gh (.q 1 (.c0 (.d [] []) [] [0] (.l1 (fun x7 => .d [(8, cI x7)] []) [0,1,7] [0] .z) .z))⟩

def Z7q (p0 : List Y9j) (p1_0 : Y9k) : Option Bool := (Z7o p0 p1_0).bind fun r1 => some (decide (r1 ≥ 0))
instance Z7r (p0 : List Y9j) (p1_0 : Y9k) : SpO Tryz.prog 140 (Z7q p0 p1_0) (.x fun (b00 : Nat) => .d [cM Y9q 9 p0, C.clo 141 [pt b00]] [oB b00 25 [cI p1_0.room, cM Y9q 9 p1_0.events, cM Y9q 9 p1_0.parked]] fun r => .d (C.bool r) [oB b00 25 [cI p1_0.room, cM Y9q 9 p1_0.events, cM Y9q 9 p1_0.parked]]) := ⟨fun b00 => so Tryz.func140 rfl rfl fun r X h => gh .z⟩

def Z7s (x7 : Bool) : Option Bool := some x7
def Z7t (p0 : Y9j) (q0 : Y9k) : Option Bool := (Z6z q0 p0.id).bind fun r2 => cond r2 (Z7s true) ((Z79 q0 p0).bind fun r5 => Z7s r5)
instance Z7u (p0 : Y9j) (q0 : Y9k) : SpO Tryz.prog 143 (Z7t p0 q0) (.x fun (b00 : Nat) => .d [C.agg [cI p0.id, cI p0.room, cI p0.author, cI p0.kind, cI p0.key, cI p0.n, C.str p0.text, cM kI64 1 p0.prev, cI p0.time], pt b00] [oB b00 25 [cI q0.room, cM Y9q 9 q0.events, cM Y9q 9 q0.parked]] fun r => .d (C.bool r) [oB b00 25 [cI q0.room, cM Y9q 9 q0.events, cM Y9q 9 q0.parked]]) := ⟨fun b00 => so Tryz.func143 rfl rfl fun r X h => gh (.q 1 (.c1 (fun x7 => .d [(3, C.bool x7)] []) [] [1] .z .z))⟩

def Z7v : Option Int := some (-1)
def Z7w (p0 : List Y9j) (p1_0 : Y9k) (x7 : Int) : Option (Int ⊕ (Int ⊕ Unit)) := cond (decide (x7 < (p0.length : Int))) ((getI p0 x7).bind fun e9 => (Z7t e9 p1_0).bind fun r11 => cond r11 (some (.inr (.inl x7))) (some (.inl (IntKind.i64.wrap (x7 + 1))))) (some (.inr (.inr ())))
def Z7x (p0 : List Y9j) (p1_0 : Y9k) : Option Int := (iter (Z7w p0 p1_0) big 0).bind (fun z15 => match z15 with | .inl y14 => some y14 | .inr () => Z7v)
instance Z7y (p0 : List Y9j) (p1_0 : Y9k) : SpO Tryz.prog 204 (Z7x p0 p1_0) (.x fun (b00 : Nat) => .d [cM Y9q 9 p0, C.clo 143 [pt b00]] [oB b00 25 [cI p1_0.room, cM Y9q 9 p1_0.events, cM Y9q 9 p1_0.parked]] fun r => .d (cI r) [oB b00 25 [cI p1_0.room, cM Y9q 9 p1_0.events, cM Y9q 9 p1_0.parked]]) := ⟨fun b00 => so Tryz.func204 rfl rfl fun r X h => gh (.q 1 (.c0 (.d [] []) [] [0] (.l1 (fun x7 => .d [(8, cI x7)] []) [0,1,7] [0] .z) .z))⟩

def Z7z (p0 : List Y9j) (p1_0 : Y9k) : Option Bool := (Z7x p0 p1_0).bind fun r1 => some (decide (r1 ≥ 0))
instance Z80 (p0 : List Y9j) (p1_0 : Y9k) : SpO Tryz.prog 140 (Z7z p0 p1_0) (.x fun (b00 : Nat) => .d [cM Y9q 9 p0, C.clo 143 [pt b00]] [oB b00 25 [cI p1_0.room, cM Y9q 9 p1_0.events, cM Y9q 9 p1_0.parked]] fun r => .d (C.bool r) [oB b00 25 [cI p1_0.room, cM Y9q 9 p1_0.events, cM Y9q 9 p1_0.parked]]) := ⟨fun b00 => so Tryz.func140 rfl rfl fun r X h => gh .z⟩

def Z81 (p0 : Y9k) (x12 : Bool) : Option Bool := cond x12 (some false) ((Z7q p0.events p0).bind fun r14 => cond r14 (some false) ((Z7z p0.parked p0).bind fun r17 => cond r17 (some false) ((Z7i p0).bind fun r20 => some r20.2)))
def Z82 (p0 : Y9k) : Option Bool := (Z5i p0.room).bind fun r2 => cond r2 (cond (decide ((p0.events.length : Int) > 60)) (Z81 p0 true) (cond (decide ((p0.parked.length : Int) > 20)) (Z81 p0 true) ((Z6k p0 p0.events).bind fun r7 => cond r7 ((Z6k p0 p0.parked).bind fun r10 => Z81 p0 (!r10)) (Z81 p0 true)))) (Z81 p0 true)
instance Z83 (p0 : Y9k) : Sp Tryz.prog 72 [C.agg [cI p0.room, cM Y9q 9 p0.events, cM Y9q 9 p0.parked]] (Z82 p0) (fun r => C.bool r) := Sp.of (so Tryz.func72 rfl rfl fun r X h => gh (.q 2 (.c1 (fun x12 => .d [(34, C.bool x12)] []) [1] [0] .z .z)))

def Z84 (p0 : Int) (p1 : Int) (q0 : List Int) : Option Int := (getI q0 p0).bind fun e1 => (getI q0 p1).bind fun e3 => (Z6o e1 e3).bind fun r5 => some r5
instance Z85 (p0 : Int) (p1 : Int) (q0 : List Int) : SpO Tryz.prog 208 (Z84 p0 p1 q0) (.x fun (b00 : Nat) => .d [cI p0, cI p1, pt b00] [oB b00 39 [cM kI64 1 q0]] fun r => .d (cI r) [oB b00 39 [cM kI64 1 q0]]) := ⟨fun b00 => so Tryz.func208 rfl rfl fun r X h => gh (.r [0] [0,3,4,7] [] [1,4,8,13,17,20,24,29,34,36] .z)⟩

def Z86 (x62 : Int) (l122 : List Int) : Option ((List Int × Int) ⊕ ((List Int))) := some (.inl (l122, (IntKind.i64.wrap (x62 + 1))))
def Z87 (l92 : List Int) (x93 : Int) (x110 : Bool) : Option ((List Int × Int) ⊕ ((List Int))) := cond x110 ((getI l92 (IntKind.i64.wrap (x93 - 1))).bind fun e112 => (getI l92 x93).bind fun e114 => (getI (List.set l92 (Int.toNat x93) e112) (IntKind.i64.wrap (x93 - 1))).bind fun e120 => some (.inl ((List.set (List.set l92 (Int.toNat x93) e112) (Int.toNat (IntKind.i64.wrap (x93 - 1))) e114), (IntKind.i64.wrap (x93 - 1))))) (some (.inr l92))
def Z88 (p1 : Int) (p3_0 : List Int) (l92 : List Int) (x93 : Int) : Option ((List Int × Int) ⊕ ((List Int))) := cond (decide (x93 > p1)) ((getI l92 x93).bind fun e104 => (getI l92 (IntKind.i64.wrap (x93 - 1))).bind fun e106 => (Z84 e104 e106 p3_0).bind fun r108 => Z87 l92 x93 (decide (r108 < 0))) (Z87 l92 x93 false)
def Z89 (p1 : Int) (p2 : Int) (p3_0 : List Int) (l61 : List Int) (x62 : Int) : Option ((List Int × Int) ⊕ ((List Int))) := cond (decide (x62 < p2)) ((iter (fun z123 => Z88 p1 p3_0 z123.1 z123.2) big (l61, x62)).bind fun y124 => Z86 x62 y124) (some (.inr l61))
def Z8a (p0 : List Int) (p1 : Int) (p2 : Int) (p3_0 : List Int) : Option (List Int) := (iter (fun z125 => Z89 p1 p2 p3_0 z125.1 z125.2) big (p0, (IntKind.i64.wrap (p1 + 1)))).bind fun y126 => some y126
instance Z8b (p0 : List Int) (p1 : Int) (p2 : Int) (p3_0 : List Int) : SpO Tryz.prog 266 (Z8a p0 p1 p2 p3_0) (.x fun (w00 : Value) => .x fun (b01 : Nat) => .d [cV w00, cI p1, cI p2, C.clo 208 [pt b01]] [oA w00 3 kI64 1 p0, oB b01 39 [cM kI64 1 p3_0]] fun r => .d (C.tup []) [oA w00 3 kI64 1 r, oB b01 39 [cM kI64 1 p3_0]]) := ⟨fun w00 b01 => so Tryz.func266 rfl rfl fun r X h => gh (.l2 (fun l61 x62 => .d [(8, cI x62)] [oA w00 3 kI64 1 l61]) [0,1,2,3] [1] (.b (.c1 (fun l122 => .d [] [oA w00 3 kI64 1 l122]) [0,1,2,3,8] [1] (.l2 (fun l92 x93 => .d [(9, cI x93)] [oA w00 3 kI64 1 l92]) [0,1,2,3,8] [1] (.q 1 (.c1 (fun x110 => .d [(34, C.bool x110)] []) [0,1,2,3,8,9] [0,1] (.r [0] [8,13] [] [0,4,8,12,16,20,24,28,33,36,40,44,48,53,58,60,64] .z) (.b (.r [0,0] [9,13] [15,17] [0,4,8,12,16,20,24,28,32,37,40,44,48,53,56,63,64,71] (.w 16 .z)) .z)))) .z) .z))⟩

def Z8c (p1 : Int) (p2 : Int) (p3 : Int) (l12 : List Int) (x13 : Int) : Option ((List Int × Int) ⊕ ((List Int))) := cond (decide (x13 < p3)) ((getI l12 (IntKind.i64.wrap (p2 + x13))).bind fun e15 => (getI l12 (IntKind.i64.wrap (p1 + x13))).bind fun e17 => (getI (List.set l12 (Int.toNat (IntKind.i64.wrap (p1 + x13))) e15) (IntKind.i64.wrap (p2 + x13))).bind fun e23 => some (.inl ((List.set (List.set l12 (Int.toNat (IntKind.i64.wrap (p1 + x13))) e15) (Int.toNat (IntKind.i64.wrap (p2 + x13))) e17), (IntKind.i64.wrap (x13 + 1))))) (some (.inr l12))
def Z8d (p0 : List Int) (p1 : Int) (p2 : Int) (p3 : Int) (p4_0 : List Int) : Option (List Int) := (iter (fun z25 => Z8c p1 p2 p3 z25.1 z25.2) big (p0, 0)).bind fun y26 => some y26
instance Z8e (p0 : List Int) (p1 : Int) (p2 : Int) (p3 : Int) (p4_0 : List Int) : SpO Tryz.prog 288 (Z8d p0 p1 p2 p3 p4_0) (.x fun (w00 : Value) => .x fun (b01 : Nat) => .d [cV w00, cI p1, cI p2, cI p3, C.clo 208 [pt b01]] [oA w00 3 kI64 1 p0, oB b01 39 [cM kI64 1 p4_0]] fun r => .d (C.tup []) [oA w00 3 kI64 1 r, oB b01 39 [cM kI64 1 p4_0]]) := ⟨fun w00 b01 => so Tryz.func288 rfl rfl fun r X h => gh (.l2 (fun l12 x13 => .d [(10, cI x13)] [oA w00 3 kI64 1 l12]) [0,1,2,3] [1] (.b (.r [0,0] [13,19] [21,23] [0,4,8,12,16,20,24,28,32,36,40,44,48,53,56,60,64,68,72,77,80,87,88,95] (.w 22 .z)) .z))⟩

def Z8f (p2 : Int) (p4_0 : List Int) (l16 : List Int) (x17 : Int) : Option (List Int) := (Z8d l16 (IntKind.i64.wrap (p2 - x17)) p2 x17 p4_0).bind fun r18 => some r18
def Z8g (p2 : Int) (p4_0 : List Int) (l7 : List Int) (x8 : Int) (x9 : Int) : Option ((List Int × Int × Int) ⊕ ((List Int × Int))) := cond (x8 != x9) (cond (decide (x8 > x9)) ((Z8d l7 (IntKind.i64.wrap (p2 - x8)) p2 x9 p4_0).bind fun r12 => some (.inl (r12, (IntKind.i64.wrap (x8 - x9)), x9))) ((Z8d l7 (IntKind.i64.wrap (p2 - x8)) (IntKind.i64.wrap ((IntKind.i64.wrap (p2 + x9)) - x8)) x8 p4_0).bind fun r14 => some (.inl (r14, x8, (IntKind.i64.wrap (x9 - x8)))))) (some (.inr (l7, x8)))
def Z8h (p0 : List Int) (p1 : Int) (p2 : Int) (p3 : Int) (p4_0 : List Int) : Option (List Int) := (iter (fun z20 => Z8g p2 p4_0 z20.1 z20.2.1 z20.2.2) big (p0, (IntKind.i64.wrap (p2 - p1)), (IntKind.i64.wrap (p3 - p2)))).bind fun (y21, y22) => Z8f p2 p4_0 y21 y22
instance Z8i (p0 : List Int) (p1 : Int) (p2 : Int) (p3 : Int) (p4_0 : List Int) : SpO Tryz.prog 276 (Z8h p0 p1 p2 p3 p4_0) (.x fun (w00 : Value) => .x fun (b01 : Nat) => .d [cV w00, cI p1, cI p2, cI p3, C.clo 208 [pt b01]] [oA w00 3 kI64 1 p0, oB b01 39 [cM kI64 1 p4_0]] fun r => .d (C.tup []) [oA w00 3 kI64 1 r, oB b01 39 [cM kI64 1 p4_0]]) := ⟨fun w00 b01 => so Tryz.func276 rfl rfl fun r X h => gh (.q 2 (.c2 (fun l16 x17 => .d [(10, cI x17)] [oA w00 3 kI64 1 l16]) [0,2,4] [1] (.l3 (fun l7 x8 x9 => .d [(10, cI x8), (11, cI x9)] [oA w00 3 kI64 1 l7]) [0,2,4] [1] .z) .z))⟩

def Z8j (l61 : List Int) : Option (List Int) := some l61
def Z8k (x36 : Int) (l48 : List Int) (x49 : Int) : Option ((List Int × Int) ⊕ ((List Int))) := cond (decide (x49 < (IntKind.i64.wrap (x36 - 1)))) ((getI l48 (IntKind.i64.wrap (x49 + 1))).bind fun e51 => (getI l48 x49).bind fun e53 => (getI (List.set l48 (Int.toNat x49) e51) (IntKind.i64.wrap (x49 + 1))).bind fun e59 => some (.inl ((List.set (List.set l48 (Int.toNat x49) e51) (Int.toNat (IntKind.i64.wrap (x49 + 1))) e53), (IntKind.i64.wrap (x49 + 1))))) (some (.inr l48))
def Z8l (p0 : List Int) (p1 : Int) (x36 : Int) : Option (List Int) := (iter (fun z178 => Z8k x36 z178.1 z178.2) big (p0, p1)).bind fun y179 => Z8j y179
def Z8m (p0 : List Int) (p1 : Int) (p4_0 : List Int) (x18 : Int) (x19 : Int) : Option ((Int × Int) ⊕ (Int)) := cond (decide (x18 < x19)) ((getI p0 (IntKind.i64.wrap (shrI .u64 (IntKind.u64.wrap (IntKind.i64.wrap (x18 + x19))) 1))).bind fun e29 => (getI p0 p1).bind fun e31 => (Z84 e29 e31 p4_0).bind fun r33 => cond (decide (r33 < 0)) (some (.inl ((IntKind.i64.wrap ((IntKind.i64.wrap (shrI .u64 (IntKind.u64.wrap (IntKind.i64.wrap (x18 + x19))) 1)) + 1)), x19))) (some (.inl (x18, (IntKind.i64.wrap (shrI .u64 (IntKind.u64.wrap (IntKind.i64.wrap (x18 + x19))) 1)))))) (some (.inr x18))
def Z8n (l122 : List Int) : Option (List Int) := some l122
def Z8o (x97 : Int) (l109 : List Int) (x110 : Int) : Option ((List Int × Int) ⊕ ((List Int))) := cond (decide (x110 > x97)) ((getI l109 (IntKind.i64.wrap (x110 - 1))).bind fun e112 => (getI l109 x110).bind fun e114 => (getI (List.set l109 (Int.toNat x110) e112) (IntKind.i64.wrap (x110 - 1))).bind fun e120 => some (.inl ((List.set (List.set l109 (Int.toNat x110) e112) (Int.toNat (IntKind.i64.wrap (x110 - 1))) e114), (IntKind.i64.wrap (x110 - 1))))) (some (.inr l109))
def Z8p (p0 : List Int) (p2 : Int) (x97 : Int) : Option (List Int) := (iter (fun z182 => Z8o x97 z182.1 z182.2) big (p0, p2)).bind fun y183 => Z8n y183
def Z8q (p0 : List Int) (p2 : Int) (p4_0 : List Int) (x79 : Int) (x80 : Int) : Option ((Int × Int) ⊕ (Int)) := cond (decide (x79 < x80)) ((getI p0 p2).bind fun e90 => (getI p0 (IntKind.i64.wrap (shrI .u64 (IntKind.u64.wrap (IntKind.i64.wrap (x79 + x80))) 1))).bind fun e92 => (Z84 e90 e92 p4_0).bind fun r94 => cond (decide (r94 < 0)) (some (.inl (x79, (IntKind.i64.wrap (shrI .u64 (IntKind.u64.wrap (IntKind.i64.wrap (x79 + x80))) 1))))) (some (.inl ((IntKind.i64.wrap ((IntKind.i64.wrap (shrI .u64 (IntKind.u64.wrap (IntKind.i64.wrap (x79 + x80))) 1)) + 1)), x80)))) (some (.inr x79))
def Z8r (p1 : Int) (p2 : Int) (p3 : Int) (p4_0 : List Int) (self_ : (List Int) → Int → Int → Int → (List Int) → Option (List Int)) (x160 : Int) (l172 : List Int) (x174 : Bool) : Option (List Int) := cond x174 ((self_ l172 (IntKind.i64.wrap (shrI .u64 (IntKind.u64.wrap (IntKind.i64.wrap (p1 + p3))) 1)) (IntKind.i64.wrap ((IntKind.i64.wrap ((IntKind.i64.wrap (shrI .u64 (IntKind.u64.wrap (IntKind.i64.wrap (p1 + p3))) 1)) + p2)) - x160)) p3 p4_0).bind fun r176 => some r176) (some l172)
def Z8s (p1 : Int) (p2 : Int) (p3 : Int) (p4_0 : List Int) (self_ : (List Int) → Int → Int → Int → (List Int) → Option (List Int)) (x160 : Int) (l172 : List Int) : Option (List Int) := cond (decide ((IntKind.i64.wrap (shrI .u64 (IntKind.u64.wrap (IntKind.i64.wrap (p1 + p3))) 1)) < (IntKind.i64.wrap ((IntKind.i64.wrap ((IntKind.i64.wrap (shrI .u64 (IntKind.u64.wrap (IntKind.i64.wrap (p1 + p3))) 1)) + p2)) - x160)))) (Z8r p1 p2 p3 p4_0 self_ x160 l172 (decide ((IntKind.i64.wrap ((IntKind.i64.wrap ((IntKind.i64.wrap (shrI .u64 (IntKind.u64.wrap (IntKind.i64.wrap (p1 + p3))) 1)) + p2)) - x160)) < p3))) (Z8r p1 p2 p3 p4_0 self_ x160 l172 false)
def Z8t (p1 : Int) (p2 : Int) (p3 : Int) (p4_0 : List Int) (self_ : (List Int) → Int → Int → Int → (List Int) → Option (List Int)) (x160 : Int) (l166 : List Int) (x168 : Bool) : Option (List Int) := cond x168 ((self_ l166 p1 x160 (IntKind.i64.wrap (shrI .u64 (IntKind.u64.wrap (IntKind.i64.wrap (p1 + p3))) 1)) p4_0).bind fun r170 => Z8s p1 p2 p3 p4_0 self_ x160 r170) (Z8s p1 p2 p3 p4_0 self_ x160 l166)
def Z8u (p1 : Int) (p2 : Int) (p3 : Int) (p4_0 : List Int) (self_ : (List Int) → Int → Int → Int → (List Int) → Option (List Int)) (x160 : Int) (l166 : List Int) : Option (List Int) := cond (decide (p1 < x160)) (Z8t p1 p2 p3 p4_0 self_ x160 l166 (decide (x160 < (IntKind.i64.wrap (shrI .u64 (IntKind.u64.wrap (IntKind.i64.wrap (p1 + p3))) 1))))) (Z8t p1 p2 p3 p4_0 self_ x160 l166 false)
def Z8v (p0 : List Int) (p1 : Int) (p2 : Int) (p3 : Int) (p4_0 : List Int) (self_ : (List Int) → Int → Int → Int → (List Int) → Option (List Int)) (x160 : Int) (x162 : Bool) : Option (List Int) := cond x162 ((Z8h p0 x160 p2 (IntKind.i64.wrap ((IntKind.i64.wrap ((IntKind.i64.wrap (shrI .u64 (IntKind.u64.wrap (IntKind.i64.wrap (p1 + p3))) 1)) + p2)) - x160)) p4_0).bind fun r164 => Z8u p1 p2 p3 p4_0 self_ x160 r164) (Z8u p1 p2 p3 p4_0 self_ x160 p0)
def Z8w (p0 : List Int) (p1 : Int) (p2 : Int) (p3 : Int) (p4_0 : List Int) (self_ : (List Int) → Int → Int → Int → (List Int) → Option (List Int)) (x160 : Int) : Option (List Int) := cond (decide (x160 < p2)) (Z8v p0 p1 p2 p3 p4_0 self_ x160 (decide (p2 < (IntKind.i64.wrap ((IntKind.i64.wrap ((IntKind.i64.wrap (shrI .u64 (IntKind.u64.wrap (IntKind.i64.wrap (p1 + p3))) 1)) + p2)) - x160))))) (Z8v p0 p1 p2 p3 p4_0 self_ x160 false)
def Z8x (p0 : List Int) (p1 : Int) (p2 : Int) (p3 : Int) (p4_0 : List Int) (x142 : Int) (x143 : Int) : Option ((Int × Int) ⊕ (Int)) := cond (decide (x142 < x143)) ((getI p0 (IntKind.i64.wrap ((IntKind.i64.wrap ((IntKind.i64.wrap ((IntKind.i64.wrap (shrI .u64 (IntKind.u64.wrap (IntKind.i64.wrap (p1 + p3))) 1)) + p2)) - 1)) - (IntKind.i64.wrap (shrI .u64 (IntKind.u64.wrap (IntKind.i64.wrap (x142 + x143))) 1))))).bind fun e153 => (getI p0 (IntKind.i64.wrap (shrI .u64 (IntKind.u64.wrap (IntKind.i64.wrap (x142 + x143))) 1))).bind fun e155 => (Z84 e153 e155 p4_0).bind fun r157 => cond (decide (r157 < 0)) (some (.inl (x142, (IntKind.i64.wrap (shrI .u64 (IntKind.u64.wrap (IntKind.i64.wrap (x142 + x143))) 1))))) (some (.inl ((IntKind.i64.wrap ((IntKind.i64.wrap (shrI .u64 (IntKind.u64.wrap (IntKind.i64.wrap (x142 + x143))) 1)) + 1)), x143)))) (some (.inr x142))
def Z8y (p0 : List Int) (p1 : Int) (p2 : Int) (p3 : Int) (p4_0 : List Int) (self_ : (List Int) → Int → Int → Int → (List Int) → Option (List Int)) (x124 : Int) (x125 : Int) : Option (List Int) := (iter (fun z186 => Z8x p0 p1 p2 p3 p4_0 z186.1 z186.2) big (x124, x125)).bind fun y187 => Z8w p0 p1 p2 p3 p4_0 self_ y187
def Z8z (self_ : (List Int) → Int → Int → Int → (List Int) → Option (List Int)) (p0 : List Int) (p1 : Int) (p2 : Int) (p3 : Int) (p4_0 : List Int) : Option (List Int) := cond ((IntKind.i64.wrap (p2 - p1)) == 1) ((iter (fun z180 => Z8m p0 p1 p4_0 z180.1 z180.2) big (p2, p3)).bind fun y181 => Z8l p0 p1 y181) (cond ((IntKind.i64.wrap (p3 - p2)) == 1) ((iter (fun z184 => Z8q p0 p2 p4_0 z184.1 z184.2) big (p1, p2)).bind fun y185 => Z8p p0 p2 y185) (cond (decide (p2 > (IntKind.i64.wrap (shrI .u64 (IntKind.u64.wrap (IntKind.i64.wrap (p1 + p3))) 1)))) (Z8y p0 p1 p2 p3 p4_0 self_ (IntKind.i64.wrap ((IntKind.i64.wrap ((IntKind.i64.wrap (shrI .u64 (IntKind.u64.wrap (IntKind.i64.wrap (p1 + p3))) 1)) + p2)) - p3)) (IntKind.i64.wrap (shrI .u64 (IntKind.u64.wrap (IntKind.i64.wrap (p1 + p3))) 1))) (Z8y p0 p1 p2 p3 p4_0 self_ p1 p2)))
theorem Z90 (self_ : (List Int) → Int → Int → Int → (List Int) → Option (List Int)) [hself_ : ∀ (p0 : List Int) (p1 : Int) (p2 : Int) (p3 : Int) (p4_0 : List Int), SpO Tryz.prog 267 (self_ p0 p1 p2 p3 p4_0) (.x fun (w00 : Value) => .x fun (b01 : Nat) => .d [cV w00, cI p1, cI p2, cI p3, C.clo 208 [pt b01]] [oA w00 3 kI64 1 p0, oB b01 39 [cM kI64 1 p4_0]] fun r => .d (C.tup []) [oA w00 3 kI64 1 r, oB b01 39 [cM kI64 1 p4_0]])] (p0 : List Int) (p1 : Int) (p2 : Int) (p3 : Int) (p4_0 : List Int) : SpO Tryz.prog 267 (Z8z self_ p0 p1 p2 p3 p4_0) (.x fun (w00 : Value) => .x fun (b01 : Nat) => .d [cV w00, cI p1, cI p2, cI p3, C.clo 208 [pt b01]] [oA w00 3 kI64 1 p0, oB b01 39 [cM kI64 1 p4_0]] fun r => .d (C.tup []) [oA w00 3 kI64 1 r, oB b01 39 [cM kI64 1 p4_0]]) := ⟨fun w00 b01 => so Tryz.func267 rfl rfl fun r X h => gh (.b (.q 2 (.c1 (fun x36 => .d [(10, cI x36)] []) [0,1] [0,1] (.l2 (fun x18 x19 => .d [(10, cI x18), (11, cI x19)] []) [0,1,4] [0,1] (.b (.r [0] [4,8] [] [0,4,8,12,17,20,24,28,33,38,40] .z) .z)) (.c1 (fun l61 => .d [] [oA w00 3 kI64 1 l61]) [] [1] (.l2 (fun l48 x49 => .d [(13, cI x49)] [oA w00 3 kI64 1 l48]) [0,10] [1] (.b (.r [0,0] [9,13] [15,17] [0,4,8,12,16,20,24,28,32,37,40,44,48,53,56,63,64,71] (.w 16 .z)) .z)) .z))) (.b (.q 2 (.c1 (fun x97 => .d [(14, cI x97)] []) [0,2] [0,1] (.l2 (fun x79 x80 => .d [(14, cI x79), (15, cI x80)] []) [0,2,4] [0,1] (.b (.r [0] [4,8] [] [0,4,8,12,17,20,24,28,33,38,40,44] .z) .z)) (.c1 (fun l122 => .d [] [oA w00 3 kI64 1 l122]) [] [1] (.l2 (fun l109 x110 => .d [(17, cI x110)] [oA w00 3 kI64 1 l109]) [0,14] [1] (.b (.r [0,0] [9,13] [15,17] [0,4,8,12,16,20,24,28,32,37,40,44,48,53,56,63,64,71] (.w 16 .z)) .z)) .z))) (.q 3 (.c2 (fun x124 x125 => .d [(20, cI x124), (21, cI x125)] []) [0,1,2,3,4,18,19] [0,1] .z (.q 1 (.c1 (fun x160 => .d [(20, cI x160)] []) [0,1,2,3,4,18,19] [0,1] (.l2 (fun x142 x143 => .d [(20, cI x142), (21, cI x143)] []) [0,1,2,3,4,18,19,22] [0,1] (.b (.r [0] [6,10] [] [0,4,8,12,16,20,25,28,32,36,41,46,48,52] .z) .z)) (.q 1 (.c1 (fun l166 => .d [] [oA w00 3 kI64 1 l166]) [0,1,3,4,18,20,24] [1] (.c1 (fun x162 => .d [(185, C.bool x162)] []) [0,1,2,3,4,18,20,24] [0,1] .z .z) (.c1 (fun l172 => .d [] [oA w00 3 kI64 1 l172]) [0,3,4,18,24] [1] (.c1 (fun x168 => .d [(199, C.bool x168)] []) [0,1,3,4,18,20,24] [0,1] .z .z) (.c1 (fun x174 => .d [(213, C.bool x174)] []) [0,3,4,18,24] [0,1] .z .z))))))))))⟩
def Z91 : Nat → (List Int) → Int → Int → Int → (List Int) → Option (List Int)
  | 0 => fun _ _ _ _ _ => none
  | n_ + 1 => Z8z (Z91 n_)
theorem Z92 : ∀ (n_ : Nat) (p0 : List Int) (p1 : Int) (p2 : Int) (p3 : Int) (p4_0 : List Int), SpO Tryz.prog 267 (Z91 n_ p0 p1 p2 p3 p4_0) (.x fun (w00 : Value) => .x fun (b01 : Nat) => .d [cV w00, cI p1, cI p2, cI p3, C.clo 208 [pt b01]] [oA w00 3 kI64 1 p0, oB b01 39 [cM kI64 1 p4_0]] fun r => .d (C.tup []) [oA w00 3 kI64 1 r, oB b01 39 [cM kI64 1 p4_0]])
  | 0, p0, p1, p2, p3, p4_0 => ⟨fun w00 b01 r h => nomatch h⟩
  | n_ + 1, p0, p1, p2, p3, p4_0 => @Z90 (Z91 n_) (Z92 n_) p0 p1 p2 p3 p4_0
def Z93 (p0 : List Int) (p1 : Int) (p2 : Int) (p3 : Int) (p4_0 : List Int) : Option (List Int) := Z91 big p0 p1 p2 p3 p4_0
instance Z94 (p0 : List Int) (p1 : Int) (p2 : Int) (p3 : Int) (p4_0 : List Int) : SpO Tryz.prog 267 (Z93 p0 p1 p2 p3 p4_0) (.x fun (w00 : Value) => .x fun (b01 : Nat) => .d [cV w00, cI p1, cI p2, cI p3, C.clo 208 [pt b01]] [oA w00 3 kI64 1 p0, oB b01 39 [cM kI64 1 p4_0]] fun r => .d (C.tup []) [oA w00 3 kI64 1 r, oB b01 39 [cM kI64 1 p4_0]]) := Z92 big p0 p1 p2 p3 p4_0

end Go.Proofs.YtomachnjepgpbaaGreat
