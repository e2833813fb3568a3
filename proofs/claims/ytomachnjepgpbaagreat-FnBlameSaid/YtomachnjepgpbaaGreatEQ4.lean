/- Printed by gen.py: plain functions for Go functions, and that the walks keep to them. -/
import Derived.Test.YtomachnjepgpbaaGreatEQ3
set_option autoImplicit false
set_option linter.unusedVariables false
set_option linter.unusedSimpArgs false
set_option maxHeartbeats 8000000
set_option maxRecDepth 100000
namespace Go.Proofs.YtomachnjepgpbaaGreat
open Go Go.Abs
attribute [local irreducible] AW Ops OpsD Y3z VoK HoK GhF UsC Go.Abs.Fin PkK LenT LenL Y98 BldK FzK FzLK
def Z4k (r27 : Y9k) (l182 : List Y9j) (l184 : List Y9j) (l186 : List Int) : Option Y9l := some (Y9l.mk (Y9k.mk r27.room l182 l184) l186 0)
def Z4l (r27 : Y9k) (l126 : List Y9j) (x129 : Int) (l175 : List Y9j) (l178 : List Int) : Option ((List Y9j × List Y9j × List Int × Int) ⊕ ((List Y9j × List Y9j × List Int))) := (Z3o (Y9k.mk r27.room l175 ((([] : List Y9j) ++ (List.take (Int.toNat x129) l126)) ++ (List.drop (Int.toNat (IntKind.i64.wrap (x129 + 1))) l126)))).bind fun r179 => some (.inl (l175, ((([] : List Y9j) ++ (List.take (Int.toNat x129) l126)) ++ (List.drop (Int.toNat (IntKind.i64.wrap (x129 + 1))) l126)), l178, r179))
def Z4m (r27 : Y9k) (l124 : List Y9j) (l126 : List Y9j) (l128 : List Int) (x129 : Int) : Option ((List Y9j × List Y9j × List Int × Int) ⊕ ((List Y9j × List Y9j × List Int))) := cond (decide (x129 ≥ 0)) ((getI l126 x129).bind fun e131 => (chk (decide ((0 : Int) ≤ x129 ∧ x129 ≤ (l126.length : Int)))).bind fun u136 => (chk (decide ((Int.toNat x129) ≤ l126.length))).bind fun u138 => (chk (decide ((([] : List Y9j).length + (List.take (Int.toNat x129) l126).length) * 96 ≤ 140737488355328))).bind fun u140 => (chk (decide ((0 : Int) ≤ (IntKind.i64.wrap (x129 + 1)) ∧ (IntKind.i64.wrap (x129 + 1)) ≤ (l126.length : Int)))).bind fun u143 => (chk (decide ((Int.toNat (IntKind.i64.wrap (x129 + 1))) ≤ l126.length))).bind fun u145 => (chk (decide (((([] : List Y9j) ++ (List.take (Int.toNat x129) l126)).length + (List.drop (Int.toNat (IntKind.i64.wrap (x129 + 1))) l126).length) * 96 ≤ 140737488355328))).bind fun u147 => cond (decide ((l124.length : Int) < 60)) ((Z3k l124 e131).bind fun r165 => (chk (decide ((l128.length + [e131.id].length) * 8 ≤ 140737488355328))).bind fun u171 => Z4l r27 l126 x129 r165 (l128 ++ [e131.id])) (Z4l r27 l126 x129 l124 l128)) (some (.inr (l124, l126, l128)))
def Z4n (p0 : Y9k) (p1 : Y9j) (r4 : Bool) (x20 : Bool) : Option Y9l := cond x20 ((Z37 9).bind fun r22 => some r22) ((Z4i p0).bind fun r27 => cond r4 ((Z3k r27.events p1).bind fun r65 => (Z3o (Y9k.mk r27.room r65 r27.parked)).bind fun r70 => (iter (fun z190 => Z4m r27 z190.1 z190.2.1 z190.2.2.1 z190.2.2.2) big (r65, r27.parked, [p1.id], r70)).bind fun (y191, y192, y193) => Z4k r27 y191 y192 y193) ((Z3k r27.parked p1).bind fun r47 => some (Y9l.mk (Y9k.mk r27.room r27.events r47) [] 0)))
def Z4o (p0 : Y9k) (p1 : Y9j) (r4 : Bool) (x11 : Bool) : Option Y9l := cond x11 ((Z37 7).bind fun r13 => some r13) (cond (decide ((p0.events.length : Int) ≥ 60)) (Z4n p0 p1 r4 true) (cond r4 (Z4n p0 p1 r4 false) (Z4n p0 p1 r4 (decide ((p0.parked.length : Int) ≥ 20)))))
def Z4p (p0 : Y9k) (p1 : Y9j) : Option Y9l := (Z2k p0.events p1).bind fun r4 => (Zr p0.events p1.id).bind fun r6 => cond (decide (r6 ≥ 0)) (Z4o p0 p1 r4 true) ((Zr p0.parked p1.id).bind fun r9 => Z4o p0 p1 r4 (decide (r9 ≥ 0)))
theorem Z4q {w00 : Value} {w01 : Value} (p0 : Y9k) (p1 : Y9j) (r : Y9l) (h : Z4p p0 p1 = some r) : Ok Tryz.prog 107 [C.agg [cI p0.room, cV w00, cV w01], C.agg [cI p1.id, cI p1.room, cI p1.author, cI p1.kind, cI p1.key, cI p1.n, C.str p1.text, cM kI64 1 p1.prev, cI p1.time]] [oA w00 42 Y9q 9 p0.events, oA w01 42 Y9q 9 p0.parked] (fun c qs => ∃ (v187 : Value) (v188 : Value) (v189 : Value), c = C.agg [cI r.graph.room, cV v187, cV v188, cV v189, cI r.code] ∧ qs = [oA v187 42 Y9q 9 r.graph.events, oA v188 42 Y9q 9 r.graph.parked, oA v189 2 kI64 1 r.added, oA w00 42 Y9q 9 p0.events, oA w01 42 Y9q 9 p0.parked]) := by
 refine Ok.of_body (rs := [.cell 4 53]) Tryz.func107 rfl rfl rfl rfl rfl fun X => ?_
 unfold Z4p at h
 refine zw ?_
 refine ox fun b1 => ?_
 refine ox fun b2 => ?_
 refine al fun b3 => ?_
 refine zw ?_
 refine ob' h fun r4 g5 h => ?_
 refine Ops.hd (ns := [3]) rfl rfl (Y28 (Ok.lendE ((Z2l p0.events p1).h _ g5) (FrzT.cons (os := [_]) Frz.arr (fT (FrzT.nil))) (Y4i.val _)) rfl rfl) ?_
 refine Ops.v rfl (Ys rfl rfl) ?_
 refine Ops.nil ?_
 refine AW.seq ?_
 refine AW.block ?_
 refine AW.seq ?_
 refine AW.cut (τ := Bool) (fun x11 => ⟨[(2, pt b1), (3, pt b2), (4, pt b3), (5, C.bool r4), (15, C.bool x11)], [oB b1 25 [cI p0.room, cV w00, cV w01], oA w00 42 Y9q 9 p0.events, oA w01 42 Y9q 9 p0.parked, oB b2 42 [cI p1.id, cI p1.room, cI p1.author, cI p1.kind, cI p1.key, cI p1.n, C.str p1.text, cM kI64 1 p1.prev, cI p1.time], oB b3 53 [cI 0, cV s0, cV s0, cV s0, cI 0]]⟩) (fun x11 => Z4o p0 p1 r4 x11 = some r) ?_ ?_
 ·
  refine zw ?_
  refine ob' h fun r6 g7 h => ?_
  refine Ops.hd (ns := [0]) rfl rfl (Y28 (Ok.lendE ((Zs p0.events p1.id).h _ g7) (FrzT.cons (os := [_]) Frz.arr (fT (FrzT.nil))) (Y4i.val _)) rfl rfl) ?_
  refine zw ?_
  refine cnd h (fun hb8 h => ?_) fun hb8 h => ?_
  ·
   refine zw ?_
   exact ⟨true, h, Y25.both (ns := [3, 0, 2, 1, 0]) rfl rfl⟩
  refine zw ?_
  refine ob' h fun r9 g10 h => ?_
  refine Ops.ghd (ns := [4]) rfl rfl rfl rfl hb8 rfl (Y28 (Ok.lendE ((Zs p0.parked p1.id).h _ g10) (FrzT.cons (os := [_]) Frz.arr (fT (FrzT.nil))) (Y4i.val _)) rfl rfl) ?_
  refine zw ?_
  exact ⟨decide (r9 ≥ 0), h, Y25.both (ns := [4, 1, 0, 1, 0]) rfl rfl⟩
 intro x11 h
 replace h : Z4o p0 p1 r4 x11 = some r := h
 unfold Z4o at h
 refine cnd h (fun hb12 h => ?_) fun hb12 h => ?_
 ·
  refine AW.ct hb12 rfl ?_
  refine zw ?_
  refine ob' h fun r13 g14 h => ?_
  refine Ops.h (ns := []) rfl rfl (Y27 ((Z38 _).h _ g14) rfl rfl) ?_
  rintro _ _ ⟨_, ⟨v15, v16, v17, rfl, rfl⟩, rfl⟩
  refine zw ?_
  refine AW.ret ?_
  rw [← Wj h]
  exact finI ⟨[C.agg [cI r13.graph.room, cV v15, cV v16, cV v17, cI r13.code]], _, Y25.refl _, (.cons (.cell (p := 0) rfl rfl Yb5.h rfl) .nil), [1, 1, 1, 2, 2], _, _, rfl, ⟨v15, v16, v17, rfl, rfl⟩⟩
 refine AW.cf hb12 rfl ?_
 refine AW.seq ?_
 refine AW.cut (τ := Bool) (fun x20 => ⟨[(2, pt b1), (3, pt b2), (4, pt b3), (5, C.bool r4), (31, C.bool x20)], [oB b1 25 [cI p0.room, cV w00, cV w01], oA w00 42 Y9q 9 p0.events, oA w01 42 Y9q 9 p0.parked, oB b2 42 [cI p1.id, cI p1.room, cI p1.author, cI p1.kind, cI p1.key, cI p1.n, C.str p1.text, cM kI64 1 p1.prev, cI p1.time], oB b3 53 [cI 0, cV s0, cV s0, cV s0, cI 0]]⟩) (fun x20 => Z4n p0 p1 r4 x20 = some r) ?_ ?_
 ·
  refine zw ?_
  refine cnd h (fun hb18 h => ?_) fun hb18 h => ?_
  ·
   refine zw ?_
   exact ⟨true, h, Y25.both (ns := [0, 0, 0, 0, 0]) rfl rfl⟩
  refine zw ?_
  refine cnd h (fun hb19 h => ?_) fun hb19 h => ?_
  ·
   refine zw ?_
   exact ⟨false, h, Y25.both (ns := [0, 0, 0, 0, 0]) rfl rfl⟩
  refine zw ?_
  exact ⟨decide ((p0.parked.length : Int) ≥ 20), h, Y25.both (ns := [0, 0, 0, 0, 0]) rfl rfl⟩
 intro x20 h
 replace h : Z4n p0 p1 r4 x20 = some r := h
 unfold Z4n at h
 refine cnd h (fun hb21 h => ?_) fun hb21 h => ?_
 ·
  refine AW.ct hb21 rfl ?_
  refine zw ?_
  refine ob' h fun r22 g23 h => ?_
  refine Ops.h (ns := []) rfl rfl (Y27 ((Z38 _).h _ g23) rfl rfl) ?_
  rintro _ _ ⟨_, ⟨v24, v25, v26, rfl, rfl⟩, rfl⟩
  refine zw ?_
  refine AW.ret ?_
  rw [← Wj h]
  exact finI ⟨[C.agg [cI r22.graph.room, cV v24, cV v25, cV v26, cI r22.code]], _, Y25.refl _, (.cons (.cell (p := 0) rfl rfl Yb5.h rfl) .nil), [1, 1, 1, 2, 2], _, _, rfl, ⟨v24, v25, v26, rfl, rfl⟩⟩
 refine AW.cf hb21 rfl ?_
 refine zw ?_
 refine ob' h fun r27 g28 h => ?_
 refine Ops.h (ns := [1, 1]) rfl rfl (Y27 ((Z4j p0).h _ _ _ g28) rfl rfl) ?_
 rintro _ _ ⟨_, ⟨v29, v30, rfl, rfl⟩, rfl⟩
 refine Ops.v rfl (Y3k (ds := [cI r27.room, cV v29, cV v30, cV s0, cI 0]) Yb4 Yb3 (Y4g rfl rfl) (.agg rfl rfl rfl .nil) rfl) ?_
 refine al fun b31 => ?_
 refine zw ?_
 refine cnd h (fun hb32 h => ?_) fun hb32 h => ?_
 ·
  refine AW.cond rfl (fun hn => absurd ((Y46 hb32).symm.trans hn) (by decide)) (fun _ => ?_)
  refine zw ?_
  refine rD [0,1,1,1,1,1,1] [4,5] [9] [0,4,8,12,17,21,26,28,32,39] ?_
  refine zw ?_
  refine ob' h fun r65 g66 h => ?_
  refine Y3z.h (ns := [0]) rfl rfl rfl (HOp.frz (t := 67) rfl Frz.arr (Y27 ((Z3l _ _).h _ g66) rfl rfl)) ?_
  rintro _ _ ⟨_, ⟨v67, rfl, rfl⟩, rfl⟩
  refine OpsD.v rfl rfl (Y18 rfl rfl) ?_
  refine OpsD.v rfl rfl (Y1f Yb0.h rfl rfl) ?_
  refine OpsD.learn (Sim.arr_one (p := 7) rfl) fun n68 => ?_
  refine zw ?_
  refine Ops.h (ns := []) rfl rfl (Y3l (k := kI64) (ys := [p1.id]) Yai (.one rfl (One.val rfl) rfl rfl .nil) rfl rfl rfl) ?_
  rintro _ _ ⟨b69, rfl, rfl⟩
  refine Ops.v rfl (Y1f Yba.h rfl rfl) ?_
  refine Ops.s1 Yax.h rfl rfl on inferInstance rfl ?_
  refine Ops.nil ?_
  refine AW.seq ?_
  refine AW.cut (τ := List Y9j × List Y9j × List Int × Value × Value × Value) (fun (l182, l184, l186, v181, v183, v185) => ⟨[(4, pt b3), (6, pt b31)], [oB b31 53 [cI r27.room, cV v181, cV v183, cV v185, cI 0], oA v181 42 Y9q 9 l182, oA v183 42 Y9q 9 l184, oA v185 2 kI64 1 l186, oB b3 53 [cI 0, cV s0, cV s0, cV s0, cI 0], oA w00 42 Y9q 9 p0.events, oA w01 42 Y9q 9 p0.parked]⟩) (fun (l182, l184, l186, v181, v183, v185) => Z4k r27 l182 l184 l186 = some r) ?_ ?_
  ·
   refine zw ?_
   refine ob' h fun r70 g71 h => ?_
   refine Ops.hd (ns := [8, 2]) rfl rfl (Y28 (Ok.lendE ((Z3p (Y9k.mk r27.room r65 r27.parked)).h _ g71) (FrzT.cons (os := [_,_]) (Frz.agg (fS (FrzL.cons (os := [_]) Frz.arr (FrzL.cons (os := [_]) Frz.arr (FrzL.nil))))) (FrzT.nil)) (Y4i.val _)) rfl rfl) ?_
   refine zw ?_
   refine ob' h fun o194 g195 q196 => ?_
   refine AW.loop (τ := List Y9j × List Y9j × List Int × Int × Value × Value × Value) (x := (r65, r27.parked, [p1.id], r70, v67, v30, (sv b69 1 1))) (fun (l124, l126, l128, x129, v123, v125, v127) => ⟨[(4, pt b3), (6, pt b31), (7, pt b31), (8, cI x129)], [oB b31 53 [cI r27.room, cV v123, cV v125, cV v127, cI 0], oA v123 42 Y9q 9 l124, oA v125 42 Y9q 9 l126, oA v127 2 kI64 1 l128, oB b3 53 [cI 0, cV s0, cV s0, cV s0, cI 0], oA w00 42 Y9q 9 p0.events, oA w01 42 Y9q 9 p0.parked]⟩) (fun k (l124, l126, l128, x129, v123, v125, v127) => iter (fun z190 => Z4m r27 z190.1 z190.2.1 z190.2.2.1 z190.2.2.2) k (l124, l126, l128, x129) = some o194) g195 (Y25.both (ns := [2, 0, 0, 0, 4, 0, 0]) rfl rfl) ?_
   rintro k ⟨l124, l126, l128, x129, v123, v125, v127⟩ i198
   refine Y4f (show iter (fun z190 => Z4m r27 z190.1 z190.2.1 z190.2.2.1 z190.2.2.2) k (l124, l126, l128, x129) = some o194 from i198) fun k197 y199 hlt_k197 h h200 => ?_
   replace h : Z4m r27 l124 l126 l128 x129 = some y199 := h
   unfold Z4m at h
   refine zw ?_
   refine cnd h (fun hb130 h => ?_) fun hb130 h => ?_
   ·
    refine AW.ct hb130 rfl ?_
    refine AW.skip ?_
    refine AW.seq ?_
    refine AW.cut (τ := List Y9j × List Int × Value × Value × Value) (fun (l175, l178, v174, v176, v177) => ⟨[(4, pt b3), (6, pt b31), (7, pt b31)], [oB b31 53 [cI r27.room, cV v174, cV v176, cV v177, cI 0], oA v174 42 Y9q 9 l175, oA v176 42 Y9q 9 ((([] : List Y9j) ++ (List.take (Int.toNat x129) l126)) ++ (List.drop (Int.toNat (IntKind.i64.wrap (x129 + 1))) l126)), oA v177 2 kI64 1 l178, oB b3 53 [cI 0, cV s0, cV s0, cV s0, cI 0], oA w00 42 Y9q 9 p0.events, oA w01 42 Y9q 9 p0.parked]⟩) (fun (l175, l178, v174, v176, v177) => Z4l r27 l126 x129 l175 l178 = some y199) ?_ ?_
    ·
     refine zw ?_
     refine ob' h fun e131 g132 h => ?_
     refine zw ?_
     refine al fun b133 => ?_
     refine zw ?_
     refine Ops.h (ns := []) rfl rfl (Y3l (k := Y9q) (ys := ([] : List Y9j)) Yau .nil rfl rfl rfl) ?_
     rintro _ _ ⟨b134, rfl, rfl⟩
     refine zw ?_
     refine ob' h fun u136 c135 h => ?_
     refine Ops.v rfl (Y7a (p := 4) (l := (Int.toNat x129)) Yar.h rfl rfl rfl (Wo (Y45 c135)) rfl rfl) ?_
     refine ob' h fun u138 c137 h => ?_
     refine ob' h fun u140 c139 h => ?_
     refine Ops.h (ns := [0, 3]) rfl rfl (Y7j Yau rfl rfl (Part.take (Int.toNat x129) (Wo (Y45 c137))) (Wo (Y45 c139)) (Y49 (by decide) c139) rfl) ?_
     rintro _ _ ⟨v141, rfl, rfl⟩
     refine zw ?_
     refine ob' h fun u143 c142 h => ?_
     refine Ops.v rfl (Y79 (p := 1) (l := (Int.toNat (IntKind.i64.wrap (x129 + 1)))) Yar.h rfl rfl rfl (Wo (Y45 c142)) rfl rfl) ?_
     refine ob' h fun u145 c144 h => ?_
     refine ob' h fun u147 c146 h => ?_
     refine Ops.h (ns := [0, 0]) rfl rfl (Y7j Yau rfl rfl (Part.drop (Int.toNat (IntKind.i64.wrap (x129 + 1))) (Wo (Y45 c144))) (Wo (Y45 c146)) (Y49 (by decide) c146) rfl) ?_
     rintro _ _ ⟨v148, rfl, rfl⟩
     refine Ops.v rfl (Y18 rfl rfl) ?_
     refine Ops.v rfl (Y1f Yb2.h rfl rfl) ?_
     refine Ops.learn (Sim.arr_one (p := 0) rfl) fun n149 => ?_
     refine zw ?_
     refine cnd h (fun hb150 h => ?_) fun hb150 h => ?_
     ·
      refine AW.ct hb150 rfl ?_
      refine zw ?_
      refine rD [0,0,0,0,1,1,1,1] [4,5] [9] [0,4,8,12,17,21,26,28,32,39] ?_
      refine zw ?_
      refine ob' h fun r165 g166 h => ?_
      refine Y3z.h (ns := [0]) rfl rfl rfl (HOp.frz (t := 123) rfl Frz.arr (Y27 ((Z3l _ _).h _ g166) rfl rfl)) ?_
      rintro _ _ ⟨_, ⟨v167, rfl, rfl⟩, rfl⟩
      refine OpsD.v rfl rfl (Y18 rfl rfl) ?_
      refine OpsD.v rfl rfl (Y1f Yb0.h rfl rfl) ?_
      refine OpsD.learn (Sim.arr_one (p := 8) rfl) fun n168 => ?_
      refine zw ?_
      refine Ops.h (ns := []) rfl rfl (Y3l (k := kI64) (ys := [e131.id]) Yai (.one rfl (One.val rfl) rfl rfl .nil) rfl rfl rfl) ?_
      rintro _ _ ⟨b169, rfl, rfl⟩
      refine ob' h fun u171 c170 h => ?_
      refine Ops.h (ns := [5, 0]) rfl rfl (Y34 Yai rfl rfl (Wo (Y45 c170)) (Y49 (by decide) c170) rfl) ?_
      rintro _ _ ⟨v172, rfl, rfl⟩
      refine Ops.v rfl (Y1f Yba.h rfl rfl) ?_
      refine Ops.learn (Sim.arr_one (p := 0) rfl) fun n173 => ?_
      refine zw ?_
      exact ⟨(r165, (l128 ++ [e131.id]), v167, v148, v172), h, Y25.both (ns := [0, 7, 1, 0, 2, 2, 2]) rfl rfl⟩
     refine AW.cf hb150 rfl ?_
     refine zw ?_
     exact ⟨(l124, l128, v123, v148, v127), h, Y25.both (ns := [0, 3, 0, 2, 2, 2, 2]) rfl rfl⟩
    rintro ⟨l175, l178, v174, v176, v177⟩ h
    replace h : Z4l r27 l126 x129 l175 l178 = some y199 := h
    unfold Z4l at h
    refine zw ?_
    refine ob' h fun r179 g180 h => ?_
    refine Ops.hd (ns := [1, 1]) rfl rfl (Y28 (Ok.lendE ((Z3p (Y9k.mk r27.room l175 ((([] : List Y9j) ++ (List.take (Int.toNat x129) l126)) ++ (List.drop (Int.toNat (IntKind.i64.wrap (x129 + 1))) l126)))).h _ g180) (FrzT.cons (os := [_,_]) (Frz.agg (fS (FrzL.cons (os := [_]) Frz.arr (FrzL.cons (os := [_]) Frz.arr (FrzL.nil))))) (FrzT.nil)) (Y4i.val _)) rfl rfl) ?_
    refine zw ?_
    obtain rfl := Wj h
    exact ⟨k197, (l175, ((([] : List Y9j) ++ (List.take (Int.toNat x129) l126)) ++ (List.drop (Int.toNat (IntKind.i64.wrap (x129 + 1))) l126)), l178, r179, v174, v176, v177), hlt_k197, h200, Y25.both (ns := [2, 0, 0, 0, 0, 0, 0]) rfl rfl⟩
   refine AW.cf hb130 rfl ?_
   refine AW.exit ?_
   obtain rfl := Wj h
   obtain rfl := Wj h200
   replace h := q196
   exact ⟨(l124, l126, l128, v123, v125, v127), h, Y25.both (ns := [0, 0, 0, 0, 0, 0, 0]) rfl rfl⟩
  rintro ⟨l182, l184, l186, v181, v183, v185⟩ h
  replace h : Z4k r27 l182 l184 l186 = some r := h
  unfold Z4k at h
  refine zw ?_
  refine AW.ret ?_
  rw [← Wj h]
  exact finI ⟨[C.agg [cI r27.room, cV v181, cV v183, cV v185, cI 0]], _, Y25.refl _, (.cons (.cell (p := 0) rfl rfl Yb5.h rfl) .nil), [2, 2, 2, 2, 2], _, _, rfl, ⟨v181, v183, v185, rfl, rfl⟩⟩
 refine AW.cond rfl (fun _ => ?_) (fun hn => absurd ((Y47 hb32).symm.trans hn) (by decide))
 refine zw ?_
 refine rD [0,0,1,1,1,1,1] [4,5] [9] [0,4,8,12,17,21,26,28,32,39] ?_
 refine zw ?_
 refine ob' h fun r47 g48 h => ?_
 refine Y3z.h (ns := [0]) rfl rfl rfl (HOp.frz (t := 57) rfl Frz.arr (Y27 ((Z3l _ _).h _ g48) rfl rfl)) ?_
 rintro _ _ ⟨_, ⟨v49, rfl, rfl⟩, rfl⟩
 refine OpsD.v rfl rfl (Y18 rfl rfl) ?_
 refine OpsD.v rfl rfl (Y1f Yb2.h rfl rfl) ?_
 refine OpsD.learn (Sim.arr_one (p := 7) rfl) fun n50 => ?_
 refine zw ?_
 refine AW.ret ?_
 rw [← Wj h]
 exact finI ⟨[C.agg [cI r27.room, cV v29, cV v49, cV s0, cI 0]], _, Y25.nil 2 kI64 1, (.cons (.cell (p := 1) rfl rfl Yb5.h rfl) .nil), [3, 7, 0, 2, 2], _, _, rfl, ⟨v29, v49, s0, rfl, rfl⟩⟩
instance Z4r (p0 : Y9k) (p1 : Y9j) : SpO Tryz.prog 107 (Z4p p0 p1) (.x fun (w00 : Value) => .x fun (w01 : Value) => .d [C.agg [cI p0.room, cV w00, cV w01], C.agg [cI p1.id, cI p1.room, cI p1.author, cI p1.kind, cI p1.key, cI p1.n, C.str p1.text, cM kI64 1 p1.prev, cI p1.time]] [oA w00 42 Y9q 9 p0.events, oA w01 42 Y9q 9 p0.parked] fun r => .x fun (v187 : Value) => .x fun (v188 : Value) => .x fun (v189 : Value) => .d (C.agg [cI r.graph.room, cV v187, cV v188, cV v189, cI r.code]) [oA v187 42 Y9q 9 r.graph.events, oA v188 42 Y9q 9 r.graph.parked, oA v189 2 kI64 1 r.added, oA w00 42 Y9q 9 p0.events, oA w01 42 Y9q 9 p0.parked]) := ⟨fun w00 w01 r h => Z4q p0 p1 r h⟩

def Z4s (p0 : Y9k) (p1 : Y9j) (x10 : Bool) : Option Y9l := cond x10 ((Z37 1).bind fun r12 => some r12) ((Z4p p0 p1).bind fun r17 => some r17)
def Z4t (p0 : Y9k) (p1 : Y9j) : Option Y9l := (Z35 p0).bind fun r4 => cond r4 ((Z2b p1).bind fun r7 => cond r7 (Z4s p0 p1 (p1.room != p0.room)) (Z4s p0 p1 true)) (Z4s p0 p1 true)
instance Z4u (p0 : Y9k) (p1 : Y9j) : SpO Tryz.prog 38 (Z4t p0 p1) (.x fun (w00 : Value) => .x fun (w01 : Value) => .d [C.agg [cI p0.room, cV w00, cV w01], C.agg [cI p1.id, cI p1.room, cI p1.author, cI p1.kind, cI p1.key, cI p1.n, C.str p1.text, cM kI64 1 p1.prev, cI p1.time]] [oA w00 42 Y9q 9 p0.events, oA w01 42 Y9q 9 p0.parked] fun r => .x fun (v22 : Value) => .x fun (v23 : Value) => .x fun (v24 : Value) => .d (C.agg [cI r.graph.room, cV v22, cV v23, cV v24, cI r.code]) [oA v22 42 Y9q 9 r.graph.events, oA v23 42 Y9q 9 r.graph.parked, oA v24 2 kI64 1 r.added, oA w00 42 Y9q 9 p0.events, oA w01 42 Y9q 9 p0.parked]) := ⟨fun w00 w01 => so Tryz.func38 rfl rfl fun r X h => gh (.q 2 (.c1 (fun x10 => .d [(19, C.bool x10)] []) [2,3,4] [2,3,4,1,0] .z (.b (.k .z) .z)))⟩

def Z4v (x174 : Int) (l175 : List Y9j) (l177 : List Y9j) (l178 : List Int) (x179 : Int) (x180 : Int) (x181 : Int) : Option (Y9k × Y9i) := some ((Y9k.mk x174 l175 l177), (Y9i.mk l178 x179 x180 x181))
def Z4w (x106 : Int) (l108 : List Y9j) (l110 : List Y9j) (l114 : List Int) (x115 : Int) (x116 : Int) (x117 : Int) (x118 : Bool) : Option (Y9k × Y9i) := cond x118 ((Z9 (Y9i.mk l114 x115 x116 x117) 5).bind fun r120 => cond (r120.1 == 0) ((Z9 r120.2 5).bind fun r123 => Z4v r123.1 l108 l110 r123.2.b r123.2.at_ r123.2.mix r123.2.size) (cond (r120.1 == 1) ((chk (decide ((0 : Int) ≤ 1 ∧ 1 ≤ (l108.length : Int)))).bind fun u127 => Z4v x106 (List.drop (Int.toNat 1) l108) l110 r120.2.b r120.2.at_ r120.2.mix r120.2.size) (cond (r120.1 == 2) ((getI l108 0).bind fun e139 => (chk (decide ((l110.length + [e139].length) * 96 ≤ 140737488355328))).bind fun u143 => Z4v x106 l108 (l110 ++ [e139]) r120.2.b r120.2.at_ r120.2.mix r120.2.size) (cond (r120.1 == 3) ((getI l108 (IntKind.i64.wrap ((l108.length : Int) - 1))).bind fun e147 => Z4v x106 (List.set l108 (Int.toNat (IntKind.i64.wrap ((l108.length : Int) - 1))) (Y9j.mk e147.id e147.room e147.author e147.kind e147.key e147.n e147.text [(IntKind.i64.wrap (e147.id + 1))] e147.time)) l110 r120.2.b r120.2.at_ r120.2.mix r120.2.size) ((Z4b r120.2).bind fun r166 => (chk (decide ((l108.length + [r166.1].length) * 96 ≤ 140737488355328))).bind fun u171 => Z4v x106 (l108 ++ [r166.1]) l110 r166.2.b r166.2.at_ r166.2.mix r166.2.size))))) (Z4v x106 l108 l110 l114 x115 x116 x117)
def Z4x (r8 : List Y9j × Y9i) (x106 : Int) (l108 : List Y9j) (l110 : List Y9j) : Option (Y9k × Y9i) := (Zc r8.2 15).bind fun r111 => cond r111.1 (Z4w x106 l108 l110 r111.2.b r111.2.at_ r111.2.mix r111.2.size (decide ((l108.length : Int) > 0))) (Z4w x106 l108 l110 r111.2.b r111.2.at_ r111.2.mix r111.2.size false)
def Z4y (x55 : Int) (x101 : Int) (l103 : List Y9j) (l105 : List Y9j) : Option ((Int × List Y9j × List Y9j × Int) ⊕ ((Int × List Y9j × List Y9j))) := some (.inl (x101, l103, l105, (IntKind.i64.wrap (x55 + 1))))
def Z4z (x50 : Int) (l52 : List Y9j) (l54 : List Y9j) (x55 : Int) (x92 : Int) (l94 : List Y9j) (l96 : List Y9j) (l98 : List Int) (x99 : Int) : Option ((Int × List Y9j × List Y9j × Int) ⊕ ((Int × List Y9j × List Y9j))) := cond (x99 == 0) (Z4y x55 x92 l94 l96) (Z4y x55 x50 l52 l54)
def Z50 (r8 : List Y9j × Y9i) (x50 : Int) (l52 : List Y9j) (l54 : List Y9j) (x55 : Int) : Option ((Int × List Y9j × List Y9j × Int) ⊕ ((Int × List Y9j × List Y9j))) := cond (decide (x55 < (r8.1.length : Int))) ((getI r8.1 x55).bind fun e83 => (Z4t (Y9k.mk x50 l52 l54) e83).bind fun r85 => Z4z x50 l52 l54 x55 r85.graph.room r85.graph.events r85.graph.parked r85.added r85.code) (some (.inr (x50, l52, l54)))
def Z51 (p0 : Y9i) : Option (Y9k × Y9i) := (Z9 p0 (IntKind.i64.wrap (9 + p0.size))).bind fun r3 => (Z19 r3.2 1 r3.1).bind fun r5 => (Z1j r5.2 r5.1 true).bind fun r8 => (iter (fun z183 => Z50 r8 z183.1 z183.2.1 z183.2.2.1 z183.2.2.2) big (1, [], [], 0)).bind fun (y184, y185, y186) => Z4x r8 y184 y185 y186
theorem Z52 {b00 : Nat} (p0 : Y9i) (r : Y9k × Y9i) (h : Z51 p0 = some r) : Ok Tryz.prog 67 [pt b00] [oB b00 159 [cM kU8 1 p0.b, cI p0.at_, cV (.int .u64 p0.mix), cI p0.size]] (fun c qs => ∃ (v182 : Value), c = C.agg [cI r.1.room, cM Y9q 9 r.1.events, cV v182] ∧ qs = [oA v182 42 Y9q 9 r.1.parked, oB b00 159 [cM kU8 1 r.2.b, cI r.2.at_, cV (.int .u64 r.2.mix), cI r.2.size]]) := by
 refine Ok.of_body (rs := [.cell 2 25]) Tryz.func67 rfl rfl rfl rfl rfl fun X => ?_
 unfold Z51 at h
 refine zw ?_
 refine al fun b1 => ?_
 refine Ops.nil ?_
 refine AW.seq ?_
 refine AW.region ?_
 refine Ops.v rfl (Y3k (ds := [cI 1, cV s0, cV s0]) Yb7 Yb6 (Y4g rfl rfl) (.one rfl (One.val rfl) rfl rfl .nil) rfl) ?_
 refine al fun b2 => ?_
 refine zw ?_
 refine ob' h fun r3 g4 h => ?_
 refine Ops.hd (ns := [2]) rfl rfl (Y28 (Za p0 (IntKind.i64.wrap (9 + p0.size)) _ g4) rfl rfl) ?_
 refine ob' h fun r5 g6 h => ?_
 refine Ops.h (ns := [0]) rfl rfl (Y27 (Z1a r3.2 1 r3.1 _ g6) rfl rfl) ?_
 rintro _ _ ⟨_, ⟨v7, rfl, rfl⟩, rfl⟩
 refine ob' h fun r8 g9 h => ?_
 refine Ops.h (ns := [0, 0]) rfl rfl (HOp.frz (t := 17) rfl Frz.arr (Y27 (Z1k r5.2 r5.1 true _ g9) rfl rfl)) ?_
 rintro _ _ ⟨_, ⟨v10, rfl, rfl⟩, rfl⟩
 refine Ops.v rfl (Ys rfl rfl) ?_
 refine Ops.nil ?_
 refine AW.seq ?_
 refine AW.cut (τ := Int × List Y9j × List Y9j × Value × Value) (fun (x106, l108, l110, v107, v109) => ⟨[(0, pt b00), (2, pt b1), (3, pt b2)], [oB b2 25 [cI x106, cV v107, cV v109], oA v107 42 Y9q 9 l108, oA v109 42 Y9q 9 l110, oB b00 159 [cM kU8 1 r8.2.b, cI r8.2.at_, cV (.int .u64 r8.2.mix), cI r8.2.size], oB b1 25 [cI 0, cV s0, cV s0]]⟩) (fun (x106, l108, l110, v107, v109) => Z4x r8 x106 l108 l110 = some r) ?_ ?_
 ·
  refine zw ?_
  refine ob' h fun o187 g188 q189 => ?_
  refine AW.loop (τ := Int × List Y9j × List Y9j × Int × Value × Value) (x := (1, [], [], 0, s0, s0)) (fun (x50, l52, l54, x55, v51, v53) => ⟨[(0, pt b00), (2, pt b1), (3, pt b2), (4, cV v10), (5, cI x55)], [oB b2 25 [cI x50, cV v51, cV v53], oA v51 42 Y9q 9 l52, oA v53 42 Y9q 9 l54, oB b00 159 [cM kU8 1 r8.2.b, cI r8.2.at_, cV (.int .u64 r8.2.mix), cI r8.2.size], oB b1 25 [cI 0, cV s0, cV s0], oA v10 42 Y9q 9 r8.1]⟩) (fun k (x50, l52, l54, x55, v51, v53) => iter (fun z183 => Z50 r8 z183.1 z183.2.1 z183.2.2.1 z183.2.2.2) k (x50, l52, l54, x55) = some o187) g188 ((Y25.nil 42 Y9q 9).trans ((Y25.nil 42 Y9q 9).trans (Y25.both (ns := [4, 0, 0, 1, 1, 0]) rfl rfl))) ?_
  rintro k ⟨x50, l52, l54, x55, v51, v53⟩ i191
  refine Y4f (show iter (fun z183 => Z50 r8 z183.1 z183.2.1 z183.2.2.1 z183.2.2.2) k (x50, l52, l54, x55) = some o187 from i191) fun k190 y192 hlt_k190 h h193 => ?_
  replace h : Z50 r8 x50 l52 l54 x55 = some y192 := h
  unfold Z50 at h
  refine zw ?_
  refine cnd h (fun hb56 h => ?_) fun hb56 h => ?_
  ·
   refine AW.ct hb56 rfl ?_
   refine AW.skip ?_
   refine AW.seq ?_
   refine AW.cut (τ := Int × List Y9j × List Y9j × Value × Value) (fun (x101, l103, l105, v102, v104) => ⟨[(0, pt b00), (2, pt b1), (3, pt b2), (4, cV v10), (5, cI x55)], [oB b2 25 [cI x101, cV v102, cV v104], oA v102 42 Y9q 9 l103, oA v104 42 Y9q 9 l105, oB b00 159 [cM kU8 1 r8.2.b, cI r8.2.at_, cV (.int .u64 r8.2.mix), cI r8.2.size], oB b1 25 [cI 0, cV s0, cV s0], oA v10 42 Y9q 9 r8.1]⟩) (fun (x101, l103, l105, v102, v104) => Z4y x55 x101 l103 l105 = some y192) ?_ ?_
   ·
    refine AW.block ?_
    refine AW.seq ?_
    refine AW.cut (τ := Int × List Y9j × List Y9j × List Int × Int × Nat × Value × Value × Value) (fun (x92, l94, l96, l98, x99, b91, v93, v95, v97) => ⟨[(0, pt b00), (2, pt b1), (3, pt b2), (4, cV v10), (5, cI x55), (6, pt b91)], [oB b91 53 [cI x92, cV v93, cV v95, cV v97, cI x99], oA v93 42 Y9q 9 l94, oA v95 42 Y9q 9 l96, oA v97 2 kI64 1 l98, oB b00 159 [cM kU8 1 r8.2.b, cI r8.2.at_, cV (.int .u64 r8.2.mix), cI r8.2.size], oB b1 25 [cI 0, cV s0, cV s0], oB b2 25 [cI x50, cV v51, cV v53], oA v51 42 Y9q 9 l52, oA v53 42 Y9q 9 l54, oA v10 42 Y9q 9 r8.1]⟩) (fun (x92, l94, l96, l98, x99, b91, v93, v95, v97) => Z4z x50 l52 l54 x55 x92 l94 l96 l98 x99 = some y192) ?_ ?_
    ·
     refine AW.regionD (L := [0, 4]) (Lt := [7]) (k := .light 0 true (.light 1 false (.light 2 false (.light 3 false (.light 4 true (.two 5 6 (.one 6 (.late 7 (.done))) (.one 5 (.late 7 (.done))))))))) (ns := [0, 2, 2, 2]) (by kernel_rfl) (by kernel_rfl) (by kernel_rfl) (by kernel_rfl) rfl ?_
     refine zw ?_
     refine ob' h fun e83 g84 h => ?_
     refine zw ?_
     refine ob' h fun r85 g86 h => ?_
     refine OpsD.two ?_ ?_
     ·
      refine Y3z.h (ns := [0, 0]) rfl rfl rfl (Y27 ((Z4u (Y9k.mk x50 l52 l54) e83).h _ _ _ g86) rfl rfl) ?_
      rintro _ _ ⟨_, ⟨v87, v88, v89, rfl, rfl⟩, rfl⟩
      refine zw ?_
      refine dal fun b90 => ?_
      refine zw ?_
      exact ⟨(r85.graph.room, r85.graph.events, r85.graph.parked, r85.added, r85.code, b90, v87, v88, v89), h, Y25.both (ns := [0, 4, 4, 4, 1, 1, 0, 1, 1, 0]) rfl rfl⟩
     refine dal fun b90 => ?_
     refine OpsD.one ?_
     refine Y3z.h (ns := [1, 1]) rfl rfl rfl (Y27 ((Z4u (Y9k.mk x50 l52 l54) e83).h _ _ _ g86) rfl rfl) ?_
     rintro _ _ ⟨_, ⟨v87, v88, v89, rfl, rfl⟩, rfl⟩
     refine zw ?_
     exact ⟨(r85.graph.room, r85.graph.events, r85.graph.parked, r85.added, r85.code, b90, v87, v88, v89), h, Y25.both (ns := [0, 4, 4, 4, 1, 1, 0, 1, 1, 0]) rfl rfl⟩
    rintro ⟨x92, l94, l96, l98, x99, b91, v93, v95, v97⟩ h
    replace h : Z4z x50 l52 l54 x55 x92 l94 l96 l98 x99 = some y192 := h
    unfold Z4z at h
    refine zw ?_
    refine cnd h (fun hb100 h => ?_) fun hb100 h => ?_
    ·
     refine AW.ct hb100 rfl ?_
     refine zw ?_
     exact ⟨(x92, l94, l96, v93, v95), h, Y25.both (ns := [0, 1, 1, 2, 2, 4]) rfl rfl⟩
    refine AW.cf hb100 rfl ?_
    refine zw ?_
    exact ⟨(x50, l52, l54, v51, v53), h, Y25.both (ns := [6, 6, 6, 4, 4, 4]) rfl rfl⟩
   rintro ⟨x101, l103, l105, v102, v104⟩ h
   replace h : Z4y x55 x101 l103 l105 = some y192 := h
   unfold Z4y at h
   refine zw ?_
   obtain rfl := Wj h
   exact ⟨k190, (x101, l103, l105, (IntKind.i64.wrap (x55 + 1)), v102, v104), hlt_k190, h193, Y25.both (ns := [0, 0, 0, 0, 0, 0]) rfl rfl⟩
  refine AW.cf hb56 rfl ?_
  refine AW.exit ?_
  obtain rfl := Wj h
  obtain rfl := Wj h193
  replace h := q189
  exact ⟨(x50, l52, l54, v51, v53), h, Y25.both (ns := [0, 0, 0, 0, 0]) rfl rfl⟩
 rintro ⟨x106, l108, l110, v107, v109⟩ h
 replace h : Z4x r8 x106 l108 l110 = some r := h
 unfold Z4x at h
 refine AW.seq ?_
 refine AW.cut (τ := Int × List Y9j × List Y9j × List Int × Int × Int × Int × Value) (fun (x174, l175, l177, l178, x179, x180, x181, v176) => ⟨[(2, pt b1), (3, pt b2)], [oB b2 25 [cI x174, cM Y9q 9 l175, cV v176], oA v176 42 Y9q 9 l177, oB b00 159 [cM kU8 1 l178, cI x179, cV (.int .u64 x180), cI x181], oB b1 25 [cI 0, cV s0, cV s0]]⟩) (fun (x174, l175, l177, l178, x179, x180, x181, v176) => Z4v x174 l175 l177 l178 x179 x180 x181 = some r) ?_ ?_
 ·
  refine AW.seq ?_
  refine AW.cut (τ := List Int × Int × Int × Int × Bool) (fun (l114, x115, x116, x117, x118) => ⟨[(0, pt b00), (2, pt b1), (3, pt b2), (43, C.bool x118)], [oB b00 159 [cM kU8 1 l114, cI x115, cV (.int .u64 x116), cI x117], oB b1 25 [cI 0, cV s0, cV s0], oB b2 25 [cI x106, cV v107, cV v109], oA v107 42 Y9q 9 l108, oA v109 42 Y9q 9 l110]⟩) (fun (l114, x115, x116, x117, x118) => Z4w x106 l108 l110 l114 x115 x116 x117 x118 = some r) ?_ ?_
  ·
   refine zw ?_
   refine ob' h fun r111 g112 h => ?_
   refine Ops.hd (ns := [3]) rfl rfl (Y28 ((Zd r8.2 15).h _ _ g112) rfl rfl) ?_
   refine zw ?_
   refine cnd h (fun hb113 h => ?_) fun hb113 h => ?_
   ·
    refine zw ?_
    exact ⟨(r111.2.b, r111.2.at_, r111.2.mix, r111.2.size, decide ((l108.length : Int) > 0)), h, Y25.both (ns := [0, 3, 0, 0, 0]) rfl rfl⟩
   refine zw ?_
   exact ⟨(r111.2.b, r111.2.at_, r111.2.mix, r111.2.size, false), h, Y25.both (ns := [0, 3, 0, 0, 0]) rfl rfl⟩
  rintro ⟨l114, x115, x116, x117, x118⟩ h
  replace h : Z4w x106 l108 l110 l114 x115 x116 x117 x118 = some r := h
  unfold Z4w at h
  refine cnd h (fun hb119 h => ?_) fun hb119 h => ?_
  ·
   refine AW.ct hb119 rfl ?_
   refine zw ?_
   refine ob' h fun r120 g121 h => ?_
   refine Ops.hd (ns := [0]) rfl rfl (Y28 (Za (Y9i.mk l114 x115 x116 x117) 5 _ g121) rfl rfl) ?_
   refine zw ?_
   refine cnd h (fun hb122 h => ?_) fun hb122 h => ?_
   ·
    refine AW.ct hb122 rfl ?_
    refine zw ?_
    refine ob' h fun r123 g124 h => ?_
    refine Ops.hd (ns := [0]) rfl rfl (Y28 (Za r120.2 5 _ g124) rfl rfl) ?_
    refine zw ?_
    exact ⟨(r123.1, l108, l110, r123.2.b, r123.2.at_, r123.2.mix, r123.2.size, v109), h, (Y25.boxFrz (ns := [0, 2]) rfl (fS (FrzL.cons (os := [_]) Frz.arr (fS FrzL.nil)))).trans (Y25.both (ns := [0, 2, 0, 0]) rfl rfl)⟩
   refine AW.cf hb122 rfl ?_
   refine zw ?_
   refine cnd h (fun hb125 h => ?_) fun hb125 h => ?_
   ·
    refine AW.ct hb125 rfl ?_
    refine zw ?_
    refine ob' h fun u127 c126 h => ?_
    refine Ops.v rfl (Y79 (p := 3) (l := (Int.toNat 1)) Yar.h rfl rfl rfl (Wo (Y45 c126)) rfl rfl) ?_
    refine Ops.v rfl (Y1f Yb0.h rfl rfl) ?_
    refine Ops.learn (Sim.arr_part (p := 3) rfl) fun n128 => ?_
    refine Ops.hd (ns := [2]) rfl rfl (Y1x (gs := [cI x106, cV (dropV v107 9 (Int.toNat 1)), cV v109]) Yb1.h rfl rfl (One.val (n128.1 _)) rfl rfl) ?_
    refine zw ?_
    exact ⟨(x106, (List.drop (Int.toNat 1) l108), l110, r120.2.b, r120.2.at_, r120.2.mix, r120.2.size, v109), h, (Y25.boxFrz (ns := [0, 2]) rfl (fS (FrzL.cons (os := [_]) (Frz.dropV (Int.le_toNat_len c126)) (fS FrzL.nil)))).trans (Y25.both (ns := [0, 2, 0, 0]) rfl rfl)⟩
   refine AW.cf hb125 rfl ?_
   refine zw ?_
   refine cnd h (fun hb129 h => ?_) fun hb129 h => ?_
   ·
    refine AW.ct hb129 rfl ?_
    refine rD [0,0,0,0] [1,3,5] [9] [0,5,8,13,16,21,26,30,32,39] ?_
    refine zw ?_
    refine ob' h fun e139 g140 h => ?_
    refine OpsD.v rfl rfl (Y39 (p := 3) Yar.h rfl rfl rfl g140 rfl) ?_
    refine OpsD.v rfl rfl (Y3d (p := 3) Yaq.h rfl rfl (Y2f g140).2.2 rfl rfl rfl) ?_
    refine OpsD.one ?_
    refine Y3z.h (ns := []) rfl rfl rfl (Y3l (k := Y9q) (ys := [e139]) Yau (.agg rfl rfl .nil) rfl rfl rfl) ?_
    rintro _ _ ⟨b141, rfl, rfl⟩
    refine zw ?_
    refine ob' h fun u143 c142 h => ?_
    refine Y3z.h (ns := [1, 0]) rfl rfl rfl (Y34 Yau rfl rfl (Wo (Y45 c142)) (Y49 (by decide) c142) rfl) ?_
    rintro _ _ ⟨v144, rfl, rfl⟩
    refine OpsD.v rfl rfl (Y1f Yb2.h rfl rfl) ?_
    refine OpsD.learn (Sim.arr_one (p := 4) rfl) fun n145 => ?_
    refine zw ?_
    exact ⟨(x106, l108, (l110 ++ [e139]), r120.2.b, r120.2.at_, r120.2.mix, r120.2.size, v144), h, (Y25.boxFrz (ns := [0, 2]) rfl (fS (FrzL.cons (os := [_]) Frz.arr (fS FrzL.nil)))).trans (Y25.both (ns := [0, 2, 0, 0]) rfl rfl)⟩
   refine AW.cf hb129 rfl ?_
   refine zw ?_
   refine cnd h (fun hb146 h => ?_) fun hb146 h => ?_
   ·
    refine AW.ct hb146 rfl ?_
    refine rD [0,0,0,0,0] [1,3,7,9,14] [19] [0,5,8,13,16,20,24,29,32,37,40,44,48,52,57,60,66,68,72,79] ?_
    refine zw ?_
    refine ob' h fun e147 g148 h => ?_
    refine OpsD.v rfl rfl (Y39 (p := 3) Yar.h rfl rfl rfl g148 rfl) ?_
    refine OpsD.v rfl rfl (Y3a (p := 3) Yas.h rfl rfl (Y2f g148).2.2 rfl) ?_
    refine OpsD.v rfl rfl (Y3c (p := 3) ld_2.h rfl rfl (Y2f g148).2.2 rfl rfl) ?_
    refine OpsD.v rfl rfl (Yx rfl rfl rfl rfl) ?_
    refine OpsD.one ?_
    refine Y3z.h (ns := []) rfl rfl rfl (Y3l (k := kI64) (ys := [(IntKind.i64.wrap (e147.id + 1))]) Yai (.one rfl (One.val rfl) rfl rfl .nil) rfl rfl rfl) ?_
    rintro _ _ ⟨b149, rfl, rfl⟩
    refine OpsD.v rfl rfl (Y39 (p := 3) Yar.h rfl rfl rfl g148 rfl) ?_
    refine OpsD.v rfl rfl (Y3a (p := 3) Yaw.h rfl rfl (Y2f g148).2.2 rfl) ?_
    refine OpsD.late (ns := [5, 3]) rfl rfl rfl (HOp.frz (t := 93) rfl Frz.arr (Y3f (e' := (Y9j.mk e147.id e147.room e147.author e147.kind e147.key e147.n e147.text [(IntKind.i64.wrap (e147.id + 1))] e147.time)) Yax.h rfl rfl One.im (Y2f g148).2.2 rfl rfl)) ?_
    rintro _ _ ⟨rfl, rfl⟩
    refine zw ?_
    exact ⟨(x106, (List.set l108 (Int.toNat (IntKind.i64.wrap ((l108.length : Int) - 1))) (Y9j.mk e147.id e147.room e147.author e147.kind e147.key e147.n e147.text [(IntKind.i64.wrap (e147.id + 1))] e147.time)), l110, r120.2.b, r120.2.at_, r120.2.mix, r120.2.size, v109), h, (Y25.boxFrz (ns := [3, 0]) rfl (fS (FrzL.cons (os := [_]) Frz.arr (fS FrzL.nil)))).trans (Y25.both (ns := [0, 2, 0, 0]) rfl rfl)⟩
   refine AW.cf hb146 rfl ?_
   refine rD [1,1,2] [1] [7] [0,5,8,14,18,22,24,31] ?_
   refine zw ?_
   refine ob' h fun r166 g167 h => ?_
   refine Y3z.h (ns := [0]) rfl rfl rfl (Y27 (Z4c r120.2 _ g167) rfl rfl) ?_
   rintro _ _ ⟨_, ⟨v168, rfl, rfl⟩, rfl⟩
   refine OpsD.one ?_
   refine Y3z.h (ns := [0]) rfl rfl rfl (HOp.frz (t := 49) rfl (Frz.agg (fS (fS (fS (fS (fS (fS (fS (FrzL.cons (os := [_]) Frz.arr (fS FrzL.nil)))))))))) (Y3l (k := Y9q) (ys := [r166.1]) Yau (.agg rfl rfl .nil) rfl rfl rfl)) ?_
   rintro _ _ ⟨b169, rfl, rfl⟩
   refine zw ?_
   refine ob' h fun u171 c170 h => ?_
   refine Y3z.h (ns := [2, 0]) rfl rfl rfl (Y34 Yau rfl rfl (Wo (Y45 c170)) (Y49 (by decide) c170) rfl) ?_
   rintro _ _ ⟨v172, rfl, rfl⟩
   refine OpsD.v rfl rfl (Y1f Yb0.h rfl rfl) ?_
   refine OpsD.learn (Sim.arr_one (p := 3) rfl) fun n173 => ?_
   refine zw ?_
   exact ⟨(x106, (l108 ++ [r166.1]), l110, r166.2.b, r166.2.at_, r166.2.mix, r166.2.size, v109), h, (Y25.boxFrz (ns := [0, 2]) rfl (fS (FrzL.cons (os := [_]) Frz.arr (fS FrzL.nil)))).trans (Y25.both (ns := [0, 1, 1, 0]) rfl rfl)⟩
  refine AW.cf hb119 rfl ?_
  refine zw ?_
  exact ⟨(x106, l108, l110, l114, x115, x116, x117, v109), h, (Y25.boxFrz (ns := [2, 2]) rfl (fS (FrzL.cons (os := [_]) Frz.arr (fS FrzL.nil)))).trans (Y25.both (ns := [0, 2, 0, 0]) rfl rfl)⟩
 rintro ⟨x174, l175, l177, l178, x179, x180, x181, v176⟩ h
 replace h : Z4v x174 l175 l177 l178 x179 x180 x181 = some r := h
 unfold Z4v at h
 refine zw ?_
 refine AW.ret ?_
 rw [← Wj h]
 exact finI ⟨[C.agg [cI x174, cM Y9q 9 l175, cV v176]], _, Y25.refl _, (.cons (.cell (p := 0) rfl rfl Yb8.h rfl) .nil), [2, 2], _, _, rfl, ⟨v176, rfl, rfl⟩⟩
instance Z53 (p0 : Y9i) : SpO Tryz.prog 67 (Z51 p0) (.x fun (b00 : Nat) => .d [pt b00] [oB b00 159 [cM kU8 1 p0.b, cI p0.at_, cV (.int .u64 p0.mix), cI p0.size]] fun r => .x fun (v182 : Value) => .d (C.agg [cI r.1.room, cM Y9q 9 r.1.events, cV v182]) [oA v182 42 Y9q 9 r.1.parked, oB b00 159 [cM kU8 1 r.2.b, cI r.2.at_, cV (.int .u64 r.2.mix), cI r.2.size]]) := ⟨fun b00 r h => Z52 p0 r h⟩

end Go.Proofs.YtomachnjepgpbaaGreat
