/- Printed by gen.py: plain functions for Go functions, and that the walks keep to them. -/
import Derived.Test.YtomachnjepgpbaaGreatAQ3
set_option autoImplicit false
set_option linter.unusedVariables false
set_option linter.unusedSimpArgs false
set_option maxHeartbeats 8000000
set_option maxRecDepth 100000
namespace Go.Proofs.YtomachnjepgpbaaGreat
open Go Go.Abs
attribute [local irreducible] AW Ops OpsD Y3z VoK HoK GhF UsC Go.Abs.Fin PkK LenT LenL Y98 BldK FzK FzLK
def Z4k (r27 : Y9k) (l182 : List Y9j) (l184 : List Y9j) (l186 : List Int) : Option Y9l := some (Y9l.mk (Y9k.mk r27.room l182 l184) l186 0)
def Z4l (r27 : Y9k) (l126 : List Y9j) (x129 : Int) (l175 : List Y9j) (l178 : List Int) : Option ((List Y9j × List Y9j × List Int × Int) ⊕ ((List Y9j × List Y9j × List Int))) := (Z3o (Y9k.mk r27.room l175 ((([] : List Y9j) ++ (List.take (Int.toNat x129) l126)) ++ (List.drop (Int.toNat (IntKind.i64.wrap (x129 + 1))) l126)))).bind fun r179 => some (.inl (l175, ((([] : List Y9j) ++ (List.take (Int.toNat x129) l126)) ++ (List.drop (Int.toNat (IntKind.i64.wrap (x129 + 1))) l126)), l178, r179))
def Z4m (r27 : Y9k) (l124 : List Y9j) (l126 : List Y9j) (l128 : List Int) (x129 : Int) : Option ((List Y9j × List Y9j × List Int × Int) ⊕ ((List Y9j × List Y9j × List Int))) := cond (decide (x129 ≥ 0)) ((getI l126 x129).bind fun e131 => (chk (decide ((0 : Int) ≤ x129 ∧ x129 ≤ (l126.length : Int)))).bind fun u136 => (chk (decide ((Int.toNat x129) ≤ l126.length))).bind fun u138 => (chk (decide ((([] : List Y9j).length + (List.take (Int.toNat x129) l126).length) * 96 ≤ 140737488355328))).bind fun u140 => (chk (decide ((0 : Int) ≤ (IntKind.i64.wrap (x129 + 1)) ∧ (IntKind.i64.wrap (x129 + 1)) ≤ (l126.length : Int)))).bind fun u143 => (chk (decide ((Int.toNat (IntKind.i64.wrap (x129 + 1))) ≤ l126.length))).bind fun u145 => (chk (decide (((([] : List Y9j) ++ (List.take (Int.toNat x129) l126)).length + (List.drop (Int.toNat (IntKind.i64.wrap (x129 + 1))) l126).length) * 96 ≤ 140737488355328))).bind fun u147 => cond (decide ((l124.length : Int) < 60)) ((Z3k l124 e131).bind fun r165 => (chk (decide ((l128.length + [e131.id].length) * 8 ≤ 140737488355328))).bind fun u171 => Z4l r27 l126 x129 r165 (l128 ++ [e131.id])) (Z4l r27 l126 x129 l124 l128)) (some (.inr (l124, l126, l128)))
def Z4n (p0 : Y9k) (p1 : Y9j) (r4 : Bool) (x20 : Bool) : Option Y9l := cond x20 ((Z37 9).bind fun r22 => some r22) ((Z4i p0).bind fun r27 => cond r4 ((Z3k r27.events p1).bind fun r65 => (Z3o (Y9k.mk r27.room r65 r27.parked)).bind fun r70 => (iter (fun z190 => Z4m r27 z190.1 z190.2.1 z190.2.2.1 z190.2.2.2) big (r65, r27.parked, [p1.id], r70)).bind fun (y191, y192, y193) => Z4k r27 y191 y192 y193) ((Z3k r27.parked p1).bind fun r47 => some (Y9l.mk (Y9k.mk r27.room r27.events r47) [] 0)))
def Z4o (p0 : Y9k) (p1 : Y9j) (r4 : Bool) (x11 : Bool) : Option Y9l := cond x11 ((Z37 7).bind fun r13 => some r13) (cond (decide ((p0.events.length : Int) ≥ 60)) (Z4n p0 p1 r4 true) (cond r4 (Z4n p0 p1 r4 false) (Z4n p0 p1 r4 (decide ((p0.parked.length : Int) ≥ 20)))))
def Z4p (p0 : Y9k) (p1 : Y9j) : Option Y9l := (Z2k p0.events p1).bind fun r4 => (Zr p0.events p1.id).bind fun r6 => cond (decide (r6 ≥ 0)) (Z4o p0 p1 r4 true) ((Zr p0.parked p1.id).bind fun r9 => Z4o p0 p1 r4 (decide (r9 ≥ 0)))
theorem Z4q {w00 : Value} {w01 : Value} (p0 : Y9k) (p1 : Y9j) (r : Y9l) (h : Z4p p0 p1 = some r) : Ok Tryz.prog 107 [C.agg [cI p0.room, cV w00, cV w01], C.agg [cI p1.id, cI p1.room, cI p1.author, cI p1.kind, cI p1.key, cI p1.n, C.str p1.text, cM kI64 1 p1.prev, cI p1.time]] [oA w00 42 Y9q 9 p0.events, oA w01 42 Y9q 9 p0.parked] (fun c qs => ∃ (v187 : Value) (v188 : Value) (v189 : Value), c = C.agg [cI r.graph.room, cV v187, cV v188, cV v189, cI r.code] ∧ qs = [oA v187 42 Y9q 9 r.graph.events, oA v188 42 Y9q 9 r.graph.parked, oA v189 2 kI64 1 r.added, oA w00 42 Y9q 9 p0.events, oA w01 42 Y9q 9 p0.parked]) := by
 refine Ok.of_body (rs := [.cell 4 53]) Tryz.func107 rfl rfl rfl rfl rfl fun X => ?_
 unfold Z4p at h
 refine zw ?_
 refine ox fun b1 => ?_
 refine ox fun b2 => ?_
 refine al fun b3 => ?_
 refine zw ?_
 refine ob' h fun r4 g5 h => ?_
 refine Ops.hd (ns := [3]) rfl rfl (Y28 (Ok.lendE ((Z2l p0.events p1).h _ g5) (FrzT.cons (os := [_]) Frz.arr (fT (FrzT.nil))) (Y4i.val _)) rfl rfl) ?_
 refine Ops.v rfl (Ys rfl rfl) ?_
 refine Ops.nil ?_
 refine AW.seq ?_
 refine AW.block ?_
 refine AW.seq ?_
 refine AW.cut (τ := Bool) (fun x11 => ⟨[(2, pt b1), (3, pt b2), (4, pt b3), (5, C.bool r4), (15, C.bool x11)], [oB b1 25 [cI p0.room, cV w00, cV w01], oA w00 42 Y9q 9 p0.events, oA w01 42 Y9q 9 p0.parked, oB b2 42 [cI p1.id, cI p1.room, cI p1.author, cI p1.kind, cI p1.key, cI p1.n, C.str p1.text, cM kI64 1 p1.prev, cI p1.time], oB b3 53 [cI 0, cV s0, cV s0, cV s0, cI 0]]⟩) (fun x11 => Z4o p0 p1 r4 x11 = some r) ?_ ?_
 ·
  refine zw ?_
  refine ob' h fun r6 g7 h => ?_
  refine Ops.hd (ns := [0]) rfl rfl (Y28 (Ok.lendE ((Zs p0.events p1.id).h _ g7) (FrzT.cons (os := [_]) Frz.arr (fT (FrzT.nil))) (Y4i.val _)) rfl rfl) ?_
  refine zw ?_
  refine cnd h (fun hb8 h => ?_) fun hb8 h => ?_
  ·
   refine zw ?_
   exact ⟨true, h, Y25.both (ns := [3, 0, 2, 1, 0]) rfl rfl⟩
  refine zw ?_
  refine ob' h fun r9 g10 h => ?_
  refine Ops.ghd (ns := [4]) rfl rfl rfl rfl hb8 rfl (Y28 (Ok.lendE ((Zs p0.parked p1.id).h _ g10) (FrzT.cons (os := [_]) Frz.arr (fT (FrzT.nil))) (Y4i.val _)) rfl rfl) ?_
  refine zw ?_
  exact ⟨decide (r9 ≥ 0), h, Y25.both (ns := [4, 1, 0, 1, 0]) rfl rfl⟩
 intro x11 h
 replace h : Z4o p0 p1 r4 x11 = some r := h
 unfold Z4o at h
 refine cnd h (fun hb12 h => ?_) fun hb12 h => ?_
 ·
  refine AW.ct hb12 rfl ?_
  refine zw ?_
  refine ob' h fun r13 g14 h => ?_
  refine Ops.h (ns := []) rfl rfl (Y27 ((Z38 _).h _ g14) rfl rfl) ?_
  rintro _ _ ⟨_, ⟨v15, v16, v17, rfl, rfl⟩, rfl⟩
  refine zw ?_
  refine AW.ret ?_
  rw [← Wj h]
  exact finI ⟨[C.agg [cI r13.graph.room, cV v15, cV v16, cV v17, cI r13.code]], _, Y25.refl _, (.cons (.cell (p := 0) rfl rfl Yb5.h rfl) .nil), [1, 1, 1, 2, 2], _, _, rfl, ⟨v15, v16, v17, rfl, rfl⟩⟩
 refine AW.cf hb12 rfl ?_
 refine AW.seq ?_
 refine AW.cut (τ := Bool) (fun x20 => ⟨[(2, pt b1), (3, pt b2), (4, pt b3), (5, C.bool r4), (31, C.bool x20)], [oB b1 25 [cI p0.room, cV w00, cV w01], oA w00 42 Y9q 9 p0.events, oA w01 42 Y9q 9 p0.parked, oB b2 42 [cI p1.id, cI p1.room, cI p1.author, cI p1.kind, cI p1.key, cI p1.n, C.str p1.text, cM kI64 1 p1.prev, cI p1.time], oB b3 53 [cI 0, cV s0, cV s0, cV s0, cI 0]]⟩) (fun x20 => Z4n p0 p1 r4 x20 = some r) ?_ ?_
 ·
  refine zw ?_
  refine cnd h (fun hb18 h => ?_) fun hb18 h => ?_
  ·
   refine zw ?_
   exact ⟨true, h, Y25.both (ns := [0, 0, 0, 0, 0]) rfl rfl⟩
  refine zw ?_
  refine cnd h (fun hb19 h => ?_) fun hb19 h => ?_
  ·
   refine zw ?_
   exact ⟨false, h, Y25.both (ns := [0, 0, 0, 0, 0]) rfl rfl⟩
  refine zw ?_
  exact ⟨decide ((p0.parked.length : Int) ≥ 20), h, Y25.both (ns := [0, 0, 0, 0, 0]) rfl rfl⟩
 intro x20 h
 replace h : Z4n p0 p1 r4 x20 = some r := h
 unfold Z4n at h
 refine cnd h (fun hb21 h => ?_) fun hb21 h => ?_
 ·
  refine AW.ct hb21 rfl ?_
  refine zw ?_
  refine ob' h fun r22 g23 h => ?_
  refine Ops.h (ns := []) rfl rfl (Y27 ((Z38 _).h _ g23) rfl rfl) ?_
  rintro _ _ ⟨_, ⟨v24, v25, v26, rfl, rfl⟩, rfl⟩
  refine zw ?_
  refine AW.ret ?_
  rw [← Wj h]
  exact finI ⟨[C.agg [cI r22.graph.room, cV v24, cV v25, cV v26, cI r22.code]], _, Y25.refl _, (.cons (.cell (p := 0) rfl rfl Yb5.h rfl) .nil), [1, 1, 1, 2, 2], _, _, rfl, ⟨v24, v25, v26, rfl, rfl⟩⟩
 refine AW.cf hb21 rfl ?_
 refine zw ?_
 refine ob' h fun r27 g28 h => ?_
 refine Ops.h (ns := [1, 1]) rfl rfl (Y27 ((Z4j p0).h _ _ _ g28) rfl rfl) ?_
 rintro _ _ ⟨_, ⟨v29, v30, rfl, rfl⟩, rfl⟩
 refine Ops.v rfl (Y3k (ds := [cI r27.room, cV v29, cV v30, cV s0, cI 0]) Yb4 Yb3 (Y4g rfl rfl) (.agg rfl rfl rfl .nil) rfl) ?_
 refine al fun b31 => ?_
 refine zw ?_
 refine cnd h (fun hb32 h => ?_) fun hb32 h => ?_
 ·
  refine AW.cond rfl (fun hn => absurd ((Y46 hb32).symm.trans hn) (by decide)) (fun _ => ?_)
  refine zw ?_
  refine rD [0,1,1,1,1,1,1] [4,5] [9] [0,4,8,12,17,21,26,28,32,39] ?_
  refine zw ?_
  refine ob' h fun r65 g66 h => ?_
  refine Y3z.h (ns := [0]) rfl rfl rfl (HOp.frz (t := 67) rfl Frz.arr (Y27 ((Z3l _ _).h _ g66) rfl rfl)) ?_
  rintro _ _ ⟨_, ⟨v67, rfl, rfl⟩, rfl⟩
  refine OpsD.v rfl rfl (Y18 rfl rfl) ?_
  refine OpsD.v rfl rfl (Y1f Yb0.h rfl rfl) ?_
  refine OpsD.learn (Sim.arr_one (p := 7) rfl) fun n68 => ?_
  refine zw ?_
  refine Ops.h (ns := []) rfl rfl (Y3l (k := kI64) (ys := [p1.id]) Yai (.one rfl (One.val rfl) rfl rfl .nil) rfl rfl rfl) ?_
  rintro _ _ ⟨b69, rfl, rfl⟩
  refine Ops.v rfl (Y1f Yba.h rfl rfl) ?_
  refine Ops.s1 Yax.h rfl rfl on inferInstance rfl ?_
  refine Ops.nil ?_
  refine AW.seq ?_
  refine AW.cut (τ := List Y9j × List Y9j × List Int × Value × Value × Value) (fun (l182, l184, l186, v181, v183, v185) => ⟨[(4, pt b3), (6, pt b31)], [oB b31 53 [cI r27.room, cV v181, cV v183, cV v185, cI 0], oA v181 42 Y9q 9 l182, oA v183 42 Y9q 9 l184, oA v185 2 kI64 1 l186, oB b3 53 [cI 0, cV s0, cV s0, cV s0, cI 0], oA w00 42 Y9q 9 p0.events, oA w01 42 Y9q 9 p0.parked]⟩) (fun (l182, l184, l186, v181, v183, v185) => Z4k r27 l182 l184 l186 = some r) ?_ ?_
  ·
   refine zw ?_
   refine ob' h fun r70 g71 h => ?_
   refine Ops.hd (ns := [8, 2]) rfl rfl (Y28 (Ok.lendE ((Z3p (Y9k.mk r27.room r65 r27.parked)).h _ g71) (FrzT.cons (os := [_,_]) (Frz.agg (fS (FrzL.cons (os := [_]) Frz.arr (FrzL.cons (os := [_]) Frz.arr (FrzL.nil))))) (FrzT.nil)) (Y4i.val _)) rfl rfl) ?_
   refine zw ?_
   refine ob' h fun o194 g195 q196 => ?_
   refine AW.loop (τ := List Y9j × List Y9j × List Int × Int × Value × Value × Value) (x := (r65, r27.parked, [p1.id], r70, v67, v30, (sv b69 1 1))) (fun (l124, l126, l128, x129, v123, v125, v127) => ⟨[(4, pt b3), (6, pt b31), (7, pt b31), (8, cI x129)], [oB b31 53 [cI r27.room, cV v123, cV v125, cV v127, cI 0], oA v123 42 Y9q 9 l124, oA v125 42 Y9q 9 l126, oA v127 2 kI64 1 l128, oB b3 53 [cI 0, cV s0, cV s0, cV s0, cI 0], oA w00 42 Y9q 9 p0.events, oA w01 42 Y9q 9 p0.parked]⟩) (fun k (l124, l126, l128, x129, v123, v125, v127) => iter (fun z190 => Z4m r27 z190.1 z190.2.1 z190.2.2.1 z190.2.2.2) k (l124, l126, l128, x129) = some o194) g195 (Y25.both (ns := [2, 0, 0, 0, 4, 0, 0]) rfl rfl) ?_
   rintro k ⟨l124, l126, l128, x129, v123, v125, v127⟩ i198
   refine Y4f (show iter (fun z190 => Z4m r27 z190.1 z190.2.1 z190.2.2.1 z190.2.2.2) k (l124, l126, l128, x129) = some o194 from i198) fun k197 y199 hlt_k197 h h200 => ?_
   replace h : Z4m r27 l124 l126 l128 x129 = some y199 := h
   unfold Z4m at h
   refine zw ?_
   refine cnd h (fun hb130 h => ?_) fun hb130 h => ?_
   ·
    refine AW.ct hb130 rfl ?_
    refine AW.skip ?_
    refine AW.seq ?_
    refine AW.cut (τ := List Y9j × List Int × Value × Value × Value) (fun (l175, l178, v174, v176, v177) => ⟨[(4, pt b3), (6, pt b31), (7, pt b31)], [oB b31 53 [cI r27.room, cV v174, cV v176, cV v177, cI 0], oA v174 42 Y9q 9 l175, oA v176 42 Y9q 9 ((([] : List Y9j) ++ (List.take (Int.toNat x129) l126)) ++ (List.drop (Int.toNat (IntKind.i64.wrap (x129 + 1))) l126)), oA v177 2 kI64 1 l178, oB b3 53 [cI 0, cV s0, cV s0, cV s0, cI 0], oA w00 42 Y9q 9 p0.events, oA w01 42 Y9q 9 p0.parked]⟩) (fun (l175, l178, v174, v176, v177) => Z4l r27 l126 x129 l175 l178 = some y199) ?_ ?_
    ·
     refine zw ?_
     refine ob' h fun e131 g132 h => ?_
     refine zw ?_
     refine al fun b133 => ?_
     refine zw ?_
     refine Ops.h (ns := []) rfl rfl (Y3l (k := Y9q) (ys := ([] : List Y9j)) Yau .nil rfl rfl rfl) ?_
     rintro _ _ ⟨b134, rfl, rfl⟩
     refine zw ?_
     refine ob' h fun u136 c135 h => ?_
     refine Ops.v rfl (Y7a (p := 4) (l := (Int.toNat x129)) Yar.h rfl rfl rfl (Wo (Y45 c135)) rfl rfl) ?_
     refine ob' h fun u138 c137 h => ?_
     refine ob' h fun u140 c139 h => ?_
     refine Ops.h (ns := [0, 3]) rfl rfl (Y7j Yau rfl rfl (Part.take (Int.toNat x129) (Wo (Y45 c137))) (Wo (Y45 c139)) (Y49 (by decide) c139) rfl) ?_
     rintro _ _ ⟨v141, rfl, rfl⟩
     refine zw ?_
     refine ob' h fun u143 c142 h => ?_
     refine Ops.v rfl (Y79 (p := 1) (l := (Int.toNat (IntKind.i64.wrap (x129 + 1)))) Yar.h rfl rfl rfl (Wo (Y45 c142)) rfl rfl) ?_
     refine ob' h fun u145 c144 h => ?_
     refine ob' h fun u147 c146 h => ?_
     refine Ops.h (ns := [0, 0]) rfl rfl (Y7j Yau rfl rfl (Part.drop (Int.toNat (IntKind.i64.wrap (x129 + 1))) (Wo (Y45 c144))) (Wo (Y45 c146)) (Y49 (by decide) c146) rfl) ?_
     rintro _ _ ⟨v148, rfl, rfl⟩
     refine Ops.v rfl (Y18 rfl rfl) ?_
     refine Ops.v rfl (Y1f Yb2.h rfl rfl) ?_
     refine Ops.learn (Sim.arr_one (p := 0) rfl) fun n149 => ?_
     refine zw ?_
     refine cnd h (fun hb150 h => ?_) fun hb150 h => ?_
     ·
      refine AW.ct hb150 rfl ?_
      refine zw ?_
      refine rD [0,0,0,0,1,1,1,1] [4,5] [9] [0,4,8,12,17,21,26,28,32,39] ?_
      refine zw ?_
      refine ob' h fun r165 g166 h => ?_
      refine Y3z.h (ns := [0]) rfl rfl rfl (HOp.frz (t := 123) rfl Frz.arr (Y27 ((Z3l _ _).h _ g166) rfl rfl)) ?_
      rintro _ _ ⟨_, ⟨v167, rfl, rfl⟩, rfl⟩
      refine OpsD.v rfl rfl (Y18 rfl rfl) ?_
      refine OpsD.v rfl rfl (Y1f Yb0.h rfl rfl) ?_
      refine OpsD.learn (Sim.arr_one (p := 8) rfl) fun n168 => ?_
      refine zw ?_
      refine Ops.h (ns := []) rfl rfl (Y3l (k := kI64) (ys := [e131.id]) Yai (.one rfl (One.val rfl) rfl rfl .nil) rfl rfl rfl) ?_
      rintro _ _ ⟨b169, rfl, rfl⟩
      refine ob' h fun u171 c170 h => ?_
      refine Ops.h (ns := [5, 0]) rfl rfl (Y34 Yai rfl rfl (Wo (Y45 c170)) (Y49 (by decide) c170) rfl) ?_
      rintro _ _ ⟨v172, rfl, rfl⟩
      refine Ops.v rfl (Y1f Yba.h rfl rfl) ?_
      refine Ops.learn (Sim.arr_one (p := 0) rfl) fun n173 => ?_
      refine zw ?_
      exact ⟨(r165, (l128 ++ [e131.id]), v167, v148, v172), h, Y25.both (ns := [0, 7, 1, 0, 2, 2, 2]) rfl rfl⟩
     refine AW.cf hb150 rfl ?_
     refine zw ?_
     exact ⟨(l124, l128, v123, v148, v127), h, Y25.both (ns := [0, 3, 0, 2, 2, 2, 2]) rfl rfl⟩
    rintro ⟨l175, l178, v174, v176, v177⟩ h
    replace h : Z4l r27 l126 x129 l175 l178 = some y199 := h
    unfold Z4l at h
    refine zw ?_
    refine ob' h fun r179 g180 h => ?_
    refine Ops.hd (ns := [1, 1]) rfl rfl (Y28 (Ok.lendE ((Z3p (Y9k.mk r27.room l175 ((([] : List Y9j) ++ (List.take (Int.toNat x129) l126)) ++ (List.drop (Int.toNat (IntKind.i64.wrap (x129 + 1))) l126)))).h _ g180) (FrzT.cons (os := [_,_]) (Frz.agg (fS (FrzL.cons (os := [_]) Frz.arr (FrzL.cons (os := [_]) Frz.arr (FrzL.nil))))) (FrzT.nil)) (Y4i.val _)) rfl rfl) ?_
    refine zw ?_
    obtain rfl := Wj h
    exact ⟨k197, (l175, ((([] : List Y9j) ++ (List.take (Int.toNat x129) l126)) ++ (List.drop (Int.toNat (IntKind.i64.wrap (x129 + 1))) l126)), l178, r179, v174, v176, v177), hlt_k197, h200, Y25.both (ns := [2, 0, 0, 0, 0, 0, 0]) rfl rfl⟩
   refine AW.cf hb130 rfl ?_
   refine AW.exit ?_
   obtain rfl := Wj h
   obtain rfl := Wj h200
   replace h := q196
   exact ⟨(l124, l126, l128, v123, v125, v127), h, Y25.both (ns := [0, 0, 0, 0, 0, 0, 0]) rfl rfl⟩
  rintro ⟨l182, l184, l186, v181, v183, v185⟩ h
  replace h : Z4k r27 l182 l184 l186 = some r := h
  unfold Z4k at h
  refine zw ?_
  refine AW.ret ?_
  rw [← Wj h]
  exact finI ⟨[C.agg [cI r27.room, cV v181, cV v183, cV v185, cI 0]], _, Y25.refl _, (.cons (.cell (p := 0) rfl rfl Yb5.h rfl) .nil), [2, 2, 2, 2, 2], _, _, rfl, ⟨v181, v183, v185, rfl, rfl⟩⟩
 refine AW.cond rfl (fun _ => ?_) (fun hn => absurd ((Y47 hb32).symm.trans hn) (by decide))
 refine zw ?_
 refine rD [0,0,1,1,1,1,1] [4,5] [9] [0,4,8,12,17,21,26,28,32,39] ?_
 refine zw ?_
 refine ob' h fun r47 g48 h => ?_
 refine Y3z.h (ns := [0]) rfl rfl rfl (HOp.frz (t := 57) rfl Frz.arr (Y27 ((Z3l _ _).h _ g48) rfl rfl)) ?_
 rintro _ _ ⟨_, ⟨v49, rfl, rfl⟩, rfl⟩
 refine OpsD.v rfl rfl (Y18 rfl rfl) ?_
 refine OpsD.v rfl rfl (Y1f Yb2.h rfl rfl) ?_
 refine OpsD.learn (Sim.arr_one (p := 7) rfl) fun n50 => ?_
 refine zw ?_
 refine AW.ret ?_
 rw [← Wj h]
 exact finI ⟨[C.agg [cI r27.room, cV v29, cV v49, cV s0, cI 0]], _, Y25.nil 2 kI64 1, (.cons (.cell (p := 1) rfl rfl Yb5.h rfl) .nil), [3, 7, 0, 2, 2], _, _, rfl, ⟨v29, v49, s0, rfl, rfl⟩⟩
instance Z4r (p0 : Y9k) (p1 : Y9j) : SpO Tryz.prog 107 (Z4p p0 p1) (.x fun (w00 : Value) => .x fun (w01 : Value) => .d [C.agg [cI p0.room, cV w00, cV w01], C.agg [cI p1.id, cI p1.room, cI p1.author, cI p1.kind, cI p1.key, cI p1.n, C.str p1.text, cM kI64 1 p1.prev, cI p1.time]] [oA w00 42 Y9q 9 p0.events, oA w01 42 Y9q 9 p0.parked] fun r => .x fun (v187 : Value) => .x fun (v188 : Value) => .x fun (v189 : Value) => .d (C.agg [cI r.graph.room, cV v187, cV v188, cV v189, cI r.code]) [oA v187 42 Y9q 9 r.graph.events, oA v188 42 Y9q 9 r.graph.parked, oA v189 2 kI64 1 r.added, oA w00 42 Y9q 9 p0.events, oA w01 42 Y9q 9 p0.parked]) := ⟨fun w00 w01 r h => Z4q p0 p1 r h⟩

def Z4s (p0 : Y9k) (p1 : Y9j) (x10 : Bool) : Option Y9l := cond x10 ((Z37 1).bind fun r12 => some r12) ((Z4p p0 p1).bind fun r17 => some r17)
def Z4t (p0 : Y9k) (p1 : Y9j) : Option Y9l := (Z35 p0).bind fun r4 => cond r4 ((Z2b p1).bind fun r7 => cond r7 (Z4s p0 p1 (p1.room != p0.room)) (Z4s p0 p1 true)) (Z4s p0 p1 true)
instance Z4u (p0 : Y9k) (p1 : Y9j) : SpO Tryz.prog 38 (Z4t p0 p1) (.x fun (w00 : Value) => .x fun (w01 : Value) => .d [C.agg [cI p0.room, cV w00, cV w01], C.agg [cI p1.id, cI p1.room, cI p1.author, cI p1.kind, cI p1.key, cI p1.n, C.str p1.text, cM kI64 1 p1.prev, cI p1.time]] [oA w00 42 Y9q 9 p0.events, oA w01 42 Y9q 9 p0.parked] fun r => .x fun (v22 : Value) => .x fun (v23 : Value) => .x fun (v24 : Value) => .d (C.agg [cI r.graph.room, cV v22, cV v23, cV v24, cI r.code]) [oA v22 42 Y9q 9 r.graph.events, oA v23 42 Y9q 9 r.graph.parked, oA v24 2 kI64 1 r.added, oA w00 42 Y9q 9 p0.events, oA w01 42 Y9q 9 p0.parked]) := ⟨fun w00 w01 => so Tryz.func38 rfl rfl fun r X h => gh (.q 2 (.c1 (fun x10 => .d [(19, C.bool x10)] []) [2,3,4] [2,3,4,1,0] .z (.b (.k .z) .z)))⟩

def Z4v (x174 : Int) (l175 : List Y9j) (l177 : List Y9j) (l178 : List Int) (x179 : Int) (x180 : Int) (x181 : Int) : Option (Y9k × Y9i) := some ((Y9k.mk x174 l175 l177), (Y9i.mk l178 x179 x180 x181))
def Z4w (x106 : Int) (l108 : List Y9j) (l110 : List Y9j) (l114 : List Int) (x115 : Int) (x116 : Int) (x117 : Int) (x118 : Bool) : Option (Y9k × Y9i) := cond x118 ((Z9 (Y9i.mk l114 x115 x116 x117) 5).bind fun r120 => cond (r120.1 == 0) ((Z9 r120.2 5).bind fun r123 => Z4v r123.1 l108 l110 r123.2.b r123.2.at_ r123.2.mix r123.2.size) (cond (r120.1 == 1) ((chk (decide ((0 : Int) ≤ 1 ∧ 1 ≤ (l108.length : Int)))).bind fun u127 => Z4v x106 (List.drop (Int.toNat 1) l108) l110 r120.2.b r120.2.at_ r120.2.mix r120.2.size) (cond (r120.1 == 2) ((getI l108 0).bind fun e139 => (chk (decide ((l110.length + [e139].length) * 96 ≤ 140737488355328))).bind fun u143 => Z4v x106 l108 (l110 ++ [e139]) r120.2.b r120.2.at_ r120.2.mix r120.2.size) (cond (r120.1 == 3) ((getI l108 (IntKind.i64.wrap ((l108.length : Int) - 1))).bind fun e147 => Z4v x106 (List.set l108 (Int.toNat (IntKind.i64.wrap ((l108.length : Int) - 1))) (Y9j.mk e147.id e147.room e147.author e147.kind e147.key e147.n e147.text [(IntKind.i64.wrap (e147.id + 1))] e147.time)) l110 r120.2.b r120.2.at_ r120.2.mix r120.2.size) ((Z4b r120.2).bind fun r166 => (chk (decide ((l108.length + [r166.1].length) * 96 ≤ 140737488355328))).bind fun u171 => Z4v x106 (l108 ++ [r166.1]) l110 r166.2.b r166.2.at_ r166.2.mix r166.2.size))))) (Z4v x106 l108 l110 l114 x115 x116 x117)
def Z4x (r8 : List Y9j × Y9i) (x106 : Int) (l108 : List Y9j) (l110 : List Y9j) : Option (Y9k × Y9i) := (Zc r8.2 15).bind fun r111 => cond r111.1 (Z4w x106 l108 l110 r111.2.b r111.2.at_ r111.2.mix r111.2.size (decide ((l108.length : Int) > 0))) (Z4w x106 l108 l110 r111.2.b r111.2.at_ r111.2.mix r111.2.size false)
def Z4y (x55 : Int) (x101 : Int) (l103 : List Y9j) (l105 : List Y9j) : Option ((Int × List Y9j × List Y9j × Int) ⊕ ((Int × List Y9j × List Y9j))) := some (.inl (x101, l103, l105, (IntKind.i64.wrap (x55 + 1))))
def Z4z (x50 : Int) (l52 : List Y9j) (l54 : List Y9j) (x55 : Int) (x92 : Int) (l94 : List Y9j) (l96 : List Y9j) (l98 : List Int) (x99 : Int) : Option ((Int × List Y9j × List Y9j × Int) ⊕ ((Int × List Y9j × List Y9j))) := cond (x99 == 0) (Z4y x55 x92 l94 l96) (Z4y x55 x50 l52 l54)
def Z50 (r8 : List Y9j × Y9i) (x50 : Int) (l52 : List Y9j) (l54 : List Y9j) (x55 : Int) : Option ((Int × List Y9j × List Y9j × Int) ⊕ ((Int × List Y9j × List Y9j))) := cond (decide (x55 < (r8.1.length : Int))) ((getI r8.1 x55).bind fun e83 => (Z4t (Y9k.mk x50 l52 l54) e83).bind fun r85 => Z4z x50 l52 l54 x55 r85.graph.room r85.graph.events r85.graph.parked r85.added r85.code) (some (.inr (x50, l52, l54)))
def Z51 (p0 : Y9i) : Option (Y9k × Y9i) := (Z9 p0 (IntKind.i64.wrap (9 + p0.size))).bind fun r3 => (Z19 r3.2 1 r3.1).bind fun r5 => (Z1j r5.2 r5.1 true).bind fun r8 => (iter (fun z183 => Z50 r8 z183.1 z183.2.1 z183.2.2.1 z183.2.2.2) big (1, [], [], 0)).bind fun (y184, y185, y186) => Z4x r8 y184 y185 y186
theorem Z52 {b00 : Nat} (p0 : Y9i) (r : Y9k × Y9i) (h : Z51 p0 = some r) : Ok Tryz.prog 67 [pt b00] [oB b00 159 [cM kU8 1 p0.b, cI p0.at_, cV (.int .u64 p0.mix), cI p0.size]] (fun c qs => ∃ (v182 : Value), c = C.agg [cI r.1.room, cM Y9q 9 r.1.events, cV v182] ∧ qs = [oA v182 42 Y9q 9 r.1.parked, oB b00 159 [cM kU8 1 r.2.b, cI r.2.at_, cV (.int .u64 r.2.mix), cI r.2.size]]) := by
 refine Ok.of_body (rs := [.cell 2 25]) Tryz.func67 rfl rfl rfl rfl rfl fun X => ?_
 unfold Z51 at h
 refine zw ?_
 refine al fun b1 => ?_
 refine Ops.nil ?_
 refine AW.seq ?_
 refine AW.region ?_
 refine Ops.v rfl (Y3k (ds := [cI 1, cV s0, cV s0]) Yb7 Yb6 (Y4g rfl rfl) (.one rfl (One.val rfl) rfl rfl .nil) rfl) ?_
 refine al fun b2 => ?_
 refine zw ?_
 refine ob' h fun r3 g4 h => ?_
 refine Ops.hd (ns := [2]) rfl rfl (Y28 (Za p0 (IntKind.i64.wrap (9 + p0.size)) _ g4) rfl rfl) ?_
 refine ob' h fun r5 g6 h => ?_
 refine Ops.h (ns := [0]) rfl rfl (Y27 (Z1a r3.2 1 r3.1 _ g6) rfl rfl) ?_
 rintro _ _ ⟨_, ⟨v7, rfl, rfl⟩, rfl⟩
 refine ob' h fun r8 g9 h => ?_
 refine Ops.h (ns := [0, 0]) rfl rfl (HOp.frz (t := 17) rfl Frz.arr (Y27 (Z1k r5.2 r5.1 true _ g9) rfl rfl)) ?_
 rintro _ _ ⟨_, ⟨v10, rfl, rfl⟩, rfl⟩
 refine Ops.v rfl (Ys rfl rfl) ?_
 refine Ops.nil ?_
 refine AW.seq ?_
 refine AW.cut (τ := Int × List Y9j × List Y9j × Value × Value) (fun (x106, l108, l110, v107, v109) => ⟨[(0, pt b00), (2, pt b1), (3, pt b2)], [oB b2 25 [cI x106, cV v107, cV v109], oA v107 42 Y9q 9 l108, oA v109 42 Y9q 9 l110, oB b00 159 [cM kU8 1 r8.2.b, cI r8.2.at_, cV (.int .u64 r8.2.mix), cI r8.2.size], oB b1 25 [cI 0, cV s0, cV s0]]⟩) (fun (x106, l108, l110, v107, v109) => Z4x r8 x106 l108 l110 = some r) ?_ ?_
 ·
  refine zw ?_
  refine ob' h fun o187 g188 q189 => ?_
  refine AW.loop (τ := Int × List Y9j × List Y9j × Int × Value × Value) (x := (1, [], [], 0, s0, s0)) (fun (x50, l52, l54, x55, v51, v53) => ⟨[(0, pt b00), (2, pt b1), (3, pt b2), (4, cV v10), (5, cI x55)], [oB b2 25 [cI x50, cV v51, cV v53], oA v51 42 Y9q 9 l52, oA v53 42 Y9q 9 l54, oB b00 159 [cM kU8 1 r8.2.b, cI r8.2.at_, cV (.int .u64 r8.2.mix), cI r8.2.size], oB b1 25 [cI 0, cV s0, cV s0], oA v10 42 Y9q 9 r8.1]⟩) (fun k (x50, l52, l54, x55, v51, v53) => iter (fun z183 => Z50 r8 z183.1 z183.2.1 z183.2.2.1 z183.2.2.2) k (x50, l52, l54, x55) = some o187) g188 ((Y25.nil 42 Y9q 9).trans ((Y25.nil 42 Y9q 9).trans (Y25.both (ns := [4, 0, 0, 1, 1, 0]) rfl rfl))) ?_
  rintro k ⟨x50, l52, l54, x55, v51, v53⟩ i191
  refine Y4f (show iter (fun z183 => Z50 r8 z183.1 z183.2.1 z183.2.2.1 z183.2.2.2) k (x50, l52, l54, x55) = some o187 from i191) fun k190 y192 hlt_k190 h h193 => ?_
  replace h : Z50 r8 x50 l52 l54 x55 = some y192 := h
  unfold Z50 at h
  refine zw ?_
  refine cnd h (fun hb56 h => ?_) fun hb56 h => ?_
  ·
   refine AW.ct hb56 rfl ?_
   refine AW.skip ?_
   refine AW.seq ?_
   refine AW.cut (τ := Int × List Y9j × List Y9j × Value × Value) (fun (x101, l103, l105, v102, v104) => ⟨[(0, pt b00), (2, pt b1), (3, pt b2), (4, cV v10), (5, cI x55)], [oB b2 25 [cI x101, cV v102, cV v104], oA v102 42 Y9q 9 l103, oA v104 42 Y9q 9 l105, oB b00 159 [cM kU8 1 r8.2.b, cI r8.2.at_, cV (.int .u64 r8.2.mix), cI r8.2.size], oB b1 25 [cI 0, cV s0, cV s0], oA v10 42 Y9q 9 r8.1]⟩) (fun (x101, l103, l105, v102, v104) => Z4y x55 x101 l103 l105 = some y192) ?_ ?_
   ·
    refine AW.block ?_
    refine AW.seq ?_
    refine AW.cut (τ := Int × List Y9j × List Y9j × List Int × Int × Nat × Value × Value × Value) (fun (x92, l94, l96, l98, x99, b91, v93, v95, v97) => ⟨[(0, pt b00), (2, pt b1), (3, pt b2), (4, cV v10), (5, cI x55), (6, pt b91)], [oB b91 53 [cI x92, cV v93, cV v95, cV v97, cI x99], oA v93 42 Y9q 9 l94, oA v95 42 Y9q 9 l96, oA v97 2 kI64 1 l98, oB b00 159 [cM kU8 1 r8.2.b, cI r8.2.at_, cV (.int .u64 r8.2.mix), cI r8.2.size], oB b1 25 [cI 0, cV s0, cV s0], oB b2 25 [cI x50, cV v51, cV v53], oA v51 42 Y9q 9 l52, oA v53 42 Y9q 9 l54, oA v10 42 Y9q 9 r8.1]⟩) (fun (x92, l94, l96, l98, x99, b91, v93, v95, v97) => Z4z x50 l52 l54 x55 x92 l94 l96 l98 x99 = some y192) ?_ ?_
    ·
     refine AW.regionD (L := [0, 4]) (Lt := [7]) (k := .light 0 true (.light 1 false (.light 2 false (.light 3 false (.light 4 true (.two 5 6 (.one 6 (.late 7 (.done))) (.one 5 (.late 7 (.done))))))))) (ns := [0, 2, 2, 2]) (by kernel_rfl) (by kernel_rfl) (by kernel_rfl) (by kernel_rfl) rfl ?_
     refine zw ?_
     refine ob' h fun e83 g84 h => ?_
     refine zw ?_
     refine ob' h fun r85 g86 h => ?_
     refine OpsD.two ?_ ?_
     ·
      refine Y3z.h (ns := [0, 0]) rfl rfl rfl (Y27 ((Z4u (Y9k.mk x50 l52 l54) e83).h _ _ _ g86) rfl rfl) ?_
      rintro _ _ ⟨_, ⟨v87, v88, v89, rfl, rfl⟩, rfl⟩
      refine zw ?_
      refine dal fun b90 => ?_
      refine zw ?_
      exact ⟨(r85.graph.room, r85.graph.events, r85.graph.parked, r85.added, r85.code, b90, v87, v88, v89), h, Y25.both (ns := [0, 4, 4, 4, 1, 1, 0, 1, 1, 0]) rfl rfl⟩
     refine dal fun b90 => ?_
     refine OpsD.one ?_
     refine Y3z.h (ns := [1, 1]) rfl rfl rfl (Y27 ((Z4u (Y9k.mk x50 l52 l54) e83).h _ _ _ g86) rfl rfl) ?_
     rintro _ _ ⟨_, ⟨v87, v88, v89, rfl, rfl⟩, rfl⟩
     refine zw ?_
     exact ⟨(r85.graph.room, r85.graph.events, r85.graph.parked, r85.added, r85.code, b90, v87, v88, v89), h, Y25.both (ns := [0, 4, 4, 4, 1, 1, 0, 1, 1, 0]) rfl rfl⟩
    rintro ⟨x92, l94, l96, l98, x99, b91, v93, v95, v97⟩ h
    replace h : Z4z x50 l52 l54 x55 x92 l94 l96 l98 x99 = some y192 := h
    unfold Z4z at h
    refine zw ?_
    refine cnd h (fun hb100 h => ?_) fun hb100 h => ?_
    ·
     refine AW.ct hb100 rfl ?_
     refine zw ?_
     exact ⟨(x92, l94, l96, v93, v95), h, Y25.both (ns := [0, 1, 1, 2, 2, 4]) rfl rfl⟩
    refine AW.cf hb100 rfl ?_
    refine zw ?_
    exact ⟨(x50, l52, l54, v51, v53), h, Y25.both (ns := [6, 6, 6, 4, 4, 4]) rfl rfl⟩
   rintro ⟨x101, l103, l105, v102, v104⟩ h
   replace h : Z4y x55 x101 l103 l105 = some y192 := h
   unfold Z4y at h
   refine zw ?_
   obtain rfl := Wj h
   exact ⟨k190, (x101, l103, l105, (IntKind.i64.wrap (x55 + 1)), v102, v104), hlt_k190, h193, Y25.both (ns := [0, 0, 0, 0, 0, 0]) rfl rfl⟩
  refine AW.cf hb56 rfl ?_
  refine AW.exit ?_
  obtain rfl := Wj h
  obtain rfl := Wj h193
  replace h := q189
  exact ⟨(x50, l52, l54, v51, v53), h, Y25.both (ns := [0, 0, 0, 0, 0]) rfl rfl⟩
 rintro ⟨x106, l108, l110, v107, v109⟩ h
 replace h : Z4x r8 x106 l108 l110 = some r := h
 unfold Z4x at h
 refine AW.seq ?_
 refine AW.cut (τ := Int × List Y9j × List Y9j × List Int × Int × Int × Int × Value) (fun (x174, l175, l177, l178, x179, x180, x181, v176) => ⟨[(2, pt b1), (3, pt b2)], [oB b2 25 [cI x174, cM Y9q 9 l175, cV v176], oA v176 42 Y9q 9 l177, oB b00 159 [cM kU8 1 l178, cI x179, cV (.int .u64 x180), cI x181], oB b1 25 [cI 0, cV s0, cV s0]]⟩) (fun (x174, l175, l177, l178, x179, x180, x181, v176) => Z4v x174 l175 l177 l178 x179 x180 x181 = some r) ?_ ?_
 ·
  refine AW.seq ?_
  refine AW.cut (τ := List Int × Int × Int × Int × Bool) (fun (l114, x115, x116, x117, x118) => ⟨[(0, pt b00), (2, pt b1), (3, pt b2), (43, C.bool x118)], [oB b00 159 [cM kU8 1 l114, cI x115, cV (.int .u64 x116), cI x117], oB b1 25 [cI 0, cV s0, cV s0], oB b2 25 [cI x106, cV v107, cV v109], oA v107 42 Y9q 9 l108, oA v109 42 Y9q 9 l110]⟩) (fun (l114, x115, x116, x117, x118) => Z4w x106 l108 l110 l114 x115 x116 x117 x118 = some r) ?_ ?_
  ·
   refine zw ?_
   refine ob' h fun r111 g112 h => ?_
   refine Ops.hd (ns := [3]) rfl rfl (Y28 ((Zd r8.2 15).h _ _ g112) rfl rfl) ?_
   refine zw ?_
   refine cnd h (fun hb113 h => ?_) fun hb113 h => ?_
   ·
    refine zw ?_
    exact ⟨(r111.2.b, r111.2.at_, r111.2.mix, r111.2.size, decide ((l108.length : Int) > 0)), h, Y25.both (ns := [0, 3, 0, 0, 0]) rfl rfl⟩
   refine zw ?_
   exact ⟨(r111.2.b, r111.2.at_, r111.2.mix, r111.2.size, false), h, Y25.both (ns := [0, 3, 0, 0, 0]) rfl rfl⟩
  rintro ⟨l114, x115, x116, x117, x118⟩ h
  replace h : Z4w x106 l108 l110 l114 x115 x116 x117 x118 = some r := h
  unfold Z4w at h
  refine cnd h (fun hb119 h => ?_) fun hb119 h => ?_
  ·
   refine AW.ct hb119 rfl ?_
   refine zw ?_
   refine ob' h fun r120 g121 h => ?_
   refine Ops.hd (ns := [0]) rfl rfl (Y28 (Za (Y9i.mk l114 x115 x116 x117) 5 _ g121) rfl rfl) ?_
   refine zw ?_
   refine cnd h (fun hb122 h => ?_) fun hb122 h => ?_
   ·
    refine AW.ct hb122 rfl ?_
    refine zw ?_
    refine ob' h fun r123 g124 h => ?_
    refine Ops.hd (ns := [0]) rfl rfl (Y28 (Za r120.2 5 _ g124) rfl rfl) ?_
    refine zw ?_
    exact ⟨(r123.1, l108, l110, r123.2.b, r123.2.at_, r123.2.mix, r123.2.size, v109), h, (Y25.boxFrz (ns := [0, 2]) rfl (fS (FrzL.cons (os := [_]) Frz.arr (fS FrzL.nil)))).trans (Y25.both (ns := [0, 2, 0, 0]) rfl rfl)⟩
   refine AW.cf hb122 rfl ?_
   refine zw ?_
   refine cnd h (fun hb125 h => ?_) fun hb125 h => ?_
   ·
    refine AW.ct hb125 rfl ?_
    refine zw ?_
    refine ob' h fun u127 c126 h => ?_
    refine Ops.v rfl (Y79 (p := 3) (l := (Int.toNat 1)) Yar.h rfl rfl rfl (Wo (Y45 c126)) rfl rfl) ?_
    refine Ops.v rfl (Y1f Yb0.h rfl rfl) ?_
    refine Ops.learn (Sim.arr_part (p := 3) rfl) fun n128 => ?_
    refine Ops.hd (ns := [2]) rfl rfl (Y1x (gs := [cI x106, cV (dropV v107 9 (Int.toNat 1)), cV v109]) Yb1.h rfl rfl (One.val (n128.1 _)) rfl rfl) ?_
    refine zw ?_
    exact ⟨(x106, (List.drop (Int.toNat 1) l108), l110, r120.2.b, r120.2.at_, r120.2.mix, r120.2.size, v109), h, (Y25.boxFrz (ns := [0, 2]) rfl (fS (FrzL.cons (os := [_]) (Frz.dropV (Int.le_toNat_len c126)) (fS FrzL.nil)))).trans (Y25.both (ns := [0, 2, 0, 0]) rfl rfl)⟩
   refine AW.cf hb125 rfl ?_
   refine zw ?_
   refine cnd h (fun hb129 h => ?_) fun hb129 h => ?_
   ·
    refine AW.ct hb129 rfl ?_
    refine rD [0,0,0,0] [1,3,5] [9] [0,5,8,13,16,21,26,30,32,39] ?_
    refine zw ?_
    refine ob' h fun e139 g140 h => ?_
    refine OpsD.v rfl rfl (Y39 (p := 3) Yar.h rfl rfl rfl g140 rfl) ?_
    refine OpsD.v rfl rfl (Y3d (p := 3) Yaq.h rfl rfl (Y2f g140).2.2 rfl rfl rfl) ?_
    refine OpsD.one ?_
    refine Y3z.h (ns := []) rfl rfl rfl (Y3l (k := Y9q) (ys := [e139]) Yau (.agg rfl rfl .nil) rfl rfl rfl) ?_
    rintro _ _ ⟨b141, rfl, rfl⟩
    refine zw ?_
    refine ob' h fun u143 c142 h => ?_
    refine Y3z.h (ns := [1, 0]) rfl rfl rfl (Y34 Yau rfl rfl (Wo (Y45 c142)) (Y49 (by decide) c142) rfl) ?_
    rintro _ _ ⟨v144, rfl, rfl⟩
    refine OpsD.v rfl rfl (Y1f Yb2.h rfl rfl) ?_
    refine OpsD.learn (Sim.arr_one (p := 4) rfl) fun n145 => ?_
    refine zw ?_
    exact ⟨(x106, l108, (l110 ++ [e139]), r120.2.b, r120.2.at_, r120.2.mix, r120.2.size, v144), h, (Y25.boxFrz (ns := [0, 2]) rfl (fS (FrzL.cons (os := [_]) Frz.arr (fS FrzL.nil)))).trans (Y25.both (ns := [0, 2, 0, 0]) rfl rfl)⟩
   refine AW.cf hb129 rfl ?_
   refine zw ?_
   refine cnd h (fun hb146 h => ?_) fun hb146 h => ?_
   ·
    refine AW.ct hb146 rfl ?_
    refine rD [0,0,0,0,0] [1,3,7,9,14] [19] [0,5,8,13,16,20,24,29,32,37,40,44,48,52,57,60,66,68,72,79] ?_
    refine zw ?_
    refine ob' h fun e147 g148 h => ?_
    refine OpsD.v rfl rfl (Y39 (p := 3) Yar.h rfl rfl rfl g148 rfl) ?_
    refine OpsD.v rfl rfl (Y3a (p := 3) Yas.h rfl rfl (Y2f g148).2.2 rfl) ?_
    refine OpsD.v rfl rfl (Y3c (p := 3) ld_2.h rfl rfl (Y2f g148).2.2 rfl rfl) ?_
    refine OpsD.v rfl rfl (Yx rfl rfl rfl rfl) ?_
    refine OpsD.one ?_
    refine Y3z.h (ns := []) rfl rfl rfl (Y3l (k := kI64) (ys := [(IntKind.i64.wrap (e147.id + 1))]) Yai (.one rfl (One.val rfl) rfl rfl .nil) rfl rfl rfl) ?_
    rintro _ _ ⟨b149, rfl, rfl⟩
    refine OpsD.v rfl rfl (Y39 (p := 3) Yar.h rfl rfl rfl g148 rfl) ?_
    refine OpsD.v rfl rfl (Y3a (p := 3) Yaw.h rfl rfl (Y2f g148).2.2 rfl) ?_
    refine OpsD.late (ns := [5, 3]) rfl rfl rfl (HOp.frz (t := 93) rfl Frz.arr (Y3f (e' := (Y9j.mk e147.id e147.room e147.author e147.kind e147.key e147.n e147.text [(IntKind.i64.wrap (e147.id + 1))] e147.time)) Yax.h rfl rfl One.im (Y2f g148).2.2 rfl rfl)) ?_
    rintro _ _ ⟨rfl, rfl⟩
    refine zw ?_
    exact ⟨(x106, (List.set l108 (Int.toNat (IntKind.i64.wrap ((l108.length : Int) - 1))) (Y9j.mk e147.id e147.room e147.author e147.kind e147.key e147.n e147.text [(IntKind.i64.wrap (e147.id + 1))] e147.time)), l110, r120.2.b, r120.2.at_, r120.2.mix, r120.2.size, v109), h, (Y25.boxFrz (ns := [3, 0]) rfl (fS (FrzL.cons (os := [_]) Frz.arr (fS FrzL.nil)))).trans (Y25.both (ns := [0, 2, 0, 0]) rfl rfl)⟩
   refine AW.cf hb146 rfl ?_
   refine rD [1,1,2] [1] [7] [0,5,8,14,18,22,24,31] ?_
   refine zw ?_
   refine ob' h fun r166 g167 h => ?_
   refine Y3z.h (ns := [0]) rfl rfl rfl (Y27 (Z4c r120.2 _ g167) rfl rfl) ?_
   rintro _ _ ⟨_, ⟨v168, rfl, rfl⟩, rfl⟩
   refine OpsD.one ?_
   refine Y3z.h (ns := [0]) rfl rfl rfl (HOp.frz (t := 49) rfl (Frz.agg (fS (fS (fS (fS (fS (fS (fS (FrzL.cons (os := [_]) Frz.arr (fS FrzL.nil)))))))))) (Y3l (k := Y9q) (ys := [r166.1]) Yau (.agg rfl rfl .nil) rfl rfl rfl)) ?_
   rintro _ _ ⟨b169, rfl, rfl⟩
   refine zw ?_
   refine ob' h fun u171 c170 h => ?_
   refine Y3z.h (ns := [2, 0]) rfl rfl rfl (Y34 Yau rfl rfl (Wo (Y45 c170)) (Y49 (by decide) c170) rfl) ?_
   rintro _ _ ⟨v172, rfl, rfl⟩
   refine OpsD.v rfl rfl (Y1f Yb0.h rfl rfl) ?_
   refine OpsD.learn (Sim.arr_one (p := 3) rfl) fun n173 => ?_
   refine zw ?_
   exact ⟨(x106, (l108 ++ [r166.1]), l110, r166.2.b, r166.2.at_, r166.2.mix, r166.2.size, v109), h, (Y25.boxFrz (ns := [0, 2]) rfl (fS (FrzL.cons (os := [_]) Frz.arr (fS FrzL.nil)))).trans (Y25.both (ns := [0, 1, 1, 0]) rfl rfl)⟩
  refine AW.cf hb119 rfl ?_
  refine zw ?_
  exact ⟨(x106, l108, l110, l114, x115, x116, x117, v109), h, (Y25.boxFrz (ns := [2, 2]) rfl (fS (FrzL.cons (os := [_]) Frz.arr (fS FrzL.nil)))).trans (Y25.both (ns := [0, 2, 0, 0]) rfl rfl)⟩
 rintro ⟨x174, l175, l177, l178, x179, x180, x181, v176⟩ h
 replace h : Z4v x174 l175 l177 l178 x179 x180 x181 = some r := h
 unfold Z4v at h
 refine zw ?_
 refine AW.ret ?_
 rw [← Wj h]
 exact finI ⟨[C.agg [cI x174, cM Y9q 9 l175, cV v176]], _, Y25.refl _, (.cons (.cell (p := 0) rfl rfl Yb8.h rfl) .nil), [2, 2], _, _, rfl, ⟨v176, rfl, rfl⟩⟩
instance Z53 (p0 : Y9i) : SpO Tryz.prog 67 (Z51 p0) (.x fun (b00 : Nat) => .d [pt b00] [oB b00 159 [cM kU8 1 p0.b, cI p0.at_, cV (.int .u64 p0.mix), cI p0.size]] fun r => .x fun (v182 : Value) => .d (C.agg [cI r.1.room, cM Y9q 9 r.1.events, cV v182]) [oA v182 42 Y9q 9 r.1.parked, oB b00 159 [cM kU8 1 r.2.b, cI r.2.at_, cV (.int .u64 r.2.mix), cI r.2.size]]) := ⟨fun b00 r h => Z52 p0 r h⟩

def Z54 (p1 : Y9k) (l5 : List Int) (x6 : Int) (x7 : Int) (x8 : Int) (x9 : Bool) : Option (Int × Y9i) := cond x9 ((Z9 (Y9i.mk l5 x6 x7 x8) (p1.events.length : Int)).bind fun r15 => (getI p1.events r15.1).bind fun e17 => some (e17.id, r15.2)) ((Z9 (Y9i.mk l5 x6 x7 x8) 20).bind fun r19 => some (r19.1, r19.2))
def Z55 (p0 : Y9i) (p1 : Y9k) : Option (Int × Y9i) := cond (decide ((p1.events.length : Int) > 0)) ((Zc p0 6).bind fun r3 => Z54 p1 r3.2.b r3.2.at_ r3.2.mix r3.2.size (!r3.1)) (Z54 p1 p0.b p0.at_ p0.mix p0.size false)
instance Z56 (p0 : Y9i) (p1 : Y9k) : SpO Tryz.prog 69 (Z55 p0 p1) (.x fun (b00 : Nat) => .d [pt b00, C.agg [cI p1.room, cM Y9q 9 p1.events, cM Y9q 9 p1.parked]] [oB b00 159 [cM kU8 1 p0.b, cI p0.at_, cV (.int .u64 p0.mix), cI p0.size]] fun r => .d (cI r.1) [oB b00 159 [cM kU8 1 r.2.b, cI r.2.at_, cV (.int .u64 r.2.mix), cI r.2.size]]) := ⟨fun b00 => so Tryz.func69 rfl rfl fun r X h => gh (.q 2 (.c5 (fun l5 x6 x7 x8 x9 => .d [(13, C.bool x9)] [oB b00 159 [cM kU8 1 l5, cI x6, cV (.int .u64 x7), cI x8]]) [0,3] [0] .z (.b (.r [1] [1,4,9] [] [0,5,8,12,17,20,26,28,32,37,40] .z) .z)))⟩

def Z57 (x7 : Bool) : Option Bool := some x7
def Z58 (p0 : Y9k) (p1 : Int) : Option Bool := (Z35 p0).bind fun r2 => cond r2 ((Zr p0.events p1).bind fun r5 => Z57 (decide (r5 ≥ 0))) (Z57 false)
instance Z59 (p0 : Y9k) (p1 : Int) : Sp Tryz.prog 85 [C.agg [cI p0.room, cM Y9q 9 p0.events, cM Y9q 9 p0.parked], cI p1] (Z58 p0 p1) (fun r => C.bool r) := Sp.of (so Tryz.func85 rfl rfl fun r X h => gh (.q 1 (.c1 (fun x7 => .d [(4, C.bool x7)] []) [] [] .z .z)))

def Z5a (l69 : List Int) : Option (List Int) := some l69
def Z5b (x37 : Int) (l67 : List Int) : Option ((List Int × Int) ⊕ ((List Int))) := some (.inl (l67, (IntKind.i64.wrap (x37 + 1))))
def Z5c (x53 : Int) (l65 : List Int) : Option ((List Int × Int) ⊕ ((List Int))) := some (.inl (l65, (IntKind.i64.wrap (x53 + 1))))
def Z5d (p0 : Y9k) (r2 : List Int) (x37 : Int) (l52 : List Int) (x53 : Int) : Option ((List Int × Int) ⊕ ((List Int))) := cond (decide (x53 < (p0.events.length : Int))) ((getI r2 x53).bind fun e55 => cond (e55 == x37) ((getI p0.events x53).bind fun e58 => (chk (decide ((l52.length + [e58.id].length) * 8 ≤ 140737488355328))).bind fun u62 => Z5c x53 (l52 ++ [e58.id])) (Z5c x53 l52)) (some (.inr l52))
def Z5e (p0 : Y9k) (r2 : List Int) (l36 : List Int) (x37 : Int) : Option ((List Int × Int) ⊕ ((List Int))) := cond (decide ((l36.length : Int) < (p0.events.length : Int))) ((iter (fun z71 => Z5d p0 r2 x37 z71.1 z71.2) big (l36, 0)).bind fun y72 => Z5b x37 y72) (some (.inr l36))
def Z5f (p0 : Y9k) : Option (List Int) := (Z2v p0.events).bind fun r2 => (iter (fun z73 => Z5e p0 r2 z73.1 z73.2) big (([] : List Int), 1)).bind fun y74 => Z5a y74
instance Z5g (p0 : Y9k) : SpO Tryz.prog 103 (Z5f p0) (.d [C.agg [cI p0.room, cM Y9q 9 p0.events, cM Y9q 9 p0.parked]] [] fun r => .x fun (v70 : Value) => .d (cV v70) [oA v70 2 kI64 1 r]) := ⟨so Tryz.func103 rfl rfl fun r X h => gh (.q 3 (.c1 (fun l69 => .x fun v68 => .d [(4, cV v68)] [oA v68 2 kI64 1 l69]) [] [] (.l2 (fun l36 x37 => .x fun v35 => .d [(4, cV v35), (5, cI x37)] [oA v35 2 kI64 1 l36]) [1,3] [1] (.b (.c1 (fun l67 => .x fun v66 => .d [(4, cV v66)] [oA v66 2 kI64 1 l67]) [1,3,5] [1] (.l2 (fun l52 x53 => .x fun v51 => .d [(4, cV v51), (6, cI x53)] [oA v51 2 kI64 1 l52]) [1,3,5] [1] (.b (.c1 (fun l65 => .x fun v64 => .d [(4, cV v64)] [oA v64 2 kI64 1 l65]) [1,3,5,6] [1] .z .z) .z)) .z) .z)) .z))⟩
instance Z5g' (p0 : Y9k) : Sp Tryz.prog 103 [C.agg [cI p0.room, cM Y9q 9 p0.events, cM Y9q 9 p0.parked]] (Z5f p0) (fun r => cM kI64 1 r) := ⟨fun r h => Ok.freeze ((Z5g p0).h r h) (by rintro c qs ⟨v70, rfl, rfl⟩; exact Frz.arr)⟩

def Z5h : Option Int := some 0
def Z5i (p0 : List Y9m) (x9 : Int) (x14 : Bool) : Option (Int ⊕ (Int ⊕ Unit)) := cond x14 ((getI p0 x9).bind fun e16 => some (.inr (.inl e16.id))) (some (.inl (IntKind.i64.wrap (x9 + 1))))
def Z5j (p0 : List Y9m) (p1 : Int) (p2 : Int) (x9 : Int) : Option (Int ⊕ (Int ⊕ Unit)) := cond (decide (x9 < (p0.length : Int))) ((getI p0 x9).bind fun e11 => cond (e11.kind == p1) (Z5i p0 x9 (e11.key == p2)) (Z5i p0 x9 false)) (some (.inr (.inr ())))
def Z5k (p0 : List Y9m) (p1 : Int) (p2 : Int) : Option Int := (iter (Z5j p0 p1 p2) big 0).bind (fun z19 => match z19 with | .inl y18 => some y18 | .inr () => Z5h)
instance Z5l (p0 : List Y9m) (p1 : Int) (p2 : Int) : Sp Tryz.prog 104 [cM Y9r 3 p0, cI p1, cI p2] (Z5k p0 p1 p2) (fun r => cI r) := Sp.of (so Tryz.func104 rfl rfl fun r X h => gh (.q 1 (.c0 (.d [] []) [] [] (.l1 (fun x9 => .d [(7, cI x9)] []) [0,1,2] [] (.b (.q 1 (.c1 (fun x14 => .d [(29, C.bool x14)] []) [0,1,2,7] [] .z .z)) .z)) .z)))

def Z5m : Option Bool := some true
def Z5n (p0 : List (List Y9m)) (p1 : Y9m) (x8 : Int) : Option (Int ⊕ (Bool ⊕ Unit)) := cond (decide (x8 < (p0.length : Int))) ((getI p0 x8).bind fun e10 => (Z5k e10 p1.kind p1.key).bind fun r12 => cond (r12 != p1.id) (some (.inr (.inl false))) (some (.inl (IntKind.i64.wrap (x8 + 1))))) (some (.inr (.inr ())))
def Z5o (p0 : List (List Y9m)) (p1 : Y9m) : Option Bool := (iter (Z5n p0 p1) big 0).bind (fun z16 => match z16 with | .inl y15 => some y15 | .inr () => Z5m)
instance Z5p (p0 : List (List Y9m)) (p1 : Y9m) : Sp Tryz.prog 164 [cM Y9s 1 p0, C.agg [cI p1.kind, cI p1.key, cI p1.id]] (Z5o p0 p1) (fun r => C.bool r) := Sp.of (so Tryz.func164 rfl rfl fun r X h => gh (.q 1 (.c0 (.d [] []) [] [] (.l1 (fun x8 => .d [(5, cI x8)] []) [0,3] [0] (.b (.r [0] [3,5,7,10] [] [0,4,8,13,16,21,24,29,36,41,34,44] .z) .z)) .z)))

def Z5q (l35 : List Y9m) : Option (List Y9m) := some l35
def Z5r (x19 : Int) (l33 : List Y9m) : Option ((List Y9m × Int) ⊕ ((List Y9m))) := some (.inl (l33, (IntKind.i64.wrap (x19 + 1))))
def Z5s (p0 : List Y9m) (l18 : List Y9m) (x19 : Int) (x24 : Bool) : Option ((List Y9m × Int) ⊕ ((List Y9m))) := cond x24 ((getI p0 x19).bind fun e26 => (chk (decide ((l18.length + [e26].length) * 24 ≤ 140737488355328))).bind fun u30 => Z5r x19 (l18 ++ [e26])) (Z5r x19 l18)
def Z5t (p0 : List Y9m) (p1 : Y9m) (l18 : List Y9m) (x19 : Int) : Option ((List Y9m × Int) ⊕ ((List Y9m))) := cond (decide (x19 < (p0.length : Int))) ((getI p0 x19).bind fun e21 => cond (e21.kind != p1.kind) (Z5s p0 l18 x19 true) (Z5s p0 l18 x19 (e21.key != p1.key))) (some (.inr l18))
def Z5u (p0 : List Y9m) (p1 : Y9m) : Option (List Y9m) := (iter (fun z37 => Z5t p0 p1 z37.1 z37.2) big (([] : List Y9m), 0)).bind fun y38 => Z5q y38
instance Z5v (p0 : List Y9m) (p1 : Y9m) : SpO Tryz.prog 222 (Z5u p0 p1) (.d [cM Y9r 3 p0, C.agg [cI p1.kind, cI p1.key, cI p1.id]] [] fun r => .x fun (v36 : Value) => .d (cV v36) [oA v36 96 Y9r 3 r]) := ⟨so Tryz.func222 rfl rfl fun r X h => gh (.q 2 (.c1 (fun l35 => .x fun v34 => .d [(5, cV v34)] [oA v34 96 Y9r 3 l35]) [] [] (.l2 (fun l18 x19 => .x fun v17 => .d [(5, cV v17), (6, cI x19)] [oA v17 96 Y9r 3 l18]) [0,3] [1] (.b (.c1 (fun l33 => .x fun v32 => .d [(5, cV v32)] [oA v32 96 Y9r 3 l33]) [0,3,6] [1] (.c1 (fun x24 => .d [(31, C.bool x24)] []) [0,3,5,6] [1,0] (.r [0,0] [4,6,13,15] [] [0,4,8,12,17,20,25,28,32,36,40,44,48,53,56,61,64,68] .z) .z) .z) .z)) .z))⟩
instance Z5v' (p0 : List Y9m) (p1 : Y9m) : Sp Tryz.prog 222 [cM Y9r 3 p0, C.agg [cI p1.kind, cI p1.key, cI p1.id]] (Z5u p0 p1) (fun r => cM Y9r 3 r) := ⟨fun r h => Ok.freeze ((Z5v p0 p1).h r h) (by rintro c qs ⟨v36, rfl, rfl⟩; exact Frz.arr)⟩

def Z5w (x5 : Bool) : Option Bool := some x5
def Z5x (p0 : Y9m) (p1 : Y9m) : Option Bool := cond (decide (p0.kind < p1.kind)) (Z5w true) (cond (p0.kind == p1.kind) (Z5w (decide (p0.key < p1.key))) (Z5w false))
instance Z5y (p0 : Y9m) (p1 : Y9m) : Sp Tryz.prog 223 [C.agg [cI p0.kind, cI p0.key, cI p0.id], C.agg [cI p1.kind, cI p1.key, cI p1.id]] (Z5x p0 p1) (fun r => C.bool r) := Sp.of (so Tryz.func223 rfl rfl fun r X h => gh (.q 1 (.c1 (fun x5 => .d [(4, C.bool x5)] []) [] [] .z .z)))

def Z5z (p1 : Y9m) (r2 : List Y9m) (x19 : Int) : Option (List Y9m) := (Y2d r2 0 x19).bind fun s21 => (chk (decide ((([] : List Y9m).length + s21.length) * 24 ≤ 140737488355328))).bind fun u24 => (chk (decide (((([] : List Y9m) ++ s21).length + [p1].length) * 24 ≤ 140737488355328))).bind fun u28 => (Y2d r2 x19 (r2.length : Int)).bind fun s30 => (chk (decide ((((([] : List Y9m) ++ s21) ++ [p1]).length + s30.length) * 24 ≤ 140737488355328))).bind fun u33 => some (((([] : List Y9m) ++ s21) ++ [p1]) ++ s30)
def Z60 (x11 : Int) (x17 : Bool) : Option (Int ⊕ (Int)) := cond x17 (some (.inl (IntKind.i64.wrap (x11 + 1)))) (some (.inr x11))
def Z61 (p1 : Y9m) (r2 : List Y9m) (x11 : Int) : Option (Int ⊕ (Int)) := cond (decide (x11 < (r2.length : Int))) ((getI r2 x11).bind fun e13 => (Z5x e13 p1).bind fun r15 => Z60 x11 r15) (Z60 x11 false)
def Z62 (p0 : List Y9m) (p1 : Y9m) : Option (List Y9m) := (Z5u p0 p1).bind fun r2 => (iter (Z61 p1 r2) big 0).bind fun y36 => Z5z p1 r2 y36
instance Z63 (p0 : List Y9m) (p1 : Y9m) : SpO Tryz.prog 165 (Z62 p0 p1) (.d [cM Y9r 3 p0, C.agg [cI p1.kind, cI p1.key, cI p1.id]] [] fun r => .x fun (v35 : Value) => .d (cV v35) [oA v35 96 Y9r 3 r]) := ⟨so Tryz.func165 rfl rfl fun r X h => gh (.q 3 (.c1 (fun x19 => .d [(6, cI x19)] []) [3,5] [0] (.l1 (fun x11 => .d [(6, cI x11)] []) [3,5] [0] (.q 1 (.c1 (fun x17 => .d [(22, C.bool x17)] []) [3,5,6] [0] (.r [0] [8,9] [] [0,4,8,12,16,20,24,28,33,37,42,44] .z) .z))) .z))⟩
instance Z63' (p0 : List Y9m) (p1 : Y9m) : Sp Tryz.prog 165 [cM Y9r 3 p0, C.agg [cI p1.kind, cI p1.key, cI p1.id]] (Z62 p0 p1) (fun r => cM Y9r 3 r) := ⟨fun r h => Ok.freeze ((Z63 p0 p1).h r h) (by rintro c qs ⟨v35, rfl, rfl⟩; exact Frz.arr)⟩

def Z64 (x6 : Bool) : Option Bool := some x6
def Z65 (p0 : Y9j) : Option Bool := cond (p0.kind == 1) (Z64 true) (cond (p0.kind == 3) (Z64 true) (cond (p0.kind == 5) (Z64 true) (cond (p0.kind == 2) (Z64 (p0.key != p0.author)) (Z64 false))))
instance Z66 (p0 : Y9j) : Sp Tryz.prog 224 [C.agg [cI p0.id, cI p0.room, cI p0.author, cI p0.kind, cI p0.key, cI p0.n, C.str p0.text, cM kI64 1 p0.prev, cI p0.time]] (Z65 p0) (fun r => C.bool r) := Sp.of (so Tryz.func224 rfl rfl fun r X h => gh (.q 1 (.c1 (fun x6 => .d [(2, C.bool x6)] []) [] [] .z .z)))

def Z67 (p1 : List Int) (r2 : Int) (r4 : Int) (x13 : Int) (x14 : Int) (x15 : Int) (x16 : Int) (x17 : Int) (x18 : Int) (x19 : ByteArray) (l20 : List Int) (x21 : Int) (x23 : Int) (x24 : Int) (x25 : Int) (x26 : Int) (x27 : Int) (x28 : Int) (x29 : ByteArray) (l30 : List Int) (x31 : Int) : Option Bool := (Z65 (Y9j.mk x13 x14 x15 x16 x17 x18 x19 l20 x21)).bind fun r32 => (Z65 (Y9j.mk x23 x24 x25 x26 x27 x28 x29 l30 x31)).bind fun r34 => cond (r32 == r34) ((getI p1 r2).bind fun e37 => (getI p1 r4).bind fun e39 => cond (e37 != e39) (some (decide (e37 < e39))) (cond (x21 != x31) (some (decide (x21 < x31))) (some (decide (x13 < x23))))) ((Z65 (Y9j.mk x13 x14 x15 x16 x17 x18 x19 l20 x21)).bind fun r43 => some r43)
def Z68 (p0 : Y9k) (p1 : List Int) (p2 : Int) (p3 : Int) : Option Bool := (Zr p0.events p2).bind fun r2 => (Zr p0.events p3).bind fun r4 => (getI p0.events r2).bind fun e6 => (getI p0.events r4).bind fun e8 => Z67 p1 r2 r4 e6.id e6.room e6.author e6.kind e6.key e6.n e6.text e6.prev e6.time e8.id e8.room e8.author e8.kind e8.key e8.n e8.text e8.prev e8.time
instance Z69 (p0 : Y9k) (p1 : List Int) (p2 : Int) (p3 : Int) : Sp Tryz.prog 167 [C.agg [cI p0.room, cM Y9q 9 p0.events, cM Y9q 9 p0.parked], cM kI64 1 p1, cI p2, cI p3] (Z68 p0 p1 p2 p3) C.bool := sp Tryz.func167 rfl rfl fun r X h => by
 unfold Z68 at h
 refine zw ?_
 refine ox fun b1 => ?_
 refine zw ?_
 refine rD [0] [1,5] [] [0,5,8,16,21,24,14,30,32,36] ?_
 refine zw ?_
 refine dc h fun r2 g3 h => ?_
 refine zw ?_
 refine dc h fun r4 g5 h => ?_
 refine OpsD.v rfl rfl (Ys rfl rfl) ?_
 refine OpsD.v rfl rfl (Ys rfl rfl) ?_
 refine OpsD.done ?_
 refine AW.seq ?_
 refine AW.cut (τ := Int × Int × Int × Int × Int × Int × ByteArray × List Int × Int × Int × Int × Int × Int × Int × Int × ByteArray × List Int × Int × Nat × Nat) (fun (x13, x14, x15, x16, x17, x18, x19, l20, x21, x23, x24, x25, x26, x27, x28, x29, l30, x31, b12, b22) => ⟨[(1, cM kI64 1 p1), (9, cI r2), (10, cI r4), (11, pt b12), (12, pt b22)], [oB b12 42 [cI x13, cI x14, cI x15, cI x16, cI x17, cI x18, C.str x19, cM kI64 1 l20, cI x21], oB b22 42 [cI x23, cI x24, cI x25, cI x26, cI x27, cI x28, C.str x29, cM kI64 1 l30, cI x31]]⟩) (fun (x13, x14, x15, x16, x17, x18, x19, l20, x21, x23, x24, x25, x26, x27, x28, x29, l30, x31, b12, b22) => Z67 p1 r2 r4 x13 x14 x15 x16 x17 x18 x19 l20 x21 x23 x24 x25 x26 x27 x28 x29 l30 x31 = some r) ?_ ?_
 ·
  refine AW.regionD (L := [1, 4, 6, 9]) (Lt := [13]) (k := .light 0 false (.light 1 true (.light 2 false (.light 3 false (.light 4 true (.light 5 false (.light 6 true (.light 7 false (.light 8 false (.light 9 true (.two 10 11 (.one 11 (.one 12 (.late 13 (.done)))) (.one 10 (.one 12 (.late 13 (.done))))))))))))))) (ns := [0]) (by kernel_rfl) (by kernel_rfl) (by kernel_rfl) (by kernel_rfl) rfl ?_
  refine zw ?_
  refine di h fun e6 g7 h => ?_
  refine zw ?_
  refine di h fun e8 g9 h => ?_
  refine zw ?_
  refine OpsD.two ?_ ?_
  ·
   refine dal fun b10 => ?_
   refine zw ?_
   refine dal fun b11 => ?_
   refine OpsD.one ?_
   refine Y3z.h (ns := [1]) rfl rfl rfl (Y1y (gs := [cI e6.id, cI e6.room, cI e6.author, cI e6.kind, cI e6.key, cI e6.n, C.str e6.text, cM kI64 1 e6.prev, cI e6.time]) Yaq.h rfl rfl rfl rfl rfl) ?_
   rintro _ _ ⟨rfl, rfl⟩
   refine zw ?_
   exact ⟨(e6.id, e6.room, e6.author, e6.kind, e6.key, e6.n, e6.text, e6.prev, e6.time, e8.id, e8.room, e8.author, e8.kind, e8.key, e8.n, e8.text, e8.prev, e8.time, b10, b11), h, Y25.both (ns := [2, 0]) rfl rfl⟩
  refine dal fun b11 => ?_
  refine zw ?_
  refine dal fun b10 => ?_
  refine OpsD.one ?_
  refine Y3z.h (ns := [0]) rfl rfl rfl (Y1y (gs := [cI e6.id, cI e6.room, cI e6.author, cI e6.kind, cI e6.key, cI e6.n, C.str e6.text, cM kI64 1 e6.prev, cI e6.time]) Yaq.h rfl rfl rfl rfl rfl) ?_
  rintro _ _ ⟨rfl, rfl⟩
  refine zw ?_
  exact ⟨(e6.id, e6.room, e6.author, e6.kind, e6.key, e6.n, e6.text, e6.prev, e6.time, e8.id, e8.room, e8.author, e8.kind, e8.key, e8.n, e8.text, e8.prev, e8.time, b10, b11), h, Y25.both (ns := [2, 0]) rfl rfl⟩
 rintro ⟨x13, x14, x15, x16, x17, x18, x19, l20, x21, x23, x24, x25, x26, x27, x28, x29, l30, x31, b12, b22⟩ h
 replace h : Z67 p1 r2 r4 x13 x14 x15 x16 x17 x18 x19 l20 x21 x23 x24 x25 x26 x27 x28 x29 l30 x31 = some r := h
 unfold Z67 at h
 refine zw ?_
 refine rD [0,0] [0,2] [] [1,9,6,14,16,20] ?_
 refine zw ?_
 refine dc h fun r32 g33 h => ?_
 refine zw ?_
 refine dc h fun r34 g35 h => ?_
 refine OpsD.v rfl rfl (Y15 un_4 rfl rfl rfl) ?_
 refine zw ?_
 refine cnd h (fun hb36 h => ?_) fun hb36 h => ?_
 ·
  refine AW.cond rfl (fun hn => absurd ((Y46 hb36).symm.trans hn) (by decide)) (fun _ => ?_)
  refine zw ?_
  refine rD [0,0] [3,7] [] [0,4,8,13,16,20,24,29,32,36] ?_
  refine zw ?_
  refine di h fun e37 g38 h => ?_
  refine zw ?_
  refine di h fun e39 g40 h => ?_
  refine zw ?_
  refine cnd h (fun hb41 h => ?_) fun hb41 h => ?_
  ·
   refine AW.ct hb41 rfl ?_
   refine zw ?_
   refine rD [0,0] [3,7] [] [0,4,8,13,16,20,24,29,32,36] ?_
   refine zw ?_
   refine AW.ret ?_
   rw [← Wj h]
   exact finI ⟨[C.bool (decide (e37 < e39))], _, Y25.refl _, (.cons (.tmp rfl) .nil), [], _, _, rfl, ⟨rfl, rfl⟩⟩
  refine AW.cf hb41 rfl ?_
  refine zw ?_
  refine cnd h (fun hb42 h => ?_) fun hb42 h => ?_
  ·
   refine AW.ct hb42 rfl ?_
   refine zw ?_
   refine AW.ret ?_
   rw [← Wj h]
   exact finI ⟨[C.bool (decide (x21 < x31))], _, Y25.refl _, (.cons (.tmp rfl) .nil), [], _, _, rfl, ⟨rfl, rfl⟩⟩
  refine AW.cf hb42 rfl ?_
  refine zw ?_
  refine AW.ret ?_
  rw [← Wj h]
  exact finI ⟨[C.bool (decide (x13 < x23))], _, Y25.refl _, (.cons (.tmp rfl) .nil), [], _, _, rfl, ⟨rfl, rfl⟩⟩
 refine AW.cond rfl (fun _ => ?_) (fun hn => absurd ((Y47 hb36).symm.trans hn) (by decide))
 refine zw ?_
 refine oc h fun r43 g44 h => ?_
 refine zw ?_
 refine AW.ret ?_
 rw [← Wj h]
 exact finI ⟨[C.bool r43], _, Y25.refl _, (.cons (.tmp rfl) .nil), [], _, _, rfl, ⟨rfl, rfl⟩⟩

def Z6a (p0 : Y9k) (p1 : List Y9m) (p2 : Int) (p3 : Int) : Option Y9j := (Z5k p1 p2 p3).bind fun r3 => cond (r3 == 0) (some (Y9j.mk 0 0 0 0 0 0 ByteArray.empty [] 0)) ((Zr p0.events r3).bind fun r6 => (getI p0.events r6).bind fun e8 => some e8)
instance Z6b (p0 : Y9k) (p1 : List Y9m) (p2 : Int) (p3 : Int) : Sp Tryz.prog 178 [C.agg [cI p0.room, cM Y9q 9 p0.events, cM Y9q 9 p0.parked], cM Y9r 3 p1, cI p2, cI p3] (Z6a p0 p1 p2 p3) (fun r => C.agg [cI r.id, cI r.room, cI r.author, cI r.kind, cI r.key, cI r.n, C.str r.text, cM kI64 1 r.prev, cI r.time]) := Sp.of (so Tryz.func178 rfl rfl fun r X h => gh (.b .z (.r [0,0] [1,3,7] [8] [0,5,8,13,16,22,24,29,35] .z)))

def Z6c (p0 : Y9k) (p1 : List Y9m) (p2 : Int) : Option Int := (Z6a p0 p1 2 p2).bind fun r2 => some r2.n
instance Z6d (p0 : Y9k) (p1 : List Y9m) (p2 : Int) : Sp Tryz.prog 108 [C.agg [cI p0.room, cM Y9q 9 p0.events, cM Y9q 9 p0.parked], cM Y9r 3 p1, cI p2] (Z6c p0 p1 p2) (fun r => cI r) := Sp.of (so Tryz.func108 rfl rfl fun r X h => gh .z)

def Z6e (p0 : Y9k) (p1 : List Y9m) (p2 : Int) : Option Int := (Z5k p1 3 p2).bind fun r2 => cond (decide (r2 > 0)) ((Z6a p0 p1 3 p2).bind fun r5 => some r5.n) ((Z6a p0 p1 1 0).bind fun r7 => cond (r7.author == p2) (some 100) (some 0))
instance Z6f (p0 : Y9k) (p1 : List Y9m) (p2 : Int) : Sp Tryz.prog 101 [C.agg [cI p0.room, cM Y9q 9 p0.events, cM Y9q 9 p0.parked], cM Y9r 3 p1, cI p2] (Z6e p0 p1 p2) (fun r => cI r) := Sp.of (so Tryz.func101 rfl rfl fun r X h => gh .z)

def Z6g (p0 : Bool) : Option Int := cond p0 (some 11) (some 0)
instance Z6h (p0 : Bool) : Sp Tryz.prog 227 [C.bool p0] (Z6g p0) (fun r => cI r) := Sp.of (so Tryz.func227 rfl rfl fun r X h => gh .z)

end Go.Proofs.YtomachnjepgpbaaGreat
