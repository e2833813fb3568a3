/- Printed by gen.py: plain functions for Go functions, and that the walks keep to them. -/
import Derived.Test.YtomachnjepgpbaaGreatEQ2
set_option autoImplicit false
set_option linter.unusedVariables false
set_option linter.unusedSimpArgs false
set_option maxHeartbeats 8000000
set_option maxRecDepth 100000
namespace Go.Proofs.YtomachnjepgpbaaGreat
open Go Go.Abs
attribute [local irreducible] AW Ops OpsD Y3z VoK HoK GhF UsC Go.Abs.Fin PkK LenT LenL Y98 BldK FzK FzLK
def Z3b (p0 : Y9k) (l76 : List Y9j) (l131 : List Y9j) : Option Y9k := some (Y9k.mk p0.room l76 l131)
def Z3c (p0 : Y9k) (l107 : List Y9j) (x108 : Int) : Option ((List Y9j × Int) ⊕ ((List Y9j))) := cond (decide (x108 < (p0.parked.length : Int))) ((getI p0.parked x108).bind fun e121 => (Z39 e121).bind fun r123 => (chk (decide ((l107.length + [r123].length) * 96 ≤ 140737488355328))).bind fun u127 => some (.inl ((l107 ++ [r123]), (IntKind.i64.wrap (x108 + 1))))) (some (.inr l107))
def Z3d (p0 : Y9k) (l74 : List Y9j) (l76 : List Y9j) : Option Y9k := (iter (fun z134 => Z3c p0 z134.1 z134.2) big ([], 0)).bind fun y135 => Z3b p0 l76 y135
def Z3e (p0 : Y9k) (l49 : List Y9j) (l51 : List Y9j) (x52 : Int) : Option ((List Y9j × List Y9j × Int) ⊕ ((List Y9j × List Y9j))) := cond (decide (x52 < (p0.events.length : Int))) ((getI p0.events x52).bind fun e65 => (Z39 e65).bind fun r67 => (chk (decide ((l51.length + [r67].length) * 96 ≤ 140737488355328))).bind fun u71 => some (.inl (l49, (l51 ++ [r67]), (IntKind.i64.wrap (x52 + 1))))) (some (.inr (l49, l51)))
def Z3f (p0 : Y9k) : Option Y9k := (iter (fun z136 => Z3e p0 z136.1 z136.2.1 z136.2.2) big ([], [], 0)).bind fun (y137, y138) => Z3d p0 y137 y138
instance Z3g (p0 : Y9k) : SpO Tryz.prog 183 (Z3f p0) (.d [C.agg [cI p0.room, cM Y9q 9 p0.events, cM Y9q 9 p0.parked]] [] fun r => .x fun (v132 : Value) => .x fun (v133 : Value) => .d (C.agg [cI r.room, cV v132, cV v133]) [oA v132 42 Y9q 9 r.events, oA v133 42 Y9q 9 r.parked]) := ⟨so Tryz.func183 rfl rfl fun r X h => gh (.q 2 (.o 0 fun b3 => .c2 (fun l74 l76 => .x fun v75 => .d [] [oA s0 42 Y9q 9 l74, oB b3 25 [cI p0.room, cV v75, cV s0], oA v75 42 Y9q 9 l76]) [1,2,3] [2,1] (.O 0 fun b3 => .l3 (fun l49 l51 x52 => .x fun v50 => .d [(4, cI x52)] [oA s0 42 Y9q 9 l49, oB b3 25 [cI p0.room, cV v50, cV s0], oA v50 42 Y9q 9 l51]) [1,2,3] [2,1] (.b (.r [0,0,1,1] [1,3,6] [11] [0,5,8,13,16,20,25,30,34,38,40,47] .z) .z)) (.o 1 fun b3 => .a 2 fun v75 => .c1 (fun l131 => .x fun v130 => .d [] [oB b3 25 [cI p0.room, cV v75, cV v130], oA v130 42 Y9q 9 l131]) [2,3] [4,0,2] (.O 1 fun b3 => .A 2 fun v75 => .l2 (fun l107 x108 => .x fun v106 => .d [(5, cI x108)] [oB b3 25 [cI p0.room, cV v75, cV v106], oA v106 42 Y9q 9 l107]) [1,2,3] [3,4,0,2] (.b (.r [0,1,1,1,1] [1,3,6] [11] [0,5,8,13,16,20,25,30,34,38,40,47] .z) .z)) .z)))⟩
instance Z3g' (p0 : Y9k) : Sp Tryz.prog 183 [C.agg [cI p0.room, cM Y9q 9 p0.events, cM Y9q 9 p0.parked]] (Z3f p0) (fun r => C.agg [cI r.room, cM Y9q 9 r.events, cM Y9q 9 r.parked]) := ⟨fun r h => Ok.freeze ((Z3g p0).h r h) (by rintro c qs ⟨v132, v133, rfl, rfl⟩; exact Frz.agg (fS (FrzL.cons (os := [_]) (Frz.arr) (FrzL.cons (os := [_]) (Frz.arr) (FrzL.nil)))))⟩

def Z3h (p0 : List Y9j) (p1 : Y9j) (x13 : Int) : Option (List Y9j) := (Y2d p0 0 x13).bind fun s15 => (chk (decide ((([] : List Y9j).length + s15.length) * 96 ≤ 140737488355328))).bind fun u18 => (Z39 p1).bind fun r20 => (chk (decide (((([] : List Y9j) ++ s15).length + [r20].length) * 96 ≤ 140737488355328))).bind fun u24 => (Y2d p0 x13 (p0.length : Int)).bind fun s26 => (chk (decide ((((([] : List Y9j) ++ s15) ++ [r20]).length + s26.length) * 96 ≤ 140737488355328))).bind fun u29 => some (((([] : List Y9j) ++ s15) ++ [r20]) ++ s26)
def Z3i (x7 : Int) (x11 : Bool) : Option (Int ⊕ (Int)) := cond x11 (some (.inl (IntKind.i64.wrap (x7 + 1)))) (some (.inr x7))
def Z3j (p0 : List Y9j) (p1 : Y9j) (x7 : Int) : Option (Int ⊕ (Int)) := cond (decide (x7 < (p0.length : Int))) ((getI p0 x7).bind fun e9 => Z3i x7 (decide (e9.id < p1.id))) (Z3i x7 false)
def Z3k (p0 : List Y9j) (p1 : Y9j) : Option (List Y9j) := (iter (Z3j p0 p1) big 0).bind fun y32 => Z3h p0 p1 y32
instance Z3l (p0 : List Y9j) (p1 : Y9j) : SpO Tryz.prog 184 (Z3k p0 p1) (.d [cM Y9q 9 p0, C.agg [cI p1.id, cI p1.room, cI p1.author, cI p1.kind, cI p1.key, cI p1.n, C.str p1.text, cM kI64 1 p1.prev, cI p1.time]] [] fun r => .x fun (v31 : Value) => .d (cV v31) [oA v31 42 Y9q 9 r]) := ⟨so Tryz.func184 rfl rfl fun r X h => gh (.q 2 (.c1 (fun x13 => .d [(5, cI x13)] []) [0,3] [0] (.l1 (fun x7 => .d [(5, cI x7)] []) [0,3] [0] (.q 1 (.c1 (fun x11 => .d [(20, C.bool x11)] []) [0,3,5] [0] (.r [0] [9,11] [] [0,4,8,12,16,20,24,28,32,37,40,45,48,52] .z) .z))) .z))⟩
instance Z3l' (p0 : List Y9j) (p1 : Y9j) : Sp Tryz.prog 184 [cM Y9q 9 p0, C.agg [cI p1.id, cI p1.room, cI p1.author, cI p1.kind, cI p1.key, cI p1.n, C.str p1.text, cM kI64 1 p1.prev, cI p1.time]] (Z3k p0 p1) (fun r => cM Y9q 9 r) := ⟨fun r h => Ok.freeze ((Z3l p0 p1).h r h) (by rintro c qs ⟨v31, rfl, rfl⟩; exact Frz.arr)⟩

def Z3m : Option Int := some (-1)
def Z3n (p0 : Y9k) (x8 : Int) : Option (Int ⊕ (Int ⊕ Unit)) := cond (decide (x8 < (p0.parked.length : Int))) ((getI p0.parked x8).bind fun e10 => (Z2k p0.events e10).bind fun r12 => cond r12 (some (.inr (.inl x8))) (some (.inl (IntKind.i64.wrap (x8 + 1))))) (some (.inr (.inr ())))
def Z3o (p0 : Y9k) : Option Int := (iter (Z3n p0) big 0).bind (fun z16 => match z16 with | .inl y15 => some y15 | .inr () => Z3m)
instance Z3p (p0 : Y9k) : Sp Tryz.prog 185 [C.agg [cI p0.room, cM Y9q 9 p0.events, cM Y9q 9 p0.parked]] (Z3o p0) (fun r => cI r) := Sp.of (so Tryz.func185 rfl rfl fun r X h => gh (.q 1 (.c0 (.d [] []) [] [] (.l1 (fun x8 => .d [(3, cI x8)] []) [1] [0] (.b (.r [0] [1,3,6] [] [0,5,8,13,16,20,25,30] .z) .z)) .z)))

def Z3q (r27 : Y9k) (l182 : List Y9j) (l184 : List Y9j) (l186 : List Int) : Option Y9l := some (Y9l.mk (Y9k.mk r27.room l182 l184) l186 0)
def Z3r (r27 : Y9k) (l126 : List Y9j) (x129 : Int) (l175 : List Y9j) (l178 : List Int) : Option ((List Y9j × List Y9j × List Int × Int) ⊕ ((List Y9j × List Y9j × List Int))) := (Z3o (Y9k.mk r27.room l175 ((([] : List Y9j) ++ (List.take (Int.toNat x129) l126)) ++ (List.drop (Int.toNat (IntKind.i64.wrap (x129 + 1))) l126)))).bind fun r179 => some (.inl (l175, ((([] : List Y9j) ++ (List.take (Int.toNat x129) l126)) ++ (List.drop (Int.toNat (IntKind.i64.wrap (x129 + 1))) l126)), l178, r179))
def Z3s (r27 : Y9k) (l124 : List Y9j) (l126 : List Y9j) (l128 : List Int) (x129 : Int) : Option ((List Y9j × List Y9j × List Int × Int) ⊕ ((List Y9j × List Y9j × List Int))) := cond (decide (x129 ≥ 0)) ((getI l126 x129).bind fun e131 => (chk (decide ((0 : Int) ≤ x129 ∧ x129 ≤ (l126.length : Int)))).bind fun u136 => (chk (decide ((Int.toNat x129) ≤ l126.length))).bind fun u138 => (chk (decide ((([] : List Y9j).length + (List.take (Int.toNat x129) l126).length) * 96 ≤ 140737488355328))).bind fun u140 => (chk (decide ((0 : Int) ≤ (IntKind.i64.wrap (x129 + 1)) ∧ (IntKind.i64.wrap (x129 + 1)) ≤ (l126.length : Int)))).bind fun u143 => (chk (decide ((Int.toNat (IntKind.i64.wrap (x129 + 1))) ≤ l126.length))).bind fun u145 => (chk (decide (((([] : List Y9j) ++ (List.take (Int.toNat x129) l126)).length + (List.drop (Int.toNat (IntKind.i64.wrap (x129 + 1))) l126).length) * 96 ≤ 140737488355328))).bind fun u147 => cond (decide ((l124.length : Int) < 60)) ((Z3k l124 e131).bind fun r165 => (chk (decide ((l128.length + [e131.id].length) * 8 ≤ 140737488355328))).bind fun u171 => Z3r r27 l126 x129 r165 (l128 ++ [e131.id])) (Z3r r27 l126 x129 l124 l128)) (some (.inr (l124, l126, l128)))
def Z3t (p0 : Y9k) (p1 : Y9j) (r4 : Bool) (x20 : Bool) : Option Y9l := cond x20 ((Z37 9).bind fun r22 => some r22) ((Z3f p0).bind fun r27 => cond r4 ((Z3k r27.events p1).bind fun r65 => (Z3o (Y9k.mk r27.room r65 r27.parked)).bind fun r70 => (iter (fun z190 => Z3s r27 z190.1 z190.2.1 z190.2.2.1 z190.2.2.2) big (r65, r27.parked, [p1.id], r70)).bind fun (y191, y192, y193) => Z3q r27 y191 y192 y193) ((Z3k r27.parked p1).bind fun r47 => some (Y9l.mk (Y9k.mk r27.room r27.events r47) [] 0)))
def Z3u (p0 : Y9k) (p1 : Y9j) (r4 : Bool) (x11 : Bool) : Option Y9l := cond x11 ((Z37 7).bind fun r13 => some r13) (cond (decide ((p0.events.length : Int) ≥ 60)) (Z3t p0 p1 r4 true) (cond r4 (Z3t p0 p1 r4 false) (Z3t p0 p1 r4 (decide ((p0.parked.length : Int) ≥ 20)))))
def Z3v (p0 : Y9k) (p1 : Y9j) : Option Y9l := (Z2k p0.events p1).bind fun r4 => (Zr p0.events p1.id).bind fun r6 => cond (decide (r6 ≥ 0)) (Z3u p0 p1 r4 true) ((Zr p0.parked p1.id).bind fun r9 => Z3u p0 p1 r4 (decide (r9 ≥ 0)))
theorem Z3w (p0 : Y9k) (p1 : Y9j) (r : Y9l) (h : Z3v p0 p1 = some r) : Ok Tryz.prog 107 [C.agg [cI p0.room, cM Y9q 9 p0.events, cM Y9q 9 p0.parked], C.agg [cI p1.id, cI p1.room, cI p1.author, cI p1.kind, cI p1.key, cI p1.n, C.str p1.text, cM kI64 1 p1.prev, cI p1.time]] [] (fun c qs => ∃ (v187 : Value) (v188 : Value) (v189 : Value), c = C.agg [cI r.graph.room, cV v187, cV v188, cV v189, cI r.code] ∧ qs = [oA v187 42 Y9q 9 r.graph.events, oA v188 42 Y9q 9 r.graph.parked, oA v189 2 kI64 1 r.added]) := by
 refine Ok.of_body (rs := [.cell 4 53]) Tryz.func107 rfl rfl rfl rfl rfl fun X => ?_
 unfold Z3v at h
 refine zw ?_
 refine ox fun b1 => ?_
 refine ox fun b2 => ?_
 refine al fun b3 => ?_
 refine zw ?_
 refine oc h fun r4 g5 h => ?_
 refine Ops.v rfl (Ys rfl rfl) ?_
 refine Ops.nil ?_
 refine AW.seq ?_
 refine AW.block ?_
 refine AW.seq ?_
 refine AW.cut (τ := Bool) (fun x11 => ⟨[(2, pt b1), (3, pt b2), (4, pt b3), (5, C.bool r4), (15, C.bool x11)], [oB b1 25 [cI p0.room, cM Y9q 9 p0.events, cM Y9q 9 p0.parked], oB b2 42 [cI p1.id, cI p1.room, cI p1.author, cI p1.kind, cI p1.key, cI p1.n, C.str p1.text, cM kI64 1 p1.prev, cI p1.time], oB b3 53 [cI 0, cV s0, cV s0, cV s0, cI 0]]⟩) (fun x11 => Z3u p0 p1 r4 x11 = some r) ?_ ?_
 ·
  refine zw ?_
  refine oc h fun r6 g7 h => ?_
  refine zw ?_
  refine cnd h (fun hb8 h => ?_) fun hb8 h => ?_
  ·
   refine zw ?_
   exact ⟨true, h, Y25.both (ns := [2, 1, 0]) rfl rfl⟩
  refine zw ?_
  refine gcl h rfl rfl rfl rfl hb8 inferInstance rfl rfl fun r9 g10 h => ?_
  refine zw ?_
  exact ⟨decide (r9 ≥ 0), h, Y25.both (ns := [2, 1, 0]) rfl rfl⟩
 intro x11 h
 replace h : Z3u p0 p1 r4 x11 = some r := h
 unfold Z3u at h
 refine cnd h (fun hb12 h => ?_) fun hb12 h => ?_
 ·
  refine AW.ct hb12 rfl ?_
  refine zw ?_
  refine ob' h fun r13 g14 h => ?_
  refine Ops.h (ns := []) rfl rfl (Y27 ((Z38 _).h _ g14) rfl rfl) ?_
  rintro _ _ ⟨_, ⟨v15, v16, v17, rfl, rfl⟩, rfl⟩
  refine zw ?_
  refine AW.ret ?_
  rw [← Wj h]
  exact finI ⟨[C.agg [cI r13.graph.room, cV v15, cV v16, cV v17, cI r13.code]], _, Y25.refl _, (.cons (.cell (p := 0) rfl rfl Yb5.h rfl) .nil), [1, 1, 1], _, _, rfl, ⟨v15, v16, v17, rfl, rfl⟩⟩
 refine AW.cf hb12 rfl ?_
 refine AW.seq ?_
 refine AW.cut (τ := Bool) (fun x20 => ⟨[(2, pt b1), (3, pt b2), (4, pt b3), (5, C.bool r4), (31, C.bool x20)], [oB b1 25 [cI p0.room, cM Y9q 9 p0.events, cM Y9q 9 p0.parked], oB b2 42 [cI p1.id, cI p1.room, cI p1.author, cI p1.kind, cI p1.key, cI p1.n, C.str p1.text, cM kI64 1 p1.prev, cI p1.time], oB b3 53 [cI 0, cV s0, cV s0, cV s0, cI 0]]⟩) (fun x20 => Z3t p0 p1 r4 x20 = some r) ?_ ?_
 ·
  refine zw ?_
  refine cnd h (fun hb18 h => ?_) fun hb18 h => ?_
  ·
   refine zw ?_
   exact ⟨true, h, Y25.both (ns := [0, 0, 0]) rfl rfl⟩
  refine zw ?_
  refine cnd h (fun hb19 h => ?_) fun hb19 h => ?_
  ·
   refine zw ?_
   exact ⟨false, h, Y25.both (ns := [0, 0, 0]) rfl rfl⟩
  refine zw ?_
  exact ⟨decide ((p0.parked.length : Int) ≥ 20), h, Y25.both (ns := [0, 0, 0]) rfl rfl⟩
 intro x20 h
 replace h : Z3t p0 p1 r4 x20 = some r := h
 unfold Z3t at h
 refine cnd h (fun hb21 h => ?_) fun hb21 h => ?_
 ·
  refine AW.ct hb21 rfl ?_
  refine zw ?_
  refine ob' h fun r22 g23 h => ?_
  refine Ops.h (ns := []) rfl rfl (Y27 ((Z38 _).h _ g23) rfl rfl) ?_
  rintro _ _ ⟨_, ⟨v24, v25, v26, rfl, rfl⟩, rfl⟩
  refine zw ?_
  refine AW.ret ?_
  rw [← Wj h]
  exact finI ⟨[C.agg [cI r22.graph.room, cV v24, cV v25, cV v26, cI r22.code]], _, Y25.refl _, (.cons (.cell (p := 0) rfl rfl Yb5.h rfl) .nil), [1, 1, 1], _, _, rfl, ⟨v24, v25, v26, rfl, rfl⟩⟩
 refine AW.cf hb21 rfl ?_
 refine zw ?_
 refine ob' h fun r27 g28 h => ?_
 refine Ops.h (ns := []) rfl rfl (Y27 ((Z3g _).h _ g28) rfl rfl) ?_
 rintro _ _ ⟨_, ⟨v29, v30, rfl, rfl⟩, rfl⟩
 refine Ops.v rfl (Y3k (ds := [cI r27.room, cV v29, cV v30, cV s0, cI 0]) Yb4 Yb3 (Y4g rfl rfl) (.agg rfl rfl rfl .nil) rfl) ?_
 refine al fun b31 => ?_
 refine zw ?_
 refine cnd h (fun hb32 h => ?_) fun hb32 h => ?_
 ·
  refine AW.cond rfl (fun hn => absurd ((Y46 hb32).symm.trans hn) (by decide)) (fun _ => ?_)
  refine zw ?_
  refine rD [0,1,1,1,1] [4,5] [9] [0,4,8,12,17,21,26,28,32,39] ?_
  refine zw ?_
  refine ob' h fun r65 g66 h => ?_
  refine Y3z.h (ns := [0]) rfl rfl rfl (HOp.frz (t := 67) rfl Frz.arr (Y27 ((Z3l _ _).h _ g66) rfl rfl)) ?_
  rintro _ _ ⟨_, ⟨v67, rfl, rfl⟩, rfl⟩
  refine OpsD.v rfl rfl (Y18 rfl rfl) ?_
  refine OpsD.v rfl rfl (Y1f Yb0.h rfl rfl) ?_
  refine OpsD.learn (Sim.arr_one (p := 5) rfl) fun n68 => ?_
  refine zw ?_
  refine Ops.h (ns := []) rfl rfl (Y3l (k := kI64) (ys := [p1.id]) Yai (.one rfl (One.val rfl) rfl rfl .nil) rfl rfl rfl) ?_
  rintro _ _ ⟨b69, rfl, rfl⟩
  refine Ops.v rfl (Y1f Yba.h rfl rfl) ?_
  refine Ops.s1 Yax.h rfl rfl on inferInstance rfl ?_
  refine Ops.nil ?_
  refine AW.seq ?_
  refine AW.cut (τ := List Y9j × List Y9j × List Int × Value × Value × Value) (fun (l182, l184, l186, v181, v183, v185) => ⟨[(4, pt b3), (6, pt b31)], [oB b31 53 [cI r27.room, cV v181, cV v183, cV v185, cI 0], oA v181 42 Y9q 9 l182, oA v183 42 Y9q 9 l184, oA v185 2 kI64 1 l186, oB b3 53 [cI 0, cV s0, cV s0, cV s0, cI 0]]⟩) (fun (l182, l184, l186, v181, v183, v185) => Z3q r27 l182 l184 l186 = some r) ?_ ?_
  ·
   refine zw ?_
   refine ob' h fun r70 g71 h => ?_
   refine Ops.hd (ns := [6, 2]) rfl rfl (Y28 (Ok.lendE ((Z3p (Y9k.mk r27.room r65 r27.parked)).h _ g71) (FrzT.cons (os := [_,_]) (Frz.agg (fS (FrzL.cons (os := [_]) Frz.arr (FrzL.cons (os := [_]) Frz.arr (FrzL.nil))))) (FrzT.nil)) (Y4i.val _)) rfl rfl) ?_
   refine zw ?_
   refine ob' h fun o194 g195 q196 => ?_
   refine AW.loop (τ := List Y9j × List Y9j × List Int × Int × Value × Value × Value) (x := (r65, r27.parked, [p1.id], r70, v67, v30, (sv b69 1 1))) (fun (l124, l126, l128, x129, v123, v125, v127) => ⟨[(4, pt b3), (6, pt b31), (7, pt b31), (8, cI x129)], [oB b31 53 [cI r27.room, cV v123, cV v125, cV v127, cI 0], oA v123 42 Y9q 9 l124, oA v125 42 Y9q 9 l126, oA v127 2 kI64 1 l128, oB b3 53 [cI 0, cV s0, cV s0, cV s0, cI 0]]⟩) (fun k (l124, l126, l128, x129, v123, v125, v127) => iter (fun z190 => Z3s r27 z190.1 z190.2.1 z190.2.2.1 z190.2.2.2) k (l124, l126, l128, x129) = some o194) g195 (Y25.both (ns := [2, 0, 0, 0, 2]) rfl rfl) ?_
   rintro k ⟨l124, l126, l128, x129, v123, v125, v127⟩ i198
   refine Y4f (show iter (fun z190 => Z3s r27 z190.1 z190.2.1 z190.2.2.1 z190.2.2.2) k (l124, l126, l128, x129) = some o194 from i198) fun k197 y199 hlt_k197 h h200 => ?_
   replace h : Z3s r27 l124 l126 l128 x129 = some y199 := h
   unfold Z3s at h
   refine zw ?_
   refine cnd h (fun hb130 h => ?_) fun hb130 h => ?_
   ·
    refine AW.ct hb130 rfl ?_
    refine AW.skip ?_
    refine AW.seq ?_
    refine AW.cut (τ := List Y9j × List Int × Value × Value × Value) (fun (l175, l178, v174, v176, v177) => ⟨[(4, pt b3), (6, pt b31), (7, pt b31)], [oB b31 53 [cI r27.room, cV v174, cV v176, cV v177, cI 0], oA v174 42 Y9q 9 l175, oA v176 42 Y9q 9 ((([] : List Y9j) ++ (List.take (Int.toNat x129) l126)) ++ (List.drop (Int.toNat (IntKind.i64.wrap (x129 + 1))) l126)), oA v177 2 kI64 1 l178, oB b3 53 [cI 0, cV s0, cV s0, cV s0, cI 0]]⟩) (fun (l175, l178, v174, v176, v177) => Z3r r27 l126 x129 l175 l178 = some y199) ?_ ?_
    ·
     refine zw ?_
     refine ob' h fun e131 g132 h => ?_
     refine zw ?_
     refine al fun b133 => ?_
     refine zw ?_
     refine Ops.h (ns := []) rfl rfl (Y3l (k := Y9q) (ys := ([] : List Y9j)) Yau .nil rfl rfl rfl) ?_
     rintro _ _ ⟨b134, rfl, rfl⟩
     refine zw ?_
     refine ob' h fun u136 c135 h => ?_
     refine Ops.v rfl (Y7a (p := 4) (l := (Int.toNat x129)) Yar.h rfl rfl rfl (Wo (Y45 c135)) rfl rfl) ?_
     refine ob' h fun u138 c137 h => ?_
     refine ob' h fun u140 c139 h => ?_
     refine Ops.h (ns := [0, 3]) rfl rfl (Y7j Yau rfl rfl (Part.take (Int.toNat x129) (Wo (Y45 c137))) (Wo (Y45 c139)) (Y49 (by decide) c139) rfl) ?_
     rintro _ _ ⟨v141, rfl, rfl⟩
     refine zw ?_
     refine ob' h fun u143 c142 h => ?_
     refine Ops.v rfl (Y79 (p := 1) (l := (Int.toNat (IntKind.i64.wrap (x129 + 1)))) Yar.h rfl rfl rfl (Wo (Y45 c142)) rfl rfl) ?_
     refine ob' h fun u145 c144 h => ?_
     refine ob' h fun u147 c146 h => ?_
     refine Ops.h (ns := [0, 0]) rfl rfl (Y7j Yau rfl rfl (Part.drop (Int.toNat (IntKind.i64.wrap (x129 + 1))) (Wo (Y45 c144))) (Wo (Y45 c146)) (Y49 (by decide) c146) rfl) ?_
     rintro _ _ ⟨v148, rfl, rfl⟩
     refine Ops.v rfl (Y18 rfl rfl) ?_
     refine Ops.v rfl (Y1f Yb2.h rfl rfl) ?_
     refine Ops.learn (Sim.arr_one (p := 0) rfl) fun n149 => ?_
     refine zw ?_
     refine cnd h (fun hb150 h => ?_) fun hb150 h => ?_
     ·
      refine AW.ct hb150 rfl ?_
      refine zw ?_
      refine rD [0,0,0,0,1,1] [4,5] [9] [0,4,8,12,17,21,26,28,32,39] ?_
      refine zw ?_
      refine ob' h fun r165 g166 h => ?_
      refine Y3z.h (ns := [0]) rfl rfl rfl (HOp.frz (t := 123) rfl Frz.arr (Y27 ((Z3l _ _).h _ g166) rfl rfl)) ?_
      rintro _ _ ⟨_, ⟨v167, rfl, rfl⟩, rfl⟩
      refine OpsD.v rfl rfl (Y18 rfl rfl) ?_
      refine OpsD.v rfl rfl (Y1f Yb0.h rfl rfl) ?_
      refine OpsD.learn (Sim.arr_one (p := 6) rfl) fun n168 => ?_
      refine zw ?_
      refine Ops.h (ns := []) rfl rfl (Y3l (k := kI64) (ys := [e131.id]) Yai (.one rfl (One.val rfl) rfl rfl .nil) rfl rfl rfl) ?_
      rintro _ _ ⟨b169, rfl, rfl⟩
      refine ob' h fun u171 c170 h => ?_
      refine Ops.h (ns := [5, 0]) rfl rfl (Y34 Yai rfl rfl (Wo (Y45 c170)) (Y49 (by decide) c170) rfl) ?_
      rintro _ _ ⟨v172, rfl, rfl⟩
      refine Ops.v rfl (Y1f Yba.h rfl rfl) ?_
      refine Ops.learn (Sim.arr_one (p := 0) rfl) fun n173 => ?_
      refine zw ?_
      exact ⟨(r165, (l128 ++ [e131.id]), v167, v148, v172), h, Y25.both (ns := [0, 5, 1, 0, 2]) rfl rfl⟩
     refine AW.cf hb150 rfl ?_
     refine zw ?_
     exact ⟨(l124, l128, v123, v148, v127), h, Y25.both (ns := [0, 3, 0, 2, 2]) rfl rfl⟩
    rintro ⟨l175, l178, v174, v176, v177⟩ h
    replace h : Z3r r27 l126 x129 l175 l178 = some y199 := h
    unfold Z3r at h
    refine zw ?_
    refine ob' h fun r179 g180 h => ?_
    refine Ops.hd (ns := [1, 1]) rfl rfl (Y28 (Ok.lendE ((Z3p (Y9k.mk r27.room l175 ((([] : List Y9j) ++ (List.take (Int.toNat x129) l126)) ++ (List.drop (Int.toNat (IntKind.i64.wrap (x129 + 1))) l126)))).h _ g180) (FrzT.cons (os := [_,_]) (Frz.agg (fS (FrzL.cons (os := [_]) Frz.arr (FrzL.cons (os := [_]) Frz.arr (FrzL.nil))))) (FrzT.nil)) (Y4i.val _)) rfl rfl) ?_
    refine zw ?_
    obtain rfl := Wj h
    exact ⟨k197, (l175, ((([] : List Y9j) ++ (List.take (Int.toNat x129) l126)) ++ (List.drop (Int.toNat (IntKind.i64.wrap (x129 + 1))) l126)), l178, r179, v174, v176, v177), hlt_k197, h200, Y25.both (ns := [2, 0, 0, 0, 0]) rfl rfl⟩
   refine AW.cf hb130 rfl ?_
   refine AW.exit ?_
   obtain rfl := Wj h
   obtain rfl := Wj h200
   replace h := q196
   exact ⟨(l124, l126, l128, v123, v125, v127), h, Y25.both (ns := [0, 0, 0, 0, 0]) rfl rfl⟩
  rintro ⟨l182, l184, l186, v181, v183, v185⟩ h
  replace h : Z3q r27 l182 l184 l186 = some r := h
  unfold Z3q at h
  refine zw ?_
  refine AW.ret ?_
  rw [← Wj h]
  exact finI ⟨[C.agg [cI r27.room, cV v181, cV v183, cV v185, cI 0]], _, Y25.refl _, (.cons (.cell (p := 0) rfl rfl Yb5.h rfl) .nil), [2, 2, 2], _, _, rfl, ⟨v181, v183, v185, rfl, rfl⟩⟩
 refine AW.cond rfl (fun _ => ?_) (fun hn => absurd ((Y47 hb32).symm.trans hn) (by decide))
 refine zw ?_
 refine rD [0,0,1,1,1] [4,5] [9] [0,4,8,12,17,21,26,28,32,39] ?_
 refine zw ?_
 refine ob' h fun r47 g48 h => ?_
 refine Y3z.h (ns := [0]) rfl rfl rfl (HOp.frz (t := 57) rfl Frz.arr (Y27 ((Z3l _ _).h _ g48) rfl rfl)) ?_
 rintro _ _ ⟨_, ⟨v49, rfl, rfl⟩, rfl⟩
 refine OpsD.v rfl rfl (Y18 rfl rfl) ?_
 refine OpsD.v rfl rfl (Y1f Yb2.h rfl rfl) ?_
 refine OpsD.learn (Sim.arr_one (p := 5) rfl) fun n50 => ?_
 refine zw ?_
 refine AW.ret ?_
 rw [← Wj h]
 exact finI ⟨[C.agg [cI r27.room, cV v29, cV v49, cV s0, cI 0]], _, Y25.nil 2 kI64 1, (.cons (.cell (p := 1) rfl rfl Yb5.h rfl) .nil), [3, 5, 0], _, _, rfl, ⟨v29, v49, s0, rfl, rfl⟩⟩
instance Z3w' (p0 : Y9k) (p1 : Y9j) : Sp Tryz.prog 107 [C.agg [cI p0.room, cM Y9q 9 p0.events, cM Y9q 9 p0.parked], C.agg [cI p1.id, cI p1.room, cI p1.author, cI p1.kind, cI p1.key, cI p1.n, C.str p1.text, cM kI64 1 p1.prev, cI p1.time]] (Z3v p0 p1) (fun r => C.agg [cI r.graph.room, cM Y9q 9 r.graph.events, cM Y9q 9 r.graph.parked, cM kI64 1 r.added, cI r.code]) := ⟨fun r h => Ok.freeze (Z3w p0 p1 r h) (by rintro c qs ⟨v187, v188, v189, rfl, rfl⟩; exact Frz.agg (fS (FrzL.cons (os := [_]) (Frz.arr) (FrzL.cons (os := [_]) (Frz.arr) (FrzL.cons (os := [_]) (Frz.arr) (fS (FrzL.nil)))))))⟩
instance Z3x (p0 : Y9k) (p1 : Y9j) : SpO Tryz.prog 107 (Z3v p0 p1) (.d [C.agg [cI p0.room, cM Y9q 9 p0.events, cM Y9q 9 p0.parked], C.agg [cI p1.id, cI p1.room, cI p1.author, cI p1.kind, cI p1.key, cI p1.n, C.str p1.text, cM kI64 1 p1.prev, cI p1.time]] [] fun r => .x fun (v187 : Value) => .x fun (v188 : Value) => .x fun (v189 : Value) => .d (C.agg [cI r.graph.room, cV v187, cV v188, cV v189, cI r.code]) [oA v187 42 Y9q 9 r.graph.events, oA v188 42 Y9q 9 r.graph.parked, oA v189 2 kI64 1 r.added]) := ⟨fun r h => Z3w p0 p1 r h⟩

def Z3y (p0 : Y9k) (p1 : Y9j) (x10 : Bool) : Option Y9l := cond x10 ((Z37 1).bind fun r12 => some r12) ((Z3v p0 p1).bind fun r14 => some r14)
def Z3z (p0 : Y9k) (p1 : Y9j) : Option Y9l := (Z35 p0).bind fun r4 => cond r4 ((Z2b p1).bind fun r7 => cond r7 (Z3y p0 p1 (p1.room != p0.room)) (Z3y p0 p1 true)) (Z3y p0 p1 true)
instance Z40 (p0 : Y9k) (p1 : Y9j) : Sp Tryz.prog 38 [C.agg [cI p0.room, cM Y9q 9 p0.events, cM Y9q 9 p0.parked], C.agg [cI p1.id, cI p1.room, cI p1.author, cI p1.kind, cI p1.key, cI p1.n, C.str p1.text, cM kI64 1 p1.prev, cI p1.time]] (Z3z p0 p1) (fun r => C.agg [cI r.graph.room, cM Y9q 9 r.graph.events, cM Y9q 9 r.graph.parked, cM kI64 1 r.added, cI r.code]) := Sp.of (so Tryz.func38 rfl rfl fun r X h => gh (.q 2 (.c1 (fun x10 => .d [(19, C.bool x10)] []) [2,3,4] [2,1,0] .z .z)))

def Z41 (p0 : Y9i) : Option (Int × Y9i) := (Z9 p0 14).bind fun r2 => (getI [0, 1, (-1), 2, 1000, 1001, 2147483648, 2147483647, (-2147483648), 4611686018427387904, 9223372036854775807, (-9223372036854775808), 1000000, 1000001] r2.1).bind fun e4 => some (e4, r2.2)
instance Z42 (p0 : Y9i) : SpO Tryz.prog 126 (Z41 p0) (.x fun (b00 : Nat) => .d [pt b00] [oB b00 159 [cM kU8 1 p0.b, cI p0.at_, cV (.int .u64 p0.mix), cI p0.size]] fun r => .d (cI r.1) [oB b00 159 [cM kU8 1 r.2.b, cI r.2.at_, cV (.int .u64 r.2.mix), cI r.2.size]]) := ⟨fun b00 => so Tryz.func126 rfl rfl fun r X h => gh .z⟩

def Z43 (x90 : Int) (x95 : Int) (x145 : Int) (x146 : Int) (x147 : Int) (x148 : Int) (x149 : Int) (x150 : ByteArray) (l152 : List Int) (l153 : List Int) (x154 : Int) (x155 : Int) (x156 : Int) : Option (Y9j × Y9i) := some ((Y9j.mk x145 x146 x147 x148 x90 x149 x150 l152 x95), (Y9i.mk l153 x154 x155 x156))
def Z44 (l82 : List Int) (x83 : Int) (x84 : Int) (x85 : Int) (x86 : Int) (x87 : Int) (x88 : Int) (x89 : Int) (x90 : Int) (x91 : Int) (x92 : ByteArray) (l94 : List Int) (x95 : Int) : Option (Y9j × Y9i) := (Zc (Y9i.mk l82 x83 x84 x85) 15).bind fun r96 => cond r96.1 ((Z9 r96.2 7).bind fun r99 => cond (r99.1 == 0) ((Z9 r99.2 4).bind fun r103 => (getI [0, 1, 1000000, 1000001] r103.1).bind fun e105 => Z43 x90 x95 e105 x87 x88 x89 x91 x92 l94 r103.2.b r103.2.at_ r103.2.mix r103.2.size) (cond (r99.1 == 1) ((Z9 r99.2 5).bind fun r108 => Z43 x90 x95 x86 r108.1 x88 x89 x91 x92 l94 r108.2.b r108.2.at_ r108.2.mix r108.2.size) (cond (r99.1 == 2) ((Z9 r99.2 8).bind fun r111 => Z43 x90 x95 x86 x87 r111.1 x89 x91 x92 l94 r111.2.b r111.2.at_ r111.2.mix r111.2.size) (cond (r99.1 == 3) ((Z9 r99.2 10).bind fun r114 => Z43 x90 x95 x86 x87 x88 r114.1 x91 x92 l94 r114.2.b r114.2.at_ r114.2.mix r114.2.size) (cond (r99.1 == 4) ((Z9 r99.2 9).bind fun r130 => (chk (decide ((l94.length + [r130.1].length) * 8 ≤ 140737488355328))).bind fun u134 => Z43 x90 x95 x86 x87 x88 x89 x91 x92 (l94 ++ [r130.1]) r130.2.b r130.2.at_ r130.2.mix r130.2.size) (cond (r99.1 == 5) ((Z9 r99.2 3).bind fun r138 => (chk (decide (0 ≤ (IntKind.i64.wrap (29 + r138.1)) ∧ (IntKind.i64.wrap (29 + r138.1)) * 1 ≤ 140737488355328))).bind fun u141 => Z43 x90 x95 x86 x87 x88 x89 x91 (Y72 (List.replicate (Int.toNat (IntKind.i64.wrap (29 + r138.1))) 0)) l94 r138.2.b r138.2.at_ r138.2.mix r138.2.size) ((Z41 r99.2).bind fun r143 => Z43 x90 x95 x86 x87 x88 x89 r143.1 x92 l94 r143.2.b r143.2.at_ r143.2.mix r143.2.size))))))) (Z43 x90 x95 x86 x87 x88 x89 x91 x92 l94 r96.2.b r96.2.at_ r96.2.mix r96.2.size)
def Z45 (r10 : Y9j × Y9i) (l65 : List Int) (x66 : Int) (x67 : Int) (x68 : Int) (l76 : List Int) : Option (Y9j × Y9i) := (Zc (Y9i.mk l65 x66 x67 x68) 8).bind fun r77 => cond r77.1 ((Z9 r77.2 2).bind fun r80 => Z44 r80.2.b r80.2.at_ r80.2.mix r80.2.size 1 1 (IntKind.i64.wrap (1 + r80.1)) 1 0 0 ByteArray.empty [] 0) (Z44 r77.2.b r77.2.at_ r77.2.mix r77.2.size r10.1.id r10.1.room r10.1.author r10.1.kind r10.1.key r10.1.n r10.1.text l76 r10.1.time)
def Z46 (r10 : Y9j × Y9i) (l65 : List Int) (x66 : Int) (x67 : Int) (x68 : Int) (l70 : List Int) (x72 : Bool) : Option (Y9j × Y9i) := cond x72 (Z45 r10 l65 x66 x67 x68 [1]) (Z45 r10 l65 x66 x67 x68 l70)
def Z47 (r10 : Y9j × Y9i) (l65 : List Int) (x66 : Int) (x67 : Int) (x68 : Int) (l70 : List Int) : Option (Y9j × Y9i) := cond ((l70.length : Int) == 0) (Z46 r10 l65 x66 x67 x68 l70 (decide (r10.1.id > 1))) (Z46 r10 l65 x66 x67 x68 l70 false)
def Z48 (x42 : Int) (l59 : List Int) (x60 : Int) (x61 : Int) (x62 : Int) (l64 : List Int) : Option ((List Int × Int × Int × Int × List Int × Int) ⊕ ((List Int × Int × Int × Int × List Int))) := some (.inl (l59, x60, x61, x62, l64, (IntKind.i64.wrap (x42 + 1))))
def Z49 (l41 : List Int) (x42 : Int) (l48 : List Int) (x49 : Int) (x50 : Int) (x51 : Int) (x52 : Bool) : Option ((List Int × Int × Int × Int × List Int × Int) ⊕ ((List Int × Int × Int × Int × List Int))) := cond x52 ((chk (decide ((l41.length + [x42].length) * 8 ≤ 140737488355328))).bind fun u56 => Z48 x42 l48 x49 x50 x51 (l41 ++ [x42])) (Z48 x42 l48 x49 x50 x51 l41)
def Z4a (r10 : Y9j × Y9i) (l36 : List Int) (x37 : Int) (x38 : Int) (x39 : Int) (l41 : List Int) (x42 : Int) : Option ((List Int × Int × Int × Int × List Int × Int) ⊕ ((List Int × Int × Int × Int × List Int))) := cond (decide (x42 < 8)) (cond (x42 != r10.1.id) (cond (decide ((l41.length : Int) < 2)) ((Zc (Y9i.mk l36 x37 x38 x39) 4).bind fun r46 => Z49 l41 x42 r46.2.b r46.2.at_ r46.2.mix r46.2.size r46.1) (Z49 l41 x42 l36 x37 x38 x39 false)) (Z49 l41 x42 l36 x37 x38 x39 false)) (some (.inr (l36, x37, x38, x39, l41)))
def Z4b (p0 : Y9i) : Option (Y9j × Y9i) := (Z9 p0 12).bind fun r2 => (Z9 r2.2 2).bind fun r4 => (Z9 r4.2 4).bind fun r6 => (Z9 r6.2 9).bind fun r8 => (Zm r8.2 (Y9j.mk (IntKind.i64.wrap (2 + r2.1)) (IntKind.i64.wrap (1 + r4.1)) (IntKind.i64.wrap (1 + r6.1)) 0 0 0 ByteArray.empty ([] : List Int) r8.1)).bind fun r10 => (iter (fun z158 => Z4a r10 z158.1 z158.2.1 z158.2.2.1 z158.2.2.2.1 z158.2.2.2.2.1 z158.2.2.2.2.2) big (r10.2.b, r10.2.at_, r10.2.mix, r10.2.size, r10.1.prev, 1)).bind fun (y159, y160, y161, y162, y163) => Z47 r10 y159 y160 y161 y162 y163
theorem Z4c {b00 : Nat} (p0 : Y9i) (r : Y9j × Y9i) (h : Z4b p0 = some r) : Ok Tryz.prog 136 [pt b00] [oB b00 159 [cM kU8 1 p0.b, cI p0.at_, cV (.int .u64 p0.mix), cI p0.size]] (fun c qs => ∃ (v157 : Value), c = C.agg [cI r.1.id, cI r.1.room, cI r.1.author, cI r.1.kind, cI r.1.key, cI r.1.n, C.str r.1.text, cV v157, cI r.1.time] ∧ qs = [oA v157 2 kI64 1 r.1.prev, oB b00 159 [cM kU8 1 r.2.b, cI r.2.at_, cV (.int .u64 r.2.mix), cI r.2.size]]) := by
 refine Ok.of_body (rs := [.cell 2 42]) Tryz.func136 rfl rfl rfl rfl rfl fun X => ?_
 unfold Z4b at h
 refine zw ?_
 refine al fun b1 => ?_
 refine zw ?_
 refine ob' h fun r2 g3 h => ?_
 refine Ops.hd (ns := [1]) rfl rfl (Y28 (Za p0 12 _ g3) rfl rfl) ?_
 refine zw ?_
 refine ob' h fun r4 g5 h => ?_
 refine Ops.hd (ns := [0]) rfl rfl (Y28 (Za r2.2 2 _ g5) rfl rfl) ?_
 refine zw ?_
 refine ob' h fun r6 g7 h => ?_
 refine Ops.hd (ns := [0]) rfl rfl (Y28 (Za r4.2 4 _ g7) rfl rfl) ?_
 refine zw ?_
 refine ob' h fun r8 g9 h => ?_
 refine Ops.hd (ns := [0]) rfl rfl (Y28 (Za r6.2 9 _ g9) rfl rfl) ?_
 refine Ops.v rfl (Y3k (ds := [cI (IntKind.i64.wrap (2 + r2.1)), cI (IntKind.i64.wrap (1 + r4.1)), cI (IntKind.i64.wrap (1 + r6.1)), cI 0, cI 0, cI 0, C.str ByteArray.empty, cV s0, cI r8.1]) Yat Yah (Y4g rfl rfl) (.one rfl (One.val rfl) rfl rfl (.one rfl (One.val rfl) rfl rfl (.one rfl (One.val rfl) rfl rfl (.one rfl (One.val rfl) rfl rfl .nil)))) rfl) ?_
 refine ob' h fun r10 g11 h => ?_
 refine Ops.ghost (Y25.nil 2 kI64 1) ?_
 refine Ops.h (ns := [1, 0]) rfl rfl (Y27 (Zn r8.2 (Y9j.mk (IntKind.i64.wrap (2 + r2.1)) (IntKind.i64.wrap (1 + r4.1)) (IntKind.i64.wrap (1 + r6.1)) 0 0 0 ByteArray.empty ([] : List Int) r8.1) _ g11) rfl rfl) ?_
 rintro _ _ ⟨_, ⟨v12, rfl, rfl⟩, rfl⟩
 refine al fun b13 => ?_
 refine Ops.sA Yaq.h rfl rfl rfl inferInstance rfl ?_
 refine Ops.nil ?_
 refine AW.seq ?_
 refine AW.cut (τ := List Int × Int × Int × Int × List Int × Value) (fun (l65, x66, x67, x68, l70, v69) => ⟨[(0, pt b00), (2, pt b1), (3, pt b13)], [oB b00 159 [cM kU8 1 l65, cI x66, cV (.int .u64 x67), cI x68], oB b13 42 [cI r10.1.id, cI r10.1.room, cI r10.1.author, cI r10.1.kind, cI r10.1.key, cI r10.1.n, C.str r10.1.text, cV v69, cI r10.1.time], oA v69 2 kI64 1 l70, oB b1 42 [cI 0, cI 0, cI 0, cI 0, cI 0, cI 0, C.str ByteArray.empty, cV s0, cI 0]]⟩) (fun (l65, x66, x67, x68, l70, v69) => Z47 r10 l65 x66 x67 x68 l70 = some r) ?_ ?_
 ·
  refine zw ?_
  refine ob' h fun o164 g165 q166 => ?_
  refine AW.loop (τ := List Int × Int × Int × Int × List Int × Int × Value) (x := (r10.2.b, r10.2.at_, r10.2.mix, r10.2.size, r10.1.prev, 1, v12)) (fun (l36, x37, x38, x39, l41, x42, v40) => ⟨[(0, pt b00), (2, pt b1), (3, pt b13), (4, cI x42)], [oB b00 159 [cM kU8 1 l36, cI x37, cV (.int .u64 x38), cI x39], oB b13 42 [cI r10.1.id, cI r10.1.room, cI r10.1.author, cI r10.1.kind, cI r10.1.key, cI r10.1.n, C.str r10.1.text, cV v40, cI r10.1.time], oA v40 2 kI64 1 l41, oB b1 42 [cI 0, cI 0, cI 0, cI 0, cI 0, cI 0, C.str ByteArray.empty, cV s0, cI 0]]⟩) (fun k (l36, x37, x38, x39, l41, x42, v40) => iter (fun z158 => Z4a r10 z158.1 z158.2.1 z158.2.2.1 z158.2.2.2.1 z158.2.2.2.2.1 z158.2.2.2.2.2) k (l36, x37, x38, x39, l41, x42) = some o164) g165 (Y25.both (ns := [2, 0, 0, 0]) rfl rfl) ?_
  rintro k ⟨l36, x37, x38, x39, l41, x42, v40⟩ i168
  refine Y4f (show iter (fun z158 => Z4a r10 z158.1 z158.2.1 z158.2.2.1 z158.2.2.2.1 z158.2.2.2.2.1 z158.2.2.2.2.2) k (l36, x37, x38, x39, l41, x42) = some o164 from i168) fun k167 y169 hlt_k167 h h170 => ?_
  replace h : Z4a r10 l36 x37 x38 x39 l41 x42 = some y169 := h
  unfold Z4a at h
  refine zw ?_
  refine cnd h (fun hb43 h => ?_) fun hb43 h => ?_
  ·
   refine AW.ct hb43 rfl ?_
   refine AW.skip ?_
   refine AW.seq ?_
   refine AW.cut (τ := List Int × Int × Int × Int × List Int × Value) (fun (l59, x60, x61, x62, l64, v63) => ⟨[(0, pt b00), (2, pt b1), (3, pt b13), (4, cI x42)], [oB b00 159 [cM kU8 1 l59, cI x60, cV (.int .u64 x61), cI x62], oB b13 42 [cI r10.1.id, cI r10.1.room, cI r10.1.author, cI r10.1.kind, cI r10.1.key, cI r10.1.n, C.str r10.1.text, cV v63, cI r10.1.time], oA v63 2 kI64 1 l64, oB b1 42 [cI 0, cI 0, cI 0, cI 0, cI 0, cI 0, C.str ByteArray.empty, cV s0, cI 0]]⟩) (fun (l59, x60, x61, x62, l64, v63) => Z48 x42 l59 x60 x61 x62 l64 = some y169) ?_ ?_
   ·
    refine AW.block ?_
    refine AW.seq ?_
    refine AW.cut (τ := List Int × Int × Int × Int × Bool) (fun (l48, x49, x50, x51, x52) => ⟨[(0, pt b00), (2, pt b1), (3, pt b13), (4, cI x42), (36, C.bool x52)], [oB b00 159 [cM kU8 1 l48, cI x49, cV (.int .u64 x50), cI x51], oB b1 42 [cI 0, cI 0, cI 0, cI 0, cI 0, cI 0, C.str ByteArray.empty, cV s0, cI 0], oB b13 42 [cI r10.1.id, cI r10.1.room, cI r10.1.author, cI r10.1.kind, cI r10.1.key, cI r10.1.n, C.str r10.1.text, cV v40, cI r10.1.time], oA v40 2 kI64 1 l41]⟩) (fun (l48, x49, x50, x51, x52) => Z49 l41 x42 l48 x49 x50 x51 x52 = some y169) ?_ ?_
    ·
     refine zw ?_
     refine cnd h (fun hb44 h => ?_) fun hb44 h => ?_
     ·
      refine zw ?_
      refine cnd h (fun hb45 h => ?_) fun hb45 h => ?_
      ·
       refine zw ?_
       refine ob' h fun r46 g47 h => ?_
       refine Ops.ghd (ns := [0]) rfl rfl rfl rfl hb45 rfl (Y28 ((Zd (Y9i.mk l36 x37 x38 x39) 4).h _ _ g47) rfl rfl) ?_
       refine zw ?_
       exact ⟨(r46.2.b, r46.2.at_, r46.2.mix, r46.2.size, r46.1), h, Y25.both (ns := [0, 2, 0, 0]) rfl rfl⟩
      refine zw ?_
      exact ⟨(l36, x37, x38, x39, false), h, Y25.both (ns := [0, 2, 0, 0]) rfl rfl⟩
     refine zw ?_
     exact ⟨(l36, x37, x38, x39, false), h, Y25.both (ns := [0, 2, 0, 0]) rfl rfl⟩
    rintro ⟨l48, x49, x50, x51, x52⟩ h
    replace h : Z49 l41 x42 l48 x49 x50 x51 x52 = some y169 := h
    unfold Z49 at h
    refine cnd h (fun hb53 h => ?_) fun hb53 h => ?_
    ·
     refine AW.ct hb53 rfl ?_
     refine zw ?_
     refine Ops.h (ns := []) rfl rfl (Y3l (k := kI64) (ys := [x42]) Yai (.one rfl (One.val rfl) rfl rfl .nil) rfl rfl rfl) ?_
     rintro _ _ ⟨b54, rfl, rfl⟩
     refine ob' h fun u56 c55 h => ?_
     refine Ops.h (ns := [4, 0]) rfl rfl (Y34 Yai rfl rfl (Wo (Y45 c55)) (Y49 (by decide) c55) rfl) ?_
     rintro _ _ ⟨v57, rfl, rfl⟩
     refine Ops.v rfl (Y1f Yaw.h rfl rfl) ?_
     refine Ops.learn (Sim.arr_one (p := 0) rfl) fun n58 => ?_
     refine zw ?_
     exact ⟨(l48, x49, x50, x51, (l41 ++ [x42]), v57), h, Y25.both (ns := [2, 0, 0, 0]) rfl rfl⟩
    refine AW.cf hb53 rfl ?_
    refine zw ?_
    exact ⟨(l48, x49, x50, x51, l41, v40), h, Y25.both (ns := [0, 1, 1, 0]) rfl rfl⟩
   rintro ⟨l59, x60, x61, x62, l64, v63⟩ h
   replace h : Z48 x42 l59 x60 x61 x62 l64 = some y169 := h
   unfold Z48 at h
   refine zw ?_
   obtain rfl := Wj h
   exact ⟨k167, (l59, x60, x61, x62, l64, (IntKind.i64.wrap (x42 + 1)), v63), hlt_k167, h170, Y25.both (ns := [0, 0, 0, 0]) rfl rfl⟩
  refine AW.cf hb43 rfl ?_
  refine AW.exit ?_
  obtain rfl := Wj h
  obtain rfl := Wj h170
  replace h := q166
  exact ⟨(l36, x37, x38, x39, l41, v40), h, Y25.both (ns := [0, 0, 0, 0]) rfl rfl⟩
 rintro ⟨l65, x66, x67, x68, l70, v69⟩ h
 replace h : Z47 r10 l65 x66 x67 x68 l70 = some r := h
 unfold Z47 at h
 refine AW.seq ?_
 refine AW.cut (τ := List Int × Value) (fun (l76, v75) => ⟨[(0, pt b00), (2, pt b1), (3, pt b13)], [oB b13 42 [cI r10.1.id, cI r10.1.room, cI r10.1.author, cI r10.1.kind, cI r10.1.key, cI r10.1.n, C.str r10.1.text, cV v75, cI r10.1.time], oA v75 2 kI64 1 l76, oB b00 159 [cM kU8 1 l65, cI x66, cV (.int .u64 x67), cI x68], oB b1 42 [cI 0, cI 0, cI 0, cI 0, cI 0, cI 0, C.str ByteArray.empty, cV s0, cI 0]]⟩) (fun (l76, v75) => Z45 r10 l65 x66 x67 x68 l76 = some r) ?_ ?_
 ·
  refine AW.seq ?_
  refine AW.cut (τ := Bool) (fun x72 => ⟨[(0, pt b00), (2, pt b1), (3, pt b13), (51, C.bool x72)], [oB b00 159 [cM kU8 1 l65, cI x66, cV (.int .u64 x67), cI x68], oB b1 42 [cI 0, cI 0, cI 0, cI 0, cI 0, cI 0, C.str ByteArray.empty, cV s0, cI 0], oB b13 42 [cI r10.1.id, cI r10.1.room, cI r10.1.author, cI r10.1.kind, cI r10.1.key, cI r10.1.n, C.str r10.1.text, cV v69, cI r10.1.time], oA v69 2 kI64 1 l70]⟩) (fun x72 => Z46 r10 l65 x66 x67 x68 l70 x72 = some r) ?_ ?_
  ·
   refine zw ?_
   refine cnd h (fun hb71 h => ?_) fun hb71 h => ?_
   ·
    refine zw ?_
    exact ⟨decide (r10.1.id > 1), h, Y25.both (ns := [0, 2, 0, 0]) rfl rfl⟩
   refine zw ?_
   exact ⟨false, h, Y25.both (ns := [0, 2, 0, 0]) rfl rfl⟩
  intro x72 h
  replace h : Z46 r10 l65 x66 x67 x68 l70 x72 = some r := h
  unfold Z46 at h
  refine cnd h (fun hb73 h => ?_) fun hb73 h => ?_
  ·
   refine AW.ct hb73 rfl ?_
   refine zw ?_
   refine Ops.h (ns := []) rfl rfl (Y3l (k := kI64) (ys := [1]) Yai (.one rfl (One.val rfl) rfl rfl .nil) rfl rfl rfl) ?_
   rintro _ _ ⟨b74, rfl, rfl⟩
   refine zw ?_
   exact ⟨([1], (sv b74 1 1)), h, Y25.both (ns := [0, 0, 0, 0]) rfl rfl⟩
  refine AW.cf hb73 rfl ?_
  refine zw ?_
  exact ⟨(l70, v69), h, Y25.both (ns := [2, 2, 0, 0]) rfl rfl⟩
 rintro ⟨l76, v75⟩ h
 replace h : Z45 r10 l65 x66 x67 x68 l76 = some r := h
 unfold Z45 at h
 refine AW.seq ?_
 refine AW.cut (τ := List Int × Int × Int × Int × Int × Int × Int × Int × Int × Int × ByteArray × List Int × Int × Value) (fun (l82, x83, x84, x85, x86, x87, x88, x89, x90, x91, x92, l94, x95, v93) => ⟨[(0, pt b00), (2, pt b1), (3, pt b13)], [oB b00 159 [cM kU8 1 l82, cI x83, cV (.int .u64 x84), cI x85], oB b13 42 [cI x86, cI x87, cI x88, cI x89, cI x90, cI x91, C.str x92, cV v93, cI x95], oA v93 2 kI64 1 l94, oB b1 42 [cI 0, cI 0, cI 0, cI 0, cI 0, cI 0, C.str ByteArray.empty, cV s0, cI 0]]⟩) (fun (l82, x83, x84, x85, x86, x87, x88, x89, x90, x91, x92, l94, x95, v93) => Z44 l82 x83 x84 x85 x86 x87 x88 x89 x90 x91 x92 l94 x95 = some r) ?_ ?_
 ·
  refine zw ?_
  refine ob' h fun r77 g78 h => ?_
  refine Ops.hd (ns := [2]) rfl rfl (Y28 ((Zd (Y9i.mk l65 x66 x67 x68) 8).h _ _ g78) rfl rfl) ?_
  refine zw ?_
  refine cnd h (fun hb79 h => ?_) fun hb79 h => ?_
  ·
   refine AW.ct hb79 rfl ?_
   refine zw ?_
   refine ob' h fun r80 g81 h => ?_
   refine Ops.hd (ns := [0]) rfl rfl (Y28 (Za r77.2 2 _ g81) rfl rfl) ?_
   refine Ops.v rfl (Yx rfl rfl rfl rfl) ?_
   refine Ops.v rfl (Y3k (ds := [cI 1, cI 1, cI (IntKind.i64.wrap (1 + r80.1)), cI 1, cI 0, cI 0, C.str ByteArray.empty, cV s0, cI 0]) Yat Yah (Y4g rfl rfl) (.one rfl (One.val rfl) rfl rfl (.one rfl (One.val rfl) rfl rfl (.one rfl (One.val rfl) rfl rfl (.one rfl (One.val rfl) rfl rfl .nil)))) rfl) ?_
   refine zw ?_
   exact ⟨(r80.2.b, r80.2.at_, r80.2.mix, r80.2.size, 1, 1, (IntKind.i64.wrap (1 + r80.1)), 1, 0, 0, ByteArray.empty, [], 0, s0), h, (Y25.nil 2 kI64 1).trans (Y25.both (ns := [2, 1, 0, 1]) rfl rfl)⟩
  refine AW.cf hb79 rfl ?_
  refine zw ?_
  exact ⟨(r77.2.b, r77.2.at_, r77.2.mix, r77.2.size, r10.1.id, r10.1.room, r10.1.author, r10.1.kind, r10.1.key, r10.1.n, r10.1.text, l76, r10.1.time, v75), h, Y25.both (ns := [0, 0, 0, 0]) rfl rfl⟩
 rintro ⟨l82, x83, x84, x85, x86, x87, x88, x89, x90, x91, x92, l94, x95, v93⟩ h
 replace h : Z44 l82 x83 x84 x85 x86 x87 x88 x89 x90 x91 x92 l94 x95 = some r := h
 unfold Z44 at h
 refine AW.seq ?_
 refine AW.cut (τ := Int × Int × Int × Int × Int × ByteArray × List Int × List Int × Int × Int × Int × Value) (fun (x145, x146, x147, x148, x149, x150, l152, l153, x154, x155, x156, v151) => ⟨[(2, pt b1), (3, pt b13)], [oB b13 42 [cI x145, cI x146, cI x147, cI x148, cI x90, cI x149, C.str x150, cV v151, cI x95], oA v151 2 kI64 1 l152, oB b00 159 [cM kU8 1 l153, cI x154, cV (.int .u64 x155), cI x156], oB b1 42 [cI 0, cI 0, cI 0, cI 0, cI 0, cI 0, C.str ByteArray.empty, cV s0, cI 0]]⟩) (fun (x145, x146, x147, x148, x149, x150, l152, l153, x154, x155, x156, v151) => Z43 x90 x95 x145 x146 x147 x148 x149 x150 l152 l153 x154 x155 x156 = some r) ?_ ?_
 ·
  refine zw ?_
  refine ob' h fun r96 g97 h => ?_
  refine Ops.hd (ns := [0]) rfl rfl (Y28 ((Zd (Y9i.mk l82 x83 x84 x85) 15).h _ _ g97) rfl rfl) ?_
  refine zw ?_
  refine cnd h (fun hb98 h => ?_) fun hb98 h => ?_
  ·
   refine AW.ct hb98 rfl ?_
   refine zw ?_
   refine ob' h fun r99 g100 h => ?_
   refine Ops.hd (ns := [0]) rfl rfl (Y28 (Za r96.2 7 _ g100) rfl rfl) ?_
   refine zw ?_
   refine cnd h (fun hb101 h => ?_) fun hb101 h => ?_
   ·
    refine AW.ct hb101 rfl ?_
    refine zw ?_
    refine Ops.h (ns := []) rfl rfl (Y3l (k := kI64) (ys := [0, 1, 1000000, 1000001]) Yai (.one rfl (One.val rfl) rfl rfl (.one rfl (One.val rfl) rfl rfl (.one rfl (One.val rfl) rfl rfl (.one rfl (One.val rfl) rfl rfl .nil)))) rfl rfl rfl) ?_
    rintro _ _ ⟨b102, rfl, rfl⟩
    refine zw ?_
    refine ob' h fun r103 g104 h => ?_
    refine Ops.hd (ns := [1]) rfl rfl (Y28 (Za r99.2 4 _ g104) rfl rfl) ?_
    refine ob' h fun e105 g106 h => ?_
    refine zw ?_
    exact ⟨(e105, x87, x88, x89, x91, x92, l94, r103.2.b, r103.2.at_, r103.2.mix, r103.2.size, v93), h, Y25.both (ns := [0, 2, 0, 1]) rfl rfl⟩
   refine AW.cf hb101 rfl ?_
   refine zw ?_
   refine cnd h (fun hb107 h => ?_) fun hb107 h => ?_
   ·
    refine AW.ct hb107 rfl ?_
    refine zw ?_
    refine ob' h fun r108 g109 h => ?_
    refine Ops.hd (ns := [0]) rfl rfl (Y28 (Za r99.2 5 _ g109) rfl rfl) ?_
    refine zw ?_
    exact ⟨(x86, r108.1, x88, x89, x91, x92, l94, r108.2.b, r108.2.at_, r108.2.mix, r108.2.size, v93), h, Y25.both (ns := [0, 1, 0, 0]) rfl rfl⟩
   refine AW.cf hb107 rfl ?_
   refine zw ?_
   refine cnd h (fun hb110 h => ?_) fun hb110 h => ?_
   ·
    refine AW.ct hb110 rfl ?_
    refine zw ?_
    refine ob' h fun r111 g112 h => ?_
    refine Ops.hd (ns := [0]) rfl rfl (Y28 (Za r99.2 8 _ g112) rfl rfl) ?_
    refine zw ?_
    exact ⟨(x86, x87, r111.1, x89, x91, x92, l94, r111.2.b, r111.2.at_, r111.2.mix, r111.2.size, v93), h, Y25.both (ns := [0, 1, 0, 0]) rfl rfl⟩
   refine AW.cf hb110 rfl ?_
   refine zw ?_
   refine cnd h (fun hb113 h => ?_) fun hb113 h => ?_
   ·
    refine AW.ct hb113 rfl ?_
    refine zw ?_
    refine ob' h fun r114 g115 h => ?_
    refine Ops.hd (ns := [0]) rfl rfl (Y28 (Za r99.2 10 _ g115) rfl rfl) ?_
    refine zw ?_
    exact ⟨(x86, x87, x88, r114.1, x91, x92, l94, r114.2.b, r114.2.at_, r114.2.mix, r114.2.size, v93), h, Y25.both (ns := [0, 1, 0, 0]) rfl rfl⟩
   refine AW.cf hb113 rfl ?_
   refine zw ?_
   refine cnd h (fun hb116 h => ?_) fun hb116 h => ?_
   ·
    refine AW.ct hb116 rfl ?_
    refine rD [1,2] [1] [7] [0,5,8,14,18,22,24,31] ?_
    refine zw ?_
    refine ob' h fun r130 g131 h => ?_
    refine Y3z.h (ns := [0]) rfl rfl rfl (Y28 (Za r99.2 9 _ g131) rfl rfl) ?_
    rintro _ _ ⟨rfl, rfl⟩
    refine OpsD.one ?_
    refine Y3z.h (ns := []) rfl rfl rfl (Y3l (k := kI64) (ys := [r130.1]) Yai (.one rfl (One.val rfl) rfl rfl .nil) rfl rfl rfl) ?_
    rintro _ _ ⟨b132, rfl, rfl⟩
    refine zw ?_
    refine ob' h fun u134 c133 h => ?_
    refine Y3z.h (ns := [2, 0]) rfl rfl rfl (Y34 Yai rfl rfl (Wo (Y45 c133)) (Y49 (by decide) c133) rfl) ?_
    rintro _ _ ⟨v135, rfl, rfl⟩
    refine OpsD.v rfl rfl (Y1f Yaw.h rfl rfl) ?_
    refine OpsD.learn (Sim.arr_one (p := 2) rfl) fun n136 => ?_
    refine zw ?_
    exact ⟨(x86, x87, x88, x89, x91, x92, (l94 ++ [r130.1]), r130.2.b, r130.2.at_, r130.2.mix, r130.2.size, v135), h, Y25.both (ns := [0, 1, 1, 0]) rfl rfl⟩
   refine AW.cf hb116 rfl ?_
   refine zw ?_
   refine cnd h (fun hb137 h => ?_) fun hb137 h => ?_
   ·
    refine AW.ct hb137 rfl ?_
    refine zw ?_
    refine ob' h fun r138 g139 h => ?_
    refine Ops.hd (ns := [0]) rfl rfl (Y28 (Za r99.2 3 _ g139) rfl rfl) ?_
    refine zw ?_
    refine ob' h fun u141 c140 h => ?_
    refine Ops.h (ns := []) rfl rfl (mS (k := kU8) (u := 0) c140 Yae ze_5 (Y4g rfl rfl)) ?_
    rintro _ _ ⟨b142, rfl, rfl⟩
    refine Ops.v rfl (Y76 (p := 0) Yaf un_9 (fun _ => rfl) rfl rfl rfl) ?_
    refine zw ?_
    exact ⟨(x86, x87, x88, x89, x91, (Y72 (List.replicate (Int.toNat (IntKind.i64.wrap (29 + r138.1))) 0)), l94, r138.2.b, r138.2.at_, r138.2.mix, r138.2.size, v93), h, Y25.both (ns := [0, 2, 1, 1]) rfl rfl⟩
   refine AW.cf hb137 rfl ?_
   refine zw ?_
   refine ob' h fun r143 g144 h => ?_
   refine Ops.hd (ns := [0]) rfl rfl (Y28 ((Z42 r99.2).h _ _ g144) rfl rfl) ?_
   refine zw ?_
   exact ⟨(x86, x87, x88, x89, r143.1, x92, l94, r143.2.b, r143.2.at_, r143.2.mix, r143.2.size, v93), h, Y25.both (ns := [0, 1, 0, 0]) rfl rfl⟩
  refine AW.cf hb98 rfl ?_
  refine zw ?_
  exact ⟨(x86, x87, x88, x89, x91, x92, l94, r96.2.b, r96.2.at_, r96.2.mix, r96.2.size, v93), h, Y25.both (ns := [1, 1, 0, 0]) rfl rfl⟩
 rintro ⟨x145, x146, x147, x148, x149, x150, l152, l153, x154, x155, x156, v151⟩ h
 replace h : Z43 x90 x95 x145 x146 x147 x148 x149 x150 l152 l153 x154 x155 x156 = some r := h
 unfold Z43 at h
 refine zw ?_
 refine AW.ret ?_
 rw [← Wj h]
 exact finI ⟨[C.agg [cI x145, cI x146, cI x147, cI x148, cI x90, cI x149, C.str x150, cV v151, cI x95]], _, Y25.refl _, (.cons (.cell (p := 0) rfl rfl Yaq.h rfl) .nil), [2, 2], _, _, rfl, ⟨v151, rfl, rfl⟩⟩
instance Z4d (p0 : Y9i) : SpO Tryz.prog 136 (Z4b p0) (.x fun (b00 : Nat) => .d [pt b00] [oB b00 159 [cM kU8 1 p0.b, cI p0.at_, cV (.int .u64 p0.mix), cI p0.size]] fun r => .x fun (v157 : Value) => .d (C.agg [cI r.1.id, cI r.1.room, cI r.1.author, cI r.1.kind, cI r.1.key, cI r.1.n, C.str r.1.text, cV v157, cI r.1.time]) [oA v157 2 kI64 1 r.1.prev, oB b00 159 [cM kU8 1 r.2.b, cI r.2.at_, cV (.int .u64 r.2.mix), cI r.2.size]]) := ⟨fun b00 r h => Z4c p0 r h⟩

def Z4e (p0 : Y9k) (l76 : List Y9j) (l131 : List Y9j) : Option Y9k := some (Y9k.mk p0.room l76 l131)
def Z4f (p0 : Y9k) (l107 : List Y9j) (x108 : Int) : Option ((List Y9j × Int) ⊕ ((List Y9j))) := cond (decide (x108 < (p0.parked.length : Int))) ((getI p0.parked x108).bind fun e121 => (Z39 e121).bind fun r123 => (chk (decide ((l107.length + [r123].length) * 96 ≤ 140737488355328))).bind fun u127 => some (.inl ((l107 ++ [r123]), (IntKind.i64.wrap (x108 + 1))))) (some (.inr l107))
def Z4g (p0 : Y9k) (l74 : List Y9j) (l76 : List Y9j) : Option Y9k := (iter (fun z134 => Z4f p0 z134.1 z134.2) big ([], 0)).bind fun y135 => Z4e p0 l76 y135
def Z4h (p0 : Y9k) (l49 : List Y9j) (l51 : List Y9j) (x52 : Int) : Option ((List Y9j × List Y9j × Int) ⊕ ((List Y9j × List Y9j))) := cond (decide (x52 < (p0.events.length : Int))) ((getI p0.events x52).bind fun e65 => (Z39 e65).bind fun r67 => (chk (decide ((l51.length + [r67].length) * 96 ≤ 140737488355328))).bind fun u71 => some (.inl (l49, (l51 ++ [r67]), (IntKind.i64.wrap (x52 + 1))))) (some (.inr (l49, l51)))
def Z4i (p0 : Y9k) : Option Y9k := (iter (fun z136 => Z4h p0 z136.1 z136.2.1 z136.2.2) big ([], [], 0)).bind fun (y137, y138) => Z4g p0 y137 y138
instance Z4j (p0 : Y9k) : SpO Tryz.prog 183 (Z4i p0) (.x fun (w00 : Value) => .x fun (w01 : Value) => .d [C.agg [cI p0.room, cV w00, cV w01]] [oA w00 42 Y9q 9 p0.events, oA w01 42 Y9q 9 p0.parked] fun r => .x fun (v132 : Value) => .x fun (v133 : Value) => .d (C.agg [cI r.room, cV v132, cV v133]) [oA v132 42 Y9q 9 r.events, oA v133 42 Y9q 9 r.parked, oA w00 42 Y9q 9 p0.events, oA w01 42 Y9q 9 p0.parked]) := ⟨fun w00 w01 => so Tryz.func183 rfl rfl fun r X h => gh (.q 2 (.o 0 fun b3 => .c2 (fun l74 l76 => .x fun v75 => .d [] [oA s0 42 Y9q 9 l74, oB b3 25 [cI p0.room, cV v75, cV s0], oA v75 42 Y9q 9 l76]) [1,2,3] [2,3,4,1] (.O 0 fun b3 => .l3 (fun l49 l51 x52 => .x fun v50 => .d [(4, cI x52)] [oA s0 42 Y9q 9 l49, oB b3 25 [cI p0.room, cV v50, cV s0], oA v50 42 Y9q 9 l51]) [1,2,3] [2,3,4,1] (.b (.r [0,0,1,1,1,1] [1,3,6] [11] [0,5,8,13,16,20,25,30,34,38,40,47] .z) .z)) (.o 1 fun b3 => .a 2 fun v75 => .c1 (fun l131 => .x fun v130 => .d [] [oB b3 25 [cI p0.room, cV v75, cV v130], oA v130 42 Y9q 9 l131]) [2,3] [6,0,2,4,5] (.O 1 fun b3 => .A 2 fun v75 => .l2 (fun l107 x108 => .x fun v106 => .d [(5, cI x108)] [oB b3 25 [cI p0.room, cV v75, cV v106], oA v106 42 Y9q 9 l107]) [1,2,3] [3,4,5,6,0,2] (.b (.r [0,1,1,1,1,1,1] [1,3,6] [11] [0,5,8,13,16,20,25,30,34,38,40,47] .z) .z)) .z)))⟩

end Go.Proofs.YtomachnjepgpbaaGreat
