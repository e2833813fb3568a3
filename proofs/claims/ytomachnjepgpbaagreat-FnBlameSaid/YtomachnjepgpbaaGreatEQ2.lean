/- Printed by gen.py: plain functions for Go functions, and that the walks keep to them. -/
import Derived.Test.YtomachnjepgpbaaGreatEQ1
set_option autoImplicit false
set_option linter.unusedVariables false
set_option linter.unusedSimpArgs false
set_option maxHeartbeats 8000000
set_option maxRecDepth 100000
namespace Go.Proofs.YtomachnjepgpbaaGreat
open Go Go.Abs
attribute [local irreducible] AW Ops OpsD Y3z VoK HoK GhF UsC Go.Abs.Fin PkK LenT LenL Y98 BldK FzK FzLK
def Zz (l303 : List Y9j) (l304 : List Int) (x305 : Int) (x306 : Int) (x307 : Int) : Option (List Y9j × Y9i) := some (l303, (Y9i.mk l304 x305 x306 x307))
def Z10 (l163 : List Y9j) (x164 : Int) (x216 : Int) (x225 : Int) (x239 : Int) (x240 : Int) (x241 : Int) (x243 : Int) (x244 : ByteArray) (x254 : Int) (l293 : List Int) (x294 : Int) (x295 : Int) (x296 : Int) (l297 : List Int) : Option ((List Int × Int × Int × Int × List Y9j × Int) ⊕ ((List Y9j × List Int × Int × Int × Int))) := (chk (decide ((l163.length + [(Y9j.mk x216 x239 x240 x241 x254 x243 x244 l297 x225)].length) * 96 ≤ 140737488355328))).bind fun u300 => some (.inl (l293, x294, x295, x296, (l163 ++ [(Y9j.mk x216 x239 x240 x241 x254 x243 x244 l297 x225)]), (IntKind.i64.wrap (x164 + 1))))
def Z11 (l163 : List Y9j) (x164 : Int) (x216 : Int) (x225 : Int) (x239 : Int) (x240 : Int) (x241 : Int) (x243 : Int) (x244 : ByteArray) (x254 : Int) (l273 : List Int) (e276 : Y9j) (l283 : List Int) (x284 : Int) (x285 : Int) (x286 : Int) (x287 : Bool) : Option ((List Int × Int × Int × Int × List Y9j × Int) ⊕ ((List Y9j × List Int × Int × Int × Int))) := cond x287 ((Zx l273 e276.id).bind fun r291 => Z10 l163 x164 x216 x225 x239 x240 x241 x243 x244 x254 l283 x284 x285 x286 r291) (Z10 l163 x164 x216 x225 x239 x240 x241 x243 x244 x254 l283 x284 x285 x286 l273)
def Z12 (l163 : List Y9j) (x164 : Int) (x216 : Int) (x225 : Int) (x239 : Int) (x240 : Int) (x241 : Int) (x243 : Int) (x244 : ByteArray) (x254 : Int) (l268 : List Int) (x269 : Int) (x270 : Int) (x271 : Int) (l273 : List Int) : Option ((List Int × Int × Int × Int × List Y9j × Int) ⊕ ((List Y9j × List Int × Int × Int × Int))) := (Z9 (Y9i.mk l268 x269 x270 x271) (l163.length : Int)).bind fun r274 => (getI l163 r274.1).bind fun e276 => (Zc r274.2 3).bind fun r278 => cond r278.1 ((getI l273 0).bind fun e281 => Z11 l163 x164 x216 x225 x239 x240 x241 x243 x244 x254 l273 e276 r278.2.b r278.2.at_ r278.2.mix r278.2.size (e276.id != e281)) (Z11 l163 x164 x216 x225 x239 x240 x241 x243 x244 x254 l273 e276 r278.2.b r278.2.at_ r278.2.mix r278.2.size false)
def Z13 (l163 : List Y9j) (x164 : Int) (e166 : Y9j) (x216 : Int) (x225 : Int) (x239 : Int) (x240 : Int) (x241 : Int) (x243 : Int) (x244 : ByteArray) (l250 : List Int) (x251 : Int) (x252 : Int) (x253 : Int) (x254 : Int) : Option ((List Int × Int × Int × Int × List Y9j × Int) ⊕ ((List Y9j × List Int × Int × Int × Int))) := (Zc (Y9i.mk l250 x251 x252 x253) 3).bind fun r256 => cond r256.1 ((Z9 r256.2 e166.id).bind fun r259 => (getI [(IntKind.i64.wrap (1 + r259.1))] 0).bind fun e262 => (Zr l163 e262).bind fun r264 => cond (decide (r264 < 0)) (Z12 l163 x164 x216 x225 x239 x240 x241 x243 x244 x254 r259.2.b r259.2.at_ r259.2.mix r259.2.size [e166.id]) (Z12 l163 x164 x216 x225 x239 x240 x241 x243 x244 x254 r259.2.b r259.2.at_ r259.2.mix r259.2.size [(IntKind.i64.wrap (1 + r259.1))])) (Z12 l163 x164 x216 x225 x239 x240 x241 x243 x244 x254 r256.2.b r256.2.at_ r256.2.mix r256.2.size [e166.id])
def Z14 (l163 : List Y9j) (x164 : Int) (e166 : Y9j) (x216 : Int) (x225 : Int) (l235 : List Int) (x236 : Int) (x237 : Int) (x238 : Int) (x239 : Int) (x240 : Int) (x241 : Int) (x242 : Int) (x243 : Int) (x244 : ByteArray) (l246 : List Int) : Option ((List Int × Int × Int × Int × List Y9j × Int) ⊕ ((List Y9j × List Int × Int × Int × Int))) := cond (x241 == 8) ((Z9 (Y9i.mk l235 x236 x237 x238) e166.id).bind fun r248 => Z13 l163 x164 e166 x216 x225 x239 x240 x241 x243 x244 r248.2.b r248.2.at_ r248.2.mix r248.2.size (IntKind.i64.wrap (1 + r248.1))) (Z13 l163 x164 e166 x216 x225 x239 x240 x241 x243 x244 l235 x236 x237 x238 x242)
def Z15 (p1 : Int) (l163 : List Y9j) (x164 : Int) (e166 : Y9j) (x216 : Int) (x217 : Int) (x218 : Int) (x219 : Int) (x220 : Int) (x221 : Int) (x222 : ByteArray) (l224 : List Int) (x225 : Int) (l229 : List Int) (x230 : Int) (x231 : Int) (x232 : Int) (x233 : Bool) : Option ((List Int × Int × Int × Int × List Y9j × Int) ⊕ ((List Y9j × List Int × Int × Int × Int))) := cond x233 (Z14 l163 x164 e166 x216 x225 l229 x230 x231 x232 p1 (IntKind.i64.wrap (2 + x164)) 2 (IntKind.i64.wrap (2 + x164)) 1 ByteArray.empty []) (Z14 l163 x164 e166 x216 x225 l229 x230 x231 x232 x217 x218 x219 x220 x221 x222 l224)
def Z16 (p1 : Int) (l163 : List Y9j) (x164 : Int) (e166 : Y9j) (l211 : List Int) (x212 : Int) (x213 : Int) (x214 : Int) (x216 : Int) (x217 : Int) (x218 : Int) (x219 : Int) (x220 : Int) (x221 : Int) (x222 : ByteArray) (l224 : List Int) (x225 : Int) : Option ((List Int × Int × Int × Int × List Y9j × Int) ⊕ ((List Y9j × List Int × Int × Int × Int))) := cond (decide (x164 < 3)) ((Zc (Y9i.mk l211 x212 x213 x214) 3).bind fun r227 => Z15 p1 l163 x164 e166 x216 x217 x218 x219 x220 x221 x222 l224 x225 r227.2.b r227.2.at_ r227.2.mix r227.2.size (!r227.1)) (Z15 p1 l163 x164 e166 x216 x217 x218 x219 x220 x221 x222 l224 x225 l211 x212 x213 x214 false)
def Z17 (p1 : Int) (p2 : Int) (l158 : List Int) (x159 : Int) (x160 : Int) (x161 : Int) (l163 : List Y9j) (x164 : Int) : Option ((List Int × Int × Int × Int × List Y9j × Int) ⊕ ((List Y9j × List Int × Int × Int × Int))) := cond (decide (x164 < p2)) ((getI l163 (IntKind.i64.wrap ((l163.length : Int) - 1))).bind fun e166 => (Z9 (Y9i.mk l158 x159 x160 x161) 4).bind fun r195 => (Z9 r195.2 3).bind fun r198 => (Zm r198.2 (Y9j.mk (IntKind.i64.wrap (e166.id + 1)) p1 (IntKind.i64.wrap (1 + r195.1)) 0 0 0 ByteArray.empty ([] : List Int) (IntKind.i64.wrap (e166.time + r198.1)))).bind fun r200 => Z16 p1 l163 x164 e166 r200.2.b r200.2.at_ r200.2.mix r200.2.size r200.1.id r200.1.room r200.1.author r200.1.kind r200.1.key r200.1.n r200.1.text r200.1.prev r200.1.time) (some (.inr (l163, l158, x159, x160, x161)))
def Z18 (p1 : Int) (p2 : Int) (l15 : List Int) (x16 : Int) (x17 : Int) (x18 : Int) (l20 : List Y9j) : Option (List Y9j × Y9i) := (iter (fun z309 => Z17 p1 p2 z309.1 z309.2.1 z309.2.2.1 z309.2.2.2.1 z309.2.2.2.2.1 z309.2.2.2.2.2) big (l15, x16, x17, x18, l20, 0)).bind fun (y310, y311, y312, y313, y314) => Zz y310 y311 y312 y313 y314
def Z19 (p0 : Y9i) (p1 : Int) (p2 : Int) : Option (List Y9j × Y9i) := (chk (decide (([(Y9j.mk 1 p1 1 1 0 0 ByteArray.empty [] 0)].length + [(Y9j.mk 2 p1 1 2 1 1 ByteArray.empty [1] 1)].length) * 96 ≤ 140737488355328))).bind fun u5 => (Zc p0 4).bind fun r7 => cond r7.1 (Z18 p1 p2 r7.2.b r7.2.at_ r7.2.mix r7.2.size ([(Y9j.mk 1 p1 1 1 0 0 ByteArray.empty [] 0)] ++ [(Y9j.mk 2 p1 1 2 1 1 ByteArray.empty [1] 1)])) ((chk (decide ((([(Y9j.mk 1 p1 1 1 0 0 ByteArray.empty [] 0)] ++ [(Y9j.mk 2 p1 1 2 1 1 ByteArray.empty [1] 1)]).length + [(Y9j.mk 3 p1 1 5 0 1 ByteArray.empty [2] 1)].length) * 96 ≤ 140737488355328))).bind fun u13 => Z18 p1 p2 r7.2.b r7.2.at_ r7.2.mix r7.2.size (([(Y9j.mk 1 p1 1 1 0 0 ByteArray.empty [] 0)] ++ [(Y9j.mk 2 p1 1 2 1 1 ByteArray.empty [1] 1)]) ++ [(Y9j.mk 3 p1 1 5 0 1 ByteArray.empty [2] 1)]))
theorem Z1a {b00 : Nat} (p0 : Y9i) (p1 : Int) (p2 : Int) (r : List Y9j × Y9i) (h : Z19 p0 p1 p2 = some r) : Ok Tryz.prog 135 [pt b00, cI p1, cI p2] [oB b00 159 [cM kU8 1 p0.b, cI p0.at_, cV (.int .u64 p0.mix), cI p0.size]] (fun c qs => ∃ (v308 : Value), c = cV v308 ∧ qs = [oA v308 42 Y9q 9 r.1, oB b00 159 [cM kU8 1 r.2.b, cI r.2.at_, cV (.int .u64 r.2.mix), cI r.2.size]]) := by
 refine Ok.of_body (rs := [.tmp 6]) Tryz.func135 rfl rfl rfl rfl rfl fun X => ?_
 unfold Z19 at h
 refine AW.seq ?_
 refine AW.region ?_
 refine Ops.v rfl (Ys rfl rfl) ?_
 refine Ops.nil ?_
 refine AW.seq ?_
 refine AW.region ?_
 refine Ops.v rfl (Yr rfl rfl) ?_
 refine Ops.v rfl (Y3k (ds := [cI 1, cI p1, cI 1, cI 1, cI 0, cI 0, C.str ByteArray.empty, cV s0, cI 0]) Yat Yah (Y4g rfl rfl) (.one rfl (One.val rfl) rfl rfl (.one rfl (One.val rfl) rfl rfl (.one rfl (One.val rfl) rfl rfl (.one rfl (One.val rfl) rfl rfl .nil)))) rfl) ?_
 refine Ops.h (ns := []) rfl rfl (HOp.frz (t := 13) rfl (Frz.agg (fS (fS (fS (fS (fS (fS (fS (FrzL.cons (os := []) (Frz.imp (Imp.nil kI64 1)) (fS FrzL.nil)))))))))) (Y3l (k := Y9q) (ys := [(Y9j.mk 1 p1 1 1 0 0 ByteArray.empty [] 0)]) Yau (.agg rfl rfl .nil) rfl rfl rfl)) ?_
 rintro _ _ ⟨b1, rfl, rfl⟩
 refine zw ?_
 refine Ops.h (ns := []) rfl rfl (Y3l (k := kI64) (ys := [1]) Yai (.one rfl (One.val rfl) rfl rfl .nil) rfl rfl rfl) ?_
 rintro _ _ ⟨b2, rfl, rfl⟩
 refine Ops.v rfl (Y3k (ds := [cI 2, cI p1, cI 1, cI 2, cI 1, cI 1, C.str ByteArray.empty, cV (sv b2 1 1), cI 1]) Yat Yah (Y4g rfl rfl) (.one rfl (One.val rfl) rfl rfl (.one rfl (One.val rfl) rfl rfl (.one rfl (One.val rfl) rfl rfl (.one rfl (One.val rfl) rfl rfl (.one rfl (One.val rfl) rfl rfl (.one rfl (One.val rfl) rfl rfl (.one rfl (One.val rfl) rfl rfl (.one rfl (One.val rfl) rfl rfl .nil)))))))) rfl) ?_
 refine Ops.h (ns := [0]) rfl rfl (HOp.frz (t := 18) rfl (Frz.agg (fS (fS (fS (fS (fS (fS (fS (FrzL.cons (os := [_]) Frz.arr (fS FrzL.nil)))))))))) (Y3l (k := Y9q) (ys := [(Y9j.mk 2 p1 1 2 1 1 ByteArray.empty [1] 1)]) Yau (.agg rfl rfl .nil) rfl rfl rfl)) ?_
 rintro _ _ ⟨b3, rfl, rfl⟩
 refine ob' h fun u5 c4 h => ?_
 refine Ops.h (ns := [1, 0]) rfl rfl (Y34 Yau rfl rfl (Wo (Y45 c4)) (Y49 (by decide) c4) rfl) ?_
 rintro _ _ ⟨v6, rfl, rfl⟩
 refine Ops.v rfl (Ys rfl rfl) ?_
 refine Ops.nil ?_
 refine AW.seq ?_
 refine AW.cut (τ := List Int × Int × Int × Int × List Y9j × Value) (fun (l15, x16, x17, x18, l20, v19) => ⟨[(0, pt b00), (1, cI p1), (2, cI p2), (7, cV v19)], [oB b00 159 [cM kU8 1 l15, cI x16, cV (.int .u64 x17), cI x18], oA v19 42 Y9q 9 l20]⟩) (fun (l15, x16, x17, x18, l20, v19) => Z18 p1 p2 l15 x16 x17 x18 l20 = some r) ?_ ?_
 ·
  refine zw ?_
  refine ob' h fun r7 g8 h => ?_
  refine Ops.hd (ns := [1]) rfl rfl (Y28 ((Zd p0 4).h _ _ g8) rfl rfl) ?_
  refine zw ?_
  refine cnd h (fun hb9 h => ?_) fun hb9 h => ?_
  ·
   refine AW.cond rfl (fun hn => absurd ((Y46 hb9).symm.trans hn) (by decide)) (fun _ => ?_)
   refine zw ?_
   exact ⟨(r7.2.b, r7.2.at_, r7.2.mix, r7.2.size, ([(Y9j.mk 1 p1 1 1 0 0 ByteArray.empty [] 0)] ++ [(Y9j.mk 2 p1 1 2 1 1 ByteArray.empty [1] 1)]), v6), h, Y25.both (ns := [0, 0]) rfl rfl⟩
  refine AW.cond rfl (fun _ => ?_) (fun hn => absurd ((Y47 hb9).symm.trans hn) (by decide))
  refine zw ?_
  refine Ops.h (ns := []) rfl rfl (Y3l (k := kI64) (ys := [2]) Yai (.one rfl (One.val rfl) rfl rfl .nil) rfl rfl rfl) ?_
  rintro _ _ ⟨b10, rfl, rfl⟩
  refine Ops.v rfl (Y3k (ds := [cI 3, cI p1, cI 1, cI 5, cI 0, cI 1, C.str ByteArray.empty, cV (sv b10 1 1), cI 1]) Yat Yah (Y4g rfl rfl) (.one rfl (One.val rfl) rfl rfl (.one rfl (One.val rfl) rfl rfl (.one rfl (One.val rfl) rfl rfl (.one rfl (One.val rfl) rfl rfl (.one rfl (One.val rfl) rfl rfl (.one rfl (One.val rfl) rfl rfl (.one rfl (One.val rfl) rfl rfl .nil))))))) rfl) ?_
  refine Ops.h (ns := [0]) rfl rfl (HOp.frz (t := 27) rfl (Frz.agg (fS (fS (fS (fS (fS (fS (fS (FrzL.cons (os := [_]) Frz.arr (fS FrzL.nil)))))))))) (Y3l (k := Y9q) (ys := [(Y9j.mk 3 p1 1 5 0 1 ByteArray.empty [2] 1)]) Yau (.agg rfl rfl .nil) rfl rfl rfl)) ?_
  rintro _ _ ⟨b11, rfl, rfl⟩
  refine ob' h fun u13 c12 h => ?_
  refine Ops.h (ns := [2, 0]) rfl rfl (Y34 Yau rfl rfl (Wo (Y45 c12)) (Y49 (by decide) c12) rfl) ?_
  rintro _ _ ⟨v14, rfl, rfl⟩
  refine zw ?_
  exact ⟨(r7.2.b, r7.2.at_, r7.2.mix, r7.2.size, (([(Y9j.mk 1 p1 1 1 0 0 ByteArray.empty [] 0)] ++ [(Y9j.mk 2 p1 1 2 1 1 ByteArray.empty [1] 1)]) ++ [(Y9j.mk 3 p1 1 5 0 1 ByteArray.empty [2] 1)]), v14), h, Y25.both (ns := [1, 0]) rfl rfl⟩
 rintro ⟨l15, x16, x17, x18, l20, v19⟩ h
 replace h : Z18 p1 p2 l15 x16 x17 x18 l20 = some r := h
 unfold Z18 at h
 refine AW.seq ?_
 refine AW.cut (τ := List Y9j × List Int × Int × Int × Int × Value) (fun (l303, l304, x305, x306, x307, v302) => ⟨[(7, cV v302)], [oA v302 42 Y9q 9 l303, oB b00 159 [cM kU8 1 l304, cI x305, cV (.int .u64 x306), cI x307]]⟩) (fun (l303, l304, x305, x306, x307, v302) => Zz l303 l304 x305 x306 x307 = some r) ?_ ?_
 ·
  refine zw ?_
  refine ob' h fun o315 g316 q317 => ?_
  refine AW.loop (τ := List Int × Int × Int × Int × List Y9j × Int × Value) (x := (l15, x16, x17, x18, l20, 0, v19)) (fun (l158, x159, x160, x161, l163, x164, v162) => ⟨[(0, pt b00), (1, cI p1), (2, cI p2), (7, cV v162), (8, cI x164)], [oB b00 159 [cM kU8 1 l158, cI x159, cV (.int .u64 x160), cI x161], oA v162 42 Y9q 9 l163]⟩) (fun k (l158, x159, x160, x161, l163, x164, v162) => iter (fun z309 => Z17 p1 p2 z309.1 z309.2.1 z309.2.2.1 z309.2.2.2.1 z309.2.2.2.2.1 z309.2.2.2.2.2) k (l158, x159, x160, x161, l163, x164) = some o315) g316 (Y25.both (ns := [0, 0]) rfl rfl) ?_
  rintro k ⟨l158, x159, x160, x161, l163, x164, v162⟩ i319
  refine Y4f (show iter (fun z309 => Z17 p1 p2 z309.1 z309.2.1 z309.2.2.1 z309.2.2.2.1 z309.2.2.2.2.1 z309.2.2.2.2.2) k (l158, x159, x160, x161, l163, x164) = some o315 from i319) fun k318 y320 hlt_k318 h h321 => ?_
  replace h : Z17 p1 p2 l158 x159 x160 x161 l163 x164 = some y320 := h
  unfold Z17 at h
  refine zw ?_
  refine cnd h (fun hb165 h => ?_) fun hb165 h => ?_
  ·
   refine AW.ct hb165 rfl ?_
   refine zw ?_
   refine ob' h fun e166 g167 h => ?_
   refine zw ?_
   refine al fun b168 => ?_
   refine Ops.sA Yaq.h rfl rfl rfl inferInstance rfl ?_
   refine Ops.nil ?_
   refine AW.seq ?_
   refine AW.cut (τ := List Int × Int × Int × Int × Int × Int × Int × Int × Int × Int × ByteArray × List Int × Int × Nat × Value) (fun (l211, x212, x213, x214, x216, x217, x218, x219, x220, x221, x222, l224, x225, b215, v223) => ⟨[(0, pt b00), (1, cI p1), (2, cI p2), (7, cV v162), (8, cI x164), (9, pt b168), (10, pt b215)], [oB b00 159 [cM kU8 1 l211, cI x212, cV (.int .u64 x213), cI x214], oB b215 42 [cI x216, cI x217, cI x218, cI x219, cI x220, cI x221, C.str x222, cV v223, cI x225], oA v223 2 kI64 1 l224, oA v162 42 Y9q 9 l163, oB b168 42 [cI e166.id, cI e166.room, cI e166.author, cI e166.kind, cI e166.key, cI e166.n, C.str e166.text, cM kI64 1 e166.prev, cI e166.time]]⟩) (fun (l211, x212, x213, x214, x216, x217, x218, x219, x220, x221, x222, l224, x225, b215, v223) => Z16 p1 l163 x164 e166 l211 x212 x213 x214 x216 x217 x218 x219 x220 x221 x222 l224 x225 = some y320) ?_ ?_
   ·
    refine AW.ghost (Y25.nil 2 kI64 1) ?_
    refine AW.regionD (L := [2, 9]) (Lt := [16]) (k := .light 0 false (.light 1 false (.light 2 true (.light 3 false (.light 4 false (.light 5 false (.light 8 false (.light 9 true (.light 10 false (.two 6 15 (.light 7 false (.two 11 15 (.light 12 false (.light 13 false (.two 14 15 (.one 15 (.late 16 (.done))) (.one 14 (.late 16 (.done)))))) (.one 11 (.light 12 false (.light 13 false (.one 14 (.late 16 (.done)))))))) (.one 6 (.light 7 false (.one 11 (.light 12 false (.light 13 false (.one 14 (.late 16 (.done)))))))))))))))))) (ns := [1, 2]) (by kernel_rfl) (by kernel_rfl) (by kernel_rfl) (by kernel_rfl) rfl ?_
    refine zw ?_
    refine ob' h fun r195 g196 h => ?_
    refine OpsD.two ?_ ?_
    ·
     refine Y3z.h (ns := [1]) rfl rfl rfl (Y28 (Za (Y9i.mk l158 x159 x160 x161) 4 _ g196) rfl rfl) ?_
     rintro _ _ ⟨rfl, rfl⟩
     refine zw ?_
     refine ob' h fun r198 g199 h => ?_
     refine OpsD.two ?_ ?_
     ·
      refine Y3z.h (ns := [0]) rfl rfl rfl (Y28 (Za r195.2 3 _ g199) rfl rfl) ?_
      rintro _ _ ⟨rfl, rfl⟩
      refine OpsD.v rfl rfl (Yx rfl rfl rfl rfl) ?_
      refine OpsD.v rfl rfl (Y3k (ds := [cI (IntKind.i64.wrap (e166.id + 1)), cI p1, cI (IntKind.i64.wrap (1 + r195.1)), cI 0, cI 0, cI 0, C.str ByteArray.empty, cV s0, cI (IntKind.i64.wrap (e166.time + r198.1))]) Yat Yah (Y4g rfl rfl) (.one rfl (One.val rfl) rfl rfl (.one rfl (One.val rfl) rfl rfl (.one rfl (One.val rfl) rfl rfl (.one rfl (One.val rfl) rfl rfl .nil)))) rfl) ?_
      refine ob' h fun r200 g201 h => ?_
      refine OpsD.two ?_ ?_
      ·
       refine Y3z.h (ns := [0, 0]) rfl rfl rfl (Y27 (Zn r198.2 (Y9j.mk (IntKind.i64.wrap (e166.id + 1)) p1 (IntKind.i64.wrap (1 + r195.1)) 0 0 0 ByteArray.empty ([] : List Int) (IntKind.i64.wrap (e166.time + r198.1))) _ g201) rfl rfl) ?_
       rintro _ _ ⟨_, ⟨v202, rfl, rfl⟩, rfl⟩
       refine zw ?_
       refine dal fun b197 => ?_
       refine zw ?_
       exact ⟨(r200.2.b, r200.2.at_, r200.2.mix, r200.2.size, r200.1.id, r200.1.room, r200.1.author, r200.1.kind, r200.1.key, r200.1.n, r200.1.text, r200.1.prev, r200.1.time, b197, v202), h, Y25.both (ns := [4, 0, 2, 1, 0]) rfl rfl⟩
      refine dal fun b197 => ?_
      refine OpsD.one ?_
      refine Y3z.h (ns := [1, 1]) rfl rfl rfl (Y27 (Zn r198.2 (Y9j.mk (IntKind.i64.wrap (e166.id + 1)) p1 (IntKind.i64.wrap (1 + r195.1)) 0 0 0 ByteArray.empty ([] : List Int) (IntKind.i64.wrap (e166.time + r198.1))) _ g201) rfl rfl) ?_
      rintro _ _ ⟨_, ⟨v202, rfl, rfl⟩, rfl⟩
      refine zw ?_
      exact ⟨(r200.2.b, r200.2.at_, r200.2.mix, r200.2.size, r200.1.id, r200.1.room, r200.1.author, r200.1.kind, r200.1.key, r200.1.n, r200.1.text, r200.1.prev, r200.1.time, b197, v202), h, Y25.both (ns := [4, 0, 2, 1, 0]) rfl rfl⟩
     refine dal fun b197 => ?_
     refine OpsD.one ?_
     refine Y3z.h (ns := [1]) rfl rfl rfl (Y28 (Za r195.2 3 _ g199) rfl rfl) ?_
     rintro _ _ ⟨rfl, rfl⟩
     refine OpsD.v rfl rfl (Yx rfl rfl rfl rfl) ?_
     refine OpsD.v rfl rfl (Y3k (ds := [cI (IntKind.i64.wrap (e166.id + 1)), cI p1, cI (IntKind.i64.wrap (1 + r195.1)), cI 0, cI 0, cI 0, C.str ByteArray.empty, cV s0, cI (IntKind.i64.wrap (e166.time + r198.1))]) Yat Yah (Y4g rfl rfl) (.one rfl (One.val rfl) rfl rfl (.one rfl (One.val rfl) rfl rfl (.one rfl (One.val rfl) rfl rfl (.one rfl (One.val rfl) rfl rfl .nil)))) rfl) ?_
     refine zw ?_
     refine ob' h fun r203 g204 h => ?_
     refine Y3z.h (ns := [0, 1]) rfl rfl rfl (Y27 (Zn r198.2 (Y9j.mk (IntKind.i64.wrap (e166.id + 1)) p1 (IntKind.i64.wrap (1 + r195.1)) 0 0 0 ByteArray.empty ([] : List Int) (IntKind.i64.wrap (e166.time + r198.1))) _ g204) rfl rfl) ?_
     rintro _ _ ⟨_, ⟨v205, rfl, rfl⟩, rfl⟩
     refine zw ?_
     exact ⟨(r203.2.b, r203.2.at_, r203.2.mix, r203.2.size, r203.1.id, r203.1.room, r203.1.author, r203.1.kind, r203.1.key, r203.1.n, r203.1.text, r203.1.prev, r203.1.time, b197, v205), h, Y25.both (ns := [4, 0, 2, 1, 0]) rfl rfl⟩
    refine dal fun b197 => ?_
    refine OpsD.one ?_
    refine Y3z.h (ns := [2]) rfl rfl rfl (Y28 (Za (Y9i.mk l158 x159 x160 x161) 4 _ g196) rfl rfl) ?_
    rintro _ _ ⟨rfl, rfl⟩
    refine zw ?_
    refine ob' h fun r206 g207 h => ?_
    refine Y3z.h (ns := [0]) rfl rfl rfl (Y28 (Za r195.2 3 _ g207) rfl rfl) ?_
    rintro _ _ ⟨rfl, rfl⟩
    refine OpsD.v rfl rfl (Yx rfl rfl rfl rfl) ?_
    refine OpsD.v rfl rfl (Y3k (ds := [cI (IntKind.i64.wrap (e166.id + 1)), cI p1, cI (IntKind.i64.wrap (1 + r195.1)), cI 0, cI 0, cI 0, C.str ByteArray.empty, cV s0, cI (IntKind.i64.wrap (e166.time + r206.1))]) Yat Yah (Y4g rfl rfl) (.one rfl (One.val rfl) rfl rfl (.one rfl (One.val rfl) rfl rfl (.one rfl (One.val rfl) rfl rfl (.one rfl (One.val rfl) rfl rfl .nil)))) rfl) ?_
    refine zw ?_
    refine ob' h fun r208 g209 h => ?_
    refine Y3z.h (ns := [0, 1]) rfl rfl rfl (Y27 (Zn r206.2 (Y9j.mk (IntKind.i64.wrap (e166.id + 1)) p1 (IntKind.i64.wrap (1 + r195.1)) 0 0 0 ByteArray.empty ([] : List Int) (IntKind.i64.wrap (e166.time + r206.1))) _ g209) rfl rfl) ?_
    rintro _ _ ⟨_, ⟨v210, rfl, rfl⟩, rfl⟩
    refine zw ?_
    exact ⟨(r208.2.b, r208.2.at_, r208.2.mix, r208.2.size, r208.1.id, r208.1.room, r208.1.author, r208.1.kind, r208.1.key, r208.1.n, r208.1.text, r208.1.prev, r208.1.time, b197, v210), h, Y25.both (ns := [4, 0, 2, 1, 0]) rfl rfl⟩
   rintro ⟨l211, x212, x213, x214, x216, x217, x218, x219, x220, x221, x222, l224, x225, b215, v223⟩ h
   replace h : Z16 p1 l163 x164 e166 l211 x212 x213 x214 x216 x217 x218 x219 x220 x221 x222 l224 x225 = some y320 := h
   unfold Z16 at h
   refine AW.seq ?_
   refine AW.cut (τ := List Int × Int × Int × Int × Int × Int × Int × Int × Int × ByteArray × List Int × Value) (fun (l235, x236, x237, x238, x239, x240, x241, x242, x243, x244, l246, v245) => ⟨[(0, pt b00), (1, cI p1), (2, cI p2), (7, cV v162), (8, cI x164), (9, pt b168), (10, pt b215)], [oB b00 159 [cM kU8 1 l235, cI x236, cV (.int .u64 x237), cI x238], oB b215 42 [cI x216, cI x239, cI x240, cI x241, cI x242, cI x243, C.str x244, cV v245, cI x225], oA v245 2 kI64 1 l246, oA v162 42 Y9q 9 l163, oB b168 42 [cI e166.id, cI e166.room, cI e166.author, cI e166.kind, cI e166.key, cI e166.n, C.str e166.text, cM kI64 1 e166.prev, cI e166.time]]⟩) (fun (l235, x236, x237, x238, x239, x240, x241, x242, x243, x244, l246, v245) => Z14 l163 x164 e166 x216 x225 l235 x236 x237 x238 x239 x240 x241 x242 x243 x244 l246 = some y320) ?_ ?_
   ·
    refine AW.seq ?_
    refine AW.cut (τ := List Int × Int × Int × Int × Bool) (fun (l229, x230, x231, x232, x233) => ⟨[(0, pt b00), (1, cI p1), (2, cI p2), (7, cV v162), (8, cI x164), (9, pt b168), (10, pt b215), (62, C.bool x233)], [oB b00 159 [cM kU8 1 l229, cI x230, cV (.int .u64 x231), cI x232], oA v162 42 Y9q 9 l163, oB b168 42 [cI e166.id, cI e166.room, cI e166.author, cI e166.kind, cI e166.key, cI e166.n, C.str e166.text, cM kI64 1 e166.prev, cI e166.time], oB b215 42 [cI x216, cI x217, cI x218, cI x219, cI x220, cI x221, C.str x222, cV v223, cI x225], oA v223 2 kI64 1 l224]⟩) (fun (l229, x230, x231, x232, x233) => Z15 p1 l163 x164 e166 x216 x217 x218 x219 x220 x221 x222 l224 x225 l229 x230 x231 x232 x233 = some y320) ?_ ?_
    ·
     refine zw ?_
     refine cnd h (fun hb226 h => ?_) fun hb226 h => ?_
     ·
      refine zw ?_
      refine ob' h fun r227 g228 h => ?_
      refine Ops.ghd (ns := [0]) rfl rfl rfl rfl hb226 rfl (Y28 ((Zd (Y9i.mk l211 x212 x213 x214) 3).h _ _ g228) rfl rfl) ?_
      refine zw ?_
      exact ⟨(r227.2.b, r227.2.at_, r227.2.mix, r227.2.size, (!r227.1)), h, Y25.both (ns := [0, 2, 2, 0, 0]) rfl rfl⟩
     refine zw ?_
     exact ⟨(l211, x212, x213, x214, false), h, Y25.both (ns := [0, 2, 2, 0, 0]) rfl rfl⟩
    rintro ⟨l229, x230, x231, x232, x233⟩ h
    replace h : Z15 p1 l163 x164 e166 x216 x217 x218 x219 x220 x221 x222 l224 x225 l229 x230 x231 x232 x233 = some y320 := h
    unfold Z15 at h
    refine cnd h (fun hb234 h => ?_) fun hb234 h => ?_
    ·
     refine AW.ct hb234 rfl ?_
     refine AW.region ?_
     refine Ops.v rfl (Y1f Yas.h rfl rfl) ?_
     refine Ops.v rfl (Y1o (p := 3) ld_2.h rfl rfl rfl rfl) ?_
     refine Ops.v rfl (Yr rfl rfl) ?_
     refine Ops.v rfl (Yr rfl rfl) ?_
     refine Ops.v rfl (Yx rfl rfl rfl rfl) ?_
     refine Ops.v rfl (Yr rfl rfl) ?_
     refine Ops.v rfl (Yx rfl rfl rfl rfl) ?_
     refine Ops.v rfl (Y1f Yav.h rfl rfl) ?_
     refine Ops.v rfl (Y1o (p := 3) ld_2.h rfl rfl rfl rfl) ?_
     refine Ops.v rfl (Y3k (ds := [cI x216, cI p1, cI (IntKind.i64.wrap (2 + x164)), cI 2, cI (IntKind.i64.wrap (2 + x164)), cI 1, C.str ByteArray.empty, cV s0, cI x225]) Yat Yah (Y4g rfl rfl) (.one rfl (One.val rfl) rfl rfl (.one rfl (One.val rfl) rfl rfl (.one rfl (One.val rfl) rfl rfl (.one rfl (One.val rfl) rfl rfl (.one rfl (One.val rfl) rfl rfl (.one rfl (One.val rfl) rfl rfl (.one rfl (One.val rfl) rfl rfl .nil))))))) rfl) ?_
     refine zw ?_
     exact ⟨(l229, x230, x231, x232, p1, (IntKind.i64.wrap (2 + x164)), 2, (IntKind.i64.wrap (2 + x164)), 1, ByteArray.empty, [], s0), h, (Y25.nil 2 kI64 1).trans (Y25.both (ns := [2, 1, 0, 0, 0]) rfl rfl)⟩
    refine AW.cf hb234 rfl ?_
    refine zw ?_
    exact ⟨(l229, x230, x231, x232, x217, x218, x219, x220, x221, x222, l224, v223), h, Y25.both (ns := [0, 2, 2, 0, 0]) rfl rfl⟩
   rintro ⟨l235, x236, x237, x238, x239, x240, x241, x242, x243, x244, l246, v245⟩ h
   replace h : Z14 l163 x164 e166 x216 x225 l235 x236 x237 x238 x239 x240 x241 x242 x243 x244 l246 = some y320 := h
   unfold Z14 at h
   refine AW.seq ?_
   refine AW.cut (τ := List Int × Int × Int × Int × Int) (fun (l250, x251, x252, x253, x254) => ⟨[(0, pt b00), (1, cI p1), (2, cI p2), (7, cV v162), (8, cI x164), (9, pt b168), (10, pt b215)], [oB b00 159 [cM kU8 1 l250, cI x251, cV (.int .u64 x252), cI x253], oB b215 42 [cI x216, cI x239, cI x240, cI x241, cI x254, cI x243, C.str x244, cV v245, cI x225], oA v162 42 Y9q 9 l163, oB b168 42 [cI e166.id, cI e166.room, cI e166.author, cI e166.kind, cI e166.key, cI e166.n, C.str e166.text, cM kI64 1 e166.prev, cI e166.time], oA v245 2 kI64 1 l246]⟩) (fun (l250, x251, x252, x253, x254) => Z13 l163 x164 e166 x216 x225 x239 x240 x241 x243 x244 l250 x251 x252 x253 x254 = some y320) ?_ ?_
   ·
    refine zw ?_
    refine cnd h (fun hb247 h => ?_) fun hb247 h => ?_
    ·
     refine AW.ct hb247 rfl ?_
     refine zw ?_
     refine ob' h fun r248 g249 h => ?_
     refine Ops.hd (ns := [0]) rfl rfl (Y28 (Za (Y9i.mk l235 x236 x237 x238) e166.id _ g249) rfl rfl) ?_
     refine zw ?_
     exact ⟨(r248.2.b, r248.2.at_, r248.2.mix, r248.2.size, (IntKind.i64.wrap (1 + r248.1))), h, Y25.both (ns := [1, 0, 1, 1, 0]) rfl rfl⟩
    refine AW.cf hb247 rfl ?_
    refine zw ?_
    exact ⟨(l235, x236, x237, x238, x242), h, Y25.both (ns := [0, 0, 1, 1, 0]) rfl rfl⟩
   rintro ⟨l250, x251, x252, x253, x254⟩ h
   replace h : Z13 l163 x164 e166 x216 x225 x239 x240 x241 x243 x244 l250 x251 x252 x253 x254 = some y320 := h
   unfold Z13 at h
   refine zw ?_
   refine Ops.h (ns := []) rfl rfl (Y3l (k := kI64) (ys := [e166.id]) Yai (.one rfl (One.val rfl) rfl rfl .nil) rfl rfl rfl) ?_
   rintro _ _ ⟨b255, rfl, rfl⟩
   refine Ops.v rfl (Y1f Yaw.h rfl rfl) ?_
   refine Ops.s1 Yax.h rfl rfl on inferInstance rfl ?_
   refine Ops.nil ?_
   refine AW.seq ?_
   refine AW.cut (τ := List Int × Int × Int × Int × List Int × Value) (fun (l268, x269, x270, x271, l273, v272) => ⟨[(0, pt b00), (1, cI p1), (2, cI p2), (7, cV v162), (8, cI x164), (10, pt b215)], [oB b00 159 [cM kU8 1 l268, cI x269, cV (.int .u64 x270), cI x271], oB b215 42 [cI x216, cI x239, cI x240, cI x241, cI x254, cI x243, C.str x244, cV v272, cI x225], oA v272 2 kI64 1 l273, oA v162 42 Y9q 9 l163]⟩) (fun (l268, x269, x270, x271, l273, v272) => Z12 l163 x164 x216 x225 x239 x240 x241 x243 x244 x254 l268 x269 x270 x271 l273 = some y320) ?_ ?_
   ·
    refine zw ?_
    refine ob' h fun r256 g257 h => ?_
    refine Ops.hd (ns := [2]) rfl rfl (Y28 ((Zd (Y9i.mk l250 x251 x252 x253) 3).h _ _ g257) rfl rfl) ?_
    refine zw ?_
    refine cnd h (fun hb258 h => ?_) fun hb258 h => ?_
    ·
     refine AW.ct hb258 rfl ?_
     refine zw ?_
     refine ob' h fun r259 g260 h => ?_
     refine Ops.hd (ns := [0]) rfl rfl (Y28 (Za r256.2 e166.id _ g260) rfl rfl) ?_
     refine zw ?_
     refine Ops.h (ns := []) rfl rfl (Y3l (k := kI64) (ys := [(IntKind.i64.wrap (1 + r259.1))]) Yai (.one rfl (One.val rfl) rfl rfl .nil) rfl rfl rfl) ?_
     rintro _ _ ⟨b261, rfl, rfl⟩
     refine zw ?_
     refine ob' h fun e262 g263 h => ?_
     refine zw ?_
     refine ob' h fun r264 g265 h => ?_
     refine Ops.hd (ns := [4]) rfl rfl (Y28 (Ok.lendE ((Zs l163 e262).h _ g265) (FrzT.cons (os := [_]) Frz.arr (fT (FrzT.nil))) (Y4i.val _)) rfl rfl) ?_
     refine zw ?_
     refine cnd h (fun hb266 h => ?_) fun hb266 h => ?_
     ·
      refine AW.ct hb266 rfl ?_
      refine zw ?_
      refine Ops.h (ns := []) rfl rfl (Y3l (k := kI64) (ys := [e166.id]) Yai (.one rfl (One.val rfl) rfl rfl .nil) rfl rfl rfl) ?_
      rintro _ _ ⟨b267, rfl, rfl⟩
      refine zw ?_
      exact ⟨(r259.2.b, r259.2.at_, r259.2.mix, r259.2.size, [e166.id], (sv b267 1 1)), h, Y25.both (ns := [4, 0, 0, 0]) rfl rfl⟩
     refine AW.cf hb266 rfl ?_
     refine zw ?_
     exact ⟨(r259.2.b, r259.2.at_, r259.2.mix, r259.2.size, [(IntKind.i64.wrap (1 + r259.1))], (sv b261 1 1)), h, Y25.both (ns := [3, 1, 1, 0]) rfl rfl⟩
    refine AW.cf hb258 rfl ?_
    refine zw ?_
    exact ⟨(r256.2.b, r256.2.at_, r256.2.mix, r256.2.size, [e166.id], (sv b255 1 1)), h, Y25.both (ns := [0, 0, 0, 0]) rfl rfl⟩
   rintro ⟨l268, x269, x270, x271, l273, v272⟩ h
   replace h : Z12 l163 x164 x216 x225 x239 x240 x241 x243 x244 x254 l268 x269 x270 x271 l273 = some y320 := h
   unfold Z12 at h
   refine AW.seq ?_
   refine AW.cut (τ := List Int × Int × Int × Int × List Int) (fun (l293, x294, x295, x296, l297) => ⟨[(0, pt b00), (1, cI p1), (2, cI p2), (7, cV v162), (8, cI x164), (10, pt b215)], [oB b00 159 [cM kU8 1 l293, cI x294, cV (.int .u64 x295), cI x296], oB b215 42 [cI x216, cI x239, cI x240, cI x241, cI x254, cI x243, C.str x244, cM kI64 1 l297, cI x225], oA v162 42 Y9q 9 l163]⟩) (fun (l293, x294, x295, x296, l297) => Z10 l163 x164 x216 x225 x239 x240 x241 x243 x244 x254 l293 x294 x295 x296 l297 = some y320) ?_ ?_
   ·
    refine zw ?_
    refine ob' h fun r274 g275 h => ?_
    refine Ops.hd (ns := [0]) rfl rfl (Y28 (Za (Y9i.mk l268 x269 x270 x271) (l163.length : Int) _ g275) rfl rfl) ?_
    refine ob' h fun e276 g277 h => ?_
    refine Ops.v rfl (Y39 (p := 3) Yar.h rfl rfl rfl g277 rfl) ?_
    refine Ops.v rfl (Y3a (p := 3) Yas.h rfl rfl (Y2f g277).2.2 rfl) ?_
    refine Ops.v rfl (Y3c (p := 3) ld_2.h rfl rfl (Y2f g277).2.2 rfl rfl) ?_
    refine Ops.v rfl (Ys rfl rfl) ?_
    refine Ops.nil ?_
    refine AW.seq ?_
    refine AW.cut (τ := List Int × Int × Int × Int × Bool) (fun (l283, x284, x285, x286, x287) => ⟨[(0, pt b00), (1, cI p1), (2, cI p2), (7, cV v162), (8, cI x164), (10, pt b215), (11, cI e276.id), (123, C.bool x287)], [oB b00 159 [cM kU8 1 l283, cI x284, cV (.int .u64 x285), cI x286], oA v162 42 Y9q 9 l163, oB b215 42 [cI x216, cI x239, cI x240, cI x241, cI x254, cI x243, C.str x244, cV v272, cI x225], oA v272 2 kI64 1 l273]⟩) (fun (l283, x284, x285, x286, x287) => Z11 l163 x164 x216 x225 x239 x240 x241 x243 x244 x254 l273 e276 l283 x284 x285 x286 x287 = some y320) ?_ ?_
    ·
     refine zw ?_
     refine ob' h fun r278 g279 h => ?_
     refine Ops.hd (ns := [0]) rfl rfl (Y28 ((Zd r274.2 3).h _ _ g279) rfl rfl) ?_
     refine zw ?_
     refine cnd h (fun hb280 h => ?_) fun hb280 h => ?_
     ·
      refine zw ?_
      refine ob' h fun e281 g282 h => ?_
      refine zw ?_
      exact ⟨(r278.2.b, r278.2.at_, r278.2.mix, r278.2.size, (e276.id != e281)), h, Y25.both (ns := [0, 2, 0, 0]) rfl rfl⟩
     refine zw ?_
     exact ⟨(r278.2.b, r278.2.at_, r278.2.mix, r278.2.size, false), h, Y25.both (ns := [0, 2, 0, 0]) rfl rfl⟩
    rintro ⟨l283, x284, x285, x286, x287⟩ h
    replace h : Z11 l163 x164 x216 x225 x239 x240 x241 x243 x244 x254 l273 e276 l283 x284 x285 x286 x287 = some y320 := h
    unfold Z11 at h
    refine cnd h (fun hb288 h => ?_) fun hb288 h => ?_
    ·
     refine AW.ct hb288 rfl ?_
     refine zw ?_
     refine ob' h fun r291 g292 h => ?_
     refine Ops.hd (ns := [3]) rfl rfl (HOp.frz (t := 125) rfl Frz.arr (Y28 ((Zy _ _).h _ g292) rfl rfl)) ?_
     refine zw ?_
     exact ⟨(l283, x284, x285, x286, r291), h, Y25.both (ns := [1, 0, 0]) rfl rfl⟩
    refine AW.cf hb288 rfl ?_
    refine zw ?_
    exact ⟨(l283, x284, x285, x286, l273), h, (Y25.boxFrz (ns := [2, 2]) rfl (fS (fS (fS (fS (fS (fS (fS (FrzL.cons (os := [_]) Frz.arr (fS FrzL.nil)))))))))).trans (Y25.both (ns := [1, 0, 0]) rfl rfl)⟩
   rintro ⟨l293, x294, x295, x296, l297⟩ h
   replace h : Z10 l163 x164 x216 x225 x239 x240 x241 x243 x244 x254 l293 x294 x295 x296 l297 = some y320 := h
   unfold Z10 at h
   refine zw ?_
   refine Ops.h (ns := []) rfl rfl (Y3l (k := Y9q) (ys := [(Y9j.mk x216 x239 x240 x241 x254 x243 x244 l297 x225)]) Yau (.agg rfl rfl .nil) rfl rfl rfl) ?_
   rintro _ _ ⟨b298, rfl, rfl⟩
   refine ob' h fun u300 c299 h => ?_
   refine Ops.h (ns := [3, 0]) rfl rfl (Y34 Yau rfl rfl (Wo (Y45 c299)) (Y49 (by decide) c299) rfl) ?_
   rintro _ _ ⟨v301, rfl, rfl⟩
   refine zw ?_
   obtain rfl := Wj h
   exact ⟨k318, (l293, x294, x295, x296, (l163 ++ [(Y9j.mk x216 x239 x240 x241 x254 x243 x244 l297 x225)]), (IntKind.i64.wrap (x164 + 1)), v301), hlt_k318, h321, Y25.both (ns := [1, 0]) rfl rfl⟩
  refine AW.cf hb165 rfl ?_
  refine AW.exit ?_
  obtain rfl := Wj h
  obtain rfl := Wj h321
  replace h := q317
  exact ⟨(l163, l158, x159, x160, x161, v162), h, Y25.both (ns := [1, 0]) rfl rfl⟩
 rintro ⟨l303, l304, x305, x306, x307, v302⟩ h
 replace h : Zz l303 l304 x305 x306 x307 = some r := h
 unfold Zz at h
 refine zw ?_
 refine AW.ret ?_
 rw [← Wj h]
 exact finI ⟨[cV v302], _, Y25.refl _, (.cons (.tmp rfl) .nil), [0, 0], _, _, rfl, ⟨v302, rfl, rfl⟩⟩
instance Z1b (p0 : Y9i) (p1 : Int) (p2 : Int) : SpO Tryz.prog 135 (Z19 p0 p1 p2) (.x fun (b00 : Nat) => .d [pt b00, cI p1, cI p2] [oB b00 159 [cM kU8 1 p0.b, cI p0.at_, cV (.int .u64 p0.mix), cI p0.size]] fun r => .x fun (v308 : Value) => .d (cV v308) [oA v308 42 Y9q 9 r.1, oB b00 159 [cM kU8 1 r.2.b, cI r.2.at_, cV (.int .u64 r.2.mix), cI r.2.size]]) := ⟨fun b00 r h => Z1a p0 p1 p2 r h⟩

def Z1c (l150 : List Y9j) (l151 : List Int) (x152 : Int) (x153 : Int) (x154 : Int) : Option (List Y9j × Y9i) := some (l150, (Y9i.mk l151 x152 x153 x154))
def Z1d (l68 : List Y9j) (l73 : List Int) (x74 : Int) (x75 : Int) (x76 : Int) (x77 : Bool) : Option (List Y9j × Y9i) := cond x77 ((Z9 (Y9i.mk l73 x74 x75 x76) (l68.length : Int)).bind fun r79 => (chk (decide ((0 : Int) ≤ r79.1 ∧ r79.1 ≤ (l68.length : Int)))).bind fun u140 => (chk (decide ((0 : Int) ≤ (IntKind.i64.wrap (r79.1 + 1)) ∧ (IntKind.i64.wrap (r79.1 + 1)) ≤ (l68.length : Int)))).bind fun u142 => (chk (decide ((Int.toNat r79.1) ≤ (Int.toNat (IntKind.i64.wrap (r79.1 + 1))) ∧ (Int.toNat (IntKind.i64.wrap (r79.1 + 1))) ≤ l68.length))).bind fun u144 => Z1c (List.take (Int.toNat r79.1) l68 ++ List.drop (Int.toNat (IntKind.i64.wrap (r79.1 + 1))) l68) r79.2.b r79.2.at_ r79.2.mix r79.2.size) (Z1c l68 l73 x74 x75 x76)
def Z1e (p2 : Bool) (l63 : List Int) (x64 : Int) (x65 : Int) (x66 : Int) (l68 : List Y9j) : Option (List Y9j × Y9i) := cond p2 ((Zc (Y9i.mk l63 x64 x65 x66) 3).bind fun r70 => cond r70.1 (Z1d l68 r70.2.b r70.2.at_ r70.2.mix r70.2.size (decide ((l68.length : Int) > 1))) (Z1d l68 r70.2.b r70.2.at_ r70.2.mix r70.2.size false)) (Z1d l68 l63 x64 x65 x66 false)
def Z1f (p2 : Bool) (l45 : List Y9j) (l49 : List Int) (x50 : Int) (x51 : Int) (x52 : Int) (x53 : Bool) : Option (List Y9j × Y9i) := cond x53 ((Z9 (Y9i.mk l49 x50 x51 x52) (l45.length : Int)).bind fun r55 => (getI l45 r55.1).bind fun e57 => (chk (decide ((l45.length + [e57].length) * 96 ≤ 140737488355328))).bind fun u61 => Z1e p2 r55.2.b r55.2.at_ r55.2.mix r55.2.size (l45 ++ [e57])) (Z1e p2 l49 x50 x51 x52 l45)
def Z1g (p2 : Bool) (l41 : List Int) (x42 : Int) (x43 : Int) (x44 : Int) (l45 : List Y9j) : Option (List Y9j × Y9i) := (Zc (Y9i.mk l41 x42 x43 x44) 2).bind fun r46 => cond r46.1 (Z1f p2 l45 r46.2.b r46.2.at_ r46.2.mix r46.2.size (decide ((l45.length : Int) > 0))) (Z1f p2 l45 r46.2.b r46.2.at_ r46.2.mix r46.2.size false)
def Z1h (l21 : List Int) (x22 : Int) (x23 : Int) (x24 : Int) (l25 : List Y9j) (x26 : Int) (x28 : Bool) : Option ((List Int × Int × Int × Int × List Y9j × Int) ⊕ ((List Int × Int × Int × Int × List Y9j))) := cond x28 ((Z9 (Y9i.mk l21 x22 x23 x24) (l25.length : Int)).bind fun r30 => (Z9 r30.2 (l25.length : Int)).bind fun r32 => (getI l25 r30.1).bind fun e34 => (getI l25 r32.1).bind fun e37 => (getI (List.set l25 (Int.toNat r30.1) e37) r32.1).bind fun e39 => some (.inl (r32.2.b, r32.2.at_, r32.2.mix, r32.2.size, (List.set (List.set l25 (Int.toNat r30.1) e37) (Int.toNat r32.1) e34), (IntKind.i64.wrap (x26 - 1))))) (some (.inr (l21, x22, x23, x24, l25)))
def Z1i (l21 : List Int) (x22 : Int) (x23 : Int) (x24 : Int) (l25 : List Y9j) (x26 : Int) : Option ((List Int × Int × Int × Int × List Y9j × Int) ⊕ ((List Int × Int × Int × Int × List Y9j))) := cond (decide (x26 > 0)) (Z1h l21 x22 x23 x24 l25 x26 (decide ((l25.length : Int) > 1))) (Z1h l21 x22 x23 x24 l25 x26 false)
def Z1j (p0 : Y9i) (p1 : List Y9j) (p2 : Bool) : Option (List Y9j × Y9i) := (chk (decide ((([] : List Y9j).length + p1.length) * 96 ≤ 140737488355328))).bind fun u3 => (Z9 p0 6).bind fun r5 => (iter (fun z156 => Z1i z156.1 z156.2.1 z156.2.2.1 z156.2.2.2.1 z156.2.2.2.2.1 z156.2.2.2.2.2) big (r5.2.b, r5.2.at_, r5.2.mix, r5.2.size, (([] : List Y9j) ++ p1), r5.1)).bind fun (y157, y158, y159, y160, y161) => Z1g p2 y157 y158 y159 y160 y161
theorem Z1k {b00 : Nat} (p0 : Y9i) (p1 : List Y9j) (p2 : Bool) (r : List Y9j × Y9i) (h : Z1j p0 p1 p2 = some r) : Ok Tryz.prog 134 [pt b00, cM Y9q 9 p1, C.bool p2] [oB b00 159 [cM kU8 1 p0.b, cI p0.at_, cV (.int .u64 p0.mix), cI p0.size]] (fun c qs => ∃ (v155 : Value), c = cV v155 ∧ qs = [oA v155 42 Y9q 9 r.1, oB b00 159 [cM kU8 1 r.2.b, cI r.2.at_, cV (.int .u64 r.2.mix), cI r.2.size]]) := by
 refine Ok.of_body (rs := [.tmp 6]) Tryz.func134 rfl rfl rfl rfl rfl fun X => ?_
 unfold Z1j at h
 refine zw ?_
 refine Ops.h (ns := []) rfl rfl (Y3l (k := Y9q) (ys := ([] : List Y9j)) Yau .nil rfl rfl rfl) ?_
 rintro _ _ ⟨b1, rfl, rfl⟩
 refine zw ?_
 refine ob' h fun u3 c2 h => ?_
 refine Ops.h (ns := [0]) rfl rfl (Y33 Yau rfl rfl (Wo (Y45 c2)) (Y49 (by decide) c2) rfl) ?_
 rintro _ _ ⟨v4, rfl, rfl⟩
 refine Ops.v rfl (Ys rfl rfl) ?_
 refine Ops.nil ?_
 refine AW.seq ?_
 refine AW.cut (τ := List Int × Int × Int × Int × List Y9j) (fun (l41, x42, x43, x44, l45) => ⟨[(0, pt b00), (2, C.bool p2), (7, cV v4)], [oB b00 159 [cM kU8 1 l41, cI x42, cV (.int .u64 x43), cI x44], oA v4 42 Y9q 9 l45]⟩) (fun (l41, x42, x43, x44, l45) => Z1g p2 l41 x42 x43 x44 l45 = some r) ?_ ?_
 ·
  refine zw ?_
  refine ob' h fun r5 g6 h => ?_
  refine Ops.hd (ns := [1]) rfl rfl (Y28 (Za p0 6 _ g6) rfl rfl) ?_
  refine zw ?_
  refine ob' h fun o162 g163 q164 => ?_
  refine AW.loop (τ := List Int × Int × Int × Int × List Y9j × Int) (x := (r5.2.b, r5.2.at_, r5.2.mix, r5.2.size, (([] : List Y9j) ++ p1), r5.1)) (fun (l21, x22, x23, x24, l25, x26) => ⟨[(0, pt b00), (2, C.bool p2), (7, cV v4), (8, cI x26)], [oB b00 159 [cM kU8 1 l21, cI x22, cV (.int .u64 x23), cI x24], oA v4 42 Y9q 9 l25]⟩) (fun k (l21, x22, x23, x24, l25, x26) => iter (fun z156 => Z1i z156.1 z156.2.1 z156.2.2.1 z156.2.2.2.1 z156.2.2.2.2.1 z156.2.2.2.2.2) k (l21, x22, x23, x24, l25, x26) = some o162) g163 (Y25.both (ns := [0, 0]) rfl rfl) ?_
  rintro k ⟨l21, x22, x23, x24, l25, x26⟩ i166
  refine Y4f (show iter (fun z156 => Z1i z156.1 z156.2.1 z156.2.2.1 z156.2.2.2.1 z156.2.2.2.2.1 z156.2.2.2.2.2) k (l21, x22, x23, x24, l25, x26) = some o162 from i166) fun k165 y167 hlt_k165 h h168 => ?_
  replace h : Z1i l21 x22 x23 x24 l25 x26 = some y167 := h
  unfold Z1i at h
  refine AW.seq ?_
  refine AW.seq ?_
  refine AW.cut (τ := Bool) (fun x28 => ⟨[(0, pt b00), (2, C.bool p2), (7, cV v4), (8, cI x26), (24, C.bool x28)], [oB b00 159 [cM kU8 1 l21, cI x22, cV (.int .u64 x23), cI x24], oA v4 42 Y9q 9 l25]⟩) (fun x28 => Z1h l21 x22 x23 x24 l25 x26 x28 = some y167) ?_ ?_
  ·
   refine zw ?_
   refine cnd h (fun hb27 h => ?_) fun hb27 h => ?_
   ·
    refine zw ?_
    exact ⟨decide ((l25.length : Int) > 1), h, Y25.both (ns := [0, 0]) rfl rfl⟩
   refine zw ?_
   exact ⟨false, h, Y25.both (ns := [0, 0]) rfl rfl⟩
  intro x28 h
  replace h : Z1h l21 x22 x23 x24 l25 x26 x28 = some y167 := h
  unfold Z1h at h
  refine cnd h (fun hb29 h => ?_) fun hb29 h => ?_
  ·
   refine AW.ct hb29 rfl ?_
   refine zw ?_
   refine ob' h fun r30 g31 h => ?_
   refine Ops.hd (ns := [0]) rfl rfl (Y28 (Za (Y9i.mk l21 x22 x23 x24) (l25.length : Int) _ g31) rfl rfl) ?_
   refine zw ?_
   refine ob' h fun r32 g33 h => ?_
   refine Ops.hd (ns := [0]) rfl rfl (Y28 (Za r30.2 (l25.length : Int) _ g33) rfl rfl) ?_
   refine zw ?_
   refine ob' h fun e34 g35 h => ?_
   refine zw ?_
   refine al fun b36 => ?_
   refine zw ?_
   refine ob' h fun e37 g38 h => ?_
   refine zw ?_
   refine Ops.hd (ns := [2]) rfl rfl (Y3g (e' := e37) Yaq.h rfl rfl rfl (Y2f g35).2.2 rfl rfl) ?_
   refine zw ?_
   refine oi h fun e39 g40 h => ?_
   refine Ops.hd (ns := [0]) rfl rfl (Y3g (e' := e34) Yaq.h rfl rfl rfl (Y2f g40).2.2 rfl rfl) ?_
   refine zw ?_
   obtain rfl := Wj h
   exact ⟨k165, (r32.2.b, r32.2.at_, r32.2.mix, r32.2.size, (List.set (List.set l25 (Int.toNat r30.1) e37) (Int.toNat r32.1) e34), (IntKind.i64.wrap (x26 - 1))), hlt_k165, h168, Y25.both (ns := [2, 0]) rfl rfl⟩
  refine AW.cf hb29 rfl ?_
  refine AW.exit ?_
  obtain rfl := Wj h
  obtain rfl := Wj h168
  replace h := q164
  exact ⟨(l21, x22, x23, x24, l25), h, Y25.both (ns := [0, 0]) rfl rfl⟩
 rintro ⟨l41, x42, x43, x44, l45⟩ h
 replace h : Z1g p2 l41 x42 x43 x44 l45 = some r := h
 unfold Z1g at h
 refine AW.seq ?_
 refine AW.cut (τ := List Int × Int × Int × Int × List Y9j × Value) (fun (l63, x64, x65, x66, l68, v67) => ⟨[(0, pt b00), (2, C.bool p2), (7, cV v67)], [oB b00 159 [cM kU8 1 l63, cI x64, cV (.int .u64 x65), cI x66], oA v67 42 Y9q 9 l68]⟩) (fun (l63, x64, x65, x66, l68, v67) => Z1e p2 l63 x64 x65 x66 l68 = some r) ?_ ?_
 ·
  refine AW.seq ?_
  refine AW.cut (τ := List Int × Int × Int × Int × Bool) (fun (l49, x50, x51, x52, x53) => ⟨[(0, pt b00), (2, C.bool p2), (7, cV v4), (56, C.bool x53)], [oB b00 159 [cM kU8 1 l49, cI x50, cV (.int .u64 x51), cI x52], oA v4 42 Y9q 9 l45]⟩) (fun (l49, x50, x51, x52, x53) => Z1f p2 l45 l49 x50 x51 x52 x53 = some r) ?_ ?_
  ·
   refine zw ?_
   refine ob' h fun r46 g47 h => ?_
   refine Ops.hd (ns := [0]) rfl rfl (Y28 ((Zd (Y9i.mk l41 x42 x43 x44) 2).h _ _ g47) rfl rfl) ?_
   refine zw ?_
   refine cnd h (fun hb48 h => ?_) fun hb48 h => ?_
   ·
    refine zw ?_
    exact ⟨(r46.2.b, r46.2.at_, r46.2.mix, r46.2.size, decide ((l45.length : Int) > 0)), h, Y25.both (ns := [0, 0]) rfl rfl⟩
   refine zw ?_
   exact ⟨(r46.2.b, r46.2.at_, r46.2.mix, r46.2.size, false), h, Y25.both (ns := [0, 0]) rfl rfl⟩
  rintro ⟨l49, x50, x51, x52, x53⟩ h
  replace h : Z1f p2 l45 l49 x50 x51 x52 x53 = some r := h
  unfold Z1f at h
  refine cnd h (fun hb54 h => ?_) fun hb54 h => ?_
  ·
   refine AW.ct hb54 rfl ?_
   refine zw ?_
   refine ob' h fun r55 g56 h => ?_
   refine Ops.hd (ns := [0]) rfl rfl (Y28 (Za (Y9i.mk l49 x50 x51 x52) (l45.length : Int) _ g56) rfl rfl) ?_
   refine ob' h fun e57 g58 h => ?_
   refine zw ?_
   refine Ops.h (ns := []) rfl rfl (Y3l (k := Y9q) (ys := [e57]) Yau (.agg rfl rfl .nil) rfl rfl rfl) ?_
   rintro _ _ ⟨b59, rfl, rfl⟩
   refine ob' h fun u61 c60 h => ?_
   refine Ops.h (ns := [2, 0]) rfl rfl (Y34 Yau rfl rfl (Wo (Y45 c60)) (Y49 (by decide) c60) rfl) ?_
   rintro _ _ ⟨v62, rfl, rfl⟩
   refine zw ?_
   exact ⟨(r55.2.b, r55.2.at_, r55.2.mix, r55.2.size, (l45 ++ [e57]), v62), h, Y25.both (ns := [1, 0]) rfl rfl⟩
  refine AW.cf hb54 rfl ?_
  refine zw ?_
  exact ⟨(l49, x50, x51, x52, l45, v4), h, Y25.both (ns := [0, 0]) rfl rfl⟩
 rintro ⟨l63, x64, x65, x66, l68, v67⟩ h
 replace h : Z1e p2 l63 x64 x65 x66 l68 = some r := h
 unfold Z1e at h
 refine AW.seq ?_
 refine AW.cut (τ := List Y9j × List Int × Int × Int × Int × Value) (fun (l150, l151, x152, x153, x154, v149) => ⟨[(7, cV v149)], [oA v149 42 Y9q 9 l150, oB b00 159 [cM kU8 1 l151, cI x152, cV (.int .u64 x153), cI x154]]⟩) (fun (l150, l151, x152, x153, x154, v149) => Z1c l150 l151 x152 x153 x154 = some r) ?_ ?_
 ·
  refine AW.seq ?_
  refine AW.cut (τ := List Int × Int × Int × Int × Bool) (fun (l73, x74, x75, x76, x77) => ⟨[(0, pt b00), (7, cV v67), (76, C.bool x77)], [oB b00 159 [cM kU8 1 l73, cI x74, cV (.int .u64 x75), cI x76], oA v67 42 Y9q 9 l68]⟩) (fun (l73, x74, x75, x76, x77) => Z1d l68 l73 x74 x75 x76 x77 = some r) ?_ ?_
  ·
   refine zw ?_
   refine cnd h (fun hb69 h => ?_) fun hb69 h => ?_
   ·
    refine zw ?_
    refine ob' h fun r70 g71 h => ?_
    refine Ops.ghd (ns := [0]) rfl rfl rfl rfl hb69 rfl (Y28 ((Zd (Y9i.mk l63 x64 x65 x66) 3).h _ _ g71) rfl rfl) ?_
    refine zw ?_
    refine cnd h (fun hb72 h => ?_) fun hb72 h => ?_
    ·
     refine zw ?_
     exact ⟨(r70.2.b, r70.2.at_, r70.2.mix, r70.2.size, decide ((l68.length : Int) > 1)), h, Y25.both (ns := [0, 0]) rfl rfl⟩
    refine zw ?_
    exact ⟨(r70.2.b, r70.2.at_, r70.2.mix, r70.2.size, false), h, Y25.both (ns := [0, 0]) rfl rfl⟩
   refine zw ?_
   exact ⟨(l63, x64, x65, x66, false), h, Y25.both (ns := [0, 0]) rfl rfl⟩
  rintro ⟨l73, x74, x75, x76, x77⟩ h
  replace h : Z1d l68 l73 x74 x75 x76 x77 = some r := h
  unfold Z1d at h
  refine cnd h (fun hb78 h => ?_) fun hb78 h => ?_
  ·
   refine AW.ct hb78 rfl ?_
   refine zw ?_
   refine ob' h fun r79 g80 h => ?_
   refine Ops.hd (ns := [0]) rfl rfl (Y28 (Za (Y9i.mk l73 x74 x75 x76) (l68.length : Int) _ g80) rfl rfl) ?_
   refine zw ?_
   refine AW.regionD (L := []) (Lt := []) (k := .light 0 false (.light 1 false (.light 3 false (.light 4 false (.light 5 false (.two 2 6 (.one 6 (.one 7 (.light 8 false .done))) (.one 2 (.one 7 (.light 8 false .done))))))))) (ns := [0]) (by kernel_rfl) (by kernel_rfl) (by kernel_rfl) (by kernel_rfl) rfl ?_
   refine zw ?_
   refine ob' h fun u140 c139 h => ?_
   refine ob' h fun u142 c141 h => ?_
   refine OpsD.two ?_ ?_
   ·
    refine Y3z.v rfl rfl (Y7a (p := 1) (l := (Int.toNat r79.1)) Yar.h rfl rfl rfl (Wo (Y45 c139)) rfl rfl) ?_
    refine OpsD.one ?_
    refine Y3z.v rfl rfl (Y79 (p := 1) (l := (Int.toNat (IntKind.i64.wrap (r79.1 + 1)))) Yar.h rfl rfl rfl (Wo (Y45 c141)) rfl rfl) ?_
    refine zw ?_
    refine ob' h fun u144 c143 h => ?_
    refine Y3z.h (ns := [0]) rfl rfl rfl (Y9f Yau rfl rfl (Wo (Y45 c143)).1 (Wo (Y45 c143)).2 rfl) ?_
    rintro _ _ ⟨v145, rfl, rfl⟩
    refine zw ?_
    exact ⟨((List.take (Int.toNat r79.1) l68 ++ List.drop (Int.toNat (IntKind.i64.wrap (r79.1 + 1))) l68), r79.2.b, r79.2.at_, r79.2.mix, r79.2.size, v145), h, Y25.both (ns := [1, 0]) rfl rfl⟩
   refine Y3z.v rfl rfl (Y79 (p := 1) (l := (Int.toNat (IntKind.i64.wrap (r79.1 + 1)))) Yar.h rfl rfl rfl (Wo (Y45 c141)) rfl rfl) ?_
   refine OpsD.one ?_
   refine Y3z.v rfl rfl (Y7a (p := 1) (l := (Int.toNat r79.1)) Yar.h rfl rfl rfl (Wo (Y45 c139)) rfl rfl) ?_
   refine zw ?_
   refine ob' h fun u147 c146 h => ?_
   refine Y3z.h (ns := [0]) rfl rfl rfl (Y9f Yau rfl rfl (Wo (Y45 c146)).1 (Wo (Y45 c146)).2 rfl) ?_
   rintro _ _ ⟨v148, rfl, rfl⟩
   refine zw ?_
   exact ⟨((List.take (Int.toNat r79.1) l68 ++ List.drop (Int.toNat (IntKind.i64.wrap (r79.1 + 1))) l68), r79.2.b, r79.2.at_, r79.2.mix, r79.2.size, v148), h, Y25.both (ns := [1, 0]) rfl rfl⟩
  refine AW.cf hb78 rfl ?_
  refine zw ?_
  exact ⟨(l68, l73, x74, x75, x76, v67), h, Y25.both (ns := [1, 0]) rfl rfl⟩
 rintro ⟨l150, l151, x152, x153, x154, v149⟩ h
 replace h : Z1c l150 l151 x152 x153 x154 = some r := h
 unfold Z1c at h
 refine zw ?_
 refine AW.ret ?_
 rw [← Wj h]
 exact finI ⟨[cV v149], _, Y25.refl _, (.cons (.tmp rfl) .nil), [0, 0], _, _, rfl, ⟨v149, rfl, rfl⟩⟩
instance Z1l (p0 : Y9i) (p1 : List Y9j) (p2 : Bool) : SpO Tryz.prog 134 (Z1j p0 p1 p2) (.x fun (b00 : Nat) => .d [pt b00, cM Y9q 9 p1, C.bool p2] [oB b00 159 [cM kU8 1 p0.b, cI p0.at_, cV (.int .u64 p0.mix), cI p0.size]] fun r => .x fun (v155 : Value) => .d (cV v155) [oA v155 42 Y9q 9 r.1, oB b00 159 [cM kU8 1 r.2.b, cI r.2.at_, cV (.int .u64 r.2.mix), cI r.2.size]]) := ⟨fun b00 r h => Z1k p0 p1 p2 r h⟩

def Z1m (x2 : Bool) : Option Bool := some x2
def Z1n (p0 : Int) (p1 : Int) (p2 : Int) : Option Bool := cond (decide (p0 ≥ p1)) (Z1m (decide (p0 ≤ p2))) (Z1m false)
instance Z1o (p0 : Int) (p1 : Int) (p2 : Int) : Sp Tryz.prog 160 [cI p0, cI p1, cI p2] (Z1n p0 p1 p2) (fun r => C.bool r) := Sp.of (so Tryz.func160 rfl rfl fun r X h => gh (.q 1 (.c1 (fun x2 => .d [(6, C.bool x2)] []) [] [] .z .z)))

def Z1p (p0 : Int) : Option Bool := (Z1n p0 1 1000000).bind fun r1 => some r1
instance Z1q (p0 : Int) : Sp Tryz.prog 179 [cI p0] (Z1p p0) (fun r => C.bool r) := Sp.of (so Tryz.func179 rfl rfl fun r X h => gh .z)

def Z1r (p0 : Int) : Option Bool := (Z1n p0 1 6).bind fun r1 => some r1
instance Z1s (p0 : Int) : Sp Tryz.prog 102 [cI p0] (Z1r p0) (fun r => C.bool r) := Sp.of (so Tryz.func102 rfl rfl fun r X h => gh .z)

def Z1t (p0 : Int) : Option Bool := (Z1n p0 0 1000000).bind fun r1 => some r1
instance Z1u (p0 : Int) : Sp Tryz.prog 180 [cI p0] (Z1t p0) (fun r => C.bool r) := Sp.of (so Tryz.func180 rfl rfl fun r X h => gh .z)

def Z1v : Option Bool := some true
def Z1w (x14 : Int) (x25 : Bool) : Option (Int ⊕ (Bool ⊕ Unit)) := cond x25 (some (.inr (.inl false))) (some (.inl (IntKind.i64.wrap (x14 + 1))))
def Z1x (p0 : List Int) (p1 : Int) (x14 : Int) : Option (Int ⊕ (Bool ⊕ Unit)) := cond (decide (x14 < (p0.length : Int))) ((getI p0 x14).bind fun e16 => (Z1p e16).bind fun r18 => cond r18 (cond (e16 == p1) (Z1w x14 true) (cond (decide (x14 > 0)) ((getI p0 (IntKind.i64.wrap (x14 - 1))).bind fun e23 => Z1w x14 (decide (e23 ≥ e16))) (Z1w x14 false))) (Z1w x14 true)) (some (.inr (.inr ())))
def Z1y (p0 : List Int) (p1 : Int) : Option Bool := cond (decide ((p0.length : Int) > 4)) (some false) ((iter (Z1x p0 p1) big 0).bind (fun z28 => match z28 with | .inl y27 => some y27 | .inr () => Z1v))
instance Z1z (p0 : List Int) (p1 : Int) : Sp Tryz.prog 181 [cM kI64 1 p0, cI p1] (Z1y p0 p1) (fun r => C.bool r) := Sp.of (so Tryz.func181 rfl rfl fun r X h => gh (.b .z (.c0 (.d [] []) [] [] (.l1 (fun x14 => .d [(5, cI x14)] []) [0,1] [] (.b (.q 1 (.c1 (fun x25 => .d [(44, C.bool x25)] []) [0,1,5] [] (.r [] [3,10,22,26] [] [0,4,8,13,18,20,24,28,32,36,41,44,48,52,56,60,64,68,72,76,80,84,89,92,96,100,105,108,112,116] .z) .z)) .z)) .z)))

def Z20 (x5 : Bool) : Option Bool := some x5
def Z21 (x13 : Bool) : Option Bool := some x13
def Z22 (x21 : Bool) : Option Bool := some x21
def Z23 (x25 : Bool) : Option Bool := some x25
def Z24 (x31 : Bool) : Option Bool := some x31
def Z25 (x37 : Bool) : Option Bool := some x37
def Z26 (x42 : Bool) : Option Bool := some x42
def Z27 (x48 : Bool) : Option Bool := some x48
def Z28 (p0 : Y9j) : Option Bool := cond (p0.kind == 1) (cond (p0.key == 0) (cond (p0.n == 0) (Z20 (p0.text.toList == ByteArray.empty.toList)) (Z20 false)) (Z20 false)) (cond (p0.kind == 2) ((Z1r p0.key).bind fun r7 => cond r7 ((Z1n p0.n 1 4).bind fun r10 => cond r10 (Z21 (p0.text.toList == ByteArray.empty.toList)) (Z21 false)) (Z21 false)) (cond (p0.kind == 3) ((Z1r p0.key).bind fun r15 => cond r15 ((Z1n p0.n 0 100).bind fun r18 => cond r18 (Z22 (p0.text.toList == ByteArray.empty.toList)) (Z22 false)) (Z22 false)) (cond (p0.kind == 4) (cond (p0.key == 0) (cond (p0.n == 0) (Z23 (decide ((p0.text.size : Int) ≤ 30))) (Z23 false)) (Z23 false)) (cond (p0.kind == 5) (cond (p0.key == 0) ((Z1n p0.n 1 2).bind fun r28 => cond r28 (Z24 (p0.text.toList == ByteArray.empty.toList)) (Z24 false)) (Z24 false)) (cond (p0.kind == 6) (cond (p0.key == 0) ((Z1n p0.n 1 3).bind fun r34 => cond r34 (Z25 (p0.text.toList == ByteArray.empty.toList)) (Z25 false)) (Z25 false)) (cond (p0.kind == 7) (cond (p0.key == 0) (cond (p0.n == 0) (cond (decide ((p0.text.size : Int) ≥ 1)) (Z26 (decide ((p0.text.size : Int) ≤ 30))) (Z26 false)) (Z26 false)) (Z26 false)) (cond (p0.kind == 8) ((Z1p p0.key).bind fun r44 => cond r44 (cond (p0.n == 0) (Z27 (p0.text.toList == ByteArray.empty.toList)) (Z27 false)) (Z27 false)) (some false))))))))
instance Z29 (p0 : Y9j) : Sp Tryz.prog 182 [C.agg [cI p0.id, cI p0.room, cI p0.author, cI p0.kind, cI p0.key, cI p0.n, C.str p0.text, cM kI64 1 p0.prev, cI p0.time]] (Z28 p0) (fun r => C.bool r) := Sp.of (so Tryz.func182 rfl rfl fun r X h => gh (.r [0] [1,4,7] [] [0,5,8,12,17,20,24,29,32,36,40,44] (.b (.c1 (fun x5 => .d [(2, C.bool x5)] []) [] [] .z .z) (.b (.c1 (fun x13 => .d [(2, C.bool x13)] []) [] [] .z .z) (.b (.c1 (fun x21 => .d [(2, C.bool x21)] []) [] [] .z .z) (.b (.c1 (fun x25 => .d [(2, C.bool x25)] []) [] [] .z .z) (.b (.c1 (fun x31 => .d [(2, C.bool x31)] []) [] [] .z .z) (.b (.c1 (fun x37 => .d [(2, C.bool x37)] []) [] [] .z .z) (.b (.c1 (fun x42 => .d [(2, C.bool x42)] []) [] [] .z .z) (.b (.c1 (fun x48 => .d [(2, C.bool x48)] []) [] [] .z .z) .z))))))))))

def Z2a (x20 : Bool) : Option Bool := some x20
def Z2b (p0 : Y9j) : Option Bool := (Z1p p0.id).bind fun r2 => cond r2 ((Z1n p0.room 1 3).bind fun r5 => cond r5 ((Z1r p0.author).bind fun r8 => cond r8 ((Z1t p0.time).bind fun r11 => cond r11 ((Z1y p0.prev p0.id).bind fun r14 => cond r14 (cond ((p0.kind == 1) == ((p0.prev.length : Int) == 0)) ((Z28 p0).bind fun r18 => Z2a r18) (Z2a false)) (Z2a false)) (Z2a false)) (Z2a false)) (Z2a false)) (Z2a false)
instance Z2c (p0 : Y9j) : Sp Tryz.prog 105 [C.agg [cI p0.id, cI p0.room, cI p0.author, cI p0.kind, cI p0.key, cI p0.n, C.str p0.text, cM kI64 1 p0.prev, cI p0.time]] (Z2b p0) (fun r => C.bool r) := Sp.of (so Tryz.func105 rfl rfl fun r X h => gh (.q 1 (.c1 (fun x20 => .d [(2, C.bool x20)] []) [] [] .z .z)))

def Z2d : Option Bool := some true
def Z2e (x14 : Int) (x25 : Bool) : Option (Int ⊕ (Bool ⊕ Unit)) := cond x25 (some (.inr (.inl false))) (some (.inl (IntKind.i64.wrap (x14 + 1))))
def Z2f (p0 : List Y9j) (p1 : Int) (x14 : Int) : Option (Int ⊕ (Bool ⊕ Unit)) := cond (decide (x14 < (p0.length : Int))) ((getI p0 x14).bind fun e16 => (Z2b e16).bind fun r18 => cond r18 (cond (e16.room != p1) (Z2e x14 true) (cond (decide (x14 > 0)) ((getI p0 (IntKind.i64.wrap (x14 - 1))).bind fun e23 => Z2e x14 (decide (e23.id ≥ e16.id))) (Z2e x14 false))) (Z2e x14 true)) (some (.inr (.inr ())))
def Z2g (p0 : List Y9j) (p1 : Int) (p2 : Int) : Option Bool := cond (decide ((p0.length : Int) > p2)) (some false) ((iter (Z2f p0 p1) big 0).bind (fun z28 => match z28 with | .inl y27 => some y27 | .inr () => Z2d))
instance Z2h (p0 : List Y9j) (p1 : Int) (p2 : Int) : Sp Tryz.prog 161 [cM Y9q 9 p0, cI p1, cI p2] (Z2g p0 p1 p2) (fun r => C.bool r) := Sp.of (so Tryz.func161 rfl rfl fun r X h => gh (.b .z (.c0 (.d [] []) [] [] (.l1 (fun x14 => .d [(7, cI x14)] []) [0,1] [] (.b (.q 1 (.c1 (fun x25 => .d [(50, C.bool x25)] []) [0,1,7] [] (.r [] [3,11,24,29] [] [0,4,8,13,18,20,24,28,32,36,40,45,48,52,56,60,64,68,72,76,80,84,88,92,97,100,104,108,112,117,120,124,128] .z) .z)) .z)) .z)))

def Z2i : Option Bool := some true
def Z2j (p0 : List Y9j) (p1 : Y9j) (x8 : Int) : Option (Int ⊕ (Bool ⊕ Unit)) := cond (decide (x8 < (p1.prev.length : Int))) ((getI p1.prev x8).bind fun e10 => (Zr p0 e10).bind fun r12 => cond (decide (r12 < 0)) (some (.inr (.inl false))) (some (.inl (IntKind.i64.wrap (x8 + 1))))) (some (.inr (.inr ())))
def Z2k (p0 : List Y9j) (p1 : Y9j) : Option Bool := (iter (Z2j p0 p1) big 0).bind (fun z16 => match z16 with | .inl y15 => some y15 | .inr () => Z2i)
instance Z2l (p0 : List Y9j) (p1 : Y9j) : Sp Tryz.prog 162 [cM Y9q 9 p0, C.agg [cI p1.id, cI p1.room, cI p1.author, cI p1.kind, cI p1.key, cI p1.n, C.str p1.text, cM kI64 1 p1.prev, cI p1.time]] (Z2k p0 p1) (fun r => C.bool r) := Sp.of (so Tryz.func162 rfl rfl fun r X h => gh (.q 1 (.c0 (.d [] []) [] [] (.l1 (fun x8 => .d [(5, cI x8)] []) [0,3] [0] .z) .z)))

def Z2m (l161 : List Int) : Option (List Int) := some l161
def Z2n (x82 : Int) (l160 : List Int) : Option ((List Int × Int) ⊕ ((List Int))) := some (.inl (l160, (IntKind.i64.wrap (x82 + 1))))
def Z2o (x122 : Int) (l159 : List Int) : Option ((List Int × Int) ⊕ ((List Int))) := some (.inl (l159, (IntKind.i64.wrap (x122 + 1))))
def Z2p (l121 : List Int) (x122 : Int) (x156 : Int) (x157 : Bool) : Option ((List Int × Int) ⊕ ((List Int))) := cond x157 (Z2o x122 (List.set l121 (Int.toNat x122) (IntKind.i64.wrap (x156 + 1)))) (Z2o x122 l121)
def Z2q (x141 : Int) (x154 : Int) (x155 : Bool) : Option ((Int × Bool × Int) ⊕ ((Int × Bool))) := some (.inl (x154, x155, (IntKind.i64.wrap (x141 + 1))))
def Z2r (x139 : Int) (x141 : Int) (e149 : Int) (x152 : Bool) : Option ((Int × Bool × Int) ⊕ ((Int × Bool))) := cond (decide (e149 > x139)) (Z2q x141 e149 x152) (Z2q x141 x139 x152)
def Z2s (p0 : List Y9j) (l121 : List Int) (x122 : Int) (x139 : Int) (x140 : Bool) (x141 : Int) : Option ((Int × Bool × Int) ⊕ ((Int × Bool))) := (getI p0 x122).bind fun e142 => cond (decide (x141 < (e142.prev.length : Int))) ((getI e142.prev x141).bind fun e145 => (Zr p0 e145).bind fun r147 => (getI l121 r147).bind fun e149 => cond x140 (Z2r x139 x141 e149 (decide (e149 > 0))) (Z2r x139 x141 e149 false)) (some (.inr (x139, x140)))
def Z2t (p0 : List Y9j) (l121 : List Int) (x122 : Int) : Option ((List Int × Int) ⊕ ((List Int))) := cond (decide (x122 < (p0.length : Int))) ((getI l121 x122).bind fun e124 => cond (decide (e124 > 0)) (Z2o x122 l121) ((iter (fun z163 => Z2s p0 l121 x122 z163.1 z163.2.1 z163.2.2) big (0, true, 0)).bind fun (y164, y165) => Z2p l121 x122 y164 y165)) (some (.inr l121))
def Z2u (p0 : List Y9j) (l81 : List Int) (x82 : Int) : Option ((List Int × Int) ⊕ ((List Int))) := cond (decide (x82 < (p0.length : Int))) ((iter (fun z166 => Z2t p0 z166.1 z166.2) big (l81, 0)).bind fun y167 => Z2n x82 y167) (some (.inr l81))
def Z2v (p0 : List Y9j) : Option (List Int) := (chk (decide (0 ≤ (p0.length : Int) ∧ (p0.length : Int) * 8 ≤ 140737488355328))).bind fun u2 => (iter (fun z168 => Z2u p0 z168.1 z168.2) big ((List.replicate (Int.toNat (p0.length : Int)) 0), 0)).bind fun y169 => Z2m y169
instance Z2w (p0 : List Y9j) : SpO Tryz.prog 84 (Z2v p0) (.d [cM Y9q 9 p0] [] fun r => .x fun (v162 : Value) => .d (cV v162) [oA v162 2 kI64 1 r]) := ⟨so Tryz.func84 rfl rfl fun r X h => gh (.q 2 (.a 0 fun w0 => .c1 (fun l161 => .d [] [oA w0 2 kI64 1 l161]) [3] [] (.A 0 fun w0 => .l2 (fun l81 x82 => .d [(4, cI x82)] [oA w0 2 kI64 1 l81]) [0,3] [] (.b (.a 0 fun w0 => .c1 (fun l160 => .d [] [oA w0 2 kI64 1 l160]) [0,3,4] [] (.A 0 fun w0 => .l2 (fun l121 x122 => .d [(5, cI x122)] [oA w0 2 kI64 1 l121]) [0,3,4] [] (.b (.a 0 fun w0 => .c1 (fun l159 => .d [] [oA w0 2 kI64 1 l159]) [0,3,4,5] [] (.b .z (.q 2 (.c2 (fun x156 x157 => .d [(6, cI x156), (7, C.bool x157)] []) [0,3,4,5] [0] (.l3 (fun x139 x140 x141 => .d [(6, cI x139), (7, C.bool x140), (8, cI x141)] []) [0,3,4,5] [0] (.b (.c2 (fun x154 x155 => .d [(6, cI x154), (7, C.bool x155)] []) [0,3,4,5,8] [0] (.q 1 (.c1 (fun x152 => .d [(7, C.bool x152)] []) [0,3,4,5,6,8,9] [0] .z .z)) .z) .z)) .z))) .z) .z)) .z) .z)) .z))⟩
instance Z2w' (p0 : List Y9j) : Sp Tryz.prog 84 [cM Y9q 9 p0] (Z2v p0) (fun r => cM kI64 1 r) := ⟨fun r h => Ok.freeze ((Z2w p0).h r h) (by rintro c qs ⟨v162, rfl, rfl⟩; exact Frz.arr)⟩

def Z2x : Option Bool := some true
def Z2y (r46 : List Int) (x52 : Int) : Option (Int ⊕ (Bool ⊕ Unit)) := cond (decide (x52 < (r46.length : Int))) ((getI r46 x52).bind fun e54 => cond (e54 == 0) (some (.inr (.inl false))) (some (.inl (IntKind.i64.wrap (x52 + 1))))) (some (.inr (.inr ())))
def Z2z (p0 : Y9k) : Option Bool := (Z2v p0.events).bind fun r46 => (iter (Z2y r46) big 0).bind (fun z58 => match z58 with | .inl y57 => some y57 | .inr () => Z2x)
def Z30 (p0 : Y9k) (x39 : Int) : Option (Int ⊕ (Bool ⊕ Unit)) := cond (decide (x39 < (p0.parked.length : Int))) ((getI p0.parked x39).bind fun e41 => (Z2k p0.events e41).bind fun r43 => cond r43 (some (.inr (.inl false))) (some (.inl (IntKind.i64.wrap (x39 + 1))))) (some (.inr (.inr ())))
def Z31 (p0 : Y9k) : Option Bool := (iter (Z30 p0) big 0).bind (fun z60 => match z60 with | .inl y59 => some y59 | .inr () => Z2z p0)
def Z32 (x22 : Int) (x31 : Bool) : Option (Int ⊕ (Bool ⊕ Unit)) := cond x31 (some (.inr (.inl false))) (some (.inl (IntKind.i64.wrap (x22 + 1))))
def Z33 (p0 : Y9k) (x22 : Int) : Option (Int ⊕ (Bool ⊕ Unit)) := cond (decide (x22 < (p0.events.length : Int))) ((getI p0.events x22).bind fun e24 => (Z2k p0.events e24).bind fun r26 => cond r26 ((Zr p0.parked e24.id).bind fun r29 => Z32 x22 (decide (r29 ≥ 0))) (Z32 x22 true)) (some (.inr (.inr ())))
def Z34 (p0 : Y9k) (x10 : Bool) : Option Bool := cond x10 (some false) ((iter (Z33 p0) big 0).bind (fun z62 => match z62 with | .inl y61 => some y61 | .inr () => Z31 p0))
def Z35 (p0 : Y9k) : Option Bool := (Z1n p0.room 1 3).bind fun r2 => cond r2 ((Z2g p0.events p0.room 60).bind fun r5 => cond r5 ((Z2g p0.parked p0.room 20).bind fun r8 => Z34 p0 (!r8)) (Z34 p0 true)) (Z34 p0 true)
instance Z36 (p0 : Y9k) : Sp Tryz.prog 81 [C.agg [cI p0.room, cM Y9q 9 p0.events, cM Y9q 9 p0.parked]] (Z35 p0) (fun r => C.bool r) := Sp.of (so Tryz.func81 rfl rfl fun r X h => gh (.q 2 (.c1 (fun x10 => .d [(26, C.bool x10)] []) [1] [0] .z (.b .z (.c0 (.d [] []) [1] [0] (.l1 (fun x22 => .d [(3, cI x22)] []) [1] [0] (.b (.q 1 (.c1 (fun x31 => .d [(54, C.bool x31)] []) [1,3] [0] (.r [0] [1,3,6,11,13,17] [] [0,5,8,13,16,20,25,30,32,36,40,45,48,53,56,60,64,69,74,76,80] .z) .z)) .z)) (.c0 (.d [] []) [1] [0] (.l1 (fun x39 => .d [(4, cI x39)] []) [1] [0] (.b (.r [0] [1,3,6] [] [0,5,8,13,16,20,25,30] .z) .z)) (.q 1 (.c0 (.d [] []) [] [] (.l1 (fun x52 => .d [(6, cI x52)] []) [5] [] .z) .z))))))))

def Z37 (p0 : Int) : Option Y9l := some (Y9l.mk (Y9k.mk 0 [] []) [] p0)
instance Z38 (p0 : Int) : SpO Tryz.prog 106 (Z37 p0) (.d [cI p0] [] fun r => .x fun (v2 : Value) => .x fun (v3 : Value) => .x fun (v4 : Value) => .d (C.agg [cI r.graph.room, cV v2, cV v3, cV v4, cI r.code]) [oA v2 42 Y9q 9 r.graph.events, oA v3 42 Y9q 9 r.graph.parked, oA v4 2 kI64 1 r.added]) := ⟨so Tryz.func106 rfl rfl fun r X h => gh .z⟩
instance Z38' (p0 : Int) : Sp Tryz.prog 106 [cI p0] (Z37 p0) (fun r => C.agg [cI r.graph.room, cM Y9q 9 r.graph.events, cM Y9q 9 r.graph.parked, cM kI64 1 r.added, cI r.code]) := ⟨fun r h => Ok.freeze ((Z38 p0).h r h) (by rintro c qs ⟨v2, v3, v4, rfl, rfl⟩; exact Frz.agg (fS (FrzL.cons (os := [_]) (Frz.arr) (FrzL.cons (os := [_]) (Frz.arr) (FrzL.cons (os := [_]) (Frz.arr) (fS (FrzL.nil)))))))⟩

def Z39 (p0 : Y9j) : Option Y9j := (chk (decide ((([] : List Int).length + p0.prev.length) * 8 ≤ 140737488355328))).bind fun u5 => some (Y9j.mk p0.id p0.room p0.author p0.kind p0.key p0.n p0.text (([] : List Int) ++ p0.prev) p0.time)
instance Z3a (p0 : Y9j) : SpO Tryz.prog 173 (Z39 p0) (.d [C.agg [cI p0.id, cI p0.room, cI p0.author, cI p0.kind, cI p0.key, cI p0.n, C.str p0.text, cM kI64 1 p0.prev, cI p0.time]] [] fun r => .x fun (v8 : Value) => .d (C.agg [cI r.id, cI r.room, cI r.author, cI r.kind, cI r.key, cI r.n, C.str r.text, cV v8, cI r.time]) [oA v8 2 kI64 1 r.prev]) := ⟨so Tryz.func173 rfl rfl fun r X h => gh .z⟩
instance Z3a' (p0 : Y9j) : Sp Tryz.prog 173 [C.agg [cI p0.id, cI p0.room, cI p0.author, cI p0.kind, cI p0.key, cI p0.n, C.str p0.text, cM kI64 1 p0.prev, cI p0.time]] (Z39 p0) (fun r => C.agg [cI r.id, cI r.room, cI r.author, cI r.kind, cI r.key, cI r.n, C.str r.text, cM kI64 1 r.prev, cI r.time]) := ⟨fun r h => Ok.freeze ((Z3a p0).h r h) (by rintro c qs ⟨v8, rfl, rfl⟩; exact Frz.agg (fS (fS (fS (fS (fS (fS (fS (FrzL.cons (os := [_]) (Frz.arr) (fS (FrzL.nil)))))))))))⟩

end Go.Proofs.YtomachnjepgpbaaGreat
