/- Printed by gen.py: plain functions for Go functions, and that the walks keep to them. -/
import Derived.Test.YtomachnjepgpbaaGreatEQ7
set_option autoImplicit false
set_option linter.unusedVariables false
set_option linter.unusedSimpArgs false
set_option maxHeartbeats 8000000
set_option maxRecDepth 100000
namespace Go.Proofs.YtomachnjepgpbaaGreat
open Go Go.Abs
attribute [local irreducible] AW Ops OpsD Y3z VoK HoK GhF UsC Go.Abs.Fin PkK LenT LenL Y98 BldK FzK FzLK
def Zgq (l38 : List Int) (l260 : List (List Y9m)) (l261 : List (List Y9m)) (l262 : List Int) : Option Y9p := some (Y9p.mk l38 l260 l261 l262)
def Zgr (x152 : Int) (l257 : List (List Y9m)) (l258 : List (List Y9m)) (l259 : List Int) : Option ((List (List Y9m) × List (List Y9m) × List Int × Int) ⊕ ((List (List Y9m) × List (List Y9m) × List Int))) := some (.inl (l257, l258, l259, (IntKind.i64.wrap (x152 + 1))))
def Zgs (l149 : List (List Y9m)) (l150 : List (List Y9m)) (x152 : Int) (r156 : Int) (e158 : Y9j) (r220 : List Y9m) (e225 : List Y9m) (l241 : List Int) (x251 : Bool) : Option ((List (List Y9m) × List (List Y9m) × List Int × Int) ⊕ ((List (List Y9m) × List (List Y9m) × List Int))) := cond x251 ((Zf7 e225 (Y9m.mk e158.kind e158.key e158.id)).bind fun r253 => (getI (List.set l150 (Int.toNat r156) (([] : List Y9m) ++ e225)) r156).bind fun e255 => Zgr x152 (List.set l149 (Int.toNat r156) r220) (List.set (List.set l150 (Int.toNat r156) (([] : List Y9m) ++ e225)) (Int.toNat r156) r253) l241) (Zgr x152 (List.set l149 (Int.toNat r156) r220) (List.set l150 (Int.toNat r156) (([] : List Y9m) ++ e225)) l241)
def Zgt (l149 : List (List Y9m)) (l150 : List (List Y9m)) (x152 : Int) (r156 : Int) (e158 : Y9j) (r220 : List Y9m) (e225 : List Y9m) (l241 : List Int) : Option ((List (List Y9m) × List (List Y9m) × List Int × Int) ⊕ ((List (List Y9m) × List (List Y9m) × List Int))) := (chk (decide ((([] : List Y9m).length + e225.length) * 24 ≤ 140737488355328))).bind fun u244 => (getI l150 r156).bind fun e246 => (getI l241 r156).bind fun e248 => cond (e248 == 0) (Zgs l149 l150 x152 r156 e158 r220 e225 l241 (decide (e158.kind ≤ 6))) (Zgs l149 l150 x152 r156 e158 r220 e225 l241 false)
def Zgu (l149 : List (List Y9m)) (l150 : List (List Y9m)) (l151 : List Int) (x152 : Int) (r156 : Int) (e158 : Y9j) (r220 : List Y9m) (e225 : List Y9m) (r227 : Int) (x237 : Bool) : Option ((List (List Y9m) × List (List Y9m) × List Int × Int) ⊕ ((List (List Y9m) × List (List Y9m) × List Int))) := cond x237 ((getI (List.set l151 (Int.toNat r156) r227) r156).bind fun e239 => Zgt l149 l150 x152 r156 e158 r220 e225 (List.set (List.set l151 (Int.toNat r156) r227) (Int.toNat r156) 6)) (Zgt l149 l150 x152 r156 e158 r220 e225 (List.set l151 (Int.toNat r156) r227))
def Zgv (p0 : Y9k) (l38 : List Int) (l149 : List (List Y9m)) (l150 : List (List Y9m)) (l151 : List Int) (x152 : Int) (r156 : Int) (e158 : Y9j) (l214 : List (List Y9m)) : Option ((List (List Y9m) × List (List Y9m) × List Int × Int) ⊕ ((List (List Y9m) × List (List Y9m) × List Int))) := (Zgh p0 l38 l214).bind fun r220 => (getI l149 r156).bind fun e223 => (getI (List.set l149 (Int.toNat r156) r220) r156).bind fun e225 => (Zg1 p0 e225 e158).bind fun r227 => (getI l151 r156).bind fun e229 => (getI (List.set l151 (Int.toNat r156) r227) r156).bind fun e231 => cond (e231 == 0) (cond (e158.kind == 8) ((Zgo p0 e158.key e158.id).bind fun r235 => Zgu l149 l150 l151 x152 r156 e158 r220 e225 r227 (!r235)) (Zgu l149 l150 l151 x152 r156 e158 r220 e225 r227 false)) (Zgu l149 l150 l151 x152 r156 e158 r220 e225 r227 false)
def Zgw (p0 : Y9k) (l150 : List (List Y9m)) (e158 : Y9j) (l187 : List (List Y9m)) (x188 : Int) : Option ((List (List Y9m) × Int) ⊕ ((List (List Y9m)))) := cond (decide (x188 < (e158.prev.length : Int))) ((getI e158.prev x188).bind fun e203 => (Zr p0.events e203).bind fun r205 => (getI l150 r205).bind fun e207 => (chk (decide ((l187.length + [e207].length) * 24 ≤ 140737488355328))).bind fun u211 => some (.inl ((l187 ++ [e207]), (IntKind.i64.wrap (x188 + 1))))) (some (.inr l187))
def Zgx (p0 : Y9k) (l38 : List Int) (r42 : List Int) (l149 : List (List Y9m)) (l150 : List (List Y9m)) (l151 : List Int) (x152 : Int) : Option ((List (List Y9m) × List (List Y9m) × List Int × Int) ⊕ ((List (List Y9m) × List (List Y9m) × List Int))) := cond (decide (x152 < (p0.events.length : Int))) ((getI r42 x152).bind fun e154 => (Zr p0.events e154).bind fun r156 => (getI p0.events r156).bind fun e158 => (iter (fun z267 => Zgw p0 l150 e158 z267.1 z267.2) big (([] : List (List Y9m)), 0)).bind fun y268 => Zgv p0 l38 l149 l150 l151 x152 r156 e158 y268) (some (.inr (l149, l150, l151)))
def Zgy (p0 : Y9k) (l38 : List Int) : Option Y9p := (Zek p0).bind fun r42 => (iter (fun z269 => Zgx p0 l38 r42 z269.1 z269.2.1 z269.2.2.1 z269.2.2.2) big ((List.replicate (Int.toNat (p0.events.length : Int)) []), (List.replicate (Int.toNat (p0.events.length : Int)) []), (List.replicate (Int.toNat (p0.events.length : Int)) 0), 0)).bind fun (y270, y271, y272) => Zgq l38 y270 y271 y272
def Zgz (p0 : Y9k) : Option Y9p := (Z2v p0.events).bind fun r2 => (chk (decide (0 ≤ (p0.events.length : Int) ∧ (p0.events.length : Int) * 24 ≤ 140737488355328))).bind fun u5 => (chk (decide (0 ≤ (p0.events.length : Int) ∧ (p0.events.length : Int) * 24 ≤ 140737488355328))).bind fun u8 => (chk (decide (0 ≤ (p0.events.length : Int) ∧ (p0.events.length : Int) * 8 ≤ 140737488355328))).bind fun u11 => Zgy p0 r2
instance Zh0 (p0 : Y9k) : SpO Tryz.prog 86 (Zgz p0) (.d [C.agg [cI p0.room, cM Y9q 9 p0.events, cM Y9q 9 p0.parked]] [] fun r => .x fun (b263 : Nat) => .x fun (v264 : Value) => .x fun (v265 : Value) => .x fun (v266 : Value) => .d (pt b263) [oB b263 106 [cM kI64 1 r.depths, cV v264, cV v265, cV v266], oA v264 29 Y9t 1 r.ahead, oA v265 29 Y9t 1 r.behind, oA v266 2 kI64 1 r.code]) := ⟨so Tryz.func86 rfl rfl fun r X h => gh (.q 2 (.c1 (fun l38 => .x fun b37 => .x fun v39 => .x fun v40 => .x fun v41 => .d [(4, pt b37)] [oB b37 106 [cM kI64 1 l38, cV v39, cV v40, cV v41], oA v39 29 Y9t 1 (List.replicate (Int.toNat (p0.events.length : Int)) []), oA v40 29 Y9t 1 (List.replicate (Int.toNat (p0.events.length : Int)) []), oA v41 2 kI64 1 (List.replicate (Int.toNat (p0.events.length : Int)) 0)]) [1,3] [0] (.R [0] [1] [] (.light 0 false (.light 1 true (.light 3 false (.light 5 false (.light 7 false (.four 2 4 6 8 (.three 4 6 8 (.two 6 8 (.one 8 (.light 9 false (.one 10 (.light 11 false .done)))) (.one 6 (.light 9 false (.one 10 (.light 11 false .done))))) (.two 4 8 (.one 8 (.light 9 false (.one 10 (.light 11 false .done)))) (.one 4 (.light 9 false (.one 10 (.light 11 false .done))))) (.two 4 6 (.one 6 (.light 9 false (.one 10 (.light 11 false .done)))) (.one 4 (.light 9 false (.one 10 (.light 11 false .done)))))) (.three 2 6 8 (.two 6 8 (.one 8 (.light 9 false (.one 10 (.light 11 false .done)))) (.one 6 (.light 9 false (.one 10 (.light 11 false .done))))) (.two 2 8 (.one 8 (.light 9 false (.one 10 (.light 11 false .done)))) (.one 2 (.light 9 false (.one 10 (.light 11 false .done))))) (.two 2 6 (.one 6 (.light 9 false (.one 10 (.light 11 false .done)))) (.one 2 (.light 9 false (.one 10 (.light 11 false .done)))))) (.three 2 4 8 (.two 4 8 (.one 8 (.light 9 false (.one 10 (.light 11 false .done)))) (.one 4 (.light 9 false (.one 10 (.light 11 false .done))))) (.two 2 8 (.one 8 (.light 9 false (.one 10 (.light 11 false .done)))) (.one 2 (.light 9 false (.one 10 (.light 11 false .done))))) (.two 2 4 (.one 4 (.light 9 false (.one 10 (.light 11 false .done)))) (.one 2 (.light 9 false (.one 10 (.light 11 false .done)))))) (.three 2 4 6 (.two 4 6 (.one 6 (.light 9 false (.one 10 (.light 11 false .done)))) (.one 4 (.light 9 false (.one 10 (.light 11 false .done))))) (.two 2 6 (.one 6 (.light 9 false (.one 10 (.light 11 false .done)))) (.one 2 (.light 9 false (.one 10 (.light 11 false .done))))) (.two 2 4 (.one 4 (.light 9 false (.one 10 (.light 11 false .done)))) (.one 2 (.light 9 false (.one 10 (.light 11 false .done)))))))))))) (.H 84 (.h 3 .z))) (.q 1 (.a 1 fun v39 => .a 2 fun v40 => .a 3 fun v41 => .c3 (fun l260 l261 l262 => .d [] [oA v39 29 Y9t 1 l260, oA v40 29 Y9t 1 l261, oA v41 2 kI64 1 l262]) [4] [0] (.A 1 fun v39 => .A 2 fun v40 => .A 3 fun v41 => .l4 (fun l149 l150 l151 x152 => .d [(6, cI x152)] [oA v39 29 Y9t 1 l149, oA v40 29 Y9t 1 l150, oA v41 2 kI64 1 l151]) [1,3,4,5] [4,0] (.b (.a 0 fun v39 => .a 1 fun v40 => .a 2 fun v41 => .c3 (fun l257 l258 l259 => .d [] [oA v39 29 Y9t 1 l257, oA v40 29 Y9t 1 l258, oA v41 2 kI64 1 l259]) [1,3,4,5,6] [3,4] (.r [0,0,0,0,0] [1,5] [] [0,5,8,12,16,21,26,28] (.q 2 (.c1 (fun l214 => .x fun v213 => .d [(9, cV v213)] [oA v213 29 Y9t 1 l214]) [1,3,4,5,6,7,8] [5,6,2,3,4,1] (.l2 (fun l187 x188 => .x fun v186 => .d [(9, cV v186), (10, cI x188)] [oA v186 29 Y9t 1 l187]) [1,3,4,5,6,7,8] [5,6,2,3,4,1] (.b (.r [1,1,1,1,1,1] [4,6,8,11,14] [] [0,4,8,12,17,20,25,28,33,36,40,45,50,52,57,62,66,68] .z) .z)) (.r [1,1,1,1,1,1] [3,5,9] [13] [0,4,8,13,16,21,24,28,32,37,40,46,48,55] (.k (.g 80 [] (.r [0,0,0,0,0,0,0] [3,5,9,12,13] [16] [0,4,8,13,16,21,24,28,32,37,40,44,49,53,58,60,67] (.a 0 fun v41 => .c1 (fun l241 => .d [] [oA v41 2 kI64 1 l241]) [1,3,4,5,6,7,8] [2,3,1,4,5] (.c1 (fun x237 => .d [(119, C.bool x237)] []) [1,3,4,5,6,7,8] [2,3,1,4,0,5] .z .z) (.r [0,0,0,0,0,0] [3,9,12] [15] [0,4,8,13,16,24,28,32,37,40,44,49,22,54,56,63] (.f 139 [] (.c1 (fun x251 => .d [(153, C.bool x251)] []) [1,3,4,5,6,7,8] [2,3,4,0,1,5] .z (.b (.r [0,0,0,0,0,0] [3,8,11,13,15,17] [21] [0,4,8,13,16,20,24,28,33,36,40,45,48,53,56,61,64,69,72,78,80,87] .z) .z)))))))))))) .z) .z)) .z))))⟩
instance Zh0' (p0 : Y9k) : Sp Tryz.prog 86 [C.agg [cI p0.room, cM Y9q 9 p0.events, cM Y9q 9 p0.parked]] (Zgz p0) (fun r => C.ip [cM kI64 1 r.depths, cM Y9t 1 r.ahead, cM Y9t 1 r.behind, cM kI64 1 r.code]) := ⟨fun r h => Ok.freeze ((Zh0 p0).h r h) (by rintro c qs ⟨b263, v264, v265, v266, rfl, rfl⟩; exact Frz.box (fS (FrzL.cons (os := [_]) (Frz.arr) (FrzL.cons (os := [_]) (Frz.arr) (FrzL.cons (os := [_]) (Frz.arr) (FrzL.nil))))))⟩

def Zh1 (e18 : Y9j) (x31 : Int) : Option Y9o := some (Y9o.mk (Y9j.mk 0 e18.room e18.author e18.kind e18.key x31 ByteArray.empty [] 0) 0)
def Zh2 (e18 : Y9j) (x28 : Bool) : Option Y9o := cond x28 (cond (e18.n == 2) (Zh1 e18 4) (Zh1 e18 2)) (some (Y9o.mk (Y9j.mk 0 0 0 0 0 0 ByteArray.empty [] 0) 10))
def Zh3 (p0 : Y9k) (p1 : Int) : Option Y9o := (Z35 p0).bind fun r3 => cond r3 ((Zr p0.events p1).bind fun r6 => cond (decide (r6 < 0)) (some (Y9o.mk (Y9j.mk 0 0 0 0 0 0 ByteArray.empty [] 0) 6)) ((Zgz p0).bind fun r9 => (getI r9.code r6).bind fun e15 => cond (e15 != 0) (some (Y9o.mk (Y9j.mk 0 0 0 0 0 0 ByteArray.empty [] 0) 6)) ((getI p0.events r6).bind fun e18 => cond (e18.kind == 3) ((getI r9.ahead r6).bind fun e23 => (Zfj p0 e23 e18.key).bind fun r25 => Zh1 e18 r25) (cond (e18.kind == 2) (Zh2 e18 (e18.key != e18.author)) (Zh2 e18 false))))) (some (Y9o.mk (Y9j.mk 0 0 0 0 0 0 ByteArray.empty [] 0) 1))
instance Zh4 (p0 : Y9k) (p1 : Int) : Sp Tryz.prog 32 [C.agg [cI p0.room, cM Y9q 9 p0.events, cM Y9q 9 p0.parked], cI p1] (Zh3 p0 p1) (fun r => C.agg [cI r.event.id, cI r.event.room, cI r.event.author, cI r.event.kind, cI r.event.key, cI r.event.n, C.str r.event.text, cM kI64 1 r.event.prev, cI r.event.time, cI r.code]) := sp Tryz.func32 rfl rfl fun r X h => by
 unfold Zh3 at h
 refine zw ?_
 refine ox fun b1 => ?_
 refine al fun b2 => ?_
 refine zw ?_
 refine oc h fun r3 g4 h => ?_
 refine zw ?_
 refine cnd h (fun hb5 h => ?_) fun hb5 h => ?_
 ·
  refine AW.cond rfl (fun hn => absurd ((Y46 hb5).symm.trans hn) (by decide)) (fun _ => ?_)
  refine zw ?_
  refine oc h fun r6 g7 h => ?_
  refine zw ?_
  refine cnd h (fun hb8 h => ?_) fun hb8 h => ?_
  ·
   refine AW.ct hb8 rfl ?_
   refine AW.seq ?_
   refine AW.region ?_
   refine Ops.v rfl (Y3k (ds := [cI 0, cI 0, cI 0, cI 0, cI 0, cI 0, C.str ByteArray.empty, cV s0, cI 0, cI 6]) Yc8 Yc7 (Y4g rfl rfl) (.one rfl (One.val rfl) rfl rfl .nil) rfl) ?_
   refine zw ?_
   refine AW.ret ?_
   rw [← Wj h]
   exact finI ⟨[C.agg [cI 0, cI 0, cI 0, cI 0, cI 0, cI 0, C.str ByteArray.empty, cM kI64 1 [], cI 0, cI 6]], _, Y25.boxFrz (ns := [0]) rfl (fS (fS (fS (fS (fS (fS (fS (FrzL.cons (os := []) (Frz.imp (Imp.nil kI64 1)) (fS (fS FrzL.nil)))))))))), (.cons (.cell (p := 0) rfl rfl Yc9.h rfl) .nil), [], _, _, rfl, ⟨rfl, rfl⟩⟩
  refine AW.cf hb8 rfl ?_
  refine zw ?_
  refine ob' h fun r9 g10 h => ?_
  refine Ops.h (ns := []) rfl rfl (Y27 ((Zh0 _).h _ g10) rfl rfl) ?_
  rintro _ _ ⟨_, ⟨b11, v12, v13, v14, rfl, rfl⟩, rfl⟩
  refine zw ?_
  refine ob' h fun e15 g16 h => ?_
  refine zw ?_
  refine cnd h (fun hb17 h => ?_) fun hb17 h => ?_
  ·
   refine AW.ct hb17 rfl ?_
   refine AW.seq ?_
   refine AW.region ?_
   refine Ops.v rfl (Y3k (ds := [cI 0, cI 0, cI 0, cI 0, cI 0, cI 0, C.str ByteArray.empty, cV s0, cI 0, cI 6]) Yc8 Yc7 (Y4g rfl rfl) (.one rfl (One.val rfl) rfl rfl .nil) rfl) ?_
   refine zw ?_
   refine AW.ret ?_
   rw [← Wj h]
   exact finI ⟨[C.agg [cI 0, cI 0, cI 0, cI 0, cI 0, cI 0, C.str ByteArray.empty, cM kI64 1 [], cI 0, cI 6]], _, Y25.boxFrz (ns := [0]) rfl (fS (fS (fS (fS (fS (fS (fS (FrzL.cons (os := []) (Frz.imp (Imp.nil kI64 1)) (fS (fS FrzL.nil)))))))))), (.cons (.cell (p := 0) rfl rfl Yc9.h rfl) .nil), [], _, _, rfl, ⟨rfl, rfl⟩⟩
  refine AW.cf hb17 rfl ?_
  refine zw ?_
  refine oi h fun e18 g19 h => ?_
  refine zw ?_
  refine al fun b20 => ?_
  refine Ops.sA Yaq.h rfl rfl rfl inferInstance rfl ?_
  refine Ops.nil ?_
  refine AW.seq ?_
  refine AW.region ?_
  refine Ops.v rfl (Y1f Yay.h rfl rfl) ?_
  refine Ops.v rfl (Y1o (p := 0) ld_2.h rfl rfl rfl rfl) ?_
  refine Ops.v rfl (Y1f Yan.h rfl rfl) ?_
  refine Ops.v rfl (Y1o (p := 0) ld_2.h rfl rfl rfl rfl) ?_
  refine Ops.v rfl (Y1f Yak.h rfl rfl) ?_
  refine Ops.v rfl (Y1o (p := 0) ld_2.h rfl rfl rfl rfl) ?_
  refine Ops.v rfl (Y1f Yal.h rfl rfl) ?_
  refine Ops.v rfl (Y1o (p := 0) ld_2.h rfl rfl rfl rfl) ?_
  refine Ops.v rfl (Y3k (ds := [cI 0, cI e18.room, cI e18.author, cI e18.kind, cI e18.key, cI 0, C.str ByteArray.empty, cV s0, cI 0]) Yat Yah (Y4g rfl rfl) (.one rfl (One.val rfl) rfl rfl (.one rfl (One.val rfl) rfl rfl (.one rfl (One.val rfl) rfl rfl (.one rfl (One.val rfl) rfl rfl .nil)))) rfl) ?_
  refine al fun b21 => ?_
  refine Ops.sA Yaq.h rfl rfl rfl inferInstance rfl ?_
  refine Ops.nil ?_
  refine AW.seq ?_
  refine AW.cut (τ := Int) (fun x31 => ⟨[(4, pt b2), (8, pt b21)], [oB b21 42 [cI 0, cI e18.room, cI e18.author, cI e18.kind, cI e18.key, cI x31, C.str ByteArray.empty, cV s0, cI 0], oB b2 49 [cI 0, cI 0, cI 0, cI 0, cI 0, cI 0, C.str ByteArray.empty, cV s0, cI 0, cI 0]]⟩) (fun x31 => Zh1 e18 x31 = some r) ?_ ?_
  ·
   refine zw ?_
   refine cnd h (fun hb22 h => ?_) fun hb22 h => ?_
   ·
    refine AW.ct hb22 rfl ?_
    refine rD [0,0,0,0,0,0,0,0] [0,4,7,9] [12] [1,4,8,12,17,20,24,29,32,37,42,44,51] ?_
    refine zw ?_
    refine ob' h fun e23 g24 h => ?_
    refine zw ?_
    refine dc h fun r25 g26 h => ?_
    refine zw ?_
    exact ⟨r25, h, Y25.both (ns := [0, 5]) rfl rfl⟩
   refine AW.cf hb22 rfl ?_
   refine AW.seq ?_
   refine AW.cut (τ := Bool) (fun x28 => ⟨[(4, pt b2), (7, pt b20), (8, pt b21), (62, C.bool x28)], [oB b2 49 [cI 0, cI 0, cI 0, cI 0, cI 0, cI 0, C.str ByteArray.empty, cV s0, cI 0, cI 0], oB b20 42 [cI e18.id, cI e18.room, cI e18.author, cI e18.kind, cI e18.key, cI e18.n, C.str e18.text, cM kI64 1 e18.prev, cI e18.time], oB b21 42 [cI 0, cI e18.room, cI e18.author, cI e18.kind, cI e18.key, cI 0, C.str ByteArray.empty, cV s0, cI 0]]⟩) (fun x28 => Zh2 e18 x28 = some r) ?_ ?_
   ·
    refine zw ?_
    refine cnd h (fun hb27 h => ?_) fun hb27 h => ?_
    ·
     refine zw ?_
     exact ⟨(e18.key != e18.author), h, Y25.both (ns := [6, 1, 0]) rfl rfl⟩
    refine zw ?_
    exact ⟨false, h, Y25.both (ns := [6, 1, 0]) rfl rfl⟩
   intro x28 h
   replace h : Zh2 e18 x28 = some r := h
   unfold Zh2 at h
   refine cnd h (fun hb29 h => ?_) fun hb29 h => ?_
   ·
    refine AW.ct hb29 rfl ?_
    refine zw ?_
    refine cnd h (fun hb30 h => ?_) fun hb30 h => ?_
    ·
     refine AW.ct hb30 rfl ?_
     refine zw ?_
     exact ⟨4, h, Y25.both (ns := [0, 0]) rfl rfl⟩
    refine AW.cf hb30 rfl ?_
    refine zw ?_
    exact ⟨2, h, Y25.both (ns := [0, 0]) rfl rfl⟩
   refine AW.cf hb29 rfl ?_
   refine AW.seq ?_
   refine AW.region ?_
   refine Ops.v rfl (Y3k (ds := [cI 0, cI 0, cI 0, cI 0, cI 0, cI 0, C.str ByteArray.empty, cV s0, cI 0, cI 10]) Yc8 Yc7 (Y4g rfl rfl) (.one rfl (One.val rfl) rfl rfl .nil) rfl) ?_
   refine zw ?_
   refine AW.ret ?_
   rw [← Wj h]
   exact finI ⟨[C.agg [cI 0, cI 0, cI 0, cI 0, cI 0, cI 0, C.str ByteArray.empty, cM kI64 1 [], cI 0, cI 10]], _, Y25.boxFrz (ns := [0]) rfl (fS (fS (fS (fS (fS (fS (fS (FrzL.cons (os := []) (Frz.imp (Imp.nil kI64 1)) (fS (fS FrzL.nil)))))))))), (.cons (.cell (p := 0) rfl rfl Yc9.h rfl) .nil), [], _, _, rfl, ⟨rfl, rfl⟩⟩
  intro x31 h
  replace h : Zh1 e18 x31 = some r := h
  unfold Zh1 at h
  refine AW.seq ?_
  refine AW.region ?_
  refine Ops.v rfl (Y1p (p := 0) (ds := [cI 0, cI e18.room, cI e18.author, cI e18.kind, cI e18.key, cI x31, C.str ByteArray.empty, cV s0, cI 0]) Yaq.h rfl rfl rfl rfl rfl) ?_
  refine Ops.v rfl (Y3k (ds := [cI 0, cI e18.room, cI e18.author, cI e18.kind, cI e18.key, cI x31, C.str ByteArray.empty, cV s0, cI 0, cI 0]) Yc8 Yc7 (Y4g rfl rfl) (.agg rfl rfl rfl .nil) rfl) ?_
  refine zw ?_
  refine AW.ret ?_
  rw [← Wj h]
  exact finI ⟨[C.agg [cI 0, cI e18.room, cI e18.author, cI e18.kind, cI e18.key, cI x31, C.str ByteArray.empty, cM kI64 1 [], cI 0, cI 0]], _, Y25.boxFrz (ns := [0]) rfl (fS (fS (fS (fS (fS (fS (fS (FrzL.cons (os := []) (Frz.imp (Imp.nil kI64 1)) (fS (fS FrzL.nil)))))))))), (.cons (.cell (p := 0) rfl rfl Yc9.h rfl) .nil), [], _, _, rfl, ⟨rfl, rfl⟩⟩
 refine AW.cond rfl (fun _ => ?_) (fun hn => absurd ((Y47 hb5).symm.trans hn) (by decide))
 refine AW.seq ?_
 refine AW.region ?_
 refine Ops.v rfl (Y3k (ds := [cI 0, cI 0, cI 0, cI 0, cI 0, cI 0, C.str ByteArray.empty, cV s0, cI 0, cI 1]) Yc8 Yc7 (Y4g rfl rfl) (.one rfl (One.val rfl) rfl rfl .nil) rfl) ?_
 refine zw ?_
 refine AW.ret ?_
 rw [← Wj h]
 exact finI ⟨[C.agg [cI 0, cI 0, cI 0, cI 0, cI 0, cI 0, C.str ByteArray.empty, cM kI64 1 [], cI 0, cI 1]], _, Y25.boxFrz (ns := [0]) rfl (fS (fS (fS (fS (fS (fS (fS (FrzL.cons (os := []) (Frz.imp (Imp.nil kI64 1)) (fS (fS FrzL.nil)))))))))), (.cons (.cell (p := 0) rfl rfl Yc9.h rfl) .nil), [], _, _, rfl, ⟨rfl, rfl⟩⟩

def Zh5 (l66 : List Int) : Option (List Int) := some l66
def Zh6 (x42 : Int) (l64 : List Int) : Option ((List Int × Int) ⊕ ((List Int))) := some (.inl (l64, (IntKind.i64.wrap (x42 + 1))))
def Zh7 (l41 : List Int) (x42 : Int) (e48 : Y9j) (x57 : Bool) : Option ((List Int × Int) ⊕ ((List Int))) := cond x57 ((chk (decide ((l41.length + [e48.id].length) * 8 ≤ 140737488355328))).bind fun u61 => Zh6 x42 (l41 ++ [e48.id])) (Zh6 x42 l41)
def Zh8 (p0 : Y9k) (p1 : Int) (r10 : Y9p) (r16 : List Int) (l41 : List Int) (x42 : Int) : Option ((List Int × Int) ⊕ ((List Int))) := cond (decide (x42 < (r16.length : Int))) ((getI r16 x42).bind fun e44 => (Zr p0.events e44).bind fun r46 => (getI p0.events r46).bind fun e48 => (getI r10.code r46).bind fun e51 => cond (e51 == 0) (cond (e48.author != p1) (cond (e48.key == p1) (cond (e48.kind == 2) (Zh7 l41 x42 e48 true) (Zh7 l41 x42 e48 (e48.kind == 3))) (Zh7 l41 x42 e48 false)) (Zh7 l41 x42 e48 false)) (Zh7 l41 x42 e48 false)) (some (.inr l41))
def Zh9 (p0 : Y9k) (p1 : Int) (x8 : Bool) : Option (List Int) := cond x8 (some ([] : List Int)) ((Zgz p0).bind fun r10 => (Zek p0).bind fun r16 => (iter (fun z68 => Zh8 p0 p1 r10 r16 z68.1 z68.2) big (([] : List Int), 0)).bind fun y69 => Zh5 y69)
def Zha (p0 : Y9k) (p1 : Int) : Option (List Int) := (Z35 p0).bind fun r3 => cond r3 ((Z1r p1).bind fun r6 => Zh9 p0 p1 (!r6)) (Zh9 p0 p1 true)
instance Zhb (p0 : Y9k) (p1 : Int) : SpO Tryz.prog 33 (Zha p0 p1) (.d [C.agg [cI p0.room, cM Y9q 9 p0.events, cM Y9q 9 p0.parked], cI p1] [] fun r => .x fun (v67 : Value) => .d (cV v67) [oA v67 2 kI64 1 r]) := ⟨so Tryz.func33 rfl rfl fun r X h => gh (.q 3 (.c1 (fun x8 => .d [(19, C.bool x8)] []) [1,2,5] [1,0] .z (.b .z (.k (.q 1 (.c1 (fun l66 => .x fun v65 => .d [(5, cV v65)] [oA v65 2 kI64 1 l66]) [] [] (.l2 (fun l41 x42 => .x fun v40 => .d [(5, cV v40), (8, cI x42)] [oA v40 2 kI64 1 l41]) [1,2,6,7] [4,0,1,2,3] (.b (.c1 (fun l64 => .x fun v63 => .d [(5, cV v63)] [oA v63 2 kI64 1 l64]) [1,2,6,7,8] [1,2,3,4,5] (.r [0,0,0,0,0,0] [1,5] [] [0,5,8,12,16,21,26,28] (.q 1 (.c1 (fun x57 => .d [(72, C.bool x57)] []) [1,2,5,6,7,8,10] [2,1,3,4,5,6,0] .z .z))) .z) .z)) .z))))))⟩
instance Zhb' (p0 : Y9k) (p1 : Int) : Sp Tryz.prog 33 [C.agg [cI p0.room, cM Y9q 9 p0.events, cM Y9q 9 p0.parked], cI p1] (Zha p0 p1) (fun r => cM kI64 1 r) := ⟨fun r h => Ok.freeze ((Zhb p0 p1).h r h) (by rintro c qs ⟨v67, rfl, rfl⟩; exact Frz.arr)⟩

def Zhc : Option Bool := some true
def Zhd (p0 : List Int) (p1 : List Int) (x8 : Int) : Option (Int ⊕ (Bool ⊕ Unit)) := cond (decide (x8 < (p0.length : Int))) ((getI p0 x8).bind fun e10 => (getI p1 x8).bind fun e12 => cond (e10 != e12) (some (.inr (.inl false))) (some (.inl (IntKind.i64.wrap (x8 + 1))))) (some (.inr (.inr ())))
def Zhe (p0 : List Int) (p1 : List Int) : Option Bool := cond ((p0.length : Int) != (p1.length : Int)) (some false) ((iter (Zhd p0 p1) big 0).bind (fun z16 => match z16 with | .inl y15 => some y15 | .inr () => Zhc))
instance Zhf (p0 : List Int) (p1 : List Int) : Sp Tryz.prog 21 [cM kI64 1 p0, cM kI64 1 p1] (Zhe p0 p1) (fun r => C.bool r) := Sp.of (so Tryz.func21 rfl rfl fun r X h => gh (.b .z (.c0 (.d [] []) [] [] (.l1 (fun x8 => .d [(5, cI x8)] []) [0,1] [] (.b (.r [] [3,7] [] [0,4,8,13,16,20,24,29,32] .z) .z)) .z)))

def Zhg (l164 : List Int) : Option (List Int) := some l164
def Zhh (x79 : Int) (l162 : List Int) : Option ((List Int × Int) ⊕ ((List Int))) := some (.inl (l162, (IntKind.i64.wrap (x79 + 1))))
def Zhi (p0 : Y9k) (l78 : List Int) (x79 : Int) (x153 : Bool) : Option ((List Int × Int) ⊕ ((List Int))) := cond x153 ((getI p0.events x79).bind fun e155 => (chk (decide ((l78.length + [e155.id].length) * 8 ≤ 140737488355328))).bind fun u159 => Zhh x79 (l78 ++ [e155.id])) (Zhh x79 l78)
def Zhj (x118 : Int) (x152 : Bool) : Option ((Bool × Int) ⊕ (Bool)) := some (.inl (x152, (IntKind.i64.wrap (x118 + 1))))
def Zhk (x136 : Int) (x151 : Bool) : Option ((Bool × Int) ⊕ (Bool)) := some (.inl (x151, (IntKind.i64.wrap (x136 + 1))))
def Zhl (p0 : Y9k) (x79 : Int) (x118 : Int) (x135 : Bool) (x136 : Int) (x142 : Bool) : Option ((Bool × Int) ⊕ (Bool)) := cond x142 (cond x135 ((getI p0.events x118).bind fun e145 => (getI e145.prev x136).bind fun e147 => (getI p0.events x79).bind fun e149 => Zhk x136 (e147 != e149.id)) (Zhk x136 false)) (some (.inr x135))
def Zhm (p0 : Y9k) (p1 : List Bool) (x79 : Int) (x118 : Int) (x135 : Bool) (x136 : Int) : Option ((Bool × Int) ⊕ (Bool)) := (getI p1 x118).bind fun e137 => cond e137 ((getI p0.events x118).bind fun e140 => Zhl p0 x79 x118 x135 x136 (decide (x136 < (e140.prev.length : Int)))) (Zhl p0 x79 x118 x135 x136 false)
def Zhn (p0 : Y9k) (p1 : List Bool) (x79 : Int) (x117 : Bool) (x118 : Int) : Option ((Bool × Int) ⊕ (Bool)) := cond (decide (x118 < (p0.events.length : Int))) ((iter (fun z166 => Zhm p0 p1 x79 x118 z166.1 z166.2) big (x117, 0)).bind fun y167 => Zhj x118 y167) (some (.inr x117))
def Zho (p0 : Y9k) (p1 : List Bool) (l78 : List Int) (x79 : Int) : Option ((List Int × Int) ⊕ ((List Int))) := cond (decide (x79 < (p0.events.length : Int))) ((getI p1 x79).bind fun e81 => (iter (fun z168 => Zhn p0 p1 x79 z168.1 z168.2) big (e81, 0)).bind fun y169 => Zhi p0 l78 x79 y169) (some (.inr l78))
def Zhp (p0 : Y9k) (p1 : List Bool) : Option (List Int) := (iter (fun z170 => Zho p0 p1 z170.1 z170.2) big (([] : List Int), 0)).bind fun y171 => Zhg y171
instance Zhq (p0 : Y9k) (p1 : List Bool) : SpO Tryz.prog 92 (Zhp p0 p1) (.d [C.agg [cI p0.room, cM Y9q 9 p0.events, cM Y9q 9 p0.parked], cM Y9w 1 p1] [] fun r => .x fun (v165 : Value) => .d (cV v165) [oA v165 2 kI64 1 r]) := ⟨so Tryz.func92 rfl rfl fun r X h => gh (.q 2 (.c1 (fun l164 => .x fun v163 => .d [(5, cV v163)] [oA v163 2 kI64 1 l164]) [] [] (.l2 (fun l78 x79 => .x fun v77 => .d [(5, cV v77), (6, cI x79)] [oA v77 2 kI64 1 l78]) [1,2] [1] (.b (.c1 (fun l162 => .x fun v161 => .d [(5, cV v161)] [oA v161 2 kI64 1 l162]) [1,2,6] [1] (.q 1 (.c1 (fun x153 => .d [(7, C.bool x153)] []) [1,2,5,6] [1,0] (.l2 (fun x117 x118 => .d [(7, C.bool x117), (8, cI x118)] []) [1,2,5,6] [1,0] (.b (.c1 (fun x152 => .d [(7, C.bool x152)] []) [1,2,5,6,8] [0,1] (.l2 (fun x135 x136 => .d [(7, C.bool x135), (9, cI x136)] []) [1,2,5,6,8] [0,1] (.q 1 (.c1 (fun x142 => .d [(43, C.bool x142)] []) [1,2,5,6,7,8,9] [0,1] .z (.b (.c1 (fun x151 => .d [(7, C.bool x151)] []) [1,2,5,6,8,9] [0,1] (.r [0,0] [3,7,10,12,16] [] [0,4,8,13,16,20,24,29,32,36,41,44,49,52,56,60,65,68,72,76] .z) .z) .z)))) .z) .z)) .z)) .z) .z)) .z))⟩
instance Zhq' (p0 : Y9k) (p1 : List Bool) : Sp Tryz.prog 92 [C.agg [cI p0.room, cM Y9q 9 p0.events, cM Y9q 9 p0.parked], cM Y9w 1 p1] (Zhp p0 p1) (fun r => cM kI64 1 r) := ⟨fun r h => Ok.freeze ((Zhq p0 p1).h r h) (by rintro c qs ⟨v165, rfl, rfl⟩; exact Frz.arr)⟩

def Zhr (l16 : List Bool) : Option (List Bool) := some l16
def Zhs (p0 : Y9p) (l9 : List Bool) (x10 : Int) : Option ((List Bool × Int) ⊕ ((List Bool))) := cond (decide (x10 < (l9.length : Int))) ((getI p0.code x10).bind fun e12 => (getI l9 x10).bind fun e14 => some (.inl ((List.set l9 (Int.toNat x10) (e12 == 0)), (IntKind.i64.wrap (x10 + 1))))) (some (.inr l9))
def Zht (p0 : Y9p) : Option (List Bool) := (chk (decide (0 ≤ (p0.code.length : Int) ∧ (p0.code.length : Int) * 1 ≤ 140737488355328))).bind fun u2 => (iter (fun z18 => Zhs p0 z18.1 z18.2) big ((List.replicate (Int.toNat (p0.code.length : Int)) false), 0)).bind fun y19 => Zhr y19
instance Zhu (p0 : Y9p) : SpO Tryz.prog 90 (Zht p0) (.x fun (b00 : Nat) => .x fun (w01 : Value) => .x fun (w02 : Value) => .x fun (w03 : Value) => .d [pt b00] [oB b00 106 [cM kI64 1 p0.depths, cV w01, cV w02, cV w03], oA w01 29 Y9t 1 p0.ahead, oA w02 29 Y9t 1 p0.behind, oA w03 2 kI64 1 p0.code] fun r => .x fun (v17 : Value) => .d (cV v17) [oA v17 4 Y9w 1 r, oB b00 106 [cM kI64 1 p0.depths, cV w01, cV w02, cV w03], oA w01 29 Y9t 1 p0.ahead, oA w02 29 Y9t 1 p0.behind, oA w03 2 kI64 1 p0.code]) := ⟨fun b00 w01 w02 w03 => so Tryz.func90 rfl rfl fun r X h => gh (.q 2 (.a 0 fun w0 => .c1 (fun l16 => .d [] [oA w0 4 Y9w 1 l16]) [3] [1,2,3,4] (.A 0 fun w0 => .l2 (fun l9 x10 => .d [(4, cI x10)] [oA w0 4 Y9w 1 l9]) [0,3] [1,2,3,4] .z) .z))⟩

def Zhv (p0 : Y9k) (p1 : Y9p) (l57 : List (List Y9m)) : Option (List Y9m) := (Zgh p0 p1.depths l57).bind fun r63 => some r63
def Zhw (p0 : Y9k) (p1 : Y9p) (r2 : List Int) (l30 : List (List Y9m)) (x31 : Int) : Option ((List (List Y9m) × Int) ⊕ ((List (List Y9m)))) := cond (decide (x31 < (r2.length : Int))) ((getI r2 x31).bind fun e46 => (Zr p0.events e46).bind fun r48 => (getI p1.behind r48).bind fun e50 => (chk (decide ((l30.length + [e50].length) * 24 ≤ 140737488355328))).bind fun u54 => some (.inl ((l30 ++ [e50]), (IntKind.i64.wrap (x31 + 1))))) (some (.inr l30))
def Zhx (p0 : Y9k) (p1 : Y9p) (p2 : List Bool) : Option (List Y9m) := (Zhp p0 p2).bind fun r2 => (iter (fun z66 => Zhw p0 p1 r2 z66.1 z66.2) big (([] : List (List Y9m)), 0)).bind fun y67 => Zhv p0 p1 y67
instance Zhy (p0 : Y9k) (p1 : Y9p) (p2 : List Bool) : SpO Tryz.prog 89 (Zhx p0 p1 p2) (.x fun (b00 : Nat) => .x fun (w01 : Value) => .x fun (w02 : Value) => .x fun (w03 : Value) => .d [C.agg [cI p0.room, cM Y9q 9 p0.events, cM Y9q 9 p0.parked], pt b00, cM Y9w 1 p2] [oB b00 106 [cM kI64 1 p1.depths, cV w01, cV w02, cV w03], oA w01 29 Y9t 1 p1.ahead, oA w02 29 Y9t 1 p1.behind, oA w03 2 kI64 1 p1.code] fun r => .d (cM Y9s 3 r) [oB b00 106 [cM kI64 1 p1.depths, cV w01, cV w02, cV w03], oA w01 29 Y9t 1 p1.ahead, oA w02 29 Y9t 1 p1.behind, oA w03 2 kI64 1 p1.code]) := ⟨fun b00 w01 w02 w03 => so Tryz.func89 rfl rfl fun r X h => gh (.q 3 (.c1 (fun l57 => .x fun v56 => .d [(8, cV v56)] [oA v56 29 Y9t 1 l57]) [1,3] [2,3,4,5,1] (.l2 (fun l30 x31 => .x fun v29 => .d [(8, cV v29), (9, cI x31)] [oA v29 29 Y9t 1 l30]) [1,3,7] [2,3,4,5,1] (.b (.r [1,1,1,1,1] [4,6,10,13] [] [0,4,8,12,17,20,25,28,32,36,41,46,48,53,58,62,64] .z) .z)) (.r [1,1,1,1,1] [0,4] [] [1,4,8,12,17,20,26,28] (.k (.g 42 [] .z)))))⟩

def Zhz (p0 : Y9k) : Option (List Y9m) := (Z35 p0).bind fun r2 => cond r2 ((Zgz p0).bind fun r6 => (Zht r6).bind fun r36 => (Zhx p0 r6 r36).bind fun r39 => some r39) (some ([] : List Y9m))
instance Zi0 (p0 : Y9k) : Sp Tryz.prog 20 [C.agg [cI p0.room, cM Y9q 9 p0.events, cM Y9q 9 p0.parked]] (Zhz p0) (fun r => cM Y9s 3 r) := Sp.of (so Tryz.func20 rfl rfl fun r X h => gh (.b (.k (.r [4] [0] [] [1,4,8,14,18,20] (.f 13 [] .z))) .z))

def Zi1 (p0 : Y9k) (p1 : Int) (x7 : Bool) : Option Int := cond x7 (some 0) ((Zhz p0).bind fun r9 => (Zep r9 2 p1).bind fun r11 => some r11)
def Zi2 (p0 : Y9k) (p1 : Int) : Option Int := (Z35 p0).bind fun r2 => cond r2 ((Z1r p1).bind fun r5 => Zi1 p0 p1 (!r5)) (Zi1 p0 p1 true)
instance Zi3 (p0 : Y9k) (p1 : Int) : Sp Tryz.prog 34 [C.agg [cI p0.room, cM Y9q 9 p0.events, cM Y9q 9 p0.parked], cI p1] (Zi2 p0 p1) (fun r => cI r) := Sp.of (so Tryz.func34 rfl rfl fun r X h => gh (.q 2 (.c1 (fun x7 => .d [(12, C.bool x7)] []) [1,2] [0] .z .z)))

def Zi4 (l53 : List Int) : Option (List Int) := some l53
def Zi5 (x37 : Int) (x49 : Int) (l51 : List Int) : Option ((Int × List Int × Int) ⊕ ((List Int))) := some (.inl (x49, l51, (IntKind.i64.wrap (x37 + 1))))
def Zi6 (p1 : Int) (r9 : Y9n) (r17 : List Y9j) (x34 : Int) (l36 : List Int) (x37 : Int) : Option ((Int × List Int × Int) ⊕ ((List Int))) := cond (decide (x37 < (r17.length : Int))) ((getI r17 x37).bind fun e39 => (Zak r9.graph (Option.getD (mget r9.after e39.id) ([] : List Y9m)) p1).bind fun r42 => cond (r42 != x34) ((chk (decide ((l36.length + [r42].length) * 8 ≤ 140737488355328))).bind fun u47 => Zi5 x37 r42 (l36 ++ [r42])) (Zi5 x37 x34 l36)) (some (.inr l36))
def Zi7 (p0 : Y9k) (p1 : Int) (x7 : Bool) : Option (List Int) := cond x7 (some []) ((Zco p0).bind fun r9 => (Zct r9).bind fun r17 => (iter (fun z55 => Zi6 p1 r9 r17 z55.1 z55.2.1 z55.2.2) big (0, ([] : List Int), 0)).bind fun y56 => Zi4 y56)
def Zi8 (p0 : Y9k) (p1 : Int) : Option (List Int) := (Z82 p0).bind fun r2 => cond r2 ((Z5m p1).bind fun r5 => Zi7 p0 p1 (!r5)) (Zi7 p0 p1 true)
instance Zi9 (p0 : Y9k) (p1 : Int) : SpO Tryz.prog 35 (Zi8 p0 p1) (.d [C.agg [cI p0.room, cM Y9q 9 p0.events, cM Y9q 9 p0.parked], cI p1] [] fun r => .x fun (v54 : Value) => .d (cV v54) [oA v54 2 kI64 1 r]) := ⟨so Tryz.func35 rfl rfl fun r X h => gh (.q 2 (.c1 (fun x7 => .d [(18, C.bool x7)] []) [1,2] [0] .z (.b .z (.k (.c1 (fun l53 => .x fun v52 => .d [(7, cV v52)] [oA v52 2 kI64 1 l53]) [] [] (.l3 (fun x34 l36 x37 => .x fun v35 => .d [(6, cI x34), (7, cV v35), (25, cI x37)] [oA v35 2 kI64 1 l36]) [1,5,23,24] [1,2,3,4,5,0] (.b (.c2 (fun x49 l51 => .x fun v50 => .d [(6, cI x49), (7, cV v50)] [oA v50 2 kI64 1 l51]) [1,5,23,24,25] [1,2,3,4,5,6] (.r [0,0,0,0,0,0,0,0] [3,7,9,10] [] [0,4,8,13,16,20,24,29,32,37,41,44,50,52] .z) .z) .z)) .z)))))⟩
instance Zi9' (p0 : Y9k) (p1 : Int) : Sp Tryz.prog 35 [C.agg [cI p0.room, cM Y9q 9 p0.events, cM Y9q 9 p0.parked], cI p1] (Zi8 p0 p1) (fun r => cM kI64 1 r) := ⟨fun r h => Ok.freeze ((Zi9 p0 p1).h r h) (by rintro c qs ⟨v54, rfl, rfl⟩; exact Frz.arr)⟩

def Zia (l63 : List Int) : Option (List Int) := some l63
def Zib (x41 : Int) (l60 : List Int) (x61 : Int) : Option ((List Int × Int × Int) ⊕ ((List Int))) := some (.inl (l60, x61, (IntKind.i64.wrap (x41 + 1))))
def Zic (p0 : Y9k) (p1 : Int) (r10 : Y9p) (r16 : List Int) (l39 : List Int) (x40 : Int) (x41 : Int) : Option ((List Int × Int × Int) ⊕ ((List Int))) := cond (decide (x41 < (r16.length : Int))) ((getI r16 x41).bind fun e43 => (Zr p0.events e43).bind fun r45 => (getI r10.code r45).bind fun e47 => cond (e47 != 0) (Zib x41 l39 x40) ((getI r10.behind r45).bind fun e50 => (Zfj p0 e50 p1).bind fun r52 => cond (r52 != x40) ((chk (decide ((l39.length + [r52].length) * 8 ≤ 140737488355328))).bind fun u57 => Zib x41 (l39 ++ [r52]) r52) (Zib x41 l39 x40))) (some (.inr l39))
def Zid (p0 : Y9k) (p1 : Int) (x8 : Bool) : Option (List Int) := cond x8 (some ([] : List Int)) ((Zgz p0).bind fun r10 => (Zek p0).bind fun r16 => (iter (fun z65 => Zic p0 p1 r10 r16 z65.1 z65.2.1 z65.2.2) big (([] : List Int), 0, 0)).bind fun y66 => Zia y66)
def Zie (p0 : Y9k) (p1 : Int) : Option (List Int) := (Z35 p0).bind fun r3 => cond r3 ((Z1r p1).bind fun r6 => Zid p0 p1 (!r6)) (Zid p0 p1 true)
instance Zif (p0 : Y9k) (p1 : Int) : SpO Tryz.prog 36 (Zie p0 p1) (.d [C.agg [cI p0.room, cM Y9q 9 p0.events, cM Y9q 9 p0.parked], cI p1] [] fun r => .x fun (v64 : Value) => .d (cV v64) [oA v64 2 kI64 1 r]) := ⟨so Tryz.func36 rfl rfl fun r X h => gh (.q 3 (.c1 (fun x8 => .d [(20, C.bool x8)] []) [1,2,5] [1,0] .z (.b .z (.k (.q 2 (.c1 (fun l63 => .x fun v62 => .d [(5, cV v62)] [oA v62 2 kI64 1 l63]) [] [] (.l3 (fun l39 x40 x41 => .x fun v38 => .d [(5, cV v38), (8, cI x40), (9, cI x41)] [oA v38 2 kI64 1 l39]) [1,2,6,7] [4,0,1,2,3] (.b (.c2 (fun l60 x61 => .x fun v59 => .d [(5, cV v59), (8, cI x61)] [oA v59 2 kI64 1 l60]) [1,2,6,7,9] [1,2,3,4,5] (.r [0,0,0,0,0,0] [1,5] [] [0,5,8,12,16,21,26,28] (.b .z (.r [0,0,0,0,0,0] [0,4,7] [] [1,4,8,12,17,20,24,29,32,38,40] .z))) .z) .z)) .z))))))⟩
instance Zif' (p0 : Y9k) (p1 : Int) : Sp Tryz.prog 36 [C.agg [cI p0.room, cM Y9q 9 p0.events, cM Y9q 9 p0.parked], cI p1] (Zie p0 p1) (fun r => cM kI64 1 r) := ⟨fun r h => Ok.freeze ((Zif p0 p1).h r h) (by rintro c qs ⟨v64, rfl, rfl⟩; exact Frz.arr)⟩

def Zig (x13 : Bool) : Option Bool := some x13
def Zih (p0 : Y9j) (p1 : Y9j) : Option Bool := cond (p0.id == p1.id) (cond (p0.room == p1.room) (cond (p0.author == p1.author) (cond (p0.kind == p1.kind) (cond (p0.key == p1.key) (cond (p0.n == p1.n) (cond (p0.text.toList == p1.text.toList) (cond (p0.time == p1.time) ((Zhe p0.prev p1.prev).bind fun r11 => Zig r11) (Zig false)) (Zig false)) (Zig false)) (Zig false)) (Zig false)) (Zig false)) (Zig false)) (Zig false)
instance Zii (p0 : Y9j) (p1 : Y9j) : Sp Tryz.prog 37 [C.agg [cI p0.id, cI p0.room, cI p0.author, cI p0.kind, cI p0.key, cI p0.n, C.str p0.text, cM kI64 1 p0.prev, cI p0.time], C.agg [cI p1.id, cI p1.room, cI p1.author, cI p1.kind, cI p1.key, cI p1.n, C.str p1.text, cM kI64 1 p1.prev, cI p1.time]] (Zih p0 p1) (fun r => C.bool r) := Sp.of (so Tryz.func37 rfl rfl fun r X h => gh (.q 1 (.c1 (fun x13 => .d [(4, C.bool x13)] []) [] [] .z .z)))

def Zij (p0 : Y9k) (p1 : Int) : Option Y9j := (Z35 p0).bind fun r3 => cond r3 ((Zgj p0 p1).bind fun r6 => some r6) (some (Y9j.mk 0 0 0 0 0 0 ByteArray.empty [] 0))
instance Zik (p0 : Y9k) (p1 : Int) : Sp Tryz.prog 24 [C.agg [cI p0.room, cM Y9q 9 p0.events, cM Y9q 9 p0.parked], cI p1] (Zij p0 p1) (fun r => C.agg [cI r.id, cI r.room, cI r.author, cI r.kind, cI r.key, cI r.n, C.str r.text, cM kI64 1 r.prev, cI r.time]) := Sp.of (so Tryz.func24 rfl rfl fun r X h => gh .z)

def Zil (x7 : Bool) : Option Bool := some x7
def Zim (p0 : Y9k) (p1 : Int) : Option Bool := (Z35 p0).bind fun r2 => cond r2 ((Zr p0.events p1).bind fun r5 => Zil (decide (r5 ≥ 0))) (Zil false)
instance Zin (p0 : Y9k) (p1 : Int) : Sp Tryz.prog 85 [C.agg [cI p0.room, cM Y9q 9 p0.events, cM Y9q 9 p0.parked], cI p1] (Zim p0 p1) (fun r => C.bool r) := Sp.of (so Tryz.func85 rfl rfl fun r X h => gh (.q 1 (.c1 (fun x7 => .d [(4, C.bool x7)] []) [] [] .z .z)))

def Zio (p0 : Y9k) (p1 : Int) : Option Int := (Zim p0 p1).bind fun r2 => cond r2 ((Zgz p0).bind fun r5 => (Zr p0.events p1).bind fun r11 => (getI r5.code r11).bind fun e13 => some e13) (some (-1))
instance Zip (p0 : Y9k) (p1 : Int) : Sp Tryz.prog 18 [C.agg [cI p0.room, cM Y9q 9 p0.events, cM Y9q 9 p0.parked], cI p1] (Zio p0 p1) (fun r => cI r) := Sp.of (so Tryz.func18 rfl rfl fun r X h => gh (.b (.r [0] [0,4,6,10] [] [1,20,25,28,6,8,12,17,34,36,41,44] (.k (.w 4 .z))) .z))

def Ziq (p0 : Y9k) (p1 : Int) : Option (List Y9m) := (Zim p0 p1).bind fun r2 => cond r2 ((Zgz p0).bind fun r6 => (Zr p0.events p1).bind fun r12 => (getI r6.behind r12).bind fun e14 => some e14) (some ([] : List Y9m))
instance Zir (p0 : Y9k) (p1 : Int) : Sp Tryz.prog 17 [C.agg [cI p0.room, cM Y9q 9 p0.events, cM Y9q 9 p0.parked], cI p1] (Ziq p0 p1) (fun r => cM Y9s 3 r) := Sp.of (so Tryz.func17 rfl rfl fun r X h => gh (.b (.r [0] [0,4,6,10] [] [1,20,25,28,6,8,12,17,34,36,41,44] (.k (.w 4 .z))) .z))

def Zis (x12 : Bool) : Option Bool := some x12
def Zit (p0 : Y9m) (p1 : Bool) : Option Bool := (Z1n p0.kind 1 6).bind fun r2 => cond r2 ((Z1n p0.key 0 6).bind fun r5 => cond r5 ((Z1p p0.id).bind fun r8 => cond r8 (Zis true) (cond p1 (Zis (p0.id == 0)) (Zis false))) (Zis false)) (Zis false)
instance Ziu (p0 : Y9m) (p1 : Bool) : Sp Tryz.prog 202 [C.agg [cI p0.kind, cI p0.key, cI p0.id], C.bool p1] (Zit p0 p1) (fun r => C.bool r) := Sp.of (so Tryz.func202 rfl rfl fun r X h => gh (.q 1 (.c1 (fun x12 => .d [(4, C.bool x12)] []) [] [] .z .z)))

def Ziv : Option Bool := some true
def Ziw (x15 : Int) (x27 : Bool) : Option (Int ⊕ (Bool ⊕ Unit)) := cond x27 (some (.inr (.inl false))) (some (.inl (IntKind.i64.wrap (x15 + 1))))
def Zix (p0 : List Y9m) (p1 : Bool) (x15 : Int) : Option (Int ⊕ (Bool ⊕ Unit)) := cond (decide (x15 < (p0.length : Int))) ((getI p0 x15).bind fun e17 => (Zit e17 p1).bind fun r19 => cond r19 (cond (decide (x15 > 0)) ((getI p0 (IntKind.i64.wrap (x15 - 1))).bind fun e23 => (Zf2 e23 e17).bind fun r25 => Ziw x15 (!r25)) (Ziw x15 false)) (Ziw x15 true)) (some (.inr (.inr ())))
def Ziy (p0 : List Y9m) (p1 : Bool) : Option Bool := cond (decide ((p0.length : Int) > 400)) (some false) ((iter (Zix p0 p1) big 0).bind (fun z30 => match z30 with | .inl y29 => some y29 | .inr () => Ziv))
instance Ziz (p0 : List Y9m) (p1 : Bool) : Sp Tryz.prog 221 [cM Y9s 3 p0, C.bool p1] (Ziy p0 p1) (fun r => C.bool r) := Sp.of (so Tryz.func221 rfl rfl fun r X h => gh (.b .z (.c0 (.d [] []) [] [] (.l1 (fun x15 => .d [(5, cI x15)] []) [0,1] [] (.b (.q 1 (.c1 (fun x27 => .d [(38, C.bool x27)] []) [0,1,5] [] (.r [] [3,15,19] [] [0,4,8,13,16,22,24,28,32,36,40,44,48,52,56,61,64,68,72,77,82,84,88,92] .z) .z)) .z)) .z)))

def Zj0 (p0 : List Y9m) : Option Bool := (Ziy p0 false).bind fun r1 => some r1
instance Zj1 (p0 : List Y9m) : Sp Tryz.prog 163 [cM Y9s 3 p0] (Zj0 p0) (fun r => C.bool r) := Sp.of (so Tryz.func163 rfl rfl fun r X h => gh .z)

def Zj2 : Option Bool := some true
def Zj3 (x16 : Int) (x26 : Bool) : Option (Int ⊕ (Bool ⊕ Unit)) := cond x26 (some (.inr (.inl false))) (some (.inl (IntKind.i64.wrap (x16 + 1))))
def Zj4 (p0 : Y9k) (p1 : List Y9m) (x16 : Int) : Option (Int ⊕ (Bool ⊕ Unit)) := cond (decide (x16 < (p1.length : Int))) ((getI p1 x16).bind fun e18 => (Zr p0.events e18.id).bind fun r20 => cond (decide (r20 < 0)) (Zj3 x16 true) ((getI p0.events r20).bind fun e23 => cond (e23.kind != e18.kind) (Zj3 x16 true) (Zj3 x16 (e23.key != e18.key)))) (some (.inr (.inr ())))
def Zj5 (p0 : Y9k) (p1 : List Y9m) : Option Bool := (Zj0 p1).bind fun r2 => cond r2 ((iter (Zj4 p0 p1) big 0).bind (fun z29 => match z29 with | .inl y28 => some y28 | .inr () => Zj2)) (some false)
instance Zj6 (p0 : Y9k) (p1 : List Y9m) : Sp Tryz.prog 82 [C.agg [cI p0.room, cM Y9q 9 p0.events, cM Y9q 9 p0.parked], cM Y9s 3 p1] (Zj5 p0 p1) (fun r => C.bool r) := Sp.of (so Tryz.func82 rfl rfl fun r X h => gh (.b (.c0 (.d [] []) [] [] (.l1 (fun x16 => .d [(5, cI x16)] []) [1,2] [0] (.b (.r [0] [1,6] [] [0,5,8,12,16,20,25,30,32] (.c1 (fun x26 => .d [(53, C.bool x26)] []) [1,2,5] [0] (.r [0] [4,8,13,18,22,27] [] [0,4,8,12,17,20,24,28,33,36,40,44,48,53,56,60,64,68,73,76,80,84,89,92,96,100,104,109,112,116] .z) .z)) .z)) .z) .z))

def Zj7 (p0 : Y9k) (p1 : List Y9m) (p2 : Int) (x10 : Bool) : Option Int := cond x10 (some 0) ((Zfh p0 p1 p2).bind fun r12 => some r12)
def Zj8 (p0 : Y9k) (p1 : List Y9m) (p2 : Int) : Option Int := (Z35 p0).bind fun r2 => cond r2 ((Zj5 p0 p1).bind fun r5 => cond r5 ((Z1r p2).bind fun r8 => Zj7 p0 p1 p2 (!r8)) (Zj7 p0 p1 p2 true)) (Zj7 p0 p1 p2 true)
instance Zj9 (p0 : Y9k) (p1 : List Y9m) (p2 : Int) : Sp Tryz.prog 39 [C.agg [cI p0.room, cM Y9q 9 p0.events, cM Y9q 9 p0.parked], cM Y9s 3 p1, cI p2] (Zj8 p0 p1 p2) (fun r => cI r) := Sp.of (so Tryz.func39 rfl rfl fun r X h => gh (.q 2 (.c1 (fun x10 => .d [(20, C.bool x10)] []) [1,2,3] [0] .z .z)))

def Zja (p0 : Y9k) (p1 : List Y9m) (p2 : Int) (x10 : Bool) : Option Int := cond x10 (some 0) ((Zfj p0 p1 p2).bind fun r12 => some r12)
def Zjb (p0 : Y9k) (p1 : List Y9m) (p2 : Int) : Option Int := (Z35 p0).bind fun r2 => cond r2 ((Zj5 p0 p1).bind fun r5 => cond r5 ((Z1r p2).bind fun r8 => Zja p0 p1 p2 (!r8)) (Zja p0 p1 p2 true)) (Zja p0 p1 p2 true)
instance Zjc (p0 : Y9k) (p1 : List Y9m) (p2 : Int) : Sp Tryz.prog 40 [C.agg [cI p0.room, cM Y9q 9 p0.events, cM Y9q 9 p0.parked], cM Y9s 3 p1, cI p2] (Zjb p0 p1 p2) (fun r => cI r) := Sp.of (so Tryz.func40 rfl rfl fun r X h => gh (.q 2 (.c1 (fun x10 => .d [(20, C.bool x10)] []) [1,2,3] [0] .z .z)))

def Zjd (p0 : Y9k) (p1 : Int) : Option (List Y9m) := (Zim p0 p1).bind fun r2 => cond r2 ((Zgz p0).bind fun r6 => (Zr p0.events p1).bind fun r12 => (getI r6.ahead r12).bind fun e14 => some e14) (some ([] : List Y9m))
instance Zje (p0 : Y9k) (p1 : Int) : Sp Tryz.prog 16 [C.agg [cI p0.room, cM Y9q 9 p0.events, cM Y9q 9 p0.parked], cI p1] (Zjd p0 p1) (fun r => cM Y9s 3 r) := Sp.of (so Tryz.func16 rfl rfl fun r X h => gh (.b (.r [0] [0,4,6,10] [] [1,20,25,28,6,8,12,17,34,36,41,44] (.k (.w 4 .z))) .z))

end Go.Proofs.YtomachnjepgpbaaGreat
