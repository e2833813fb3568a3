/- Printed by gen.py: plain functions for Go functions, and that the walks keep to them. -/
import Derived.Test.YtnoknphekhclcaaGreatBQ1
set_option autoImplicit false
set_option linter.unusedVariables false
set_option linter.unusedSimpArgs false
set_option maxHeartbeats 8000000
set_option maxRecDepth 100000
namespace Go.Proofs.YtnoknphekhclcaaGreat
open Go Go.Abs
attribute [local irreducible] AW Ops OpsD Y3z VoK HoK GhF UsC Go.Abs.Fin PkK LenT LenL Y9q BldK FzK FzLK
def Z4q (p1 : List Int) (r2 : Int) (r4 : Int) (x13 : Int) (x14 : Int) (x15 : Int) (x16 : Int) (x17 : Int) (x18 : Int) (x19 : ByteArray) (l20 : List Int) (x21 : Int) (x23 : Int) (x24 : Int) (x25 : Int) (x26 : Int) (x27 : Int) (x28 : Int) (x29 : ByteArray) (l30 : List Int) (x31 : Int) : Option Bool := (Z4o (Yaa.mk x13 x14 x15 x16 x17 x18 x19 l20 x21)).bind fun r32 => (Z4o (Yaa.mk x23 x24 x25 x26 x27 x28 x29 l30 x31)).bind fun r34 => cond (r32 == r34) ((getI p1 r2).bind fun e37 => (getI p1 r4).bind fun e39 => cond (e37 != e39) (some (decide (e37 < e39))) (cond (x21 != x31) (some (decide (x21 < x31))) (some (decide (x13 < x23))))) ((Z4o (Yaa.mk x13 x14 x15 x16 x17 x18 x19 l20 x21)).bind fun r43 => some r43)
def Z4r (p0 : Yaf) (p1 : List Int) (p2 : Int) (p3 : Int) : Option Bool := (Z2w p0.events p2).bind fun r2 => (Z2w p0.events p3).bind fun r4 => (getI p0.events r2).bind fun e6 => (getI p0.events r4).bind fun e8 => Z4q p1 r2 r4 e6.id e6.room e6.author e6.kind e6.key e6.n e6.text e6.prev e6.time e8.id e8.room e8.author e8.kind e8.key e8.n e8.text e8.prev e8.time
instance Z4s (p0 : Yaf) (p1 : List Int) (p2 : Int) (p3 : Int) : Sp Tryz.prog 177 [C.agg [cI p0.room, cM Yap 9 p0.events, cM Yap 9 p0.parked], cM kI64 1 p1, cI p2, cI p3] (Z4r p0 p1 p2 p3) C.bool := sp Tryz.func177 rfl rfl fun r X h => by
 unfold Z4r at h
 refine zw ?_
 refine ox fun b1 => ?_
 refine zw ?_
 refine rD [0] [1,5] [] [0,5,8,16,21,24,14,30,32,36] ?_
 refine zw ?_
 refine dc h fun r2 g3 h => ?_
 refine zw ?_
 refine dc h fun r4 g5 h => ?_
 refine OpsD.v rfl rfl (Ys rfl rfl) ?_
 refine OpsD.v rfl rfl (Ys rfl rfl) ?_
 refine OpsD.done ?_
 refine AW.seq ?_
 refine AW.cut (τ := Int × Int × Int × Int × Int × Int × ByteArray × List Int × Int × Int × Int × Int × Int × Int × Int × ByteArray × List Int × Int × Nat × Nat) (fun (x13, x14, x15, x16, x17, x18, x19, l20, x21, x23, x24, x25, x26, x27, x28, x29, l30, x31, b12, b22) => ⟨[(1, cM kI64 1 p1), (9, cI r2), (10, cI r4), (11, pt b12), (12, pt b22)], [oB b12 47 [cI x13, cI x14, cI x15, cI x16, cI x17, cI x18, C.str x19, cM kI64 1 l20, cI x21], oB b22 47 [cI x23, cI x24, cI x25, cI x26, cI x27, cI x28, C.str x29, cM kI64 1 l30, cI x31]]⟩) (fun (x13, x14, x15, x16, x17, x18, x19, l20, x21, x23, x24, x25, x26, x27, x28, x29, l30, x31, b12, b22) => Z4q p1 r2 r4 x13 x14 x15 x16 x17 x18 x19 l20 x21 x23 x24 x25 x26 x27 x28 x29 l30 x31 = some r) ?_ ?_
 ·
  refine AW.regionD (L := [1, 4, 6, 9]) (Lt := [13]) (k := .light 0 false (.light 1 true (.light 2 false (.light 3 false (.light 4 true (.light 5 false (.light 6 true (.light 7 false (.light 8 false (.light 9 true (.two 10 11 (.one 11 (.one 12 (.late 13 (.done)))) (.one 10 (.one 12 (.late 13 (.done))))))))))))))) (ns := [0]) (by kernel_rfl) (by kernel_rfl) (by kernel_rfl) (by kernel_rfl) rfl ?_
  refine zw ?_
  refine di h fun e6 g7 h => ?_
  refine zw ?_
  refine di h fun e8 g9 h => ?_
  refine zw ?_
  refine OpsD.two ?_ ?_
  ·
   refine dal fun b10 => ?_
   refine zw ?_
   refine dal fun b11 => ?_
   refine OpsD.one ?_
   refine Y3z.h (ns := [1]) rfl rfl rfl (Y1y (gs := [cI e6.id, cI e6.room, cI e6.author, cI e6.kind, cI e6.key, cI e6.n, C.str e6.text, cM kI64 1 e6.prev, cI e6.time]) Ycr.h rfl rfl rfl rfl rfl) ?_
   rintro _ _ ⟨rfl, rfl⟩
   refine zw ?_
   exact ⟨(e6.id, e6.room, e6.author, e6.kind, e6.key, e6.n, e6.text, e6.prev, e6.time, e8.id, e8.room, e8.author, e8.kind, e8.key, e8.n, e8.text, e8.prev, e8.time, b10, b11), h, Y25.both (ns := [2, 0]) rfl rfl⟩
  refine dal fun b11 => ?_
  refine zw ?_
  refine dal fun b10 => ?_
  refine OpsD.one ?_
  refine Y3z.h (ns := [0]) rfl rfl rfl (Y1y (gs := [cI e6.id, cI e6.room, cI e6.author, cI e6.kind, cI e6.key, cI e6.n, C.str e6.text, cM kI64 1 e6.prev, cI e6.time]) Ycr.h rfl rfl rfl rfl rfl) ?_
  rintro _ _ ⟨rfl, rfl⟩
  refine zw ?_
  exact ⟨(e6.id, e6.room, e6.author, e6.kind, e6.key, e6.n, e6.text, e6.prev, e6.time, e8.id, e8.room, e8.author, e8.kind, e8.key, e8.n, e8.text, e8.prev, e8.time, b10, b11), h, Y25.both (ns := [2, 0]) rfl rfl⟩
 rintro ⟨x13, x14, x15, x16, x17, x18, x19, l20, x21, x23, x24, x25, x26, x27, x28, x29, l30, x31, b12, b22⟩ h
 replace h : Z4q p1 r2 r4 x13 x14 x15 x16 x17 x18 x19 l20 x21 x23 x24 x25 x26 x27 x28 x29 l30 x31 = some r := h
 unfold Z4q at h
 refine zw ?_
 refine rD [0,0] [0,2] [] [1,9,6,14,16,20] ?_
 refine zw ?_
 refine dc h fun r32 g33 h => ?_
 refine zw ?_
 refine dc h fun r34 g35 h => ?_
 refine OpsD.v rfl rfl (Y15 un_4 rfl rfl rfl) ?_
 refine zw ?_
 refine cnd h (fun hb36 h => ?_) fun hb36 h => ?_
 ·
  refine AW.cond rfl (fun hn => absurd ((Y46 hb36).symm.trans hn) (by decide)) (fun _ => ?_)
  refine zw ?_
  refine rD [0,0] [3,7] [] [0,4,8,13,16,20,24,29,32,36] ?_
  refine zw ?_
  refine di h fun e37 g38 h => ?_
  refine zw ?_
  refine di h fun e39 g40 h => ?_
  refine zw ?_
  refine cnd h (fun hb41 h => ?_) fun hb41 h => ?_
  ·
   refine AW.ct hb41 rfl ?_
   refine zw ?_
   refine rD [0,0] [3,7] [] [0,4,8,13,16,20,24,29,32,36] ?_
   refine zw ?_
   refine AW.ret ?_
   rw [← Wj h]
   exact finI ⟨[C.bool (decide (e37 < e39))], _, Y25.refl _, (.cons (.tmp rfl) .nil), [], _, _, rfl, ⟨rfl, rfl⟩⟩
  refine AW.cf hb41 rfl ?_
  refine zw ?_
  refine cnd h (fun hb42 h => ?_) fun hb42 h => ?_
  ·
   refine AW.ct hb42 rfl ?_
   refine zw ?_
   refine AW.ret ?_
   rw [← Wj h]
   exact finI ⟨[C.bool (decide (x21 < x31))], _, Y25.refl _, (.cons (.tmp rfl) .nil), [], _, _, rfl, ⟨rfl, rfl⟩⟩
  refine AW.cf hb42 rfl ?_
  refine zw ?_
  refine AW.ret ?_
  rw [← Wj h]
  exact finI ⟨[C.bool (decide (x13 < x23))], _, Y25.refl _, (.cons (.tmp rfl) .nil), [], _, _, rfl, ⟨rfl, rfl⟩⟩
 refine AW.cond rfl (fun _ => ?_) (fun hn => absurd ((Y47 hb36).symm.trans hn) (by decide))
 refine zw ?_
 refine oc h fun r43 g44 h => ?_
 refine zw ?_
 refine AW.ret ?_
 rw [← Wj h]
 exact finI ⟨[C.bool r43], _, Y25.refl _, (.cons (.tmp rfl) .nil), [], _, _, rfl, ⟨rfl, rfl⟩⟩

def Z4t (p0 : Yaf) (p1 : List Yai) (p2 : Int) (p3 : Int) : Option Yaa := (Z3x p1 p2 p3).bind fun r3 => cond (r3 == 0) (some (Yaa.mk 0 0 0 0 0 0 ByteArray.empty [] 0)) ((Z2w p0.events r3).bind fun r6 => (getI p0.events r6).bind fun e8 => some e8)
instance Z4u (p0 : Yaf) (p1 : List Yai) (p2 : Int) (p3 : Int) : Sp Tryz.prog 234 [C.agg [cI p0.room, cM Yap 9 p0.events, cM Yap 9 p0.parked], cM Yb1 3 p1, cI p2, cI p3] (Z4t p0 p1 p2 p3) (fun r => C.agg [cI r.id, cI r.room, cI r.author, cI r.kind, cI r.key, cI r.n, C.str r.text, cM kI64 1 r.prev, cI r.time]) := Sp.of (so Tryz.func234 rfl rfl fun r X h => gh (.b .z (.r [0,0] [1,3,7] [8] [0,5,8,13,16,22,24,29,35] .z)))

def Z4v (p0 : Yaf) (p1 : List Yai) (p2 : Int) : Option Int := (Z4t p0 p1 2 p2).bind fun r2 => some r2.n
instance Z4w (p0 : Yaf) (p1 : List Yai) (p2 : Int) : Sp Tryz.prog 170 [C.agg [cI p0.room, cM Yap 9 p0.events, cM Yap 9 p0.parked], cM Yb1 3 p1, cI p2] (Z4v p0 p1 p2) (fun r => cI r) := Sp.of (so Tryz.func170 rfl rfl fun r X h => gh .z)

def Z4x (p0 : Yaf) (p1 : List Yai) (p2 : Int) : Option Int := (Z3x p1 3 p2).bind fun r2 => cond (decide (r2 > 0)) ((Z4t p0 p1 3 p2).bind fun r5 => some r5.n) ((Z4t p0 p1 1 0).bind fun r7 => cond (r7.author == p2) (some 100) (some 0))
instance Z4y (p0 : Yaf) (p1 : List Yai) (p2 : Int) : Sp Tryz.prog 171 [C.agg [cI p0.room, cM Yap 9 p0.events, cM Yap 9 p0.parked], cM Yb1 3 p1, cI p2] (Z4x p0 p1 p2) (fun r => cI r) := Sp.of (so Tryz.func171 rfl rfl fun r X h => gh .z)

def Z4z (p0 : Bool) : Option Int := cond p0 (some 11) (some 0)
instance Z50 (p0 : Bool) : Sp Tryz.prog 174 [C.bool p0] (Z4z p0) (fun r => cI r) := Sp.of (so Tryz.func174 rfl rfl fun r X h => gh .z)

def Z51 (x20 : Int) : Option Int := some x20
def Z52 (p3 : Int) (x4 : Bool) (x11 : Bool) : Option Int := cond (p3 == 3) ((Z4z true).bind fun r13 => Z51 r13) (cond x4 ((Z4z false).bind fun r16 => Z51 r16) ((Z4z (!x11)).bind fun r18 => Z51 r18))
def Z53 (p0 : Yaf) (p1 : List Yai) (p2 : Yaa) (p3 : Int) (x4 : Bool) : Option Int := cond (p2.n == 1) ((Z4t p0 p1 5 0).bind fun r6 => cond (r6.n == 1) (Z52 p3 x4 true) ((Z4t p0 p1 1 0).bind fun r9 => Z52 p3 x4 (r9.author == p2.author))) (cond (p2.n == 2) ((Z4z (!x4)).bind fun r22 => some r22) (some 11))
def Z54 (p0 : Yaf) (p1 : List Yai) (p2 : Yaa) (p3 : Int) : Option Int := cond (p3 == 1) (Z53 p0 p1 p2 p3 true) (Z53 p0 p1 p2 p3 (p3 == 4))
instance Z55 (p0 : Yaf) (p1 : List Yai) (p2 : Yaa) (p3 : Int) : Sp Tryz.prog 172 [C.agg [cI p0.room, cM Yap 9 p0.events, cM Yap 9 p0.parked], cM Yb1 3 p1, C.agg [cI p2.id, cI p2.room, cI p2.author, cI p2.kind, cI p2.key, cI p2.n, C.str p2.text, cM kI64 1 p2.prev, cI p2.time], cI p3] (Z54 p0 p1 p2 p3) (fun r => cI r) := Sp.of (so Tryz.func172 rfl rfl fun r X h => gh (.q 1 (.c1 (fun x4 => .d [(9, C.bool x4)] []) [1,3,4,6] [1,0] .z (.b (.c1 (fun x11 => .d [(10, C.bool x11)] []) [3,9] [] (.r [0,0] [0,6,11] [] [1,4,10,12,16,20,25,28,40,45,34,36,48,52,56] .z) (.c1 (fun x20 => .d [(8, cI x20)] []) [] [] .z .z)) .z))))

def Z56 (x13 : Int) : Option Int := some x13
def Z57 (x26 : Int) : Option Int := some x26
def Z58 (x36 : Int) : Option Int := some x36
def Z59 (p0 : Yaf) (p1 : List Yai) (p2 : Yaa) (p3 : Int) : Option Int := (Z4v p0 p1 p2.key).bind fun r3 => (Z4x p0 p1 p2.key).bind fun r5 => cond (p2.n == 4) (cond (r3 == 1) ((Z4z true).bind fun r9 => Z56 r9) ((Z4z (r3 == 3)).bind fun r11 => Z56 r11)) (cond (p2.n == 2) (cond (decide (p3 < 50)) ((Z4z true).bind fun r16 => Z57 r16) (cond (decide (p3 ≤ r5)) ((Z4z true).bind fun r19 => Z57 r19) (cond (r3 == 0) ((Z4z true).bind fun r22 => Z57 r22) ((Z4z (r3 == 2)).bind fun r24 => Z57 r24)))) (cond (p2.n == 3) (cond (decide (p3 < 50)) ((Z4z true).bind fun r29 => Z58 r29) (cond (decide (p3 ≤ r5)) ((Z4z true).bind fun r32 => Z58 r32) ((Z4z (r3 == 3)).bind fun r34 => Z58 r34))) (some 11)))
instance Z5a (p0 : Yaf) (p1 : List Yai) (p2 : Yaa) (p3 : Int) : Sp Tryz.prog 173 [C.agg [cI p0.room, cM Yap 9 p0.events, cM Yap 9 p0.parked], cM Yb1 3 p1, C.agg [cI p2.id, cI p2.room, cI p2.author, cI p2.kind, cI p2.key, cI p2.n, C.str p2.text, cM kI64 1 p2.prev, cI p2.time], cI p3] (Z59 p0 p1 p2 p3) (fun r => cI r) := Sp.of (so Tryz.func173 rfl rfl fun r X h => gh (.r [0,0] [0,3,5,8] [] [1,4,8,13,21,24,28,33,18,38,40,44] (.b (.c1 (fun x13 => .d [(8, cI x13)] []) [] [] .z .z) (.b (.c1 (fun x26 => .d [(8, cI x26)] []) [] [] .z .z) (.b (.c1 (fun x36 => .d [(8, cI x36)] []) [] [] .z .z) .z)))))

def Z5b (x35 : Int) : Option Int := some x35
def Z5c (x53 : Int) : Option Int := some x53
def Z5d (p0 : Yaf) (p2 : Yaa) (r10 : Int) (x38 : Bool) : Option Int := cond x38 ((Z4z (decide (r10 < 50))).bind fun r40 => some r40) (cond (p2.kind == 8) ((Z2w p0.events p2.key).bind fun r43 => cond (decide (r43 < 0)) (some 6) (cond (decide (r10 < 50)) ((getI p0.events r43).bind fun e47 => (Z4z (e47.author != p2.author)).bind fun r49 => Z5c r49) ((Z4z false).bind fun r51 => Z5c r51))) (some 0))
def Z5e (p0 : Yaf) (p1 : List Yai) (p2 : Yaa) (r8 : Int) (r10 : Int) (x13 : Bool) : Option Int := cond x13 ((Z54 p0 p1 p2 r8).bind fun r15 => some r15) (cond (r8 != 1) (some 11) (cond (p2.kind == 2) ((Z59 p0 p1 p2 r10).bind fun r19 => some r19) (cond (p2.kind == 3) (cond (decide (r10 < 50)) ((Z4z true).bind fun r23 => Z5b r23) (cond (decide (p2.n > r10)) ((Z4z true).bind fun r26 => Z5b r26) (cond (p2.key != p2.author) ((Z4x p0 p1 p2.key).bind fun r29 => (Z4z (decide (r29 ≥ r10))).bind fun r31 => Z5b r31) ((Z4z false).bind fun r33 => Z5b r33)))) (cond (p2.kind == 4) (Z5d p0 p2 r10 (p2.kind == 4)) (cond (p2.kind == 5) (Z5d p0 p2 r10 (p2.kind == 5)) (Z5d p0 p2 r10 (p2.kind == 6)))))))
def Z5f (p0 : Yaf) (p1 : List Yai) (p2 : Yaa) : Option Int := (Z3x p1 1 0).bind fun r3 => cond (p2.kind == 1) (cond (decide (r3 > 0)) (some 7) (some 0)) (cond (decide (r3 > 0)) ((Z4v p0 p1 p2.author).bind fun r8 => (Z4x p0 p1 p2.author).bind fun r10 => cond (p2.kind == 2) (Z5e p0 p1 p2 r8 r10 (p2.key == p2.author)) (Z5e p0 p1 p2 r8 r10 false)) (some 10))
instance Z5g (p0 : Yaf) (p1 : List Yai) (p2 : Yaa) : Sp Tryz.prog 102 [C.agg [cI p0.room, cM Yap 9 p0.events, cM Yap 9 p0.parked], cM Yb1 3 p1, C.agg [cI p2.id, cI p2.room, cI p2.author, cI p2.kind, cI p2.key, cI p2.n, C.str p2.text, cM kI64 1 p2.prev, cI p2.time]] (Z5f p0 p1 p2) (fun r => cI r) := Sp.of (so Tryz.func102 rfl rfl fun r X h => gh (.b .z (.b (.r [0,0] [0,3,5,8] [] [1,4,8,13,21,24,28,33,18,38,40,44] (.q 1 (.c1 (fun x13 => .d [(39, C.bool x13)] []) [1,3,5,8,9] [1,0] .z (.b .z (.b .z (.b .z (.b (.c1 (fun x35 => .d [(6, cI x35)] []) [] [] .z .z) (.c1 (fun x38 => .d [(83, C.bool x38)] []) [3,5,9,48] [0,1] .z (.b .z (.b (.b .z (.c1 (fun x53 => .d [(6, cI x53)] []) [] [] (.r [0,0] [4,8,10] [] [0,4,8,12,17,20,24,28,33,36,41,44,48,54,56] .z) .z)) .z)))))))))) .z)))

def Z5h (l249 : List Yai) : Option (List Yai) := some l249
def Z5i (x218 : Int) (l247 : List Yai) : Option ((List Yai × Int) ⊕ ((List Yai))) := some (.inl (l247, (IntKind.i64.wrap (x218 + 1))))
def Z5j (p0 : Yaf) (l217 : List Yai) (x218 : Int) (x230 : Int) (x231 : Int) (x232 : Int) (x233 : Int) (x234 : Int) (x235 : Int) (x236 : ByteArray) (l237 : List Int) (x238 : Int) : Option ((List Yai × Int) ⊕ ((List Yai))) := (Z5f p0 l217 (Yaa.mk x230 x231 x232 x233 x234 x235 x236 l237 x238)).bind fun r239 => cond (r239 == 0) ((Z4f l217 (Yai.mk x233 x234 x230)).bind fun r242 => Z5i x218 r242) (Z5i x218 l217)
def Z5k (p0 : Yaf) (l186 : List Int) (l217 : List Yai) (x218 : Int) : Option ((List Yai × Int) ⊕ ((List Yai))) := cond (decide (x218 < (l186.length : Int))) ((getI l186 x218).bind fun e220 => (Z2w p0.events e220).bind fun r222 => (getI p0.events r222).bind fun e225 => Z5j p0 l217 x218 e225.id e225.room e225.author e225.kind e225.key e225.n e225.text e225.prev e225.time) (some (.inr l217))
def Z5l (p0 : Yaf) (l95 : List Yai) (l186 : List Int) : Option (List Yai) := (iter (fun z251 => Z5k p0 l186 z251.1 z251.2) big (l95, 0)).bind fun y252 => Z5h y252
def Z5m (l96 : List Int) (l141 : List Int) (x142 : Int) (x163 : Int) : Option ((List Int × Int) ⊕ ((List Int))) := (chk (decide ((0 : Int) ≤ x163 ∧ x163 ≤ (l141.length : Int)))).bind fun u166 => (chk (decide ((Int.toNat x163) ≤ l141.length))).bind fun u168 => (chk (decide ((([] : List Int).length + (List.take (Int.toNat x163) l141).length) * 8 ≤ 140737488355328))).bind fun u170 => (getI l96 x142).bind fun e172 => (chk (decide (((([] : List Int) ++ (List.take (Int.toNat x163) l141)).length + [e172].length) * 8 ≤ 140737488355328))).bind fun u176 => (chk (decide ((0 : Int) ≤ x163 ∧ x163 ≤ (l141.length : Int)))).bind fun u179 => (chk (decide ((Int.toNat x163) ≤ l141.length))).bind fun u181 => (chk (decide ((((([] : List Int) ++ (List.take (Int.toNat x163) l141)) ++ [e172]).length + (List.drop (Int.toNat x163) l141).length) * 8 ≤ 140737488355328))).bind fun u183 => some (.inl ((((([] : List Int) ++ (List.take (Int.toNat x163) l141)) ++ [e172]) ++ (List.drop (Int.toNat x163) l141)), (IntKind.i64.wrap (x142 + 1))))
def Z5n (x153 : Int) (x161 : Bool) : Option (Int ⊕ (Int)) := cond x161 (some (.inl (IntKind.i64.wrap (x153 - 1)))) (some (.inr x153))
def Z5o (p0 : Yaf) (p1 : List Int) (l96 : List Int) (l141 : List Int) (x142 : Int) (x153 : Int) : Option (Int ⊕ (Int)) := cond (decide (x153 > 0)) ((getI l96 x142).bind fun e155 => (getI l141 (IntKind.i64.wrap (x153 - 1))).bind fun e157 => (Z4r p0 p1 e155 e157).bind fun r159 => Z5n x153 r159) (Z5n x153 false)
def Z5p (p0 : Yaf) (p1 : List Int) (l96 : List Int) (l141 : List Int) (x142 : Int) : Option ((List Int × Int) ⊕ ((List Int))) := cond (decide (x142 < (l96.length : Int))) ((iter (Z5o p0 p1 l96 l141 x142) big (l141.length : Int)).bind fun y253 => Z5m l96 l141 x142 y253) (some (.inr l141))
def Z5q (p0 : Yaf) (p1 : List Int) (l95 : List Yai) (l96 : List Int) : Option (List Yai) := (iter (fun z254 => Z5p p0 p1 l96 z254.1 z254.2) big (([] : List Int), 0)).bind fun y255 => Z5l p0 l95 y255
def Z5r (x51 : Int) (l92 : List Yai) (l93 : List Int) : Option ((List Yai × List Int × Int) ⊕ ((List Yai × List Int))) := some (.inl (l92, l93, (IntKind.i64.wrap (x51 + 1))))
def Z5s (x73 : Int) (l89 : List Yai) (l90 : List Int) : Option ((List Yai × List Int × Int) ⊕ ((List Yai × List Int))) := some (.inl (l89, l90, (IntKind.i64.wrap (x73 + 1))))
def Z5t (p2 : List (List Yai)) (x51 : Int) (l71 : List Yai) (l72 : List Int) (x73 : Int) : Option ((List Yai × List Int × Int) ⊕ ((List Yai × List Int))) := (getI p2 x51).bind fun e74 => cond (decide (x73 < (e74.length : Int))) ((getI e74 x73).bind fun e77 => (Z41 p2 e77).bind fun r79 => cond r79 ((Z4f l71 e77).bind fun r82 => Z5s x73 r82 l72) ((Z4l l72 e77.id).bind fun r86 => Z5s x73 l71 r86)) (some (.inr (l71, l72)))
def Z5u (p2 : List (List Yai)) (l49 : List Yai) (l50 : List Int) (x51 : Int) : Option ((List Yai × List Int × Int) ⊕ ((List Yai × List Int))) := cond (decide (x51 < (p2.length : Int))) ((iter (fun z256 => Z5t p2 x51 z256.1 z256.2.1 z256.2.2) big (l49, l50, 0)).bind fun (y257, y258) => Z5r x51 y257 y258) (some (.inr (l49, l50)))
def Z5v (p0 : Yaf) (p1 : List Int) (p2 : List (List Yai)) : Option (List Yai) := (iter (fun z259 => Z5u p2 z259.1 z259.2.1 z259.2.2) big (([] : List Yai), ([] : List Int), 0)).bind fun (y260, y261) => Z5q p0 p1 y260 y261
instance Z5w (p0 : Yaf) (p1 : List Int) (p2 : List (List Yai)) : SpO Tryz.prog 103 (Z5v p0 p1 p2) (.d [C.agg [cI p0.room, cM Yap 9 p0.events, cM Yap 9 p0.parked], cM kI64 1 p1, cM Yb2 1 p2] [] fun r => .x fun (v250 : Value) => .d (cV v250) [oA v250 235 Yb1 3 r]) := ⟨so Tryz.func103 rfl rfl fun r X h => gh (.q 3 (.c2 (fun l95 l96 => .x fun v94 => .d [(7, cV v94), (8, cM kI64 1 l96)] [oA v94 235 Yb1 3 l95]) [1,3] [2] (.l3 (fun l49 l50 x51 => .x fun v48 => .d [(7, cV v48), (8, cM kI64 1 l50), (9, cI x51)] [oA v48 235 Yb1 3 l49]) [1,2,3] [2] (.b (.c2 (fun l92 l93 => .x fun v91 => .d [(7, cV v91), (8, cM kI64 1 l93)] [oA v91 235 Yb1 3 l92]) [1,2,3,9] [1] (.l3 (fun l71 l72 x73 => .x fun v70 => .d [(7, cV v70), (8, cM kI64 1 l72), (10, cI x73)] [oA v70 235 Yb1 3 l71]) [1,2,3,9] [1] (.b (.c2 (fun l89 l90 => .x fun v88 => .d [(7, cV v88), (8, cM kI64 1 l90)] [oA v88 235 Yb1 3 l89]) [1,2,3,9,10] [1] (.b (.k .z) .z) .z) .z)) .z) .z)) (.q 1 (.c1 (fun l186 => .x fun v185 => .d [(11, cV v185)] [oA v185 2 kI64 1 l186]) [3,7] [2,1] (.l2 (fun l141 x142 => .x fun v140 => .d [(11, cV v140), (12, cI x142)] [oA v140 2 kI64 1 l141]) [1,3,7,8] [2,1] (.b (.q 2 (.c1 (fun x163 => .d [(13, cI x163)] []) [1,3,7,8,11,12] [1,2,0] (.l1 (fun x153 => .d [(13, cI x153)] []) [1,3,7,8,11,12] [1,2,0] (.q 1 (.c1 (fun x161 => .d [(86, C.bool x161)] []) [1,3,7,8,11,12,13] [0,1,2] (.r [0,0,0] [3,8,13] [] [0,4,8,13,16,20,24,28,33,36,40,44,48,53,58,60] .z) .z))) .z)) .z)) (.c1 (fun l249 => .x fun v248 => .d [(7, cV v248)] [oA v248 235 Yb1 3 l249]) [] [] (.l2 (fun l217 x218 => .x fun v216 => .d [(7, cV v216), (15, cI x218)] [oA v216 235 Yb1 3 l217]) [3,11] [1,0] (.b (.c1 (fun l247 => .x fun v246 => .d [(7, cV v246)] [oA v246 235 Yb1 3 l247]) [3,11,15] [1,2] (.c9 (fun x230 x231 x232 x233 x234 x235 x236 l237 x238 => .x fun b229 => .d [(16, pt b229)] [oB b229 47 [cI x230, cI x231, cI x232, cI x233, cI x234, cI x235, C.str x236, cM kI64 1 l237, cI x238]]) [3,7,11,15] [1,0,2] (.R [0,0,0] [1,3,7,10] [12] (.light 0 false (.light 1 true (.light 2 false (.light 3 true (.light 4 false (.light 5 false (.light 6 false (.light 7 true (.two 8 11 (.light 9 false (.light 10 true (.one 11 (.late 12 (.done))))) (.one 8 (.light 9 false (.light 10 true (.late 12 (.done)))))))))))))) (.H 100 .z)) (.b (.k .z) .z)) .z) .z)) .z)))))⟩
instance Z5w' (p0 : Yaf) (p1 : List Int) (p2 : List (List Yai)) : Sp Tryz.prog 103 [C.agg [cI p0.room, cM Yap 9 p0.events, cM Yap 9 p0.parked], cM kI64 1 p1, cM Yb2 1 p2] (Z5v p0 p1 p2) (fun r => cM Yb1 3 r) := ⟨fun r h => Ok.freeze ((Z5w p0 p1 p2).h r h) (by rintro c qs ⟨v250, rfl, rfl⟩; exact Frz.arr)⟩

def Z5x (p0 : Yaa) : Option Yaa := (chk (decide ((([] : List Int).length + p0.prev.length) * 8 ≤ 140737488355328))).bind fun u5 => some (Yaa.mk p0.id p0.room p0.author p0.kind p0.key p0.n p0.text (([] : List Int) ++ p0.prev) p0.time)
instance Z5y (p0 : Yaa) : SpO Tryz.prog 191 (Z5x p0) (.d [C.agg [cI p0.id, cI p0.room, cI p0.author, cI p0.kind, cI p0.key, cI p0.n, C.str p0.text, cM kI64 1 p0.prev, cI p0.time]] [] fun r => .x fun (v8 : Value) => .d (C.agg [cI r.id, cI r.room, cI r.author, cI r.kind, cI r.key, cI r.n, C.str r.text, cV v8, cI r.time]) [oA v8 2 kI64 1 r.prev]) := ⟨so Tryz.func191 rfl rfl fun r X h => gh .z⟩
instance Z5y' (p0 : Yaa) : Sp Tryz.prog 191 [C.agg [cI p0.id, cI p0.room, cI p0.author, cI p0.kind, cI p0.key, cI p0.n, C.str p0.text, cM kI64 1 p0.prev, cI p0.time]] (Z5x p0) (fun r => C.agg [cI r.id, cI r.room, cI r.author, cI r.kind, cI r.key, cI r.n, C.str r.text, cM kI64 1 r.prev, cI r.time]) := ⟨fun r h => Ok.freeze ((Z5y p0).h r h) (by rintro c qs ⟨v8, rfl, rfl⟩; exact Frz.agg (fS (fS (fS (fS (fS (fS (fS (FrzL.cons (os := [_]) (Frz.arr) (fS (FrzL.nil)))))))))))⟩

def Z5z (p0 : Yaf) (p1 : Int) : Option Yaa := (Z2w p0.events p1).bind fun r3 => cond (decide (r3 < 0)) (some (Yaa.mk 0 0 0 0 0 0 ByteArray.empty [] 0)) ((getI p0.events r3).bind fun e6 => (Z5x e6).bind fun r8 => some r8)
instance Z60 (p0 : Yaf) (p1 : Int) : Sp Tryz.prog 145 [C.agg [cI p0.room, cM Yap 9 p0.events, cM Yap 9 p0.parked], cI p1] (Z5z p0 p1) (fun r => C.agg [cI r.id, cI r.room, cI r.author, cI r.kind, cI r.key, cI r.n, C.str r.text, cM kI64 1 r.prev, cI r.time]) := Sp.of (so Tryz.func145 rfl rfl fun r X h => gh .z)

def Z61 : Option Bool := some false
def Z62 (p0 : Yaf) (p1 : Int) (l35 : List Bool) (l37 : List Int) : Option ((List Bool × List Int) ⊕ (Bool ⊕ Unit)) := cond (decide ((l37.length : Int) > 0)) ((getI l37 0).bind fun e39 => (chk (decide ((0 : Int) ≤ 1 ∧ 1 ≤ (l37.length : Int)))).bind fun u42 => (Z2w p0.events e39).bind fun r44 => cond (e39 == p1) (some (.inr (.inl true))) ((getI l35 r44).bind fun e47 => cond e47 (some (.inl (l35, (List.drop (Int.toNat 1) l37)))) ((getI p0.events r44).bind fun e50 => (chk (decide (((List.drop (Int.toNat 1) l37).length + e50.prev.length) * 8 ≤ 140737488355328))).bind fun u53 => some (.inl ((List.set l35 (Int.toNat r44) true), ((List.drop (Int.toNat 1) l37) ++ e50.prev)))))) (some (.inr (.inr ())))
def Z63 (p0 : Yaf) (p1 : Int) (p2 : Int) (x7 : Bool) : Option Bool := cond x7 (some false) ((chk (decide (0 ≤ (p0.events.length : Int) ∧ (p0.events.length : Int) * 1 ≤ 140737488355328))).bind fun u10 => (Z5z p0 p2).bind fun r13 => (chk (decide ((([] : List Int).length + r13.prev.length) * 8 ≤ 140737488355328))).bind fun u16 => (iter (fun z55 => Z62 p0 p1 z55.1 z55.2) big ((List.replicate (Int.toNat (p0.events.length : Int)) false), (([] : List Int) ++ r13.prev))).bind (fun z57 => match z57 with | .inl y56 => some y56 | .inr () => Z61))
def Z64 (p0 : Yaf) (p1 : Int) (p2 : Int) : Option Bool := (Z2w p0.events p1).bind fun r2 => cond (decide (r2 < 0)) (Z63 p0 p1 p2 true) ((Z2w p0.events p2).bind fun r5 => Z63 p0 p1 p2 (decide (r5 < 0)))
instance Z65 (p0 : Yaf) (p1 : Int) (p2 : Int) : Sp Tryz.prog 101 [C.agg [cI p0.room, cM Yap 9 p0.events, cM Yap 9 p0.parked], cI p1, cI p2] (Z64 p0 p1 p2) C.bool := sp Tryz.func101 rfl rfl fun r X h => by
 unfold Z64 at h
 refine zw ?_
 refine ox fun b1 => ?_
 refine Ops.v rfl (Ys rfl rfl) ?_
 refine Ops.nil ?_
 refine AW.seq ?_
 refine AW.seq ?_
 refine AW.cut (τ := Bool) (fun x7 => ⟨[(1, cI p1), (2, cI p2), (3, pt b1), (22, C.bool x7)], [oB b1 114 [cI p0.room, cM Yap 9 p0.events, cM Yap 9 p0.parked]]⟩) (fun x7 => Z63 p0 p1 p2 x7 = some r) ?_ ?_
 ·
  refine zw ?_
  refine oc h fun r2 g3 h => ?_
  refine zw ?_
  refine cnd h (fun hb4 h => ?_) fun hb4 h => ?_
  ·
   refine zw ?_
   exact ⟨true, h, Y25.both (ns := [0]) rfl rfl⟩
  refine zw ?_
  refine gcl h rfl rfl rfl rfl hb4 inferInstance rfl rfl fun r5 g6 h => ?_
  refine zw ?_
  exact ⟨decide (r5 < 0), h, Y25.both (ns := [0]) rfl rfl⟩
 intro x7 h
 replace h : Z63 p0 p1 p2 x7 = some r := h
 unfold Z63 at h
 refine cnd h (fun hb8 h => ?_) fun hb8 h => ?_
 ·
  refine AW.ct hb8 rfl ?_
  refine zw ?_
  refine AW.ret ?_
  rw [← Wj h]
  exact finI ⟨[C.bool false], _, Y25.refl _, (.cons (.tmp rfl) .nil), [], _, _, rfl, ⟨rfl, rfl⟩⟩
 refine AW.cf hb8 rfl ?_
 refine zw ?_
 refine ob' h fun u10 c9 h => ?_
 refine Ops.h (ns := []) rfl rfl (mS (k := Yb3) (u := false) c9 Yes ze_4 (Y4g rfl rfl)) ?_
 rintro _ _ ⟨b11, rfl, rfl⟩
 refine zw ?_
 refine Ops.h (ns := []) rfl rfl (Y3l (k := kI64) (ys := ([] : List Int)) Yc9 .nil rfl rfl rfl) ?_
 rintro _ _ ⟨b12, rfl, rfl⟩
 refine zw ?_
 refine oc h fun r13 g14 h => ?_
 refine Ops.v rfl (Y7d Yet rfl rfl rfl) ?_
 refine ob' h fun u16 c15 h => ?_
 refine Ops.h (ns := [0]) rfl rfl (Y33 Yc9 rfl rfl (Wo (Y45 c15)) (Y48 (by decide) c15) rfl) ?_
 rintro _ _ ⟨v17, rfl, rfl⟩
 refine Ops.v rfl (Ys rfl rfl) ?_
 refine Ops.nil ?_
 refine AW.seq ?_
 refine AW.cut (τ := Unit) (fun (_ : Unit) => ⟨[], []⟩) (fun (_ : Unit) => Z61 = some r) ?_ ?_
 ·
  refine zw ?_
  refine ob' h fun o58 g59 q60 => ?_
  refine AW.loop (τ := List Bool × List Int × Value) (x := ((List.replicate (Int.toNat (p0.events.length : Int)) false), (([] : List Int) ++ r13.prev), v17)) (fun (l35, l37, v36) => ⟨[(1, cI p1), (3, pt b1), (7, cV (sn b11 (p0.events.length : Int))), (8, cV v36)], [oA (sn b11 (p0.events.length : Int)) 4 Yb3 1 l35, Obj.que v36 2 kI64 1 l37, oB b1 114 [cI p0.room, cM Yap 9 p0.events, cM Yap 9 p0.parked]]⟩) (fun k (l35, l37, v36) => iter (fun z55 => Z62 p0 p1 z55.1 z55.2) k (l35, l37) = some o58) g59 ((Y25.que (p := 0) rfl).trans (Y25.both (ns := [1, 0, 0]) rfl rfl)) ?_
  rintro k ⟨l35, l37, v36⟩ i62
  refine Y4f (show iter (fun z55 => Z62 p0 p1 z55.1 z55.2) k (l35, l37) = some o58 from i62) fun k61 y63 hlt_k61 h h64 => ?_
  replace h : Z62 p0 p1 l35 l37 = some y63 := h
  unfold Z62 at h
  refine zw ?_
  refine Ops.v rfl (Y87 (p := 1) Ybk.h rfl rfl rfl) ?_
  refine zw ?_
  refine cnd h (fun hb38 h => ?_) fun hb38 h => ?_
  ·
   refine AW.ct hb38 rfl ?_
   refine zw ?_
   refine ob' h fun e39 g40 h => ?_
   refine Ops.v rfl (Y88 (p := 1) Ybk.h rfl rfl rfl g40 rfl) ?_
   refine Ops.v rfl (Y89 (p := 1) ld_2.h rfl rfl (Y2f g40).2.2 rfl rfl) ?_
   refine zw ?_
   refine ob' h fun u42 c41 h => ?_
   refine Ops.h (ns := [1]) rfl rfl (Y8a (l := (Int.toNat 1)) Ybk.h rfl rfl (Wo (Y45 c41)) rfl rfl) ?_
   rintro _ _ ⟨v43, rfl, rfl⟩
   refine zw ?_
   refine oc h fun r44 g45 h => ?_
   refine zw ?_
   refine cnd h (fun hb46 h => ?_) fun hb46 h => ?_
   ·
    refine AW.ct hb46 rfl ?_
    refine zw ?_
    refine AW.ret ?_
    obtain rfl := Wj h
    obtain rfl := Wj h64
    replace h := q60
    rw [← Wj h]
    exact finI ⟨[C.bool true], _, Y25.refl _, (.cons (.tmp rfl) .nil), [], _, _, rfl, ⟨rfl, rfl⟩⟩
   refine AW.cf hb46 rfl ?_
   refine zw ?_
   refine ob' h fun e47 g48 h => ?_
   refine zw ?_
   refine cnd h (fun hb49 h => ?_) fun hb49 h => ?_
   ·
    refine AW.cond rfl (fun hn => absurd ((Y46 hb49).symm.trans hn) (by decide)) (fun _ => ?_)
    refine zw ?_
    obtain rfl := Wj h
    exact ⟨k61, (l35, (List.drop (Int.toNat 1) l37), v43), hlt_k61, h64, Y25.both (ns := [1, 0, 0]) rfl rfl⟩
   refine AW.cond rfl (fun _ => ?_) (fun hn => absurd ((Y47 hb49).symm.trans hn) (by decide))
   refine zw ?_
   refine Ops.hd (ns := [1]) rfl rfl (Y3f (e' := true) ld_4.h rfl rfl (One.val rfl) (Y2f g48).2.2 rfl rfl) ?_
   refine zw ?_
   refine oi h fun e50 g51 h => ?_
   refine zw ?_
   refine ob' h fun u53 c52 h => ?_
   refine Ops.h (ns := [1]) rfl rfl (Y8d Yc9 rfl rfl (Wo (Y45 c52)) (Y48 (by decide) c52) rfl) ?_
   rintro _ _ ⟨v54, rfl, rfl⟩
   refine zw ?_
   obtain rfl := Wj h
   exact ⟨k61, ((List.set l35 (Int.toNat r44) true), ((List.drop (Int.toNat 1) l37) ++ e50.prev), v54), hlt_k61, h64, Y25.both (ns := [1, 0, 0]) rfl rfl⟩
  refine AW.cf hb38 rfl ?_
  refine AW.exit ?_
  obtain rfl := Wj h
  obtain rfl := Wj h64
  replace h := q60
  exact ⟨(), h, Y25.both (ns := []) rfl rfl⟩
 rintro ⟨⟩ h
 replace h : Z61 = some r := h
 unfold Z61 at h
 refine zw ?_
 refine AW.ret ?_
 rw [← Wj h]
 exact finI ⟨[C.bool false], _, Y25.refl _, (.cons (.tmp rfl) .nil), [], _, _, rfl, ⟨rfl, rfl⟩⟩

def Z66 (l38 : List Int) (l260 : List (List Yai)) (l261 : List (List Yai)) (l262 : List Int) : Option Yaj := some (Yaj.mk l38 l260 l261 l262)
def Z67 (x152 : Int) (l257 : List (List Yai)) (l258 : List (List Yai)) (l259 : List Int) : Option ((List (List Yai) × List (List Yai) × List Int × Int) ⊕ ((List (List Yai) × List (List Yai) × List Int))) := some (.inl (l257, l258, l259, (IntKind.i64.wrap (x152 + 1))))
def Z68 (l149 : List (List Yai)) (l150 : List (List Yai)) (x152 : Int) (r156 : Int) (e158 : Yaa) (r220 : List Yai) (e225 : List Yai) (l241 : List Int) (x251 : Bool) : Option ((List (List Yai) × List (List Yai) × List Int × Int) ⊕ ((List (List Yai) × List (List Yai) × List Int))) := cond x251 ((Z4f e225 (Yai.mk e158.kind e158.key e158.id)).bind fun r253 => (getI (List.set l150 (Int.toNat r156) (([] : List Yai) ++ e225)) r156).bind fun e255 => Z67 x152 (List.set l149 (Int.toNat r156) r220) (List.set (List.set l150 (Int.toNat r156) (([] : List Yai) ++ e225)) (Int.toNat r156) r253) l241) (Z67 x152 (List.set l149 (Int.toNat r156) r220) (List.set l150 (Int.toNat r156) (([] : List Yai) ++ e225)) l241)
def Z69 (l149 : List (List Yai)) (l150 : List (List Yai)) (x152 : Int) (r156 : Int) (e158 : Yaa) (r220 : List Yai) (e225 : List Yai) (l241 : List Int) : Option ((List (List Yai) × List (List Yai) × List Int × Int) ⊕ ((List (List Yai) × List (List Yai) × List Int))) := (chk (decide ((([] : List Yai).length + e225.length) * 24 ≤ 140737488355328))).bind fun u244 => (getI l150 r156).bind fun e246 => (getI l241 r156).bind fun e248 => cond (e248 == 0) (Z68 l149 l150 x152 r156 e158 r220 e225 l241 (decide (e158.kind ≤ 6))) (Z68 l149 l150 x152 r156 e158 r220 e225 l241 false)
def Z6a (l149 : List (List Yai)) (l150 : List (List Yai)) (l151 : List Int) (x152 : Int) (r156 : Int) (e158 : Yaa) (r220 : List Yai) (e225 : List Yai) (r227 : Int) (x237 : Bool) : Option ((List (List Yai) × List (List Yai) × List Int × Int) ⊕ ((List (List Yai) × List (List Yai) × List Int))) := cond x237 ((getI (List.set l151 (Int.toNat r156) r227) r156).bind fun e239 => Z69 l149 l150 x152 r156 e158 r220 e225 (List.set (List.set l151 (Int.toNat r156) r227) (Int.toNat r156) 6)) (Z69 l149 l150 x152 r156 e158 r220 e225 (List.set l151 (Int.toNat r156) r227))
def Z6b (p0 : Yaf) (l38 : List Int) (l149 : List (List Yai)) (l150 : List (List Yai)) (l151 : List Int) (x152 : Int) (r156 : Int) (e158 : Yaa) (l214 : List (List Yai)) : Option ((List (List Yai) × List (List Yai) × List Int × Int) ⊕ ((List (List Yai) × List (List Yai) × List Int))) := (Z5v p0 l38 l214).bind fun r220 => (getI l149 r156).bind fun e223 => (getI (List.set l149 (Int.toNat r156) r220) r156).bind fun e225 => (Z5f p0 e225 e158).bind fun r227 => (getI l151 r156).bind fun e229 => (getI (List.set l151 (Int.toNat r156) r227) r156).bind fun e231 => cond (e231 == 0) (cond (e158.kind == 8) ((Z64 p0 e158.key e158.id).bind fun r235 => Z6a l149 l150 l151 x152 r156 e158 r220 e225 r227 (!r235)) (Z6a l149 l150 l151 x152 r156 e158 r220 e225 r227 false)) (Z6a l149 l150 l151 x152 r156 e158 r220 e225 r227 false)
def Z6c (p0 : Yaf) (l150 : List (List Yai)) (e158 : Yaa) (l187 : List (List Yai)) (x188 : Int) : Option ((List (List Yai) × Int) ⊕ ((List (List Yai)))) := cond (decide (x188 < (e158.prev.length : Int))) ((getI e158.prev x188).bind fun e203 => (Z2w p0.events e203).bind fun r205 => (getI l150 r205).bind fun e207 => (chk (decide ((l187.length + [e207].length) * 24 ≤ 140737488355328))).bind fun u211 => some (.inl ((l187 ++ [e207]), (IntKind.i64.wrap (x188 + 1))))) (some (.inr l187))
def Z6d (p0 : Yaf) (l38 : List Int) (r42 : List Int) (l149 : List (List Yai)) (l150 : List (List Yai)) (l151 : List Int) (x152 : Int) : Option ((List (List Yai) × List (List Yai) × List Int × Int) ⊕ ((List (List Yai) × List (List Yai) × List Int))) := cond (decide (x152 < (p0.events.length : Int))) ((getI r42 x152).bind fun e154 => (Z2w p0.events e154).bind fun r156 => (getI p0.events r156).bind fun e158 => (iter (fun z267 => Z6c p0 l150 e158 z267.1 z267.2) big (([] : List (List Yai)), 0)).bind fun y268 => Z6b p0 l38 l149 l150 l151 x152 r156 e158 y268) (some (.inr (l149, l150, l151)))
def Z6e (p0 : Yaf) (l38 : List Int) : Option Yaj := (Z3s p0).bind fun r42 => (iter (fun z269 => Z6d p0 l38 r42 z269.1 z269.2.1 z269.2.2.1 z269.2.2.2) big ((List.replicate (Int.toNat (p0.events.length : Int)) []), (List.replicate (Int.toNat (p0.events.length : Int)) []), (List.replicate (Int.toNat (p0.events.length : Int)) 0), 0)).bind fun (y270, y271, y272) => Z66 l38 y270 y271 y272
def Z6f (p0 : Yaf) : Option Yaj := (Z3b p0.events).bind fun r2 => (chk (decide (0 ≤ (p0.events.length : Int) ∧ (p0.events.length : Int) * 24 ≤ 140737488355328))).bind fun u5 => (chk (decide (0 ≤ (p0.events.length : Int) ∧ (p0.events.length : Int) * 24 ≤ 140737488355328))).bind fun u8 => (chk (decide (0 ≤ (p0.events.length : Int) ∧ (p0.events.length : Int) * 8 ≤ 140737488355328))).bind fun u11 => Z6e p0 r2
instance Z6g (p0 : Yaf) : SpO Tryz.prog 141 (Z6f p0) (.d [C.agg [cI p0.room, cM Yap 9 p0.events, cM Yap 9 p0.parked]] [] fun r => .x fun (b263 : Nat) => .x fun (v264 : Value) => .x fun (v265 : Value) => .x fun (v266 : Value) => .d (pt b263) [oB b263 167 [cM kI64 1 r.depths, cV v264, cV v265, cV v266], oA v264 165 Yb2 1 r.ahead, oA v265 165 Yb2 1 r.behind, oA v266 2 kI64 1 r.code]) := ⟨so Tryz.func141 rfl rfl fun r X h => gh (.q 2 (.c1 (fun l38 => .x fun b37 => .x fun v39 => .x fun v40 => .x fun v41 => .d [(4, pt b37)] [oB b37 167 [cM kI64 1 l38, cV v39, cV v40, cV v41], oA v39 165 Yb2 1 (List.replicate (Int.toNat (p0.events.length : Int)) []), oA v40 165 Yb2 1 (List.replicate (Int.toNat (p0.events.length : Int)) []), oA v41 2 kI64 1 (List.replicate (Int.toNat (p0.events.length : Int)) 0)]) [1,3] [0] (.R [0] [1] [] (.light 0 false (.light 1 true (.light 3 false (.light 5 false (.light 7 false (.four 2 4 6 8 (.three 4 6 8 (.two 6 8 (.one 8 (.light 9 false (.one 10 (.light 11 false .done)))) (.one 6 (.light 9 false (.one 10 (.light 11 false .done))))) (.two 4 8 (.one 8 (.light 9 false (.one 10 (.light 11 false .done)))) (.one 4 (.light 9 false (.one 10 (.light 11 false .done))))) (.two 4 6 (.one 6 (.light 9 false (.one 10 (.light 11 false .done)))) (.one 4 (.light 9 false (.one 10 (.light 11 false .done)))))) (.three 2 6 8 (.two 6 8 (.one 8 (.light 9 false (.one 10 (.light 11 false .done)))) (.one 6 (.light 9 false (.one 10 (.light 11 false .done))))) (.two 2 8 (.one 8 (.light 9 false (.one 10 (.light 11 false .done)))) (.one 2 (.light 9 false (.one 10 (.light 11 false .done))))) (.two 2 6 (.one 6 (.light 9 false (.one 10 (.light 11 false .done)))) (.one 2 (.light 9 false (.one 10 (.light 11 false .done)))))) (.three 2 4 8 (.two 4 8 (.one 8 (.light 9 false (.one 10 (.light 11 false .done)))) (.one 4 (.light 9 false (.one 10 (.light 11 false .done))))) (.two 2 8 (.one 8 (.light 9 false (.one 10 (.light 11 false .done)))) (.one 2 (.light 9 false (.one 10 (.light 11 false .done))))) (.two 2 4 (.one 4 (.light 9 false (.one 10 (.light 11 false .done)))) (.one 2 (.light 9 false (.one 10 (.light 11 false .done)))))) (.three 2 4 6 (.two 4 6 (.one 6 (.light 9 false (.one 10 (.light 11 false .done)))) (.one 4 (.light 9 false (.one 10 (.light 11 false .done))))) (.two 2 6 (.one 6 (.light 9 false (.one 10 (.light 11 false .done)))) (.one 2 (.light 9 false (.one 10 (.light 11 false .done))))) (.two 2 4 (.one 4 (.light 9 false (.one 10 (.light 11 false .done)))) (.one 2 (.light 9 false (.one 10 (.light 11 false .done)))))))))))) (.H 218 (.h 3 .z))) (.q 1 (.a 1 fun v39 => .a 2 fun v40 => .a 3 fun v41 => .c3 (fun l260 l261 l262 => .d [] [oA v39 165 Yb2 1 l260, oA v40 165 Yb2 1 l261, oA v41 2 kI64 1 l262]) [4] [0] (.A 1 fun v39 => .A 2 fun v40 => .A 3 fun v41 => .l4 (fun l149 l150 l151 x152 => .d [(6, cI x152)] [oA v39 165 Yb2 1 l149, oA v40 165 Yb2 1 l150, oA v41 2 kI64 1 l151]) [1,3,4,5] [4,0] (.b (.a 0 fun v39 => .a 1 fun v40 => .a 2 fun v41 => .c3 (fun l257 l258 l259 => .d [] [oA v39 165 Yb2 1 l257, oA v40 165 Yb2 1 l258, oA v41 2 kI64 1 l259]) [1,3,4,5,6] [3,4] (.r [0,0,0,0,0] [1,5] [] [0,5,8,12,16,21,26,28] (.q 2 (.c1 (fun l214 => .x fun v213 => .d [(9, cV v213)] [oA v213 165 Yb2 1 l214]) [1,3,4,5,6,7,8] [5,6,2,3,4,1] (.l2 (fun l187 x188 => .x fun v186 => .d [(9, cV v186), (10, cI x188)] [oA v186 165 Yb2 1 l187]) [1,3,4,5,6,7,8] [5,6,2,3,4,1] (.b (.r [1,1,1,1,1,1] [4,6,8,11,14] [] [0,4,8,12,17,20,25,28,33,36,40,45,50,52,57,62,66,68] .z) .z)) (.r [1,1,1,1,1,1] [3,5,9] [13] [0,4,8,13,16,21,24,28,32,37,40,46,48,55] (.k (.g 80 [] (.r [0,0,0,0,0,0,0] [3,5,9,12,13] [16] [0,4,8,13,16,21,24,28,32,37,40,44,49,53,58,60,67] (.a 0 fun v41 => .c1 (fun l241 => .d [] [oA v41 2 kI64 1 l241]) [1,3,4,5,6,7,8] [2,3,1,4,5] (.c1 (fun x237 => .d [(119, C.bool x237)] []) [1,3,4,5,6,7,8] [2,3,1,4,0,5] .z .z) (.r [0,0,0,0,0,0] [3,9,12] [15] [0,4,8,13,16,24,28,32,37,40,44,49,22,54,56,63] (.f 139 [] (.c1 (fun x251 => .d [(153, C.bool x251)] []) [1,3,4,5,6,7,8] [2,3,4,0,1,5] .z (.b (.r [0,0,0,0,0,0] [3,8,11,13,15,17] [21] [0,4,8,13,16,20,24,28,33,36,40,45,48,53,56,61,64,69,72,78,80,87] .z) .z)))))))))))) .z) .z)) .z))))⟩
instance Z6g' (p0 : Yaf) : Sp Tryz.prog 141 [C.agg [cI p0.room, cM Yap 9 p0.events, cM Yap 9 p0.parked]] (Z6f p0) (fun r => C.ip [cM kI64 1 r.depths, cM Yb2 1 r.ahead, cM Yb2 1 r.behind, cM kI64 1 r.code]) := ⟨fun r h => Ok.freeze ((Z6g p0).h r h) (by rintro c qs ⟨b263, v264, v265, v266, rfl, rfl⟩; exact Frz.box (fS (FrzL.cons (os := [_]) (Frz.arr) (FrzL.cons (os := [_]) (Frz.arr) (FrzL.cons (os := [_]) (Frz.arr) (FrzL.nil))))))⟩

def Z6h (l164 : List Int) : Option (List Int) := some l164
def Z6i (x79 : Int) (l162 : List Int) : Option ((List Int × Int) ⊕ ((List Int))) := some (.inl (l162, (IntKind.i64.wrap (x79 + 1))))
def Z6j (p0 : Yaf) (l78 : List Int) (x79 : Int) (x153 : Bool) : Option ((List Int × Int) ⊕ ((List Int))) := cond x153 ((getI p0.events x79).bind fun e155 => (chk (decide ((l78.length + [e155.id].length) * 8 ≤ 140737488355328))).bind fun u159 => Z6i x79 (l78 ++ [e155.id])) (Z6i x79 l78)
def Z6k (x118 : Int) (x152 : Bool) : Option ((Bool × Int) ⊕ (Bool)) := some (.inl (x152, (IntKind.i64.wrap (x118 + 1))))
def Z6l (x136 : Int) (x151 : Bool) : Option ((Bool × Int) ⊕ (Bool)) := some (.inl (x151, (IntKind.i64.wrap (x136 + 1))))
def Z6m (p0 : Yaf) (x79 : Int) (x118 : Int) (x135 : Bool) (x136 : Int) (x142 : Bool) : Option ((Bool × Int) ⊕ (Bool)) := cond x142 (cond x135 ((getI p0.events x118).bind fun e145 => (getI e145.prev x136).bind fun e147 => (getI p0.events x79).bind fun e149 => Z6l x136 (e147 != e149.id)) (Z6l x136 false)) (some (.inr x135))
def Z6n (p0 : Yaf) (p1 : List Bool) (x79 : Int) (x118 : Int) (x135 : Bool) (x136 : Int) : Option ((Bool × Int) ⊕ (Bool)) := (getI p1 x118).bind fun e137 => cond e137 ((getI p0.events x118).bind fun e140 => Z6m p0 x79 x118 x135 x136 (decide (x136 < (e140.prev.length : Int)))) (Z6m p0 x79 x118 x135 x136 false)
def Z6o (p0 : Yaf) (p1 : List Bool) (x79 : Int) (x117 : Bool) (x118 : Int) : Option ((Bool × Int) ⊕ (Bool)) := cond (decide (x118 < (p0.events.length : Int))) ((iter (fun z166 => Z6n p0 p1 x79 x118 z166.1 z166.2) big (x117, 0)).bind fun y167 => Z6k x118 y167) (some (.inr x117))
def Z6p (p0 : Yaf) (p1 : List Bool) (l78 : List Int) (x79 : Int) : Option ((List Int × Int) ⊕ ((List Int))) := cond (decide (x79 < (p0.events.length : Int))) ((getI p1 x79).bind fun e81 => (iter (fun z168 => Z6o p0 p1 x79 z168.1 z168.2) big (e81, 0)).bind fun y169 => Z6j p0 l78 x79 y169) (some (.inr l78))
def Z6q (p0 : Yaf) (p1 : List Bool) : Option (List Int) := (iter (fun z170 => Z6p p0 p1 z170.1 z170.2) big (([] : List Int), 0)).bind fun y171 => Z6h y171
instance Z6r (p0 : Yaf) (p1 : List Bool) : SpO Tryz.prog 96 (Z6q p0 p1) (.d [C.agg [cI p0.room, cM Yap 9 p0.events, cM Yap 9 p0.parked], cM Yb3 1 p1] [] fun r => .x fun (v165 : Value) => .d (cV v165) [oA v165 2 kI64 1 r]) := ⟨so Tryz.func96 rfl rfl fun r X h => gh (.q 2 (.c1 (fun l164 => .x fun v163 => .d [(5, cV v163)] [oA v163 2 kI64 1 l164]) [] [] (.l2 (fun l78 x79 => .x fun v77 => .d [(5, cV v77), (6, cI x79)] [oA v77 2 kI64 1 l78]) [1,2] [1] (.b (.c1 (fun l162 => .x fun v161 => .d [(5, cV v161)] [oA v161 2 kI64 1 l162]) [1,2,6] [1] (.q 1 (.c1 (fun x153 => .d [(7, C.bool x153)] []) [1,2,5,6] [1,0] (.l2 (fun x117 x118 => .d [(7, C.bool x117), (8, cI x118)] []) [1,2,5,6] [1,0] (.b (.c1 (fun x152 => .d [(7, C.bool x152)] []) [1,2,5,6,8] [0,1] (.l2 (fun x135 x136 => .d [(7, C.bool x135), (9, cI x136)] []) [1,2,5,6,8] [0,1] (.q 1 (.c1 (fun x142 => .d [(43, C.bool x142)] []) [1,2,5,6,7,8,9] [0,1] .z (.b (.c1 (fun x151 => .d [(7, C.bool x151)] []) [1,2,5,6,8,9] [0,1] (.r [0,0] [3,7,10,12,16] [] [0,4,8,13,16,20,24,29,32,36,41,44,49,52,56,60,65,68,72,76] .z) .z) .z)))) .z) .z)) .z)) .z) .z)) .z))⟩
instance Z6r' (p0 : Yaf) (p1 : List Bool) : Sp Tryz.prog 96 [C.agg [cI p0.room, cM Yap 9 p0.events, cM Yap 9 p0.parked], cM Yb3 1 p1] (Z6q p0 p1) (fun r => cM kI64 1 r) := ⟨fun r h => Ok.freeze ((Z6r p0 p1).h r h) (by rintro c qs ⟨v165, rfl, rfl⟩; exact Frz.arr)⟩

def Z6s (l16 : List Bool) : Option (List Bool) := some l16
def Z6t (p0 : Yaj) (l9 : List Bool) (x10 : Int) : Option ((List Bool × Int) ⊕ ((List Bool))) := cond (decide (x10 < (l9.length : Int))) ((getI p0.code x10).bind fun e12 => (getI l9 x10).bind fun e14 => some (.inl ((List.set l9 (Int.toNat x10) (e12 == 0)), (IntKind.i64.wrap (x10 + 1))))) (some (.inr l9))
def Z6u (p0 : Yaj) : Option (List Bool) := (chk (decide (0 ≤ (p0.code.length : Int) ∧ (p0.code.length : Int) * 1 ≤ 140737488355328))).bind fun u2 => (iter (fun z18 => Z6t p0 z18.1 z18.2) big ((List.replicate (Int.toNat (p0.code.length : Int)) false), 0)).bind fun y19 => Z6s y19
instance Z6v (p0 : Yaj) : SpO Tryz.prog 97 (Z6u p0) (.d [C.ip [cM kI64 1 p0.depths, cM Yb2 1 p0.ahead, cM Yb2 1 p0.behind, cM kI64 1 p0.code]] [] fun r => .x fun (v17 : Value) => .d (cV v17) [oA v17 4 Yb3 1 r]) := ⟨so Tryz.func97 rfl rfl fun r X h => gh (.q 2 (.a 0 fun w0 => .c1 (fun l16 => .d [] [oA w0 4 Yb3 1 l16]) [3] [] (.A 0 fun w0 => .l2 (fun l9 x10 => .d [(4, cI x10)] [oA w0 4 Yb3 1 l9]) [0,3] [] .z) .z))⟩
instance Z6v' (p0 : Yaj) : Sp Tryz.prog 97 [C.ip [cM kI64 1 p0.depths, cM Yb2 1 p0.ahead, cM Yb2 1 p0.behind, cM kI64 1 p0.code]] (Z6u p0) (fun r => cM Yb3 1 r) := ⟨fun r h => Ok.freeze ((Z6v p0).h r h) (by rintro c qs ⟨v17, rfl, rfl⟩; exact Frz.arr)⟩

def Z6w (p0 : Yaf) (p1 : Yaj) (l57 : List (List Yai)) : Option (List Yai) := (Z5v p0 p1.depths l57).bind fun r63 => some r63
def Z6x (p0 : Yaf) (p1 : Yaj) (r2 : List Int) (l30 : List (List Yai)) (x31 : Int) : Option ((List (List Yai) × Int) ⊕ ((List (List Yai)))) := cond (decide (x31 < (r2.length : Int))) ((getI r2 x31).bind fun e46 => (Z2w p0.events e46).bind fun r48 => (getI p1.behind r48).bind fun e50 => (chk (decide ((l30.length + [e50].length) * 24 ≤ 140737488355328))).bind fun u54 => some (.inl ((l30 ++ [e50]), (IntKind.i64.wrap (x31 + 1))))) (some (.inr l30))
def Z6y (p0 : Yaf) (p1 : Yaj) (p2 : List Bool) : Option (List Yai) := (Z6q p0 p2).bind fun r2 => (iter (fun z66 => Z6x p0 p1 r2 z66.1 z66.2) big (([] : List (List Yai)), 0)).bind fun y67 => Z6w p0 p1 y67
instance Z6z (p0 : Yaf) (p1 : Yaj) (p2 : List Bool) : Sp Tryz.prog 233 [C.agg [cI p0.room, cM Yap 9 p0.events, cM Yap 9 p0.parked], C.ip [cM kI64 1 p1.depths, cM Yb2 1 p1.ahead, cM Yb2 1 p1.behind, cM kI64 1 p1.code], cM Yb3 1 p2] (Z6y p0 p1 p2) (fun r => cM Yb1 3 r) := Sp.of (so Tryz.func233 rfl rfl fun r X h => gh (.q 3 (.c1 (fun l57 => .x fun v56 => .d [(8, cV v56)] [oA v56 165 Yb2 1 l57]) [1,3] [1] (.l2 (fun l30 x31 => .x fun v29 => .d [(8, cV v29), (9, cI x31)] [oA v29 165 Yb2 1 l30]) [1,3,7] [1] (.b (.r [1] [4,6,10,13] [] [0,4,8,12,17,20,25,28,32,36,41,46,48,53,58,62,64] .z) .z)) (.r [1] [0,4] [] [1,4,8,12,17,20,26,28] (.k (.g 42 [] .z))))))

def Z70 (p0 : Yag) (l147 : List Yaj) (l149 : List (List Int)) (l151 : List (List Yai)) : Option Yak := some (Yak.mk p0 l147 l149 l151)
def Z71 (l76 : List Yaj) (l78 : List (List Int)) (l80 : List (List Yai)) (x81 : Int) (r86 : Yaj) (r106 : List Yai) (l140 : List Int) : Option ((List Yaj × List (List Int) × List (List Yai) × Int) ⊕ ((List Yaj × List (List Int) × List (List Yai)))) := (chk (decide ((l78.length + [l140].length) * 24 ≤ 140737488355328))).bind fun u143 => some (.inl ((l76 ++ [r86]), (l78 ++ [l140]), (l80 ++ [r106]), (IntKind.i64.wrap (x81 + 1))))
def Z72 (x128 : Int) (l139 : List Int) : Option ((List Int × Int) ⊕ ((List Int))) := some (.inl (l139, (IntKind.i64.wrap (x128 + 1))))
def Z73 (l127 : List Int) (x128 : Int) (r132 : Int) (x135 : Bool) : Option ((List Int × Int) ⊕ ((List Int))) := cond x135 ((getI l127 r132).bind fun e137 => Z72 x128 (List.set l127 (Int.toNat r132) (IntKind.i64.wrap (x128 + 1)))) (Z72 x128 l127)
def Z74 (p0 : Yag) (e83 : Yaf) (l127 : List Int) (x128 : Int) : Option ((List Int × Int) ⊕ ((List Int))) := cond (decide (x128 < (p0.stream.length : Int))) ((getI p0.stream x128).bind fun e130 => (Z2w e83.events e130.id).bind fun r132 => cond (e130.room == e83.room) (Z73 l127 x128 r132 (decide (r132 ≥ 0))) (Z73 l127 x128 r132 false)) (some (.inr l127))
def Z75 (p0 : Yag) (l76 : List Yaj) (l78 : List (List Int)) (l80 : List (List Yai)) (x81 : Int) : Option ((List Yaj × List (List Int) × List (List Yai) × Int) ⊕ ((List Yaj × List (List Int) × List (List Yai)))) := cond (decide (x81 < (p0.rooms.length : Int))) ((getI p0.rooms x81).bind fun e83 => (Z6f e83).bind fun r86 => (chk (decide ((l76.length + [r86].length) * 8 ≤ 140737488355328))).bind fun u90 => (Z6u r86).bind fun r104 => (Z6y e83 r86 r104).bind fun r106 => (chk (decide ((l80.length + [r106].length) * 24 ≤ 140737488355328))).bind fun u110 => (chk (decide (0 ≤ (e83.events.length : Int) ∧ (e83.events.length : Int) * 8 ≤ 140737488355328))).bind fun u114 => (iter (fun z156 => Z74 p0 e83 z156.1 z156.2) big ((List.replicate (Int.toNat (e83.events.length : Int)) 0), 0)).bind fun y157 => Z71 l76 l78 l80 x81 r86 r106 y157) (some (.inr (l76, l78, l80)))
def Z76 (p0 : Yag) : Option Yak := (iter (fun z158 => Z75 p0 z158.1 z158.2.1 z158.2.2.1 z158.2.2.2) big ([], [], [], 0)).bind fun (y159, y160, y161) => Z70 p0 y159 y160 y161
instance Z77 (p0 : Yag) : SpO Tryz.prog 163 (Z76 p0) (.d [C.agg [cM Yav 3 p0.rooms, cM Yar 2 p0.stream]] [] fun r => .x fun (b152 : Nat) => .x fun (v153 : Value) => .x fun (v154 : Value) => .x fun (v155 : Value) => .d (pt b152) [oB b152 159 [cM Yav 3 r.h.rooms, cM Yar 2 r.h.stream, cV v153, cV v154, cV v155], oA v153 154 Yb5 1 r.rooms, oA v154 42 Yb6 1 r.pos, oA v155 165 Yb2 1 r.now]) := ⟨so Tryz.func163 rfl rfl fun r X h => gh (.q 2 (.o 0 fun b2 => .c3 (fun l147 l149 l151 => .x fun v146 => .x fun v148 => .x fun v150 => .d [] [oB b2 159 [cM Yav 3 p0.rooms, cM Yar 2 p0.stream, cV v146, cV v148, cV v150], oA v146 154 Yb5 1 l147, oA v148 42 Yb6 1 l149, oA v150 165 Yb2 1 l151]) [3] [] (.O 0 fun b2 => .l4 (fun l76 l78 l80 x81 => .x fun v75 => .x fun v77 => .x fun v79 => .d [(4, cI x81)] [oB b2 159 [cM Yav 3 p0.rooms, cM Yar 2 p0.stream, cV v75, cV v77, cV v79], oA v75 154 Yb5 1 l76, oA v77 42 Yb6 1 l78, oA v79 165 Yb2 1 l80]) [1,3] [1] (.b (.r [0,0,0,0,1] [4,5] [14] [0,4,8,12,17,21,24,28,34,38,42,46,48,52,59] (.q 1 (.a 0 fun w0 => .c1 (fun l140 => .d [] [oA w0 2 kI64 1 l140]) [1,3,4,7] [5,1,2,4,6] (.A 0 fun w0 => .l2 (fun l127 x128 => .d [(8, cI x128)] [oA w0 2 kI64 1 l127]) [1,3,4,5,7] [5,1,2,4,6,3] (.b (.a 0 fun w0 => .c1 (fun l139 => .d [] [oA w0 2 kI64 1 l139]) [1,3,4,5,7,8] [1,2,3,4,5,6] (.r [0,0,0,0,0,0,0] [1,3,7] [] [0,5,8,13,16,20,24,29,34,36] (.c1 (fun x135 => .d [(83, C.bool x135)] []) [1,3,4,5,7,8,9] [1,2,3,4,5,6,0] (.r [0,0,0,0,0,0,0] [1,5,7] [] [0,5,8,12,16,21,24,29,32,36,40,44,48] .z) .z)) .z) .z)) (.f 94 [] .z)))) .z)) .z))⟩
instance Z77' (p0 : Yag) : Sp Tryz.prog 163 [C.agg [cM Yav 3 p0.rooms, cM Yar 2 p0.stream]] (Z76 p0) (fun r => C.ip [cM Yav 3 r.h.rooms, cM Yar 2 r.h.stream, cM Yb5 1 r.rooms, cM Yb6 1 r.pos, cM Yb2 1 r.now]) := ⟨fun r h => Ok.freeze ((Z77 p0).h r h) (by rintro c qs ⟨b152, v153, v154, v155, rfl, rfl⟩; exact Frz.box (fS (fS (FrzL.cons (os := [_]) (Frz.arr) (FrzL.cons (os := [_]) (Frz.arr) (FrzL.cons (os := [_]) (Frz.arr) (FrzL.nil)))))))⟩

def Z78 (p0 : Yak) (x181 : Int) : Option Bool := some (x181 == (p0.h.stream.length : Int))
def Z79 (x91 : Int) (x180 : Int) : Option ((Int × Int) ⊕ (Bool ⊕ Int)) := some (.inl (x180, (IntKind.i64.wrap (x91 + 1))))
def Z7a (x138 : Int) (x179 : Int) : Option ((Int × Int) ⊕ (Bool ⊕ Int)) := some (.inl (x179, (IntKind.i64.wrap (x138 + 1))))
def Z7b (x137 : Int) (x138 : Int) (e146 : Int) : Option ((Int × Int) ⊕ (Bool ⊕ Int)) := cond (decide (e146 > 0)) (Z7a x138 (IntKind.i64.wrap (x137 + 1))) (Z7a x138 x137)
def Z7c (e93 : Yaf) (x138 : Int) (e144 : List Int) (e146 : Int) (x163 : Int) (x167 : Bool) : Option (Int ⊕ (Bool ⊕ Unit)) := cond x167 ((getI e93.events x138).bind fun e169 => (getI e169.prev x163).bind fun e171 => (Z2w e93.events e171).bind fun r173 => (getI e144 r173).bind fun e175 => cond (decide (e175 ≥ e146)) (some (.inr (.inl false))) (some (.inl (IntKind.i64.wrap (x163 + 1))))) (some (.inr (.inr ())))
def Z7d (e93 : Yaf) (x138 : Int) (e144 : List Int) (e146 : Int) (x163 : Int) : Option (Int ⊕ (Bool ⊕ Unit)) := (getI e93.events x138).bind fun e164 => cond (decide (x163 < (e164.prev.length : Int))) (Z7c e93 x138 e144 e146 x163 (decide (e146 > 0))) (Z7c e93 x138 e144 e146 x163 false)
def Z7e (p0 : Yak) (x91 : Int) (e93 : Yaf) (x137 : Int) (x138 : Int) : Option ((Int × Int) ⊕ (Bool ⊕ Int)) := cond (decide (x138 < (e93.events.length : Int))) ((getI p0.rooms x91).bind fun e140 => (getI e140.code x138).bind fun e142 => (getI p0.pos x91).bind fun e144 => (getI e144 x138).bind fun e146 => cond ((e142 == 0) == decide (e146 > 0)) ((iter (Z7d e93 x138 e144 e146) big 0).bind (fun z183 => match z183 with | .inl y182 => some (.inr (.inl y182)) | .inr () => Z7b x137 x138 e146)) (some (.inr (.inl false)))) (some (.inr (.inr x137)))
def Z7f (p0 : Yak) (x90 : Int) (x91 : Int) : Option ((Int × Int) ⊕ (Bool ⊕ Int)) := cond (decide (x91 < (p0.h.rooms.length : Int))) ((getI p0.h.rooms x91).bind fun e93 => (iter (fun z184 => Z7e p0 x91 e93 z184.1 z184.2) big (x90, 0)).bind (fun z187 => match z187 with | .inl y185 => some (.inr (.inl y185)) | .inr y186 => Z79 x91 y186)) (some (.inr (.inr x90)))
def Z7g (p0 : Yak) : Option Bool := (iter (fun z188 => Z7f p0 z188.1 z188.2) big (0, 0)).bind (fun z191 => match z191 with | .inl y189 => some y189 | .inr y190 => Z78 p0 y190)
instance Z7h (p0 : Yak) : SpO Tryz.prog 164 (Z7g p0) (.x fun (b00 : Nat) => .x fun (w01 : Value) => .x fun (w02 : Value) => .x fun (w03 : Value) => .d [pt b00] [oB b00 159 [cM Yav 3 p0.h.rooms, cM Yar 2 p0.h.stream, cV w01, cV w02, cV w03], oA w01 154 Yb5 1 p0.rooms, oA w02 42 Yb6 1 p0.pos, oA w03 165 Yb2 1 p0.now] fun r => .d (C.bool r) [oB b00 159 [cM Yav 3 p0.h.rooms, cM Yar 2 p0.h.stream, cV w01, cV w02, cV w03], oA w01 154 Yb5 1 p0.rooms, oA w02 42 Yb6 1 p0.pos, oA w03 165 Yb2 1 p0.now]) := ⟨fun b00 w01 w02 w03 => so Tryz.func164 rfl rfl fun r X h => gh (.q 2 (.c1 (fun x181 => .d [(3, cI x181)] []) [0] [0,1,2,3] (.l2 (fun x90 x91 => .d [(3, cI x90), (4, cI x91)] []) [0] [0,1,2,3] (.b (.c1 (fun x180 => .d [(3, cI x180)] []) [0,4] [0,1,2,3] (.l2 (fun x137 x138 => .d [(3, cI x137), (6, cI x138)] []) [0,4,5] [1,2,3,4,0] (.b (.c1 (fun x179 => .d [(3, cI x179)] []) [0,4,5,6] [0,1,2,3,4] (.r [0,0,0,0,0] [3,6,9,12,17,20,23] [] [0,4,8,13,16,20,25,28,32,37,40,44,49,52,56,60,64,69,72,76,81,84,88,93,96,100] (.b (.c0 (.d [] []) [0,3,4,5,6] [0,1,2,3,4] (.l1 (fun x163 => .d [(7, cI x163)] []) [0,3,4,5,6] [0,1,2,3,4] (.q 1 (.c1 (fun x167 => .d [(80, C.bool x167)] []) [0,3,4,5,6,7] [0,1,2,3,4] .z (.b (.r [0,0,0,0,0] [3,6,8,10,14,17,20,24,27,30] [] [0,4,8,13,16,20,25,28,33,36,41,44,48,52,57,60,64,69,84,88,92,97,100,104,109,112,116,121,74,76,81,124] .z) .z)))) .z) .z)) .z) .z)) .z) .z)) .z))⟩

def Z7i (p0 : Yag) : Option (Yak × Bool) := (Z76 p0).bind fun r56 => (Z7g r56).bind fun r62 => cond r62 (some (r56, true)) (some ((Yak.mk (Yag.mk [] []) [] [] []), false))
def Z7j (x39 : Int) : Option (Int ⊕ ((Yak × Bool) ⊕ Unit)) := some (.inl (IntKind.i64.wrap (x39 + 1)))
def Z7k (p0 : Yag) (x39 : Int) (x48 : Int) : Option (Int ⊕ ((Yak × Bool) ⊕ Unit)) := cond (decide (x48 < x39)) ((getI p0.stream x39).bind fun e50 => (getI p0.stream x48).bind fun e52 => cond ((e50.room == e52.room) && ((e50.id == e52.id) && true)) (some (.inr (.inl ((Yak.mk (Yag.mk [] []) [] [] []), false)))) (some (.inl (IntKind.i64.wrap (x48 + 1))))) (some (.inr (.inr ())))
def Z7l (p0 : Yag) (x39 : Int) : Option (Int ⊕ ((Yak × Bool) ⊕ Unit)) := cond (decide (x39 < (p0.stream.length : Int))) ((iter (Z7k p0 x39) big 0).bind (fun z67 => match z67 with | .inl y66 => some (.inr (.inl y66)) | .inr () => Z7j x39)) (some (.inr (.inr ())))
def Z7m (p0 : Yag) : Option (Yak × Bool) := (iter (Z7l p0) big 0).bind (fun z69 => match z69 with | .inl y68 => some y68 | .inr () => Z7i p0)
def Z7n (x15 : Int) (x22 : Bool) : Option (Int ⊕ ((Yak × Bool) ⊕ Unit)) := cond x22 (some (.inr (.inl ((Yak.mk (Yag.mk [] []) [] [] []), false)))) (some (.inl (IntKind.i64.wrap (x15 + 1))))
def Z7o (p0 : Yag) (x15 : Int) : Option (Int ⊕ ((Yak × Bool) ⊕ Unit)) := cond (decide (x15 < (p0.rooms.length : Int))) ((getI p0.rooms x15).bind fun e17 => (Z3l e17).bind fun r19 => cond r19 (Z7n x15 (e17.room != (IntKind.i64.wrap (x15 + 1)))) (Z7n x15 true)) (some (.inr (.inr ())))
def Z7p (p0 : Yag) (x3 : Bool) : Option (Yak × Bool) := cond x3 (some ((Yak.mk (Yag.mk [] []) [] [] []), false)) ((iter (Z7o p0) big 0).bind (fun z71 => match z71 with | .inl y70 => some y70 | .inr () => Z7m p0))
def Z7q (p0 : Yag) : Option (Yak × Bool) := cond ((p0.rooms.length : Int) != 3) (Z7p p0 true) (Z7p p0 (decide ((p0.stream.length : Int) > 120)))
instance Z7r (p0 : Yag) : Sp Tryz.prog 94 [C.agg [cM Yav 3 p0.rooms, cM Yar 2 p0.stream]] (Z7q p0) (fun r => C.tup [C.ip [cM Yav 3 r.1.h.rooms, cM Yar 2 r.1.h.stream, cM Yb5 1 r.1.rooms, cM Yb6 1 r.1.pos, cM Yb2 1 r.1.now], C.bool r.2]) := Sp.of (so Tryz.func94 rfl rfl fun r X h => gh (.q 2 (.c1 (fun x3 => .d [(17, C.bool x3)] []) [1] [0] .z (.b .z (.c0 (.d [] []) [1] [0] (.l1 (fun x15 => .d [(4, cI x15)] []) [1] [0] (.b (.q 1 (.c1 (fun x22 => .d [(44, C.bool x22)] []) [1,4] [0] .z .z)) .z)) (.c0 (.d [] []) [1] [0] (.l1 (fun x39 => .d [(5, cI x39)] []) [1] [0] (.b (.c0 (.d [] []) [1,5] [0] (.l1 (fun x48 => .d [(6, cI x48)] []) [1,5] [0] (.b (.r [0] [1,4,6,9] [] [0,5,8,12,17,20,25,28,32,37,40] .z) .z)) .z) .z)) (.k .z)))))))

def Z7s (p0 : Yag) : Option Bool := (Z7q p0).bind fun r2 => some r2.2
instance Z7t (p0 : Yag) : Sp Tryz.prog 59 [C.agg [cM Yav 3 p0.rooms, cM Yar 2 p0.stream]] (Z7s p0) (fun r => C.bool r) := Sp.of (so Tryz.func59 rfl rfl fun r X h => gh .z)

def Z7u (p0 : Yah) (p1 : Int) : Option Bool := (Z1z p1 0 (IntKind.i64.wrap ((p0.hubs.length : Int) - 1))).bind fun r2 => some r2
instance Z7v (p0 : Yah) (p1 : Int) : Sp Tryz.prog 27 [C.agg [cM Yay 2 p0.hubs, cM Yas 5 p0.letters], cI p1] (Z7u p0 p1) (fun r => C.bool r) := Sp.of (so Tryz.func27 rfl rfl fun r X h => gh .z)

def Z7w (p0 : Int) : Option Bool := (Z1z p0 1 3).bind fun r1 => some r1
instance Z7x (p0 : Int) : Sp Tryz.prog 28 [cI p0] (Z7w p0) (fun r => C.bool r) := Sp.of (so Tryz.func28 rfl rfl fun r X h => gh .z)

def Z7y : Option Bool := some true
def Z7z (x38 : Int) (x56 : Bool) : Option (Int ⊕ (Bool ⊕ Unit)) := cond x56 (some (.inr (.inl false))) (some (.inl (IntKind.i64.wrap (x38 + 1))))
def Z80 (p0 : Yah) (x38 : Int) : Option (Int ⊕ (Bool ⊕ Unit)) := cond (decide (x38 < (p0.letters.length : Int))) ((getI p0.letters x38).bind fun e40 => (Z1z e40.kind 1 2).bind fun r43 => cond r43 ((Z7u p0 e40.from_).bind fun r46 => cond r46 ((Z7u p0 e40.to_).bind fun r49 => cond r49 (cond (e40.from_ == e40.to_) (Z7z x38 true) ((Z7w e40.room).bind fun r53 => cond r53 (Z7z x38 (decide ((e40.text.size : Int) > 8000))) (Z7z x38 true))) (Z7z x38 true)) (Z7z x38 true)) (Z7z x38 true)) (some (.inr (.inr ())))
def Z81 (p0 : Yah) : Option Bool := (iter (Z80 p0) big 0).bind (fun z59 => match z59 with | .inl y58 => some y58 | .inr () => Z7y)
def Z82 (p0 : Yah) (x12 : Int) : Option (Int ⊕ (Bool ⊕ Unit)) := cond (decide (x12 < (p0.hubs.length : Int))) ((getI p0.hubs x12).bind fun e14 => (Z7s e14).bind fun r16 => cond r16 (some (.inl (IntKind.i64.wrap (x12 + 1)))) (some (.inr (.inl false)))) (some (.inr (.inr ())))
def Z83 (p0 : Yah) (x4 : Bool) : Option Bool := cond x4 (some false) ((iter (Z82 p0) big 0).bind (fun z61 => match z61 with | .inl y60 => some y60 | .inr () => Z81 p0))
def Z84 (p0 : Yah) : Option Bool := cond (decide ((p0.hubs.length : Int) < 1)) (Z83 p0 true) (cond (decide ((p0.hubs.length : Int) > 4)) (Z83 p0 true) (Z83 p0 (decide ((p0.letters.length : Int) > 60))))
instance Z85 (p0 : Yah) : Sp Tryz.prog 25 [C.agg [cM Yay 2 p0.hubs, cM Yas 5 p0.letters]] (Z84 p0) (fun r => C.bool r) := Sp.of (so Tryz.func25 rfl rfl fun r X h => gh (.q 2 (.c1 (fun x4 => .d [(21, C.bool x4)] []) [1] [0] .z (.b .z (.c0 (.d [] []) [1] [0] (.l1 (fun x12 => .d [(3, cI x12)] []) [1] [0] .z) (.c0 (.d [] []) [] [] (.l1 (fun x38 => .d [(4, cI x38)] []) [1] [0] (.b (.q 2 (.c1 (fun x56 => .d [(84, C.bool x56)] []) [1,4] [1] .z .z)) .z)) .z))))))

def Z86 (p0 : Int) : Option Yal := some (Yal.mk (Yah.mk [] []) 0 p0)
instance Z87 (p0 : Int) : Sp Tryz.prog 26 [cI p0] (Z86 p0) (fun r => C.agg [cM Yay 2 r.peers.hubs, cM Yas 5 r.peers.letters, cI r.id, cI r.code]) := Sp.of (so Tryz.func26 rfl rfl fun r X h => gh .z)

def Z88 (p0 : Yaf) (l76 : List Yaa) (l131 : List Yaa) : Option Yaf := some (Yaf.mk p0.room l76 l131)
def Z89 (p0 : Yaf) (l107 : List Yaa) (x108 : Int) : Option ((List Yaa × Int) ⊕ ((List Yaa))) := cond (decide (x108 < (p0.parked.length : Int))) ((getI p0.parked x108).bind fun e121 => (Z5x e121).bind fun r123 => (chk (decide ((l107.length + [r123].length) * 96 ≤ 140737488355328))).bind fun u127 => some (.inl ((l107 ++ [r123]), (IntKind.i64.wrap (x108 + 1))))) (some (.inr l107))
def Z8a (p0 : Yaf) (l74 : List Yaa) (l76 : List Yaa) : Option Yaf := (iter (fun z134 => Z89 p0 z134.1 z134.2) big ([], 0)).bind fun y135 => Z88 p0 l76 y135
def Z8b (p0 : Yaf) (l49 : List Yaa) (l51 : List Yaa) (x52 : Int) : Option ((List Yaa × List Yaa × Int) ⊕ ((List Yaa × List Yaa))) := cond (decide (x52 < (p0.events.length : Int))) ((getI p0.events x52).bind fun e65 => (Z5x e65).bind fun r67 => (chk (decide ((l51.length + [r67].length) * 96 ≤ 140737488355328))).bind fun u71 => some (.inl (l49, (l51 ++ [r67]), (IntKind.i64.wrap (x52 + 1))))) (some (.inr (l49, l51)))
def Z8c (p0 : Yaf) : Option Yaf := (iter (fun z136 => Z8b p0 z136.1 z136.2.1 z136.2.2) big ([], [], 0)).bind fun (y137, y138) => Z8a p0 y137 y138
instance Z8d (p0 : Yaf) : SpO Tryz.prog 110 (Z8c p0) (.d [C.agg [cI p0.room, cM Yap 9 p0.events, cM Yap 9 p0.parked]] [] fun r => .x fun (v132 : Value) => .x fun (v133 : Value) => .d (C.agg [cI r.room, cV v132, cV v133]) [oA v132 47 Yap 9 r.events, oA v133 47 Yap 9 r.parked]) := ⟨so Tryz.func110 rfl rfl fun r X h => gh (.q 2 (.o 0 fun b3 => .c2 (fun l74 l76 => .x fun v75 => .d [] [oA s0 47 Yap 9 l74, oB b3 114 [cI p0.room, cV v75, cV s0], oA v75 47 Yap 9 l76]) [1,2,3] [2,1] (.O 0 fun b3 => .l3 (fun l49 l51 x52 => .x fun v50 => .d [(4, cI x52)] [oA s0 47 Yap 9 l49, oB b3 114 [cI p0.room, cV v50, cV s0], oA v50 47 Yap 9 l51]) [1,2,3] [2,1] (.b (.r [0,0,1,1] [1,3,6] [11] [0,5,8,13,16,20,25,30,34,38,40,47] .z) .z)) (.o 1 fun b3 => .a 2 fun v75 => .c1 (fun l131 => .x fun v130 => .d [] [oB b3 114 [cI p0.room, cV v75, cV v130], oA v130 47 Yap 9 l131]) [2,3] [4,0,2] (.O 1 fun b3 => .A 2 fun v75 => .l2 (fun l107 x108 => .x fun v106 => .d [(5, cI x108)] [oB b3 114 [cI p0.room, cV v75, cV v106], oA v106 47 Yap 9 l107]) [1,2,3] [3,4,0,2] (.b (.r [0,1,1,1,1] [1,3,6] [11] [0,5,8,13,16,20,25,30,34,38,40,47] .z) .z)) .z)))⟩
instance Z8d' (p0 : Yaf) : Sp Tryz.prog 110 [C.agg [cI p0.room, cM Yap 9 p0.events, cM Yap 9 p0.parked]] (Z8c p0) (fun r => C.agg [cI r.room, cM Yap 9 r.events, cM Yap 9 r.parked]) := ⟨fun r h => Ok.freeze ((Z8d p0).h r h) (by rintro c qs ⟨v132, v133, rfl, rfl⟩; exact Frz.agg (fS (FrzL.cons (os := [_]) (Frz.arr) (FrzL.cons (os := [_]) (Frz.arr) (FrzL.nil)))))⟩

def Z8e (p0 : Yag) (l71 : List Yaf) (l73 : List Yaf) : Option Yag := some (Yag.mk l73 (([] : List Yac) ++ p0.stream))
def Z8f (p0 : Yag) (l46 : List Yaf) (l48 : List Yaf) (x49 : Int) : Option ((List Yaf × List Yaf × Int) ⊕ ((List Yaf × List Yaf))) := cond (decide (x49 < (p0.rooms.length : Int))) ((getI p0.rooms x49).bind fun e62 => (Z8c e62).bind fun r64 => (chk (decide ((l48.length + [r64].length) * 56 ≤ 140737488355328))).bind fun u68 => some (.inl (l46, (l48 ++ [r64]), (IntKind.i64.wrap (x49 + 1))))) (some (.inr (l46, l48)))
def Z8g (p0 : Yag) : Option Yag := (chk (decide ((([] : List Yac).length + p0.stream.length) * 16 ≤ 140737488355328))).bind fun u5 => (iter (fun z76 => Z8f p0 z76.1 z76.2.1 z76.2.2) big ([], [], 0)).bind fun (y77, y78) => Z8e p0 y77 y78
instance Z8h (p0 : Yag) : SpO Tryz.prog 61 (Z8g p0) (.d [C.agg [cM Yav 3 p0.rooms, cM Yar 2 p0.stream]] [] fun r => .x fun (v74 : Value) => .x fun (v75 : Value) => .d (C.agg [cV v74, cV v75]) [oA v74 114 Yav 3 r.rooms, oA v75 191 Yar 2 r.stream]) := ⟨so Tryz.func61 rfl rfl fun r X h => gh (.q 2 (.o 0 fun b8 => .e 8 cV fun v6 => .c2 (fun l71 l73 => .x fun v72 => .d [] [oA s0 114 Yav 3 l71, oB b8 86 [cV v72, cV v6], oA v72 114 Yav 3 l73]) [2,3] [2,1] (.O 0 fun b8 => .E 8 cV fun v6 => .l3 (fun l46 l48 x49 => .x fun v47 => .d [(4, cI x49)] [oA s0 114 Yav 3 l46, oB b8 86 [cV v47, cV v6], oA v47 114 Yav 3 l48]) [1,2,3] [3,2,1] (.b (.r [0,0,1,1,1] [1,3,6] [11] [0,5,8,13,16,20,25,30,34,38,40,47] .z) .z)) .z))⟩
instance Z8h' (p0 : Yag) : Sp Tryz.prog 61 [C.agg [cM Yav 3 p0.rooms, cM Yar 2 p0.stream]] (Z8g p0) (fun r => C.agg [cM Yav 3 r.rooms, cM Yar 2 r.stream]) := ⟨fun r h => Ok.freeze ((Z8h p0).h r h) (by rintro c qs ⟨v74, v75, rfl, rfl⟩; exact Frz.agg (FrzL.cons (os := [_]) (Frz.arr) (FrzL.cons (os := [_]) (Frz.arr) (FrzL.nil))))⟩

def Z8i (p0 : Yah) (l71 : List Yag) (l73 : List Yag) : Option Yah := some (Yah.mk l73 (([] : List Yad) ++ p0.letters))
def Z8j (p0 : Yah) (l46 : List Yag) (l48 : List Yag) (x49 : Int) : Option ((List Yag × List Yag × Int) ⊕ ((List Yag × List Yag))) := cond (decide (x49 < (p0.hubs.length : Int))) ((getI p0.hubs x49).bind fun e62 => (Z8g e62).bind fun r64 => (chk (decide ((l48.length + [r64].length) * 48 ≤ 140737488355328))).bind fun u68 => some (.inl (l46, (l48 ++ [r64]), (IntKind.i64.wrap (x49 + 1))))) (some (.inr (l46, l48)))
def Z8k (p0 : Yah) : Option Yah := (chk (decide ((([] : List Yad).length + p0.letters.length) * 48 ≤ 140737488355328))).bind fun u5 => (iter (fun z76 => Z8j p0 z76.1 z76.2.1 z76.2.2) big ([], [], 0)).bind fun (y77, y78) => Z8i p0 y77 y78
instance Z8l (p0 : Yah) : SpO Tryz.prog 29 (Z8k p0) (.d [C.agg [cM Yay 2 p0.hubs, cM Yas 5 p0.letters]] [] fun r => .x fun (v74 : Value) => .x fun (v75 : Value) => .d (C.agg [cV v74, cV v75]) [oA v74 86 Yay 2 r.hubs, oA v75 60 Yas 5 r.letters]) := ⟨so Tryz.func29 rfl rfl fun r X h => gh (.q 2 (.o 0 fun b8 => .e 8 cV fun v6 => .c2 (fun l71 l73 => .x fun v72 => .d [] [oA s0 86 Yay 2 l71, oB b8 30 [cV v72, cV v6], oA v72 86 Yay 2 l73]) [2,3] [2,1] (.O 0 fun b8 => .E 8 cV fun v6 => .l3 (fun l46 l48 x49 => .x fun v47 => .d [(4, cI x49)] [oA s0 86 Yay 2 l46, oB b8 30 [cV v47, cV v6], oA v47 86 Yay 2 l48]) [1,2,3] [3,2,1] (.b (.r [0,0,1,1,1] [1,3,6] [11] [0,5,8,13,16,20,25,30,34,38,40,47] .z) .z)) .z))⟩
instance Z8l' (p0 : Yah) : Sp Tryz.prog 29 [C.agg [cM Yay 2 p0.hubs, cM Yas 5 p0.letters]] (Z8k p0) (fun r => C.agg [cM Yay 2 r.hubs, cM Yas 5 r.letters]) := ⟨fun r h => Ok.freeze ((Z8l p0).h r h) (by rintro c qs ⟨v74, v75, rfl, rfl⟩; exact Frz.agg (FrzL.cons (os := [_]) (Frz.arr) (FrzL.cons (os := [_]) (Frz.arr) (FrzL.nil))))⟩

def Z8m (l64 : List Yam) : Option (List Yam) := some l64
def Z8n (x33 : Int) (l62 : List Yam) : Option ((List Yam × Int) ⊕ ((List Yam))) := some (.inl (l62, (IntKind.i64.wrap (x33 + 1))))
def Z8o (p0 : List Int) (l32 : List Yam) (x33 : Int) (x40 : Bool) : Option ((List Yam × Int) ⊕ ((List Yam))) := cond x40 ((getI p0 x33).bind fun e42 => (getI l32 (IntKind.i64.wrap ((l32.length : Int) - 1))).bind fun e44 => Z8n x33 (List.set l32 (Int.toNat (IntKind.i64.wrap ((l32.length : Int) - 1))) (Yam.mk e44.from_ e42))) ((getI p0 x33).bind fun e55 => (chk (decide ((l32.length + [(Yam.mk e55 e55)].length) * 16 ≤ 140737488355328))).bind fun u59 => Z8n x33 (l32 ++ [(Yam.mk e55 e55)]))
def Z8p (p0 : List Int) (l32 : List Yam) (x33 : Int) : Option ((List Yam × Int) ⊕ ((List Yam))) := cond (decide (x33 < (p0.length : Int))) (cond (decide ((l32.length : Int) > 0)) ((getI l32 (IntKind.i64.wrap ((l32.length : Int) - 1))).bind fun e36 => (getI p0 x33).bind fun e38 => Z8o p0 l32 x33 ((IntKind.i64.wrap (e36.to_ + 1)) == e38)) (Z8o p0 l32 x33 false)) (some (.inr l32))
def Z8q (p0 : List Int) : Option (List Yam) := (iter (fun z66 => Z8p p0 z66.1 z66.2) big (([] : List Yam), 0)).bind fun y67 => Z8m y67
instance Z8r (p0 : List Int) : SpO Tryz.prog 114 (Z8q p0) (.d [cM kI64 1 p0] [] fun r => .x fun (v65 : Value) => .d (cV v65) [oA v65 182 Yb7 2 r]) := ⟨so Tryz.func114 rfl rfl fun r X h => gh (.q 2 (.c1 (fun l64 => .x fun v63 => .d [(3, cV v63)] [oA v63 182 Yb7 2 l64]) [] [] (.l2 (fun l32 x33 => .x fun v31 => .d [(3, cV v31), (4, cI x33)] [oA v31 182 Yb7 2 l32]) [0] [] (.b (.c1 (fun l62 => .x fun v61 => .d [(3, cV v61)] [oA v61 182 Yb7 2 l62]) [0,4] [] (.q 1 (.c1 (fun x40 => .d [(30, C.bool x40)] []) [0,3,4,5] [0] (.r [0] [8,13] [] [0,4,8,12,16,20,24,28,33,36,40,44,48,53,56,60] .z) (.b .z (.r [] [4,8] [] [0,4,8,12,17,20,24,28,33,36,42,46,48] .z)))) .z) .z)) .z))⟩
instance Z8r' (p0 : List Int) : Sp Tryz.prog 114 [cM kI64 1 p0] (Z8q p0) (fun r => cM Yb7 2 r) := ⟨fun r h => Ok.freeze ((Z8r p0).h r h) (by rintro c qs ⟨v65, rfl, rfl⟩; exact Frz.arr)⟩

def Z8s (l30 : List Int) : Option (List Yam) := (Z8q l30).bind fun r31 => some r31
def Z8t (p0 : Yaf) (l23 : List Int) (x24 : Int) : Option ((List Int × Int) ⊕ ((List Int))) := cond (decide (x24 < (p0.parked.length : Int))) ((getI p0.parked x24).bind fun e26 => (Z4l l23 e26.id).bind fun r28 => some (.inl (r28, (IntKind.i64.wrap (x24 + 1))))) (some (.inr l23))
def Z8u (p0 : Yaf) (l17 : List Int) : Option (List Yam) := (iter (fun z33 => Z8t p0 z33.1 z33.2) big (l17, 0)).bind fun y34 => Z8s y34
def Z8v (p0 : Yaf) (l10 : List Int) (x11 : Int) : Option ((List Int × Int) ⊕ ((List Int))) := cond (decide (x11 < (p0.events.length : Int))) ((getI p0.events x11).bind fun e13 => (Z4l l10 e13.id).bind fun r15 => some (.inl (r15, (IntKind.i64.wrap (x11 + 1))))) (some (.inr l10))
def Z8w (p0 : Yaf) : Option (List Yam) := (iter (fun z35 => Z8v p0 z35.1 z35.2) big (([] : List Int), 0)).bind fun y36 => Z8u p0 y36
instance Z8x (p0 : Yaf) : Sp Tryz.prog 63 [C.agg [cI p0.room, cM Yap 9 p0.events, cM Yap 9 p0.parked]] (Z8w p0) (fun r => cM Yb7 2 r) := Sp.of (so Tryz.func63 rfl rfl fun r X h => gh (.q 2 (.c1 (fun l17 => .d [(3, cM kI64 1 l17)] []) [1] [1] (.l2 (fun l10 x11 => .d [(3, cM kI64 1 l10), (4, cI x11)] []) [1] [1] .z) (.c1 (fun l30 => .d [(3, cM kI64 1 l30)] []) [] [] (.l2 (fun l23 x24 => .d [(3, cM kI64 1 l23), (5, cI x24)] []) [1] [0] .z) .z))))

end Go.Proofs.YtnoknphekhclcaaGreat
