/- Printed by gen.py: plain functions for Go functions, and that the walks keep to them. -/
import Derived.Test.YtbgichfjcnibpaaGreatTQ4
set_option autoImplicit false
set_option linter.unusedVariables false
set_option linter.unusedSimpArgs false
set_option maxHeartbeats 1000000
set_option maxRecDepth 100000
namespace Go.Proofs.YtbgichfjcnibpaaGreat
open Go Go.Abs
attribute [local irreducible] AW Ops OpsD Y3n
def Zb6 (l61 : List Int) : Option (List Int) := some l61
def Zb7 (x36 : Int) (l48 : List Int) (x49 : Int) : Option ((List Int × Int) ⊕ ((List Int))) := cond (decide (x49 < (IntKind.i64.wrap (x36 - 1)))) ((getI l48 (IntKind.i64.wrap (x49 + 1))).bind fun e51 => (getI l48 x49).bind fun e53 => (getI (List.set l48 (Int.toNat x49) e51) (IntKind.i64.wrap (x49 + 1))).bind fun e59 => some (.inl ((List.set (List.set l48 (Int.toNat x49) e51) (Int.toNat (IntKind.i64.wrap (x49 + 1))) e53), (IntKind.i64.wrap (x49 + 1))))) (some (.inr l48))
def Zb8 (p0 : List Int) (p1 : Int) (x36 : Int) : Option (List Int) := (iter (fun z178 => Zb7 x36 z178.1 z178.2) big (p0, p1)).bind fun y179 => Zb6 y179
def Zb9 (p0 : List Int) (p1 : Int) (p4_0 : List Int) (x18 : Int) (x19 : Int) : Option ((Int × Int) ⊕ (Int)) := cond (decide (x18 < x19)) ((getI p0 (IntKind.i64.wrap (shrI .u64 (IntKind.u64.wrap (IntKind.i64.wrap (x18 + x19))) 1))).bind fun e29 => (getI p0 p1).bind fun e31 => (Zar e29 e31 p4_0).bind fun r33 => cond (decide (r33 < 0)) (some (.inl ((IntKind.i64.wrap ((IntKind.i64.wrap (shrI .u64 (IntKind.u64.wrap (IntKind.i64.wrap (x18 + x19))) 1)) + 1)), x19))) (some (.inl (x18, (IntKind.i64.wrap (shrI .u64 (IntKind.u64.wrap (IntKind.i64.wrap (x18 + x19))) 1)))))) (some (.inr x18))
def Zba (l122 : List Int) : Option (List Int) := some l122
def Zbb (x97 : Int) (l109 : List Int) (x110 : Int) : Option ((List Int × Int) ⊕ ((List Int))) := cond (decide (x110 > x97)) ((getI l109 (IntKind.i64.wrap (x110 - 1))).bind fun e112 => (getI l109 x110).bind fun e114 => (getI (List.set l109 (Int.toNat x110) e112) (IntKind.i64.wrap (x110 - 1))).bind fun e120 => some (.inl ((List.set (List.set l109 (Int.toNat x110) e112) (Int.toNat (IntKind.i64.wrap (x110 - 1))) e114), (IntKind.i64.wrap (x110 - 1))))) (some (.inr l109))
def Zbc (p0 : List Int) (p2 : Int) (x97 : Int) : Option (List Int) := (iter (fun z182 => Zbb x97 z182.1 z182.2) big (p0, p2)).bind fun y183 => Zba y183
def Zbd (p0 : List Int) (p2 : Int) (p4_0 : List Int) (x79 : Int) (x80 : Int) : Option ((Int × Int) ⊕ (Int)) := cond (decide (x79 < x80)) ((getI p0 p2).bind fun e90 => (getI p0 (IntKind.i64.wrap (shrI .u64 (IntKind.u64.wrap (IntKind.i64.wrap (x79 + x80))) 1))).bind fun e92 => (Zar e90 e92 p4_0).bind fun r94 => cond (decide (r94 < 0)) (some (.inl (x79, (IntKind.i64.wrap (shrI .u64 (IntKind.u64.wrap (IntKind.i64.wrap (x79 + x80))) 1))))) (some (.inl ((IntKind.i64.wrap ((IntKind.i64.wrap (shrI .u64 (IntKind.u64.wrap (IntKind.i64.wrap (x79 + x80))) 1)) + 1)), x80)))) (some (.inr x79))
def Zbe (p1 : Int) (p2 : Int) (p3 : Int) (p4_0 : List Int) (self_ : (List Int) → Int → Int → Int → (List Int) → Option (List Int)) (x160 : Int) (l172 : List Int) (x174 : Bool) : Option (List Int) := cond x174 ((self_ l172 (IntKind.i64.wrap (shrI .u64 (IntKind.u64.wrap (IntKind.i64.wrap (p1 + p3))) 1)) (IntKind.i64.wrap ((IntKind.i64.wrap ((IntKind.i64.wrap (shrI .u64 (IntKind.u64.wrap (IntKind.i64.wrap (p1 + p3))) 1)) + p2)) - x160)) p3 p4_0).bind fun r176 => some r176) (some l172)
def Zbf (p1 : Int) (p2 : Int) (p3 : Int) (p4_0 : List Int) (self_ : (List Int) → Int → Int → Int → (List Int) → Option (List Int)) (x160 : Int) (l172 : List Int) : Option (List Int) := cond (decide ((IntKind.i64.wrap (shrI .u64 (IntKind.u64.wrap (IntKind.i64.wrap (p1 + p3))) 1)) < (IntKind.i64.wrap ((IntKind.i64.wrap ((IntKind.i64.wrap (shrI .u64 (IntKind.u64.wrap (IntKind.i64.wrap (p1 + p3))) 1)) + p2)) - x160)))) (Zbe p1 p2 p3 p4_0 self_ x160 l172 (decide ((IntKind.i64.wrap ((IntKind.i64.wrap ((IntKind.i64.wrap (shrI .u64 (IntKind.u64.wrap (IntKind.i64.wrap (p1 + p3))) 1)) + p2)) - x160)) < p3))) (Zbe p1 p2 p3 p4_0 self_ x160 l172 false)
def Zbg (p1 : Int) (p2 : Int) (p3 : Int) (p4_0 : List Int) (self_ : (List Int) → Int → Int → Int → (List Int) → Option (List Int)) (x160 : Int) (l166 : List Int) (x168 : Bool) : Option (List Int) := cond x168 ((self_ l166 p1 x160 (IntKind.i64.wrap (shrI .u64 (IntKind.u64.wrap (IntKind.i64.wrap (p1 + p3))) 1)) p4_0).bind fun r170 => Zbf p1 p2 p3 p4_0 self_ x160 r170) (Zbf p1 p2 p3 p4_0 self_ x160 l166)
def Zbh (p1 : Int) (p2 : Int) (p3 : Int) (p4_0 : List Int) (self_ : (List Int) → Int → Int → Int → (List Int) → Option (List Int)) (x160 : Int) (l166 : List Int) : Option (List Int) := cond (decide (p1 < x160)) (Zbg p1 p2 p3 p4_0 self_ x160 l166 (decide (x160 < (IntKind.i64.wrap (shrI .u64 (IntKind.u64.wrap (IntKind.i64.wrap (p1 + p3))) 1))))) (Zbg p1 p2 p3 p4_0 self_ x160 l166 false)
def Zbi (p0 : List Int) (p1 : Int) (p2 : Int) (p3 : Int) (p4_0 : List Int) (self_ : (List Int) → Int → Int → Int → (List Int) → Option (List Int)) (x160 : Int) (x162 : Bool) : Option (List Int) := cond x162 ((Zb4 p0 x160 p2 (IntKind.i64.wrap ((IntKind.i64.wrap ((IntKind.i64.wrap (shrI .u64 (IntKind.u64.wrap (IntKind.i64.wrap (p1 + p3))) 1)) + p2)) - x160)) p4_0).bind fun r164 => Zbh p1 p2 p3 p4_0 self_ x160 r164) (Zbh p1 p2 p3 p4_0 self_ x160 p0)
def Zbj (p0 : List Int) (p1 : Int) (p2 : Int) (p3 : Int) (p4_0 : List Int) (self_ : (List Int) → Int → Int → Int → (List Int) → Option (List Int)) (x160 : Int) : Option (List Int) := cond (decide (x160 < p2)) (Zbi p0 p1 p2 p3 p4_0 self_ x160 (decide (p2 < (IntKind.i64.wrap ((IntKind.i64.wrap ((IntKind.i64.wrap (shrI .u64 (IntKind.u64.wrap (IntKind.i64.wrap (p1 + p3))) 1)) + p2)) - x160))))) (Zbi p0 p1 p2 p3 p4_0 self_ x160 false)
def Zbk (p0 : List Int) (p1 : Int) (p2 : Int) (p3 : Int) (p4_0 : List Int) (x142 : Int) (x143 : Int) : Option ((Int × Int) ⊕ (Int)) := cond (decide (x142 < x143)) ((getI p0 (IntKind.i64.wrap ((IntKind.i64.wrap ((IntKind.i64.wrap ((IntKind.i64.wrap (shrI .u64 (IntKind.u64.wrap (IntKind.i64.wrap (p1 + p3))) 1)) + p2)) - 1)) - (IntKind.i64.wrap (shrI .u64 (IntKind.u64.wrap (IntKind.i64.wrap (x142 + x143))) 1))))).bind fun e153 => (getI p0 (IntKind.i64.wrap (shrI .u64 (IntKind.u64.wrap (IntKind.i64.wrap (x142 + x143))) 1))).bind fun e155 => (Zar e153 e155 p4_0).bind fun r157 => cond (decide (r157 < 0)) (some (.inl (x142, (IntKind.i64.wrap (shrI .u64 (IntKind.u64.wrap (IntKind.i64.wrap (x142 + x143))) 1))))) (some (.inl ((IntKind.i64.wrap ((IntKind.i64.wrap (shrI .u64 (IntKind.u64.wrap (IntKind.i64.wrap (x142 + x143))) 1)) + 1)), x143)))) (some (.inr x142))
def Zbl (p0 : List Int) (p1 : Int) (p2 : Int) (p3 : Int) (p4_0 : List Int) (self_ : (List Int) → Int → Int → Int → (List Int) → Option (List Int)) (x124 : Int) (x125 : Int) : Option (List Int) := (iter (fun z186 => Zbk p0 p1 p2 p3 p4_0 z186.1 z186.2) big (x124, x125)).bind fun y187 => Zbj p0 p1 p2 p3 p4_0 self_ y187
def Zbm (self_ : (List Int) → Int → Int → Int → (List Int) → Option (List Int)) (p0 : List Int) (p1 : Int) (p2 : Int) (p3 : Int) (p4_0 : List Int) : Option (List Int) := cond ((IntKind.i64.wrap (p2 - p1)) == 1) ((iter (fun z180 => Zb9 p0 p1 p4_0 z180.1 z180.2) big (p2, p3)).bind fun y181 => Zb8 p0 p1 y181) (cond ((IntKind.i64.wrap (p3 - p2)) == 1) ((iter (fun z184 => Zbd p0 p2 p4_0 z184.1 z184.2) big (p1, p2)).bind fun y185 => Zbc p0 p2 y185) (cond (decide (p2 > (IntKind.i64.wrap (shrI .u64 (IntKind.u64.wrap (IntKind.i64.wrap (p1 + p3))) 1)))) (Zbl p0 p1 p2 p3 p4_0 self_ (IntKind.i64.wrap ((IntKind.i64.wrap ((IntKind.i64.wrap (shrI .u64 (IntKind.u64.wrap (IntKind.i64.wrap (p1 + p3))) 1)) + p2)) - p3)) (IntKind.i64.wrap (shrI .u64 (IntKind.u64.wrap (IntKind.i64.wrap (p1 + p3))) 1))) (Zbl p0 p1 p2 p3 p4_0 self_ p1 p2)))
theorem Zbn (self_ : (List Int) → Int → Int → Int → (List Int) → Option (List Int)) (hself_ : ∀ {w00 : Value} {b01 : Nat} (p0 : List Int) (p1 : Int) (p2 : Int) (p3 : Int) (p4_0 : List Int) (r : List Int), self_ p0 p1 p2 p3 p4_0 = some r → Ok Tryz.prog 306 [cV w00, cI p1, cI p2, cI p3, C.clo 239 [pt b01]] [oA w00 3 kI64 1 p0, oB b01 57 [cM kI64 1 p4_0]] (fun c qs => c = C.tup [] ∧ qs = [oA w00 3 kI64 1 r, oB b01 57 [cM kI64 1 p4_0]])) {w00 : Value} {b01 : Nat} (p0 : List Int) (p1 : Int) (p2 : Int) (p3 : Int) (p4_0 : List Int) (r : List Int) (h : Zbm self_ p0 p1 p2 p3 p4_0 = some r) : Ok Tryz.prog 306 [cV w00, cI p1, cI p2, cI p3, C.clo 239 [pt b01]] [oA w00 3 kI64 1 p0, oB b01 57 [cM kI64 1 p4_0]] (fun c qs => c = C.tup [] ∧ qs = [oA w00 3 kI64 1 r, oB b01 57 [cM kI64 1 p4_0]]) := by
 refine Ok.of_body (rs := []) Tryz.func306 rfl rfl rfl rfl rfl fun X => ?_
 unfold Zbm at h
 refine zw ?_
 refine cnd h (fun hb1 h => ?_) fun hb1 h => ?_
 ·
  refine AW.ct hb1 rfl ?_
  refine AW.seq ?_
  refine AW.region ?_
  refine Ops.v rfl (Yq rfl rfl) ?_
  refine Ops.v rfl (Yr rfl rfl) ?_
  refine Ops.nil ?_
  refine AW.seq ?_
  refine AW.region ?_
  refine Ops.v rfl (Yq rfl rfl) ?_
  refine Ops.v rfl (Yr rfl rfl) ?_
  refine Ops.nil ?_
  refine AW.seq ?_
  refine AW.cut (τ := Int) (fun x36 => ⟨[(0, cV w00), (1, cI p1), (10, cI x36)], [oA w00 3 kI64 1 p0, oB b01 57 [cM kI64 1 p4_0]]⟩) (fun x36 => Zb8 p0 p1 x36 = some r) ?_ ?_
  ·
   refine zw ?_
   refine ob' h fun o195 g196 q197 => ?_
   refine AW.loop (τ := Int × Int) (x := (p2, p3)) (fun (x18, x19) => ⟨[(0, cV w00), (1, cI p1), (4, C.clo 239 [pt b01]), (10, cI x18), (11, cI x19)], [oA w00 3 kI64 1 p0, oB b01 57 [cM kI64 1 p4_0]]⟩) (fun k (x18, x19) => iter (fun z180 => Zb9 p0 p1 p4_0 z180.1 z180.2) k (x18, x19) = some o195) g196 (Y21.both (ns := [0, 0]) rfl rfl) ?_
   rintro k ⟨x18, x19⟩ i199
   refine Y41 (show iter (fun z180 => Zb9 p0 p1 p4_0 z180.1 z180.2) k (x18, x19) = some o195 from i199) fun k198 y200 hlt_k198 h h201 => ?_
   replace h : Zb9 p0 p1 p4_0 x18 x19 = some y200 := h
   unfold Zb9 at h
   refine zw ?_
   refine cnd h (fun hb20 h => ?_) fun hb20 h => ?_
   ·
    refine AW.ct hb20 rfl ?_
    refine zw ?_
    refine Ops.v rfl (Y12 un_3 Yd5 rfl rfl) ?_
    refine Ops.v rfl (Yz rfl rfl rfl rfl) ?_
    refine Ops.v rfl (Y12 Yd5 un_3 rfl rfl) ?_
    refine zw ?_
    refine rD [0] [4,8] [] [0,4,8,12,17,20,24,28,33,38,40] ?_
    refine zw ?_
    refine di h fun e29 g30 h => ?_
    refine OpsD.v rfl rfl (Y30 (p := 0) ld_3.h rfl rfl (Y29 g30).2.2 rfl rfl) ?_
    refine zw ?_
    refine di h fun e31 g32 h => ?_
    refine OpsD.v rfl rfl (Y30 (p := 0) ld_3.h rfl rfl (Y29 g32).2.2 rfl rfl) ?_
    refine zw ?_
    refine ob' h fun r33 g34 h => ?_
    refine Y3n.h (ns := [0]) rfl rfl rfl (Y6s (cs := [_, _]) (ds := [_]) rfl (Zas e29 e31 p4_0 _ g34) rfl rfl) ?_
    rintro _ _ ⟨rfl, rfl⟩
    refine zw ?_
    refine cnd h (fun hb35 h => ?_) fun hb35 h => ?_
    ·
     refine AW.ct hb35 rfl ?_
     refine zw ?_
     obtain rfl := Wj h
     exact ⟨k198, ((IntKind.i64.wrap ((IntKind.i64.wrap (shrI .u64 (IntKind.u64.wrap (IntKind.i64.wrap (x18 + x19))) 1)) + 1)), x19), hlt_k198, h201, Y21.both (ns := [0, 0]) rfl rfl⟩
    refine AW.cf hb35 rfl ?_
    refine zw ?_
    obtain rfl := Wj h
    exact ⟨k198, (x18, (IntKind.i64.wrap (shrI .u64 (IntKind.u64.wrap (IntKind.i64.wrap (x18 + x19))) 1))), hlt_k198, h201, Y21.both (ns := [0, 0]) rfl rfl⟩
   refine AW.cf hb20 rfl ?_
   refine AW.exit ?_
   obtain rfl := Wj h
   obtain rfl := Wj h201
   replace h := q197
   exact ⟨x18, h, Y21.both (ns := [0, 0]) rfl rfl⟩
  intro x36 h
  replace h : Zb8 p0 p1 x36 = some r := h
  unfold Zb8 at h
  refine AW.seq ?_
  refine AW.cut (τ := List Int) (fun l61 => ⟨[], [oA w00 3 kI64 1 l61, oB b01 57 [cM kI64 1 p4_0]]⟩) (fun l61 => Zb6 l61 = some r) ?_ ?_
  ·
   refine zw ?_
   refine ob' h fun o188 g189 q190 => ?_
   refine AW.loop (τ := List Int × Int) (x := (p0, p1)) (fun (l48, x49) => ⟨[(0, cV w00), (10, cI x36), (13, cI x49)], [oA w00 3 kI64 1 l48, oB b01 57 [cM kI64 1 p4_0]]⟩) (fun k (l48, x49) => iter (fun z178 => Zb7 x36 z178.1 z178.2) k (l48, x49) = some o188) g189 (Y21.both (ns := [0, 0]) rfl rfl) ?_
   rintro k ⟨l48, x49⟩ i192
   refine Y41 (show iter (fun z178 => Zb7 x36 z178.1 z178.2) k (l48, x49) = some o188 from i192) fun k191 y193 hlt_k191 h h194 => ?_
   replace h : Zb7 x36 l48 x49 = some y193 := h
   unfold Zb7 at h
   refine zw ?_
   refine cnd h (fun hb50 h => ?_) fun hb50 h => ?_
   ·
    refine AW.ct hb50 rfl ?_
    refine zw ?_
    refine rD [0,0] [9,13] [15,17] [0,4,8,12,16,20,24,28,32,37,40,44,48,53,56,63,64,71] ?_
    refine zw ?_
    refine di h fun e51 g52 h => ?_
    refine OpsD.v rfl rfl (Y30 (p := 0) ld_3.h rfl rfl (Y29 g52).2.2 rfl rfl) ?_
    refine zw ?_
    refine di h fun e53 g54 h => ?_
    refine OpsD.v rfl rfl (Y30 (p := 0) ld_3.h rfl rfl (Y29 g54).2.2 rfl rfl) ?_
    refine zw ?_
    refine OpsD.late (ns := [0]) rfl rfl rfl (Y33 (e' := e51) ld_3.h rfl rfl (One.val rfl) (Y29 g54).2.2 rfl rfl) ?_
    rintro _ _ ⟨rfl, rfl⟩
    refine ob' h fun e59 g60 h => ?_
    refine OpsD.rest (ns := [0, 0]) rfl ?_
    refine zw ?_
    refine OpsD.late (ns := [0]) rfl rfl rfl (Y33 (e' := e53) ld_3.h rfl rfl (One.val rfl) (Y29 g60).2.2 rfl rfl) ?_
    rintro _ _ ⟨rfl, rfl⟩
    refine zw ?_
    obtain rfl := Wj h
    exact ⟨k191, ((List.set (List.set l48 (Int.toNat x49) e51) (Int.toNat (IntKind.i64.wrap (x49 + 1))) e53), (IntKind.i64.wrap (x49 + 1))), hlt_k191, h194, Y21.both (ns := [0, 0]) rfl rfl⟩
   refine AW.cf hb50 rfl ?_
   refine AW.exit ?_
   obtain rfl := Wj h
   obtain rfl := Wj h194
   replace h := q190
   exact ⟨l48, h, Y21.both (ns := [0, 0]) rfl rfl⟩
  intro l61 h
  replace h : Zb6 l61 = some r := h
  unfold Zb6 at h
  refine AW.ret ?_
  rw [← Wj h]
  exact ⟨[], _, Y21.refl _, .nil, [0, 0], _, _, rfl, ⟨rfl, rfl⟩⟩
 refine AW.cf hb1 rfl ?_
 refine zw ?_
 refine cnd h (fun hb62 h => ?_) fun hb62 h => ?_
 ·
  refine AW.ct hb62 rfl ?_
  refine AW.seq ?_
  refine AW.region ?_
  refine Ops.v rfl (Yq rfl rfl) ?_
  refine Ops.v rfl (Yr rfl rfl) ?_
  refine Ops.nil ?_
  refine AW.seq ?_
  refine AW.region ?_
  refine Ops.v rfl (Yq rfl rfl) ?_
  refine Ops.v rfl (Yr rfl rfl) ?_
  refine Ops.nil ?_
  refine AW.seq ?_
  refine AW.cut (τ := Int) (fun x97 => ⟨[(0, cV w00), (2, cI p2), (14, cI x97)], [oA w00 3 kI64 1 p0, oB b01 57 [cM kI64 1 p4_0]]⟩) (fun x97 => Zbc p0 p2 x97 = some r) ?_ ?_
  ·
   refine zw ?_
   refine ob' h fun o209 g210 q211 => ?_
   refine AW.loop (τ := Int × Int) (x := (p1, p2)) (fun (x79, x80) => ⟨[(0, cV w00), (2, cI p2), (4, C.clo 239 [pt b01]), (14, cI x79), (15, cI x80)], [oA w00 3 kI64 1 p0, oB b01 57 [cM kI64 1 p4_0]]⟩) (fun k (x79, x80) => iter (fun z184 => Zbd p0 p2 p4_0 z184.1 z184.2) k (x79, x80) = some o209) g210 (Y21.both (ns := [0, 0]) rfl rfl) ?_
   rintro k ⟨x79, x80⟩ i213
   refine Y41 (show iter (fun z184 => Zbd p0 p2 p4_0 z184.1 z184.2) k (x79, x80) = some o209 from i213) fun k212 y214 hlt_k212 h h215 => ?_
   replace h : Zbd p0 p2 p4_0 x79 x80 = some y214 := h
   unfold Zbd at h
   refine zw ?_
   refine cnd h (fun hb81 h => ?_) fun hb81 h => ?_
   ·
    refine AW.ct hb81 rfl ?_
    refine zw ?_
    refine Ops.v rfl (Y12 un_3 Yd5 rfl rfl) ?_
    refine Ops.v rfl (Yz rfl rfl rfl rfl) ?_
    refine Ops.v rfl (Y12 Yd5 un_3 rfl rfl) ?_
    refine zw ?_
    refine rD [0] [4,8] [] [0,4,8,12,17,20,24,28,33,38,40,44] ?_
    refine zw ?_
    refine di h fun e90 g91 h => ?_
    refine OpsD.v rfl rfl (Y30 (p := 0) ld_3.h rfl rfl (Y29 g91).2.2 rfl rfl) ?_
    refine zw ?_
    refine di h fun e92 g93 h => ?_
    refine OpsD.v rfl rfl (Y30 (p := 0) ld_3.h rfl rfl (Y29 g93).2.2 rfl rfl) ?_
    refine zw ?_
    refine ob' h fun r94 g95 h => ?_
    refine Y3n.h (ns := [0]) rfl rfl rfl (Y6s (cs := [_, _]) (ds := [_]) rfl (Zas e90 e92 p4_0 _ g95) rfl rfl) ?_
    rintro _ _ ⟨rfl, rfl⟩
    refine zw ?_
    refine cnd h (fun hb96 h => ?_) fun hb96 h => ?_
    ·
     refine AW.cond rfl (fun hn => absurd ((Y3u hb96).symm.trans hn) (by decide)) (fun _ => ?_)
     refine zw ?_
     obtain rfl := Wj h
     exact ⟨k212, (x79, (IntKind.i64.wrap (shrI .u64 (IntKind.u64.wrap (IntKind.i64.wrap (x79 + x80))) 1))), hlt_k212, h215, Y21.both (ns := [0, 0]) rfl rfl⟩
    refine AW.cond rfl (fun _ => ?_) (fun hn => absurd ((Y3v hb96).symm.trans hn) (by decide))
    refine zw ?_
    obtain rfl := Wj h
    exact ⟨k212, ((IntKind.i64.wrap ((IntKind.i64.wrap (shrI .u64 (IntKind.u64.wrap (IntKind.i64.wrap (x79 + x80))) 1)) + 1)), x80), hlt_k212, h215, Y21.both (ns := [0, 0]) rfl rfl⟩
   refine AW.cf hb81 rfl ?_
   refine AW.exit ?_
   obtain rfl := Wj h
   obtain rfl := Wj h215
   replace h := q211
   exact ⟨x79, h, Y21.both (ns := [0, 0]) rfl rfl⟩
  intro x97 h
  replace h : Zbc p0 p2 x97 = some r := h
  unfold Zbc at h
  refine AW.seq ?_
  refine AW.cut (τ := List Int) (fun l122 => ⟨[], [oA w00 3 kI64 1 l122, oB b01 57 [cM kI64 1 p4_0]]⟩) (fun l122 => Zba l122 = some r) ?_ ?_
  ·
   refine zw ?_
   refine ob' h fun o202 g203 q204 => ?_
   refine AW.loop (τ := List Int × Int) (x := (p0, p2)) (fun (l109, x110) => ⟨[(0, cV w00), (14, cI x97), (17, cI x110)], [oA w00 3 kI64 1 l109, oB b01 57 [cM kI64 1 p4_0]]⟩) (fun k (l109, x110) => iter (fun z182 => Zbb x97 z182.1 z182.2) k (l109, x110) = some o202) g203 (Y21.both (ns := [0, 0]) rfl rfl) ?_
   rintro k ⟨l109, x110⟩ i206
   refine Y41 (show iter (fun z182 => Zbb x97 z182.1 z182.2) k (l109, x110) = some o202 from i206) fun k205 y207 hlt_k205 h h208 => ?_
   replace h : Zbb x97 l109 x110 = some y207 := h
   unfold Zbb at h
   refine zw ?_
   refine cnd h (fun hb111 h => ?_) fun hb111 h => ?_
   ·
    refine AW.ct hb111 rfl ?_
    refine zw ?_
    refine rD [0,0] [9,13] [15,17] [0,4,8,12,16,20,24,28,32,37,40,44,48,53,56,63,64,71] ?_
    refine zw ?_
    refine di h fun e112 g113 h => ?_
    refine OpsD.v rfl rfl (Y30 (p := 0) ld_3.h rfl rfl (Y29 g113).2.2 rfl rfl) ?_
    refine zw ?_
    refine di h fun e114 g115 h => ?_
    refine OpsD.v rfl rfl (Y30 (p := 0) ld_3.h rfl rfl (Y29 g115).2.2 rfl rfl) ?_
    refine zw ?_
    refine OpsD.late (ns := [0]) rfl rfl rfl (Y33 (e' := e112) ld_3.h rfl rfl (One.val rfl) (Y29 g115).2.2 rfl rfl) ?_
    rintro _ _ ⟨rfl, rfl⟩
    refine ob' h fun e120 g121 h => ?_
    refine OpsD.rest (ns := [0, 0]) rfl ?_
    refine zw ?_
    refine OpsD.late (ns := [0]) rfl rfl rfl (Y33 (e' := e114) ld_3.h rfl rfl (One.val rfl) (Y29 g121).2.2 rfl rfl) ?_
    rintro _ _ ⟨rfl, rfl⟩
    refine zw ?_
    obtain rfl := Wj h
    exact ⟨k205, ((List.set (List.set l109 (Int.toNat x110) e112) (Int.toNat (IntKind.i64.wrap (x110 - 1))) e114), (IntKind.i64.wrap (x110 - 1))), hlt_k205, h208, Y21.both (ns := [0, 0]) rfl rfl⟩
   refine AW.cf hb111 rfl ?_
   refine AW.exit ?_
   obtain rfl := Wj h
   obtain rfl := Wj h208
   replace h := q204
   exact ⟨l109, h, Y21.both (ns := [0, 0]) rfl rfl⟩
  intro l122 h
  replace h : Zba l122 = some r := h
  unfold Zba at h
  refine AW.ret ?_
  rw [← Wj h]
  exact ⟨[], _, Y21.refl _, .nil, [0, 0], _, _, rfl, ⟨rfl, rfl⟩⟩
 refine AW.cf hb62 rfl ?_
 refine zw ?_
 refine Ops.v rfl (Y12 un_3 Yd5 rfl rfl) ?_
 refine Ops.v rfl (Yz rfl rfl rfl rfl) ?_
 refine Ops.v rfl (Y12 Yd5 un_3 rfl rfl) ?_
 refine Ops.v rfl (Yr rfl rfl) ?_
 refine Ops.nil ?_
 refine AW.seq ?_
 refine AW.region ?_
 refine Ops.v rfl (Yq rfl rfl) ?_
 refine Ops.v rfl (Yq rfl rfl) ?_
 refine Ops.v rfl (Yv rfl rfl rfl rfl) ?_
 refine Ops.v rfl (Yr rfl rfl) ?_
 refine Ops.nil ?_
 refine AW.seq ?_
 refine AW.region ?_
 refine Ops.v rfl (Yr rfl rfl) ?_
 refine Ops.v rfl (Yr rfl rfl) ?_
 refine Ops.nil ?_
 refine AW.seq ?_
 refine AW.cut (τ := Int × Int) (fun (x124, x125) => ⟨[(0, cV w00), (1, cI p1), (2, cI p2), (3, cI p3), (4, C.clo 239 [pt b01]), (18, cI (IntKind.i64.wrap (shrI .u64 (IntKind.u64.wrap (IntKind.i64.wrap (p1 + p3))) 1))), (19, cI (IntKind.i64.wrap ((IntKind.i64.wrap (shrI .u64 (IntKind.u64.wrap (IntKind.i64.wrap (p1 + p3))) 1)) + p2))), (20, cI x124), (21, cI x125)], [oA w00 3 kI64 1 p0, oB b01 57 [cM kI64 1 p4_0]]⟩) (fun (x124, x125) => Zbl p0 p1 p2 p3 p4_0 self_ x124 x125 = some r) ?_ ?_
 ·
  refine zw ?_
  refine cnd h (fun hb123 h => ?_) fun hb123 h => ?_
  ·
   refine AW.ct hb123 rfl ?_
   refine zw ?_
   exact ⟨((IntKind.i64.wrap ((IntKind.i64.wrap ((IntKind.i64.wrap (shrI .u64 (IntKind.u64.wrap (IntKind.i64.wrap (p1 + p3))) 1)) + p2)) - p3)), (IntKind.i64.wrap (shrI .u64 (IntKind.u64.wrap (IntKind.i64.wrap (p1 + p3))) 1))), h, Y21.both (ns := [0, 0]) rfl rfl⟩
  refine AW.cf hb123 rfl ?_
  refine zw ?_
  exact ⟨(p1, p2), h, Y21.both (ns := [0, 0]) rfl rfl⟩
 rintro ⟨x124, x125⟩ h
 replace h : Zbl p0 p1 p2 p3 p4_0 self_ x124 x125 = some r := h
 unfold Zbl at h
 refine AW.seq ?_
 refine AW.region ?_
 refine Ops.v rfl (Yq rfl rfl) ?_
 refine Ops.v rfl (Yv rfl rfl rfl rfl) ?_
 refine Ops.v rfl (Yr rfl rfl) ?_
 refine Ops.nil ?_
 refine AW.seq ?_
 refine AW.cut (τ := Int) (fun x160 => ⟨[(0, cV w00), (1, cI p1), (2, cI p2), (3, cI p3), (4, C.clo 239 [pt b01]), (18, cI (IntKind.i64.wrap (shrI .u64 (IntKind.u64.wrap (IntKind.i64.wrap (p1 + p3))) 1))), (19, cI (IntKind.i64.wrap ((IntKind.i64.wrap (shrI .u64 (IntKind.u64.wrap (IntKind.i64.wrap (p1 + p3))) 1)) + p2))), (20, cI x160)], [oA w00 3 kI64 1 p0, oB b01 57 [cM kI64 1 p4_0]]⟩) (fun x160 => Zbj p0 p1 p2 p3 p4_0 self_ x160 = some r) ?_ ?_
 ·
  refine zw ?_
  refine ob' h fun o216 g217 q218 => ?_
  refine AW.loop (τ := Int × Int) (x := (x124, x125)) (fun (x142, x143) => ⟨[(0, cV w00), (1, cI p1), (2, cI p2), (3, cI p3), (4, C.clo 239 [pt b01]), (18, cI (IntKind.i64.wrap (shrI .u64 (IntKind.u64.wrap (IntKind.i64.wrap (p1 + p3))) 1))), (19, cI (IntKind.i64.wrap ((IntKind.i64.wrap (shrI .u64 (IntKind.u64.wrap (IntKind.i64.wrap (p1 + p3))) 1)) + p2))), (20, cI x142), (21, cI x143), (22, cI (IntKind.i64.wrap ((IntKind.i64.wrap ((IntKind.i64.wrap (shrI .u64 (IntKind.u64.wrap (IntKind.i64.wrap (p1 + p3))) 1)) + p2)) - 1)))], [oA w00 3 kI64 1 p0, oB b01 57 [cM kI64 1 p4_0]]⟩) (fun k (x142, x143) => iter (fun z186 => Zbk p0 p1 p2 p3 p4_0 z186.1 z186.2) k (x142, x143) = some o216) g217 (Y21.both (ns := [0, 0]) rfl rfl) ?_
  rintro k ⟨x142, x143⟩ i220
  refine Y41 (show iter (fun z186 => Zbk p0 p1 p2 p3 p4_0 z186.1 z186.2) k (x142, x143) = some o216 from i220) fun k219 y221 hlt_k219 h h222 => ?_
  replace h : Zbk p0 p1 p2 p3 p4_0 x142 x143 = some y221 := h
  unfold Zbk at h
  refine zw ?_
  refine cnd h (fun hb144 h => ?_) fun hb144 h => ?_
  ·
   refine AW.ct hb144 rfl ?_
   refine zw ?_
   refine Ops.v rfl (Y12 un_3 Yd5 rfl rfl) ?_
   refine Ops.v rfl (Yz rfl rfl rfl rfl) ?_
   refine Ops.v rfl (Y12 Yd5 un_3 rfl rfl) ?_
   refine zw ?_
   refine rD [0] [6,10] [] [0,4,8,12,16,20,25,28,32,36,41,46,48,52] ?_
   refine zw ?_
   refine di h fun e153 g154 h => ?_
   refine OpsD.v rfl rfl (Y30 (p := 0) ld_3.h rfl rfl (Y29 g154).2.2 rfl rfl) ?_
   refine zw ?_
   refine di h fun e155 g156 h => ?_
   refine OpsD.v rfl rfl (Y30 (p := 0) ld_3.h rfl rfl (Y29 g156).2.2 rfl rfl) ?_
   refine zw ?_
   refine ob' h fun r157 g158 h => ?_
   refine Y3n.h (ns := [0]) rfl rfl rfl (Y6s (cs := [_, _]) (ds := [_]) rfl (Zas e153 e155 p4_0 _ g158) rfl rfl) ?_
   rintro _ _ ⟨rfl, rfl⟩
   refine zw ?_
   refine cnd h (fun hb159 h => ?_) fun hb159 h => ?_
   ·
    refine AW.cond rfl (fun hn => absurd ((Y3u hb159).symm.trans hn) (by decide)) (fun _ => ?_)
    refine zw ?_
    obtain rfl := Wj h
    exact ⟨k219, (x142, (IntKind.i64.wrap (shrI .u64 (IntKind.u64.wrap (IntKind.i64.wrap (x142 + x143))) 1))), hlt_k219, h222, Y21.both (ns := [0, 0]) rfl rfl⟩
   refine AW.cond rfl (fun _ => ?_) (fun hn => absurd ((Y3v hb159).symm.trans hn) (by decide))
   refine zw ?_
   obtain rfl := Wj h
   exact ⟨k219, ((IntKind.i64.wrap ((IntKind.i64.wrap (shrI .u64 (IntKind.u64.wrap (IntKind.i64.wrap (x142 + x143))) 1)) + 1)), x143), hlt_k219, h222, Y21.both (ns := [0, 0]) rfl rfl⟩
  refine AW.cf hb144 rfl ?_
  refine AW.exit ?_
  obtain rfl := Wj h
  obtain rfl := Wj h222
  replace h := q218
  exact ⟨x142, h, Y21.both (ns := [0, 0]) rfl rfl⟩
 intro x160 h
 replace h : Zbj p0 p1 p2 p3 p4_0 self_ x160 = some r := h
 unfold Zbj at h
 refine AW.seq ?_
 refine AW.region ?_
 refine Ops.v rfl (Yq rfl rfl) ?_
 refine Ops.v rfl (Yq rfl rfl) ?_
 refine Ops.v rfl (Yv rfl rfl rfl rfl) ?_
 refine Ops.v rfl (Yr rfl rfl) ?_
 refine Ops.nil ?_
 refine AW.seq ?_
 refine AW.cut (τ := List Int) (fun l166 => ⟨[(0, cV w00), (1, cI p1), (3, cI p3), (4, C.clo 239 [pt b01]), (18, cI (IntKind.i64.wrap (shrI .u64 (IntKind.u64.wrap (IntKind.i64.wrap (p1 + p3))) 1))), (20, cI x160), (24, cI (IntKind.i64.wrap ((IntKind.i64.wrap ((IntKind.i64.wrap (shrI .u64 (IntKind.u64.wrap (IntKind.i64.wrap (p1 + p3))) 1)) + p2)) - x160)))], [oA w00 3 kI64 1 l166, oB b01 57 [cM kI64 1 p4_0]]⟩) (fun l166 => Zbh p1 p2 p3 p4_0 self_ x160 l166 = some r) ?_ ?_
 ·
  refine AW.seq ?_
  refine AW.cut (τ := Bool) (fun x162 => ⟨[(0, cV w00), (1, cI p1), (2, cI p2), (3, cI p3), (4, C.clo 239 [pt b01]), (18, cI (IntKind.i64.wrap (shrI .u64 (IntKind.u64.wrap (IntKind.i64.wrap (p1 + p3))) 1))), (20, cI x160), (24, cI (IntKind.i64.wrap ((IntKind.i64.wrap ((IntKind.i64.wrap (shrI .u64 (IntKind.u64.wrap (IntKind.i64.wrap (p1 + p3))) 1)) + p2)) - x160))), (185, C.bool x162)], [oA w00 3 kI64 1 p0, oB b01 57 [cM kI64 1 p4_0]]⟩) (fun x162 => Zbi p0 p1 p2 p3 p4_0 self_ x160 x162 = some r) ?_ ?_
  ·
   refine zw ?_
   refine cnd h (fun hb161 h => ?_) fun hb161 h => ?_
   ·
    refine zw ?_
    exact ⟨decide (p2 < (IntKind.i64.wrap ((IntKind.i64.wrap ((IntKind.i64.wrap (shrI .u64 (IntKind.u64.wrap (IntKind.i64.wrap (p1 + p3))) 1)) + p2)) - x160))), h, Y21.both (ns := [0, 0]) rfl rfl⟩
   refine zw ?_
   exact ⟨false, h, Y21.both (ns := [0, 0]) rfl rfl⟩
  intro x162 h
  replace h : Zbi p0 p1 p2 p3 p4_0 self_ x160 x162 = some r := h
  unfold Zbi at h
  refine cnd h (fun hb163 h => ?_) fun hb163 h => ?_
  ·
   refine AW.ct hb163 rfl ?_
   refine zw ?_
   refine ob' h fun r164 g165 h => ?_
   refine Ops.hd (ns := [0, 0]) rfl rfl (Y24 (Zb5 p0 x160 p2 (IntKind.i64.wrap ((IntKind.i64.wrap ((IntKind.i64.wrap (shrI .u64 (IntKind.u64.wrap (IntKind.i64.wrap (p1 + p3))) 1)) + p2)) - x160)) p4_0 _ g165) rfl rfl) ?_
   refine zw ?_
   exact ⟨r164, h, Y21.both (ns := [0, 0]) rfl rfl⟩
  refine AW.cf hb163 rfl ?_
  refine zw ?_
  exact ⟨p0, h, Y21.both (ns := [0, 0]) rfl rfl⟩
 intro l166 h
 replace h : Zbh p1 p2 p3 p4_0 self_ x160 l166 = some r := h
 unfold Zbh at h
 refine AW.seq ?_
 refine AW.cut (τ := List Int) (fun l172 => ⟨[(0, cV w00), (3, cI p3), (4, C.clo 239 [pt b01]), (18, cI (IntKind.i64.wrap (shrI .u64 (IntKind.u64.wrap (IntKind.i64.wrap (p1 + p3))) 1))), (24, cI (IntKind.i64.wrap ((IntKind.i64.wrap ((IntKind.i64.wrap (shrI .u64 (IntKind.u64.wrap (IntKind.i64.wrap (p1 + p3))) 1)) + p2)) - x160)))], [oA w00 3 kI64 1 l172, oB b01 57 [cM kI64 1 p4_0]]⟩) (fun l172 => Zbf p1 p2 p3 p4_0 self_ x160 l172 = some r) ?_ ?_
 ·
  refine AW.seq ?_
  refine AW.cut (τ := Bool) (fun x168 => ⟨[(0, cV w00), (1, cI p1), (3, cI p3), (4, C.clo 239 [pt b01]), (18, cI (IntKind.i64.wrap (shrI .u64 (IntKind.u64.wrap (IntKind.i64.wrap (p1 + p3))) 1))), (20, cI x160), (24, cI (IntKind.i64.wrap ((IntKind.i64.wrap ((IntKind.i64.wrap (shrI .u64 (IntKind.u64.wrap (IntKind.i64.wrap (p1 + p3))) 1)) + p2)) - x160))), (199, C.bool x168)], [oA w00 3 kI64 1 l166, oB b01 57 [cM kI64 1 p4_0]]⟩) (fun x168 => Zbg p1 p2 p3 p4_0 self_ x160 l166 x168 = some r) ?_ ?_
  ·
   refine zw ?_
   refine cnd h (fun hb167 h => ?_) fun hb167 h => ?_
   ·
    refine zw ?_
    exact ⟨decide (x160 < (IntKind.i64.wrap (shrI .u64 (IntKind.u64.wrap (IntKind.i64.wrap (p1 + p3))) 1))), h, Y21.both (ns := [0, 0]) rfl rfl⟩
   refine zw ?_
   exact ⟨false, h, Y21.both (ns := [0, 0]) rfl rfl⟩
  intro x168 h
  replace h : Zbg p1 p2 p3 p4_0 self_ x160 l166 x168 = some r := h
  unfold Zbg at h
  refine cnd h (fun hb169 h => ?_) fun hb169 h => ?_
  ·
   refine AW.ct hb169 rfl ?_
   refine zw ?_
   refine ob' h fun r170 g171 h => ?_
   refine Ops.hd (ns := [0, 0]) rfl rfl (Y24 (hself_ l166 p1 x160 (IntKind.i64.wrap (shrI .u64 (IntKind.u64.wrap (IntKind.i64.wrap (p1 + p3))) 1)) p4_0 _ g171) rfl rfl) ?_
   refine zw ?_
   exact ⟨r170, h, Y21.both (ns := [0, 0]) rfl rfl⟩
  refine AW.cf hb169 rfl ?_
  refine zw ?_
  exact ⟨l166, h, Y21.both (ns := [0, 0]) rfl rfl⟩
 intro l172 h
 replace h : Zbf p1 p2 p3 p4_0 self_ x160 l172 = some r := h
 unfold Zbf at h
 refine AW.seq ?_
 refine AW.cut (τ := Bool) (fun x174 => ⟨[(0, cV w00), (3, cI p3), (4, C.clo 239 [pt b01]), (18, cI (IntKind.i64.wrap (shrI .u64 (IntKind.u64.wrap (IntKind.i64.wrap (p1 + p3))) 1))), (24, cI (IntKind.i64.wrap ((IntKind.i64.wrap ((IntKind.i64.wrap (shrI .u64 (IntKind.u64.wrap (IntKind.i64.wrap (p1 + p3))) 1)) + p2)) - x160))), (213, C.bool x174)], [oA w00 3 kI64 1 l172, oB b01 57 [cM kI64 1 p4_0]]⟩) (fun x174 => Zbe p1 p2 p3 p4_0 self_ x160 l172 x174 = some r) ?_ ?_
 ·
  refine zw ?_
  refine cnd h (fun hb173 h => ?_) fun hb173 h => ?_
  ·
   refine zw ?_
   exact ⟨decide ((IntKind.i64.wrap ((IntKind.i64.wrap ((IntKind.i64.wrap (shrI .u64 (IntKind.u64.wrap (IntKind.i64.wrap (p1 + p3))) 1)) + p2)) - x160)) < p3), h, Y21.both (ns := [0, 0]) rfl rfl⟩
  refine zw ?_
  exact ⟨false, h, Y21.both (ns := [0, 0]) rfl rfl⟩
 intro x174 h
 replace h : Zbe p1 p2 p3 p4_0 self_ x160 l172 x174 = some r := h
 unfold Zbe at h
 refine cnd h (fun hb175 h => ?_) fun hb175 h => ?_
 ·
  refine AW.ct hb175 rfl ?_
  refine zw ?_
  refine ob' h fun r176 g177 h => ?_
  refine Ops.hd (ns := [0, 0]) rfl rfl (Y24 (hself_ l172 (IntKind.i64.wrap (shrI .u64 (IntKind.u64.wrap (IntKind.i64.wrap (p1 + p3))) 1)) (IntKind.i64.wrap ((IntKind.i64.wrap ((IntKind.i64.wrap (shrI .u64 (IntKind.u64.wrap (IntKind.i64.wrap (p1 + p3))) 1)) + p2)) - x160)) p3 p4_0 _ g177) rfl rfl) ?_
  refine zw ?_
  rw [← Wj h]
  exact ⟨[], _, Y21.refl _, .nil, [0, 0], _, _, rfl, ⟨rfl, rfl⟩⟩
 refine AW.cf hb175 rfl ?_
 refine zw ?_
 rw [← Wj h]
 exact ⟨[], _, Y21.refl _, .nil, [0, 0], _, _, rfl, ⟨rfl, rfl⟩⟩
def Zbo : Nat → (List Int) → Int → Int → Int → (List Int) → Option (List Int)
  | 0 => fun _ _ _ _ _ => none
  | n_ + 1 => Zbm (Zbo n_)
theorem Zbp : ∀ (n_ : Nat) {w00 : Value} {b01 : Nat} (p0 : List Int) (p1 : Int) (p2 : Int) (p3 : Int) (p4_0 : List Int) (r : List Int), Zbo n_ p0 p1 p2 p3 p4_0 = some r → Ok Tryz.prog 306 [cV w00, cI p1, cI p2, cI p3, C.clo 239 [pt b01]] [oA w00 3 kI64 1 p0, oB b01 57 [cM kI64 1 p4_0]] (fun c qs => c = C.tup [] ∧ qs = [oA w00 3 kI64 1 r, oB b01 57 [cM kI64 1 p4_0]]) := by
 intro n_
 induction n_ with
 | zero => intro w00 b01 p0 p1 p2 p3 p4_0 r h; cases h
 | succ n_ ih => intro w00 b01 p0 p1 p2 p3 p4_0 r h; unfold Zbo at h; exact Zbn (Zbo n_) @ih p0 p1 p2 p3 p4_0 r h
def Zbq (p0 : List Int) (p1 : Int) (p2 : Int) (p3 : Int) (p4_0 : List Int) : Option (List Int) := Zbo big p0 p1 p2 p3 p4_0
theorem Zbr {w00 : Value} {b01 : Nat} (p0 : List Int) (p1 : Int) (p2 : Int) (p3 : Int) (p4_0 : List Int) (r : List Int) (h : Zbq p0 p1 p2 p3 p4_0 = some r) : Ok Tryz.prog 306 [cV w00, cI p1, cI p2, cI p3, C.clo 239 [pt b01]] [oA w00 3 kI64 1 p0, oB b01 57 [cM kI64 1 p4_0]] (fun c qs => c = C.tup [] ∧ qs = [oA w00 3 kI64 1 r, oB b01 57 [cM kI64 1 p4_0]]) := Zbp big p0 p1 p2 p3 p4_0 r h

def Zbs (x31 : Int) (l47 : List Int) : Option ((List Int × Int) ⊕ ((List Int))) := some (.inl (l47, (IntKind.i64.wrap (x31 * 2))))
def Zbt (p1 : Int) (p2_0 : List Int) (x31 : Int) (l42 : List Int) (x43 : Int) : Option ((List Int × Int) ⊕ ((List Int))) := cond (decide ((IntKind.i64.wrap (x43 + x31)) < p1)) ((Zbq l42 x43 (IntKind.i64.wrap (x43 + x31)) p1 p2_0).bind fun r45 => Zbs x31 r45) (Zbs x31 l42)
def Zbu (p1 : Int) (p2_0 : List Int) (x31 : Int) (l36 : List Int) (x37 : Int) (x38 : Int) : Option ((List Int × Int × Int) ⊕ ((List Int × Int))) := cond (decide (x38 ≤ p1)) ((Zbq l36 x37 (IntKind.i64.wrap (x37 + x31)) x38 p2_0).bind fun r40 => some (.inl (r40, x38, (IntKind.i64.wrap (x38 + (IntKind.i64.wrap (2 * x31))))))) (some (.inr (l36, x37)))
def Zbv (p1 : Int) (p2_0 : List Int) (l30 : List Int) (x31 : Int) : Option ((List Int × Int) ⊕ ((List Int))) := cond (decide (x31 < p1)) ((iter (fun z48 => Zbu p1 p2_0 x31 z48.1 z48.2.1 z48.2.2) big (l30, 0, (IntKind.i64.wrap (2 * x31)))).bind fun (y49, y50) => Zbt p1 p2_0 x31 y49 y50) (some (.inr l30))
def Zbw (p1 : Int) (p2_0 : List Int) (l10 : List Int) (x11 : Int) : Option (List Int) := (Zax l10 x11 p1 p2_0).bind fun r12 => (iter (fun z51 => Zbv p1 p2_0 z51.1 z51.2) big (r12, 20)).bind fun y52 => some y52
def Zbx (p1 : Int) (p2_0 : List Int) (l4 : List Int) (x5 : Int) (x6 : Int) : Option ((List Int × Int × Int) ⊕ ((List Int × Int))) := cond (decide (x6 ≤ p1)) ((Zax l4 x5 x6 p2_0).bind fun r8 => some (.inl (r8, x6, (IntKind.i64.wrap (x6 + 20))))) (some (.inr (l4, x5)))
def Zby (p0 : List Int) (p1 : Int) (p2_0 : List Int) : Option (List Int) := (iter (fun z53 => Zbx p1 p2_0 z53.1 z53.2.1 z53.2.2) big (p0, 0, 20)).bind fun (y54, y55) => Zbw p1 p2_0 y54 y55
theorem Zbz {w00 : Value} {b01 : Nat} (p0 : List Int) (p1 : Int) (p2_0 : List Int) (r : List Int) (h : Zby p0 p1 p2_0 = some r) : Ok Tryz.prog 283 [cV w00, cI p1, C.clo 239 [pt b01]] [oA w00 3 kI64 1 p0, oB b01 57 [cM kI64 1 p2_0]] (fun c qs => c = C.tup [] ∧ qs = [oA w00 3 kI64 1 r, oB b01 57 [cM kI64 1 p2_0]]) := by
 refine Ok.of_body (rs := []) Tryz.func283 rfl rfl rfl rfl rfl fun X => ?_
 unfold Zby at h
 refine AW.seq ?_
 refine AW.region ?_
 refine Ops.v rfl (Yr rfl rfl) ?_
 refine Ops.nil ?_
 refine AW.seq ?_
 refine AW.region ?_
 refine Ops.v rfl (Yq rfl rfl) ?_
 refine Ops.v rfl (Yr rfl rfl) ?_
 refine Ops.v rfl (Yr rfl rfl) ?_
 refine Ops.nil ?_
 refine AW.seq ?_
 refine AW.cut (τ := List Int × Int) (fun (l10, x11) => ⟨[(0, cV w00), (1, cI p1), (2, C.clo 239 [pt b01]), (6, cI 20), (7, cI x11)], [oA w00 3 kI64 1 l10, oB b01 57 [cM kI64 1 p2_0]]⟩) (fun (l10, x11) => Zbw p1 p2_0 l10 x11 = some r) ?_ ?_
 ·
  refine zw ?_
  refine ob' h fun o70 g71 q72 => ?_
  refine AW.loop (τ := List Int × Int × Int) (x := (p0, 0, 20)) (fun (l4, x5, x6) => ⟨[(0, cV w00), (1, cI p1), (2, C.clo 239 [pt b01]), (6, cI 20), (7, cI x5), (8, cI x6)], [oA w00 3 kI64 1 l4, oB b01 57 [cM kI64 1 p2_0]]⟩) (fun k (l4, x5, x6) => iter (fun z53 => Zbx p1 p2_0 z53.1 z53.2.1 z53.2.2) k (l4, x5, x6) = some o70) g71 (Y21.both (ns := [0, 0]) rfl rfl) ?_
  rintro k ⟨l4, x5, x6⟩ i74
  refine Y41 (show iter (fun z53 => Zbx p1 p2_0 z53.1 z53.2.1 z53.2.2) k (l4, x5, x6) = some o70 from i74) fun k73 y75 hlt_k73 h h76 => ?_
  replace h : Zbx p1 p2_0 l4 x5 x6 = some y75 := h
  unfold Zbx at h
  refine zw ?_
  refine cnd h (fun hb7 h => ?_) fun hb7 h => ?_
  ·
   refine AW.ct hb7 rfl ?_
   refine zw ?_
   refine ob' h fun r8 g9 h => ?_
   refine Ops.hd (ns := [0, 0]) rfl rfl (Y24 (Zay l4 x5 x6 p2_0 _ g9) rfl rfl) ?_
   refine zw ?_
   obtain rfl := Wj h
   exact ⟨k73, (r8, x6, (IntKind.i64.wrap (x6 + 20))), hlt_k73, h76, Y21.both (ns := [0, 0]) rfl rfl⟩
  refine AW.cf hb7 rfl ?_
  refine AW.exit ?_
  obtain rfl := Wj h
  obtain rfl := Wj h76
  replace h := q72
  exact ⟨(l4, x5), h, Y21.both (ns := [0, 0]) rfl rfl⟩
 rintro ⟨l10, x11⟩ h
 replace h : Zbw p1 p2_0 l10 x11 = some r := h
 unfold Zbw at h
 refine zw ?_
 refine ob' h fun r12 g13 h => ?_
 refine Ops.hd (ns := [0, 0]) rfl rfl (Y24 (Zay l10 x11 p1 p2_0 _ g13) rfl rfl) ?_
 refine zw ?_
 refine ob' h fun o56 g57 q58 => ?_
 refine AW.loop (τ := List Int × Int) (x := (r12, 20)) (fun (l30, x31) => ⟨[(0, cV w00), (1, cI p1), (2, C.clo 239 [pt b01]), (6, cI x31)], [oA w00 3 kI64 1 l30, oB b01 57 [cM kI64 1 p2_0]]⟩) (fun k (l30, x31) => iter (fun z51 => Zbv p1 p2_0 z51.1 z51.2) k (l30, x31) = some o56) g57 (Y21.both (ns := [0, 0]) rfl rfl) ?_
 rintro k ⟨l30, x31⟩ i60
 refine Y41 (show iter (fun z51 => Zbv p1 p2_0 z51.1 z51.2) k (l30, x31) = some o56 from i60) fun k59 y61 hlt_k59 h h62 => ?_
 replace h : Zbv p1 p2_0 l30 x31 = some y61 := h
 unfold Zbv at h
 refine zw ?_
 refine cnd h (fun hb32 h => ?_) fun hb32 h => ?_
 ·
  refine AW.ct hb32 rfl ?_
  refine AW.skip ?_
  refine AW.block ?_
  refine AW.seq ?_
  refine AW.region ?_
  refine Ops.v rfl (Yq rfl rfl) ?_
  refine Ops.v rfl (Yv rfl rfl rfl rfl) ?_
  refine Ops.v rfl (Yr rfl rfl) ?_
  refine Ops.v rfl (Yr rfl rfl) ?_
  refine Ops.nil ?_
  refine AW.seq ?_
  refine AW.cut (τ := List Int × Int) (fun (l42, x43) => ⟨[(0, cV w00), (1, cI p1), (2, C.clo 239 [pt b01]), (6, cI x31), (7, cI x43)], [oA w00 3 kI64 1 l42, oB b01 57 [cM kI64 1 p2_0]]⟩) (fun (l42, x43) => Zbt p1 p2_0 x31 l42 x43 = some y61) ?_ ?_
  ·
   refine zw ?_
   refine ob' h fun o63 g64 q65 => ?_
   refine AW.loop (τ := List Int × Int × Int) (x := (l30, 0, (IntKind.i64.wrap (2 * x31)))) (fun (l36, x37, x38) => ⟨[(0, cV w00), (1, cI p1), (2, C.clo 239 [pt b01]), (6, cI x31), (7, cI x37), (8, cI x38)], [oA w00 3 kI64 1 l36, oB b01 57 [cM kI64 1 p2_0]]⟩) (fun k (l36, x37, x38) => iter (fun z48 => Zbu p1 p2_0 x31 z48.1 z48.2.1 z48.2.2) k (l36, x37, x38) = some o63) g64 (Y21.both (ns := [0, 0]) rfl rfl) ?_
   rintro k ⟨l36, x37, x38⟩ i67
   refine Y41 (show iter (fun z48 => Zbu p1 p2_0 x31 z48.1 z48.2.1 z48.2.2) k (l36, x37, x38) = some o63 from i67) fun k66 y68 hlt_k66 h h69 => ?_
   replace h : Zbu p1 p2_0 x31 l36 x37 x38 = some y68 := h
   unfold Zbu at h
   refine zw ?_
   refine cnd h (fun hb39 h => ?_) fun hb39 h => ?_
   ·
    refine AW.ct hb39 rfl ?_
    refine zw ?_
    refine ob' h fun r40 g41 h => ?_
    refine Ops.hd (ns := [0, 0]) rfl rfl (Y24 (Zbr l36 x37 (IntKind.i64.wrap (x37 + x31)) x38 p2_0 _ g41) rfl rfl) ?_
    refine zw ?_
    obtain rfl := Wj h
    exact ⟨k66, (r40, x38, (IntKind.i64.wrap (x38 + (IntKind.i64.wrap (2 * x31))))), hlt_k66, h69, Y21.both (ns := [0, 0]) rfl rfl⟩
   refine AW.cf hb39 rfl ?_
   refine AW.exit ?_
   obtain rfl := Wj h
   obtain rfl := Wj h69
   replace h := q65
   exact ⟨(l36, x37), h, Y21.both (ns := [0, 0]) rfl rfl⟩
  rintro ⟨l42, x43⟩ h
  replace h : Zbt p1 p2_0 x31 l42 x43 = some y61 := h
  unfold Zbt at h
  refine AW.seq ?_
  refine AW.cut (τ := List Int) (fun l47 => ⟨[(0, cV w00), (1, cI p1), (2, C.clo 239 [pt b01]), (6, cI x31)], [oA w00 3 kI64 1 l47, oB b01 57 [cM kI64 1 p2_0]]⟩) (fun l47 => Zbs x31 l47 = some y61) ?_ ?_
  ·
   refine zw ?_
   refine cnd h (fun hb44 h => ?_) fun hb44 h => ?_
   ·
    refine AW.ct hb44 rfl ?_
    refine zw ?_
    refine ob' h fun r45 g46 h => ?_
    refine Ops.hd (ns := [0, 0]) rfl rfl (Y24 (Zbr l42 x43 (IntKind.i64.wrap (x43 + x31)) p1 p2_0 _ g46) rfl rfl) ?_
    refine zw ?_
    exact ⟨r45, h, Y21.both (ns := [0, 0]) rfl rfl⟩
   refine AW.cf hb44 rfl ?_
   refine zw ?_
   exact ⟨l42, h, Y21.both (ns := [0, 0]) rfl rfl⟩
  intro l47 h
  replace h : Zbs x31 l47 = some y61 := h
  unfold Zbs at h
  refine zw ?_
  obtain rfl := Wj h
  exact ⟨k59, (l47, (IntKind.i64.wrap (x31 * 2))), hlt_k59, h62, Y21.both (ns := [0, 0]) rfl rfl⟩
 refine AW.cf hb32 rfl ?_
 refine AW.exit ?_
 obtain rfl := Wj h
 obtain rfl := Wj h62
 replace h := q58
 rw [← Wj h]
 exact ⟨[], _, Y21.refl _, .nil, [0, 0], _, _, rfl, ⟨rfl, rfl⟩⟩

def Zc0 (p0 : List Int) (p1_0 : List Int) : Option (List Int) := (Zby p0 (p0.length : Int) p1_0).bind fun r1 => some r1
theorem Zc1 {w00 : Value} {b01 : Nat} (p0 : List Int) (p1_0 : List Int) (r : List Int) (h : Zc0 p0 p1_0 = some r) : Ok Tryz.prog 238 [cV w00, C.clo 239 [pt b01]] [oA w00 3 kI64 1 p0, oB b01 57 [cM kI64 1 p1_0]] (fun c qs => c = C.tup [] ∧ qs = [oA w00 3 kI64 1 r, oB b01 57 [cM kI64 1 p1_0]]) := by
 refine Ok.of_body (rs := []) Tryz.func238 rfl rfl rfl rfl rfl fun X => ?_
 unfold Zc0 at h
 refine zw ?_
 refine ob' h fun r1 g2 h => ?_
 refine Ops.hd (ns := [0, 0]) rfl rfl (Y24 (Zbz p0 (p0.length : Int) p1_0 _ g2) rfl rfl) ?_
 refine zw ?_
 rw [← Wj h]
 exact ⟨[], _, Y21.refl _, .nil, [0, 0], _, _, rfl, ⟨rfl, rfl⟩⟩

def Zc2 (l46 : List Int) : Option (List Int) := some l46
def Zc3 (p0 : Y92) (r21 : List Int) (l34 : List Int) (x35 : Int) : Option ((List Int × Int) ⊕ ((List Int))) := cond (decide (x35 < (r21.length : Int))) ((getI r21 x35).bind fun e37 => (getI p0.events e37).bind fun e39 => (chk (decide ((l34.length + [e39.id].length) * 8 ≤ 140737488355328))).bind fun u43 => some (.inl ((l34 ++ [e39.id]), (IntKind.i64.wrap (x35 + 1))))) (some (.inr l34))
def Zc4 (p0 : Y92) (r2 : List Int × Bool) (l20 : List Int) : Option (List Int) := (Zc0 l20 r2.1).bind fun r21 => (iter (fun z48 => Zc3 p0 r21 z48.1 z48.2) big (([] : List Int), 0)).bind fun y49 => Zc2 y49
def Zc5 (p0 : Y92) (l12 : List Int) (x13 : Int) : Option ((List Int × Int) ⊕ ((List Int))) := cond (decide (x13 < (p0.events.length : Int))) ((chk (decide ((l12.length + [x13].length) * 8 ≤ 140737488355328))).bind fun u17 => some (.inl ((l12 ++ [x13]), (IntKind.i64.wrap (x13 + 1))))) (some (.inr l12))
def Zc6 (p0 : Y92) : Option (List Int) := (Za5 p0).bind fun r2 => (iter (fun z50 => Zc5 p0 z50.1 z50.2) big (([] : List Int), 0)).bind fun y51 => Zc4 p0 r2 y51
theorem Zc7 (p0 : Y92) (r : List Int) (h : Zc6 p0 = some r) : Ok Tryz.prog 191 [C.agg [cI p0.room, cM Y9b 9 p0.events, cM Y9b 9 p0.parked]] [] (fun c qs => ∃ (v47 : Value), c = cV v47 ∧ qs = [oA v47 2 kI64 1 r]) := by
 refine Ok.of_body (rs := [.tmp 2]) Tryz.func191 rfl rfl rfl rfl rfl fun X => ?_
 unfold Zc6 at h
 refine zw ?_
 refine ox fun b1 => ?_
 refine zw ?_
 refine oc h fun r2 g3 h => ?_
 refine zw ?_
 refine Ops.h (ns := []) rfl rfl (Y1p (cs := [cV s0]) Yd6 (Y42 rfl rfl) rfl) ?_
 rintro _ _ ⟨b4, rfl, rfl⟩
 refine Ops.hd (ns := [0]) rfl rfl (Y1t (gs := [cM kI64 1 r2.1]) Y9y.h rfl rfl One.im rfl rfl) ?_
 refine zw ?_
 refine Ops.h (ns := []) rfl rfl (Y39 (k := kI64) (ys := ([] : List Int)) Ycu .nil rfl rfl rfl) ?_
 rintro _ _ ⟨b5, rfl, rfl⟩
 refine Ops.v rfl (Yr rfl rfl) ?_
 refine Ops.nil ?_
 refine AW.seq ?_
 refine AW.cut (τ := List Int × Value) (fun (l20, v19) => ⟨[(1, pt b1), (3, pt b4), (5, cV v19)], [oB b1 139 [cI p0.room, cM Y9b 9 p0.events, cM Y9b 9 p0.parked], oB b4 57 [cM kI64 1 r2.1], oA v19 3 kI64 1 l20]⟩) (fun (l20, v19) => Zc4 p0 r2 l20 = some r) ?_ ?_
 ·
  refine zw ?_
  refine AW.lp h (fun (l12, x13) (v11 : Value) => ⟨[(1, pt b1), (3, pt b4), (5, cV v11), (18, cI (p0.events.length : Int)), (19, cI x13)], [oB b1 139 [cI p0.room, cM Y9b 9 p0.events, cM Y9b 9 p0.parked], oB b4 57 [cM kI64 1 r2.1], oA v11 3 kI64 1 l12]⟩) (gb [2, 1, 0]) ?_
  rintro ⟨l12, x13⟩ v11 y64 h
  refine zw ?_
  refine cnd h (fun hb14 h => ?_) fun hb14 h => ?_
  ·
   refine AW.ct hb14 rfl ?_
   refine zw ?_
   refine Ops.h (ns := []) rfl rfl (Y39 (k := kI64) (ys := [x13]) Ycu (.one rfl (One.val rfl) rfl rfl .nil) rfl rfl rfl) ?_
   rintro _ _ ⟨b15, rfl, rfl⟩
   refine ob' h fun u17 c16 h => ?_
   refine Ops.h (ns := [3, 0]) rfl rfl (Y2s Ycu rfl rfl (Wo (Y3t c16)) (Y3w (by decide) c16) rfl) ?_
   rintro _ _ ⟨v18, rfl, rfl⟩
   exact go
  exact go
 rintro ⟨l20, v19⟩ h
 replace h : Zc4 p0 r2 l20 = some r := h
 unfold Zc4 at h
 refine zw ?_
 refine Ops.v rfl (Y6q rfl rfl) ?_
 refine ob' h fun r21 g22 h => ?_
 refine Ops.hd (ns := [2, 1]) rfl rfl (Y24 (Zc1 l20 r2.1 _ g22) rfl rfl) ?_
 refine zw ?_
 refine Ops.h (ns := []) rfl rfl (Y39 (k := kI64) (ys := ([] : List Int)) Yab .nil rfl rfl rfl) ?_
 rintro _ _ ⟨b23, rfl, rfl⟩
 refine Ops.v rfl (Yr rfl rfl) ?_
 refine Ops.nil ?_
 refine AW.seq ?_
 refine AW.cut (τ := List Int × Value) (fun (l46, v45) => ⟨[(7, cV v45)], [oA v45 2 kI64 1 l46]⟩) (fun (l46, v45) => Zc2 l46 = some r) ?_ ?_
 ·
  refine zw ?_
  refine AW.lp h (fun (l34, x35) (v33 : Value) => ⟨[(1, pt b1), (7, cV v33), (31, cV v19), (32, cI (r21.length : Int)), (33, cI x35)], [oB b1 139 [cI p0.room, cM Y9b 9 p0.events, cM Y9b 9 p0.parked], oA v33 2 kI64 1 l34, oA v19 3 kI64 1 r21]⟩) (gb [3, 0, 0]) ?_
  rintro ⟨l34, x35⟩ v33 y57 h
  refine zw ?_
  refine cnd h (fun hb36 h => ?_) fun hb36 h => ?_
  ·
   refine AW.ct hb36 rfl ?_
   refine zw ?_
   refine ob' h fun e37 g38 h => ?_
   refine Ops.v rfl (Y2x (p := 2) Ycy.h rfl rfl rfl g38 rfl) ?_
   refine Ops.v rfl (Y30 (p := 2) ld_3.h rfl rfl (Y29 g38).2.2 rfl rfl) ?_
   refine zw ?_
   refine oi h fun e39 g40 h => ?_
   refine zw ?_
   refine Ops.h (ns := []) rfl rfl (Y39 (k := kI64) (ys := [e39.id]) Yab (.one rfl (One.val rfl) rfl rfl .nil) rfl rfl rfl) ?_
   rintro _ _ ⟨b41, rfl, rfl⟩
   refine ob' h fun u43 c42 h => ?_
   refine Ops.h (ns := [2, 0]) rfl rfl (Y2s Yab rfl rfl (Wo (Y3t c42)) (Y3w (by decide) c42) rfl) ?_
   rintro _ _ ⟨v44, rfl, rfl⟩
   exact go
  exact go
 rintro ⟨l46, v45⟩ h
 replace h : Zc2 l46 = some r := h
 unfold Zc2 at h
 refine zw ?_
 refine AW.ret ?_
 rw [← Wj h]
 exact ⟨[cV v45], _, Y21.refl _, (.cons (.tmp rfl) .nil), [0], _, _, rfl, ⟨v45, rfl, rfl⟩⟩
instance Zc7' (p0 : Y92) : Sp Tryz.prog 191 [C.agg [cI p0.room, cM Y9b 9 p0.events, cM Y9b 9 p0.parked]] (Zc6 p0) (fun r => cM kI64 1 r) := ⟨fun r h => Ok.freeze (Zc7 p0 r h) (by rintro c qs ⟨v47, rfl, rfl⟩; exact Frz.arr)⟩

def Zc8 (p0 : Y92) (p1 : Int) : Option (Y8z × Bool) := (Z9k p0.events p1).bind fun r3 => cond r3.2 ((getI p0.events r3.1).bind fun e6 => some (e6, true)) (some ((Y8z.mk 0 0 0 0 0 0 ByteArray.empty [] 0), false))
instance Zc9 (p0 : Y92) (p1 : Int) : Sp Tryz.prog 139 [C.agg [cI p0.room, cM Y9b 9 p0.events, cM Y9b 9 p0.parked], cI p1] (Zc8 p0 p1) (fun r => C.tup [C.agg [cI r.1.id, cI r.1.room, cI r.1.author, cI r.1.kind, cI r.1.key, cI r.1.n, C.str r.1.text, cM kI64 1 r.1.prev, cI r.1.time], C.bool r.2]) := sp Tryz.func139 rfl rfl fun r X h => by
 unfold Zc8 at h
 refine zw ?_
 refine ox fun b1 => ?_
 refine Ops.h (ns := []) rfl rfl (Y1p (cs := [cI 0, cI 0, cI 0, cI 0, cI 0, cI 0, C.str ByteArray.empty, cV s0, cI 0]) Yac (Y42 rfl rfl) rfl) ?_
 rintro _ _ ⟨b2, rfl, rfl⟩
 refine zw ?_
 refine oc h fun r3 g4 h => ?_
 refine zw ?_
 refine cnd h (fun hb5 h => ?_) fun hb5 h => ?_
 ·
  refine AW.cond rfl (fun hn => absurd ((Y3u hb5).symm.trans hn) (by decide)) (fun _ => ?_)
  refine zw ?_
  refine oi h fun e6 g7 h => ?_
  refine zw ?_
  refine Ops.hd (ns := [0]) rfl rfl (Y1u (gs := [cI e6.id, cI e6.room, cI e6.author, cI e6.kind, cI e6.key, cI e6.n, C.str e6.text, cM kI64 1 e6.prev, cI e6.time]) Yat.h rfl rfl rfl rfl rfl) ?_
  refine zw ?_
  refine AW.ret ?_
  rw [← Wj h]
  exact ⟨[C.agg [cI e6.id, cI e6.room, cI e6.author, cI e6.kind, cI e6.key, cI e6.n, C.str e6.text, cM kI64 1 e6.prev, cI e6.time], C.bool true], _, Y21.refl _, (.cons (.cell (p := 0) rfl rfl Yat.h rfl) (.cons (.tmp rfl) .nil)), [], _, _, rfl, ⟨rfl, rfl⟩⟩
 refine AW.cond rfl (fun _ => ?_) (fun hn => absurd ((Y3v hb5).symm.trans hn) (by decide))
 refine zw ?_
 refine Ops.v rfl (Y38 (ds := [cI 0, cI 0, cI 0, cI 0, cI 0, cI 0, C.str ByteArray.empty, cV s0, cI 0]) Ybv Yac (Y42 rfl rfl) .nil rfl) ?_
 refine Ops.hd (ns := [0]) rfl rfl (Y1u (gs := [cI 0, cI 0, cI 0, cI 0, cI 0, cI 0, C.str ByteArray.empty, cV s0, cI 0]) Yat.h rfl rfl rfl rfl rfl) ?_
 refine zw ?_
 refine AW.ret ?_
 rw [← Wj h]
 exact ⟨[C.agg [cI 0, cI 0, cI 0, cI 0, cI 0, cI 0, C.str ByteArray.empty, cM kI64 1 [], cI 0], C.bool false], _, Y21.boxFrz (ns := [0]) rfl (fS (fS (fS (fS (fS (fS (fS (FrzL.cons (os := []) (Frz.imp (Imp.nil kI64 1)) (fS FrzL.nil))))))))), (.cons (.cell (p := 0) rfl rfl Yat.h rfl) (.cons (.tmp rfl) .nil)), [], _, _, rfl, ⟨rfl, rfl⟩⟩

def Zca (l20 : List (List Y94)) : Option (List (List Y94)) := some l20
def Zcb (p0 : Y99) (p1 : List Int) (l10 : List (List Y94)) (x11 : Int) : Option ((List (List Y94) × Int) ⊕ ((List (List Y94)))) := cond (decide (x11 < (p1.length : Int))) ((getI p1 x11).bind fun e13 => (chk (decide ((l10.length + [(Option.getD (mget p0.after e13) ([] : List Y94))].length) * 24 ≤ 140737488355328))).bind fun u17 => some (.inl ((l10 ++ [(Option.getD (mget p0.after e13) ([] : List Y94))]), (IntKind.i64.wrap (x11 + 1))))) (some (.inr l10))
def Zcc (p0 : Y99) (p1 : List Int) : Option (List (List Y94)) := (iter (fun z22 => Zcb p0 p1 z22.1 z22.2) big (([] : List (List Y94)), 0)).bind fun y23 => Zca y23
theorem Zcd {b00 : Nat} {b01 : Nat} {b02 : Nat} {b03 : Nat} {b04 : Nat} (p0 : Y99) (p1 : List Int) (r : List (List Y94)) (h : Zcc p0 p1 = some r) : Ok Tryz.prog 143 [pt b00, cM kI64 1 p1] [oB b00 196 [cI p0.graph.room, cM Y9b 9 p0.graph.events, cM Y9b 9 p0.graph.parked, mt b01, mt b02, mt b03, mt b04], Abs.Obj.map b01 .i64 Y9p p0.depth, Abs.Obj.map b02 .i64 Y9q p0.before, Abs.Obj.map b03 .i64 Y9q p0.after, Abs.Obj.map b04 .i64 Y9p p0.refused] (fun c qs => ∃ (v21 : Value), c = cV v21 ∧ qs = [oA v21 27 Y9k 1 r, oB b00 196 [cI p0.graph.room, cM Y9b 9 p0.graph.events, cM Y9b 9 p0.graph.parked, mt b01, mt b02, mt b03, mt b04], Abs.Obj.map b01 .i64 Y9p p0.depth, Abs.Obj.map b02 .i64 Y9q p0.before, Abs.Obj.map b03 .i64 Y9q p0.after, Abs.Obj.map b04 .i64 Y9p p0.refused]) := by
 refine Ok.of_body (rs := [.tmp 4]) Tryz.func143 rfl rfl rfl rfl rfl fun X => ?_
 unfold Zcc at h
 refine zw ?_
 refine Ops.h (ns := []) rfl rfl (Y39 (k := Y9k) (ys := ([] : List (List Y94))) Yc4 .nil rfl rfl rfl) ?_
 rintro _ _ ⟨b1, rfl, rfl⟩
 refine Ops.v rfl (Yr rfl rfl) ?_
 refine Ops.nil ?_
 refine AW.seq ?_
 refine AW.cut (τ := List (List Y94) × Value) (fun (l20, v19) => ⟨[(5, cV v19)], [oA v19 27 Y9k 1 l20, oB b00 196 [cI p0.graph.room, cM Y9b 9 p0.graph.events, cM Y9b 9 p0.graph.parked, mt b01, mt b02, mt b03, mt b04], Abs.Obj.map b01 .i64 Y9p p0.depth, Abs.Obj.map b02 .i64 Y9q p0.before, Abs.Obj.map b03 .i64 Y9q p0.after, Abs.Obj.map b04 .i64 Y9p p0.refused]⟩) (fun (l20, v19) => Zca l20 = some r) ?_ ?_
 ·
  refine zw ?_
  refine AW.lp h (fun (l10, x11) (v9 : Value) => ⟨[(0, pt b00), (5, cV v9), (9, cM kI64 1 p1), (10, cI (p1.length : Int)), (11, cI x11)], [oB b00 196 [cI p0.graph.room, cM Y9b 9 p0.graph.events, cM Y9b 9 p0.graph.parked, mt b01, mt b02, mt b03, mt b04], Abs.Obj.map b01 .i64 Y9p p0.depth, Abs.Obj.map b02 .i64 Y9q p0.before, Abs.Obj.map b03 .i64 Y9q p0.after, Abs.Obj.map b04 .i64 Y9p p0.refused, oA v9 27 Y9k 1 l10]⟩) (gb [1, 1, 1, 1, 1, 0]) ?_
  rintro ⟨l10, x11⟩ v9 y29 h
  refine zw ?_
  refine cnd h (fun hb12 h => ?_) fun hb12 h => ?_
  ·
   refine AW.ct hb12 rfl ?_
   refine zw ?_
   refine oi h fun e13 g14 h => ?_
   refine zw ?_
   refine Ops.v rfl (Y6l (p := 3) (kc := Y9q) (z0 := ([] : List Y94)) Yd9 Yda (fun w F => Imp.nil Y9j 3 w F _ rfl) rfl rfl rfl rfl) ?_
   refine Ops.h (ns := []) rfl rfl (Y39 (k := Y9k) (ys := [(Option.getD (mget p0.after e13) ([] : List Y94))]) Yc4 (.one rfl One.im rfl rfl .nil) rfl rfl rfl) ?_
   rintro _ _ ⟨b15, rfl, rfl⟩
   refine ob' h fun u17 c16 h => ?_
   refine Ops.h (ns := [6, 0]) rfl rfl (Y2s Yc4 rfl rfl (Wo (Y3t c16)) (Y3w (by decide) c16) rfl) ?_
   rintro _ _ ⟨v18, rfl, rfl⟩
   refine zw ?_
   exact le h (gb [1, 1, 1, 1, 1, 0])
  refine AW.cf hb12 rfl ?_
  refine AW.exit ?_
  refine lx h fun h => ?_
  exact ⟨(l10, v9), h, Y21.both (ns := [5, 0, 0, 0, 0, 0]) rfl rfl⟩
 rintro ⟨l20, v19⟩ h
 replace h : Zca l20 = some r := h
 unfold Zca at h
 refine zw ?_
 refine AW.ret ?_
 rw [← Wj h]
 exact ⟨[cV v19], _, Y21.refl _, (.cons (.tmp rfl) .nil), [0, 0, 0, 0, 0, 0], _, _, rfl, ⟨v19, rfl, rfl⟩⟩

def Zce : Option Int := some (-1)
def Zcf (p0 : List Y94) (p1 : Y94) (x6 : Int) : Option (Int ⊕ (Int ⊕ Unit)) := cond (decide (x6 < (p0.length : Int))) ((getI p0 x6).bind fun e8 => cond ((p1.kind == e8.kind) && ((p1.key == e8.key) && ((p1.id == e8.id) && true))) (some (.inr (.inl x6))) (some (.inl (IntKind.i64.wrap (x6 + 1))))) (some (.inr (.inr ())))
def Zcg (p0 : List Y94) (p1 : Y94) : Option Int := (iter (Zcf p0 p1) big 0).bind (fun z12 => match z12 with | .inl y11 => some y11 | .inr () => Zce)
instance Zch (p0 : List Y94) (p1 : Y94) : Sp Tryz.prog 244 [cM Y9j 3 p0, C.agg [cI p1.kind, cI p1.key, cI p1.id]] (Zcg p0 p1) cI := sp Tryz.func244 rfl rfl fun r X h => by
 unfold Zcg at h
 refine zw ?_
 refine ox fun b1 => ?_
 refine zw ?_
 refine AW.lp (v := ()) h (fun x6 (_ : Unit) => ⟨[(0, cM Y9j 3 p0), (3, pt b1), (7, cI (p0.length : Int)), (8, cI x6)], [oB b1 106 [cI p1.kind, cI p1.key, cI p1.id]]⟩) (gb [0]) ?_
 rintro x6 _ y18 h
 refine zw ?_
 refine cnd h (fun hb7 h => ?_) fun hb7 h => ?_
 ·
  refine AW.ct hb7 rfl ?_
  refine zw ?_
  refine rD [0] [0,4] [] [1,4,8,12,17,20] ?_
  refine zw ?_
  refine di h fun e8 g9 h => ?_
  refine zw ?_
  refine OpsD.v rfl rfl (Y5l [.int .i64 p1.kind, .int .i64 p1.key, .int .i64 p1.id] [.int .i64 e8.kind, .int .i64 e8.key, .int .i64 e8.id] Ydb rfl rfl rfl rfl rfl rfl) ?_
  exact go
 exact go

def Zci (p0 : List Y94) (p1 : Y94) : Option Bool := (Zcg p0 p1).bind fun r2 => some (decide (r2 ≥ 0))
instance Zcj (p0 : List Y94) (p1 : Y94) : Sp Tryz.prog 197 [cM Y9j 3 p0, C.agg [cI p1.kind, cI p1.key, cI p1.id]] (Zci p0 p1) C.bool := sp Tryz.func197 rfl rfl fun r X h => go

def Zck (x6 : Bool) : Option Bool := some x6
def Zcl (p0 : Y8z) : Option Bool := cond (p0.kind == 1) (Zck true) (cond (p0.kind == 3) (Zck true) (cond (p0.kind == 5) (Zck true) (cond (p0.kind == 2) (Zck (p0.key != p0.author)) (Zck false))))
instance Zcm (p0 : Y8z) : Sp Tryz.prog 200 [C.agg [cI p0.id, cI p0.room, cI p0.author, cI p0.kind, cI p0.key, cI p0.n, C.str p0.text, cM kI64 1 p0.prev, cI p0.time]] (Zcl p0) C.bool := sp Tryz.func200 rfl rfl fun r X h => go

def Zcn : Option Int := some 0
def Zco (p0 : List Int) (x5 : Int) : Option (Int ⊕ (Int ⊕ Unit)) := cond (decide (x5 < (p0.length : Int))) ((getI p0 x5).bind fun e7 => cond (e7 != 0) (some (.inr (.inl e7))) (some (.inl (IntKind.i64.wrap (x5 + 1))))) (some (.inr (.inr ())))
def Zcp (p0 : List Int) : Option Int := (iter (Zco p0) big 0).bind (fun z11 => match z11 with | .inl y10 => some y10 | .inr () => Zcn)
instance Zcq (p0 : List Int) : Sp Tryz.prog 201 [cM kI64 1 p0] (Zcp p0) cI := sp Tryz.func201 rfl rfl fun r X h => by
 unfold Zcp at h
 refine zw ?_
 refine AW.lp (v := ()) h (fun x5 (_ : Unit) => ⟨[(3, cI 0), (6, cM kI64 1 p0), (7, cI (p0.length : Int)), (8, cI x5)], []⟩) (gb []) ?_
 rintro x5 _ y17 h
 exact go

def Zcr (p0 : Y94) (p1 : Y94) : Option Int := (Z9b p0.kind p1.kind).bind fun r3 => (Z9b p0.key p1.key).bind fun r5 => (Zcp [r3, r5]).bind fun r8 => some r8
instance Zcs (p0 : Y94) (p1 : Y94) : Sp Tryz.prog 295 [C.agg [cI p0.kind, cI p0.key, cI p0.id], C.agg [cI p1.kind, cI p1.key, cI p1.id]] (Zcr p0 p1) cI := sp Tryz.func295 rfl rfl fun r X h => by
 unfold Zcr at h
 refine zw ?_
 refine ox fun b1 => ?_
 refine ox fun b2 => ?_
 refine zw ?_
 refine rD [0,0] [1,3,6,8] [] [0,5,8,13,20,25,28,33,18,38,42,46,48] ?_
 refine zw ?_
 refine dc h fun r3 g4 h => ?_
 refine zw ?_
 refine dc h fun r5 g6 h => ?_
 refine OpsD.one ?_
 refine Y3n.h (ns := []) rfl rfl rfl (Y39 (k := kI64) (ys := [r3, r5]) Ycu (.one rfl (One.val rfl) rfl rfl (.one rfl (One.val rfl) rfl rfl .nil)) rfl rfl rfl) ?_
 rintro _ _ ⟨b7, rfl, rfl⟩
 refine zw ?_
 refine ob' h fun r8 g9 h => ?_
 refine Y3n.h (ns := [0]) rfl rfl rfl (Y24 (Ok.lendE ((Zcq [r3, r5]).h _ g9) (FrzT.cons (os := [_]) Frz.arr (FrzT.nil)) (Y44.val _)) rfl rfl) ?_
 rintro _ _ ⟨rfl, rfl⟩
 exact go

def Zct (x16 : Int) (x22 : Bool) : Option (Int × Bool) := some (x16, x22)
def Zcu (p0 : List Y94) (p1 : Y94) (x16 : Int) : Option (Int × Bool) := cond (decide (x16 < (p0.length : Int))) ((getI p0 x16).bind fun e18 => (Zcr e18 p1).bind fun r20 => Zct x16 (r20 == 0)) (Zct x16 false)
def Zcv (p0 : List Y94) (p1 : Y94) (x8 : Int) (x9 : Int) : Option ((Int × Int) ⊕ (Int)) := cond (decide (x8 < x9)) ((getI p0 (IntKind.i64.wrap (shrI .u64 (IntKind.u64.wrap (IntKind.i64.wrap (x8 + x9))) 1))).bind fun e11 => (Zcr e11 p1).bind fun r13 => cond (decide (r13 < 0)) (some (.inl ((IntKind.i64.wrap ((IntKind.i64.wrap (shrI .u64 (IntKind.u64.wrap (IntKind.i64.wrap (x8 + x9))) 1)) + 1)), x9))) (some (.inl (x8, (IntKind.i64.wrap (shrI .u64 (IntKind.u64.wrap (IntKind.i64.wrap (x8 + x9))) 1)))))) (some (.inr x8))
def Zcw (p0 : List Y94) (p1 : Y94) : Option (Int × Bool) := (iter (fun z23 => Zcv p0 p1 z23.1 z23.2) big (0, (p0.length : Int))).bind fun y24 => Zcu p0 p1 y24
instance Zcx (p0 : List Y94) (p1 : Y94) : Sp Tryz.prog 294 [cM Y9j 3 p0, C.agg [cI p1.kind, cI p1.key, cI p1.id], cV (.func (.func 295) #[] #[])] (Zcw p0 p1) (fun r => C.tup [cI r.1, C.bool r.2]) := sp Tryz.func294 rfl rfl fun r X h => by
 unfold Zcw at h
 refine zw ?_
 refine ox fun b1 => ?_
 refine Ops.v rfl (Yr rfl rfl) ?_
 refine Ops.v rfl (Yr rfl rfl) ?_
 refine Ops.nil ?_
 refine AW.seq ?_
 refine AW.region ?_
 refine Ops.v rfl (Yq rfl rfl) ?_
 refine Ops.v rfl (Y2c Ybn.h rfl rfl) ?_
 refine Ops.v rfl (Yr rfl rfl) ?_
 refine Ops.nil ?_
 refine AW.seq ?_
 refine AW.region ?_
 refine Ops.v rfl (Yq rfl rfl) ?_
 refine Ops.v rfl (Yr rfl rfl) ?_
 refine Ops.v rfl (Yr rfl rfl) ?_
 refine Ops.nil ?_
 refine AW.seq ?_
 refine AW.cut (τ := Int) (fun x16 => ⟨[(0, cM Y9j 3 p0), (2, cV (.func (.func 295) #[] #[])), (4, pt b1), (8, cI (p0.length : Int)), (9, cI x16)], [oB b1 106 [cI p1.kind, cI p1.key, cI p1.id]]⟩) (fun x16 => Zcu p0 p1 x16 = some r) ?_ ?_
 ·
  refine zw ?_
  refine AW.lp (v := ()) h (fun (x8, x9) (_ : Unit) => ⟨[(0, cM Y9j 3 p0), (2, cV (.func (.func 295) #[] #[])), (4, pt b1), (8, cI (p0.length : Int)), (9, cI x8), (10, cI x9)], [oB b1 106 [cI p1.kind, cI p1.key, cI p1.id]]⟩) (gb [0]) ?_
  rintro ⟨x8, x9⟩ _ y30 h
  refine zw ?_
  refine cnd h (fun hb10 h => ?_) fun hb10 h => ?_
  ·
   refine AW.ct hb10 rfl ?_
   refine zw ?_
   refine Ops.v rfl (Y12 un_3 Yd5 rfl rfl) ?_
   refine Ops.v rfl (Yz rfl rfl rfl rfl) ?_
   refine Ops.v rfl (Y12 Yd5 un_3 rfl rfl) ?_
   refine zw ?_
   refine rD [0] [4,5] [] [0,4,8,12,17,21,26,28] ?_
   refine zw ?_
   refine di h fun e11 g12 h => ?_
   refine zw ?_
   refine ob' h fun r13 g14 h => ?_
   refine Y3n.h (ns := []) rfl rfl rfl (Y26 (cs := [_, _]) rfl rfl ((Zcs _ _).h _ g14) rfl rfl) ?_
   rintro _ _ ⟨_, ⟨rfl, rfl⟩, rfl⟩
   exact go
  exact go
 intro x16 h
 replace h : Zcu p0 p1 x16 = some r := h
 unfold Zcu at h
 refine AW.seq ?_
 refine AW.cut (τ := Bool) (fun x22 => ⟨[(6, cI x16), (7, C.bool x22)], []⟩) (fun x22 => Zct x16 x22 = some r) ?_ ?_
 ·
  refine rD [0] [9,10] [] [0,4,8,12,16,20,24,28,32,37,41,46,48,52,56,60] ?_
  refine zw ?_
  refine cnd h (fun hb17 h => ?_) fun hb17 h => ?_
  ·
   refine zw ?_
   refine ob' h fun e18 g19 h => ?_
   refine zw ?_
   refine ob' h fun r20 g21 h => ?_
   refine Y3n.gh (ns := []) rfl rfl rfl rfl rfl hb17 rfl (Y26 (cs := [_, _]) rfl rfl ((Zcs _ _).h _ g21) rfl rfl) ?_
   rintro _ _ ⟨_, ⟨rfl, rfl⟩, rfl⟩
   exact go
  refine OpsD.gs rfl rfl rfl rfl (.b rfl hb17) rfl rfl ?_
  refine OpsD.gs rfl rfl rfl rfl (.b rfl hb17) rfl rfl ?_
  refine OpsD.gs rfl rfl rfl rfl (.b rfl hb17) rfl rfl ?_
  refine OpsD.gs rfl rfl rfl rfl (.b rfl hb17) rfl rfl ?_
  refine OpsD.gs rfl rfl rfl rfl (.b rfl hb17) rfl rfl ?_
  refine OpsD.gs rfl rfl rfl rfl (.b rfl hb17) rfl rfl ?_
  refine OpsD.one ?_
  refine Y3n.gs rfl rfl rfl rfl (.b rfl hb17) rfl rfl ?_
  exact go
 intro x22 h
 replace h : Zct x16 x22 = some r := h
 unfold Zct at h
 refine AW.ret ?_
 rw [← Wj h]
 exact ⟨[cI x16, C.bool x22], _, Y21.refl _, (.cons (.tmp rfl) (.cons (.tmp rfl) .nil)), [], _, _, rfl, ⟨rfl, rfl⟩⟩

def Zcy (p0 : List Y94) (p1 : Y94) : Option (Int × Bool) := (Zcw p0 p1).bind fun r2 => some (r2.1, r2.2)
instance Zcz (p0 : List Y94) (p1 : Y94) : Sp Tryz.prog 253 [cM Y9j 3 p0, C.agg [cI p1.kind, cI p1.key, cI p1.id]] (Zcy p0 p1) (fun r => C.tup [cI r.1, C.bool r.2]) := sp Tryz.func253 rfl rfl fun r X h => by
 unfold Zcy at h
 refine zw ?_
 refine ox fun b1 => ?_
 refine zw ?_
 refine oc h fun r2 g3 h => ?_
 refine zw ?_
 refine AW.ret ?_
 rw [← Wj h]
 exact ⟨[cI r2.1, C.bool r2.2], _, Y21.refl _, (.cons (.tmp rfl) (.cons (.tmp rfl) .nil)), [], _, _, rfl, ⟨rfl, rfl⟩⟩

def Zd0 (p0 : List Y94) (p1 : Int) (p2 : Int) : Option Int := (Zcy p0 (Y94.mk p1 p2 0)).bind fun r1 => cond r1.2 ((getI p0 r1.1).bind fun e4 => some e4.id) (some 0)
instance Zd1 (p0 : List Y94) (p1 : Int) (p2 : Int) : Sp Tryz.prog 264 [cM Y9j 3 p0, cI p1, cI p2] (Zd0 p0 p1 p2) cI := sp Tryz.func264 rfl rfl fun r X h => by
 unfold Zd0 at h
 refine zw ?_
 refine Ops.v rfl (Y38 (ds := [cI p1, cI p2, cI 0]) Ybz Yc0 (Y42 rfl rfl) (.one rfl (One.val rfl) rfl rfl (.one rfl (One.val rfl) rfl rfl .nil)) rfl) ?_
 exact go

def Zd2 (p0 : Y92) (p1 : List Y94) (p2 : Int) (p3 : Int) : Option (Y8z × Bool) := (Zd0 p1 p2 p3).bind fun r3 => (Zc8 p0 r3).bind fun r5 => some (r5.1, r5.2)
instance Zd3 (p0 : Y92) (p1 : List Y94) (p2 : Int) (p3 : Int) : Sp Tryz.prog 222 [C.agg [cI p0.room, cM Y9b 9 p0.events, cM Y9b 9 p0.parked], cM Y9j 3 p1, cI p2, cI p3] (Zd2 p0 p1 p2 p3) (fun r => C.tup [C.agg [cI r.1.id, cI r.1.room, cI r.1.author, cI r.1.kind, cI r.1.key, cI r.1.n, C.str r.1.text, cM kI64 1 r.1.prev, cI r.1.time], C.bool r.2]) := sp Tryz.func222 rfl rfl fun r X h => by
 unfold Zd2 at h
 refine zw ?_
 refine ox fun b1 => ?_
 refine Ops.h (ns := []) rfl rfl (Y1p (cs := [cI 0, cI 0, cI 0, cI 0, cI 0, cI 0, C.str ByteArray.empty, cV s0, cI 0]) Yac (Y42 rfl rfl) rfl) ?_
 rintro _ _ ⟨b2, rfl, rfl⟩
 refine zw ?_
 refine rD [0,0] [0] [8] [1,4,8,12,18,22,24,28,35,36] ?_
 refine zw ?_
 refine dc h fun r3 g4 h => ?_
 refine zw ?_
 refine dc h fun r5 g6 h => ?_
 refine zw ?_
 refine OpsD.late (ns := [0]) rfl rfl rfl (Y1u (gs := [cI r5.1.id, cI r5.1.room, cI r5.1.author, cI r5.1.kind, cI r5.1.key, cI r5.1.n, C.str r5.1.text, cM kI64 1 r5.1.prev, cI r5.1.time]) Yat.h rfl rfl rfl rfl rfl) ?_
 rintro _ _ ⟨rfl, rfl⟩
 refine zw ?_
 refine AW.ret ?_
 rw [← Wj h]
 exact ⟨[C.agg [cI r5.1.id, cI r5.1.room, cI r5.1.author, cI r5.1.kind, cI r5.1.key, cI r5.1.n, C.str r5.1.text, cM kI64 1 r5.1.prev, cI r5.1.time], C.bool r5.2], _, Y21.refl _, (.cons (.cell (p := 0) rfl rfl Yat.h rfl) (.cons (.tmp rfl) .nil)), [], _, _, rfl, ⟨rfl, rfl⟩⟩

def Zd4 (p0 : Y92) (p1 : List Y94) (p2 : Int) : Option Int := (Zd2 p0 p1 2 p2).bind fun r2 => some r2.1.n
instance Zd5 (p0 : Y92) (p1 : List Y94) (p2 : Int) : Sp Tryz.prog 163 [C.agg [cI p0.room, cM Y9b 9 p0.events, cM Y9b 9 p0.parked], cM Y9j 3 p1, cI p2] (Zd4 p0 p1 p2) cI := sp Tryz.func163 rfl rfl fun r X h => by
 unfold Zd4 at h
 refine zw ?_
 refine ox fun b1 => ?_
 refine zw ?_
 refine oc h fun r2 g3 h => ?_
 refine zw ?_
 refine Ops.h (ns := []) rfl rfl (Y1p (cs := [cI 0, cI 0, cI 0, cI 0, cI 0, cI 0, C.str ByteArray.empty, cV s0, cI 0]) Yac (Y42 rfl rfl) rfl) ?_
 rintro _ _ ⟨b4, rfl, rfl⟩
 refine Ops.hd (ns := [0]) rfl rfl (Y1u (gs := [cI r2.1.id, cI r2.1.room, cI r2.1.author, cI r2.1.kind, cI r2.1.key, cI r2.1.n, C.str r2.1.text, cM kI64 1 r2.1.prev, cI r2.1.time]) Yat.h rfl rfl rfl rfl rfl) ?_
 exact go

def Zd6 (x10 : Bool) : Option Int := cond x10 (some 100) (some 0)
def Zd7 (p0 : Y92) (p1 : List Y94) (p2 : Int) : Option Int := (Zd2 p0 p1 3 p2).bind fun r2 => cond r2.2 (some r2.1.n) ((Zd2 p0 p1 1 0).bind fun r6 => cond r6.2 (Zd6 (r6.1.author == p2)) (Zd6 false))
instance Zd8 (p0 : Y92) (p1 : List Y94) (p2 : Int) : Sp Tryz.prog 248 [C.agg [cI p0.room, cM Y9b 9 p0.events, cM Y9b 9 p0.parked], cM Y9j 3 p1, cI p2] (Zd7 p0 p1 p2) cI := sp Tryz.func248 rfl rfl fun r X h => by
 unfold Zd7 at h
 refine zw ?_
 refine ox fun b1 => ?_
 refine zw ?_
 refine oc h fun r2 g3 h => ?_
 refine zw ?_
 refine Ops.h (ns := []) rfl rfl (Y1p (cs := [cI 0, cI 0, cI 0, cI 0, cI 0, cI 0, C.str ByteArray.empty, cV s0, cI 0]) Yac (Y42 rfl rfl) rfl) ?_
 rintro _ _ ⟨b4, rfl, rfl⟩
 refine Ops.hd (ns := [0]) rfl rfl (Y1u (gs := [cI r2.1.id, cI r2.1.room, cI r2.1.author, cI r2.1.kind, cI r2.1.key, cI r2.1.n, C.str r2.1.text, cM kI64 1 r2.1.prev, cI r2.1.time]) Yat.h rfl rfl rfl rfl rfl) ?_
 refine zw ?_
 refine cnd h (fun hb5 h => go) fun hb5 h => ?_
 refine AW.cf hb5 rfl ?_
 refine zw ?_
 refine oc h fun r6 g7 h => ?_
 refine zw ?_
 refine Ops.h (ns := []) rfl rfl (Y1p (cs := [cI 0, cI 0, cI 0, cI 0, cI 0, cI 0, C.str ByteArray.empty, cV s0, cI 0]) Yac (Y42 rfl rfl) rfl) ?_
 rintro _ _ ⟨b8, rfl, rfl⟩
 refine Ops.hd (ns := [0]) rfl rfl (Y1u (gs := [cI r6.1.id, cI r6.1.room, cI r6.1.author, cI r6.1.kind, cI r6.1.key, cI r6.1.n, C.str r6.1.text, cM kI64 1 r6.1.prev, cI r6.1.time]) Yat.h rfl rfl rfl rfl rfl) ?_
 exact go

def Zd9 (p0 : Bool) : Option Int := cond p0 (some 11) (some 0)
instance Zda (p0 : Bool) : Sp Tryz.prog 251 [C.bool p0] (Zd9 p0) cI := sp Tryz.func251 rfl rfl fun r X h => go

def Zdb (x23 : Int) : Option Int := some x23
def Zdc (p0 : Y92) (p1 : List Y94) (p2 : Y8z) (p3 : Int) (x4 : Bool) : Option Int := cond (p2.n == 1) ((Zd2 p0 p1 5 0).bind fun r6 => (Zd2 p0 p1 1 0).bind fun r9 => cond (p3 == 3) ((Zd9 true).bind fun r13 => Zdb r13) (cond x4 ((Zd9 false).bind fun r16 => Zdb r16) (cond (r6.1.n != 1) ((Zd9 (r9.1.author != p2.author)).bind fun r19 => Zdb r19) ((Zd9 false).bind fun r21 => Zdb r21)))) (cond (p2.n == 2) ((Zd9 (!x4)).bind fun r25 => some r25) (some 11))
def Zdd (p0 : Y92) (p1 : List Y94) (p2 : Y8z) (p3 : Int) : Option Int := cond (p3 == 1) (Zdc p0 p1 p2 p3 true) (Zdc p0 p1 p2 p3 (p3 == 4))
instance Zde (p0 : Y92) (p1 : List Y94) (p2 : Y8z) (p3 : Int) : Sp Tryz.prog 249 [C.agg [cI p0.room, cM Y9b 9 p0.events, cM Y9b 9 p0.parked], cM Y9j 3 p1, C.agg [cI p2.id, cI p2.room, cI p2.author, cI p2.kind, cI p2.key, cI p2.n, C.str p2.text, cM kI64 1 p2.prev, cI p2.time], cI p3] (Zdd p0 p1 p2 p3) cI := sp Tryz.func249 rfl rfl fun r X h => by
 unfold Zdd at h
 refine zw ?_
 refine ox fun b1 => ?_
 refine ox fun b2 => ?_
 refine Ops.v rfl (Yr rfl rfl) ?_
 refine Ops.nil ?_
 refine AW.seq ?_
 refine AW.cut (τ := Bool) (fun x4 => ⟨[(1, cM Y9j 3 p1), (3, cI p3), (4, pt b1), (6, pt b2), (9, C.bool x4)], [oB b1 139 [cI p0.room, cM Y9b 9 p0.events, cM Y9b 9 p0.parked], oB b2 136 [cI p2.id, cI p2.room, cI p2.author, cI p2.kind, cI p2.key, cI p2.n, C.str p2.text, cM kI64 1 p2.prev, cI p2.time]]⟩) (fun x4 => Zdc p0 p1 p2 p3 x4 = some r) go fun x4 h => ?_
 replace h : Zdc p0 p1 p2 p3 x4 = some r := h
 unfold Zdc at h
 refine zw ?_
 refine cnd h (fun hb5 h => ?_) fun hb5 h => ?_
 ·
  refine AW.ct hb5 rfl ?_
  refine zw ?_
  refine oc h fun r6 g7 h => ?_
  refine zw ?_
  refine Ops.h (ns := []) rfl rfl (Y1p (cs := [cI 0, cI 0, cI 0, cI 0, cI 0, cI 0, C.str ByteArray.empty, cV s0, cI 0]) Yac (Y42 rfl rfl) rfl) ?_
  rintro _ _ ⟨b8, rfl, rfl⟩
  refine Ops.hd (ns := [0]) rfl rfl (Y1u (gs := [cI r6.1.id, cI r6.1.room, cI r6.1.author, cI r6.1.kind, cI r6.1.key, cI r6.1.n, C.str r6.1.text, cM kI64 1 r6.1.prev, cI r6.1.time]) Yat.h rfl rfl rfl rfl rfl) ?_
  refine zw ?_
  refine oc h fun r9 g10 h => ?_
  refine zw ?_
  refine Ops.h (ns := []) rfl rfl (Y1p (cs := [cI 0, cI 0, cI 0, cI 0, cI 0, cI 0, C.str ByteArray.empty, cV s0, cI 0]) Yac (Y42 rfl rfl) rfl) ?_
  rintro _ _ ⟨b11, rfl, rfl⟩
  refine Ops.hd (ns := [0]) rfl rfl (Y1u (gs := [cI r9.1.id, cI r9.1.room, cI r9.1.author, cI r9.1.kind, cI r9.1.key, cI r9.1.n, C.str r9.1.text, cM kI64 1 r9.1.prev, cI r9.1.time]) Yat.h rfl rfl rfl rfl rfl) ?_
  exact go
 exact go

def Zdf (x15 : Int) : Option Int := some x15
def Zdg (x25 : Int) : Option Int := some x25
def Zdh (x32 : Int) : Option Int := some x32
def Zdi (p2 : Y8z) (r3 : Int) (x8 : Bool) : Option Int := cond (p2.n == 4) (cond (r3 == 1) ((Zd9 true).bind fun r11 => Zdf r11) ((Zd9 (r3 == 3)).bind fun r13 => Zdf r13)) (cond (p2.n == 2) (cond x8 ((Zd9 true).bind fun r18 => Zdg r18) (cond (r3 == 0) ((Zd9 true).bind fun r21 => Zdg r21) ((Zd9 (r3 == 2)).bind fun r23 => Zdg r23))) (cond (p2.n == 3) (cond x8 ((Zd9 true).bind fun r28 => Zdh r28) ((Zd9 (r3 == 3)).bind fun r30 => Zdh r30)) (some 11)))
def Zdj (p0 : Y92) (p1 : List Y94) (p2 : Y8z) (p3 : Int) : Option Int := (Zd4 p0 p1 p2.key).bind fun r3 => (Zd7 p0 p1 p2.key).bind fun r5 => cond (decide (p3 < 50)) (Zdi p2 r3 true) (Zdi p2 r3 (decide (p3 ≤ r5)))
instance Zdk (p0 : Y92) (p1 : List Y94) (p2 : Y8z) (p3 : Int) : Sp Tryz.prog 250 [C.agg [cI p0.room, cM Y9b 9 p0.events, cM Y9b 9 p0.parked], cM Y9j 3 p1, C.agg [cI p2.id, cI p2.room, cI p2.author, cI p2.kind, cI p2.key, cI p2.n, C.str p2.text, cM kI64 1 p2.prev, cI p2.time], cI p3] (Zdj p0 p1 p2 p3) cI := sp Tryz.func250 rfl rfl fun r X h => by
 unfold Zdj at h
 refine zw ?_
 refine ox fun b1 => ?_
 refine ox fun b2 => ?_
 refine zw ?_
 refine rD [0,0] [0,3,5,8] [] [1,4,8,13,21,24,28,33,18,38,40,44] ?_
 refine zw ?_
 refine dc h fun r3 g4 h => ?_
 refine zw ?_
 refine dc h fun r5 g6 h => ?_
 refine OpsD.v rfl rfl (Yr rfl rfl) ?_
 refine OpsD.v rfl rfl (Yr rfl rfl) ?_
 refine OpsD.done ?_
 refine AW.seq ?_
 refine AW.cut (τ := Bool) (fun x8 => ⟨[(6, pt b2), (9, cI r3), (11, C.bool x8)], [oB b2 136 [cI p2.id, cI p2.room, cI p2.author, cI p2.kind, cI p2.key, cI p2.n, C.str p2.text, cM kI64 1 p2.prev, cI p2.time]]⟩) (fun x8 => Zdi p2 r3 x8 = some r) go fun x8 h => go

def Zdl (x38 : Int) : Option Int := some x38
def Zdm (x55 : Int) : Option Int := some x55
def Zdn (p0 : Y92) (p2 : Y8z) (r8 : Int) (x41 : Bool) : Option Int := cond x41 ((Zd9 (decide (r8 < 50))).bind fun r43 => some r43) (cond (p2.kind == 8) ((Zc8 p0 p2.key).bind fun r46 => cond r46.2 (cond (decide (r8 < 50)) ((Zd9 (r46.1.author != p2.author)).bind fun r51 => Zdm r51) ((Zd9 false).bind fun r53 => Zdm r53)) (some 6)) (some 0))
def Zdo (p0 : Y92) (p1 : List Y94) (p2 : Y8z) (r6 : Int) (r8 : Int) (x16 : Bool) : Option Int := cond x16 ((Zdd p0 p1 p2 r6).bind fun r18 => some r18) (cond (r6 != 1) (some 11) (cond (p2.kind == 2) ((Zdj p0 p1 p2 r8).bind fun r22 => some r22) (cond (p2.kind == 3) (cond (decide (r8 < 50)) ((Zd9 true).bind fun r26 => Zdl r26) (cond (decide (p2.n > r8)) ((Zd9 true).bind fun r29 => Zdl r29) (cond (p2.key != p2.author) ((Zd7 p0 p1 p2.key).bind fun r32 => (Zd9 (decide (r32 ≥ r8))).bind fun r34 => Zdl r34) ((Zd9 false).bind fun r36 => Zdl r36)))) (cond (p2.kind == 4) (Zdn p0 p2 r8 (p2.kind == 4)) (cond (p2.kind == 5) (Zdn p0 p2 r8 (p2.kind == 5)) (Zdn p0 p2 r8 (p2.kind == 6)))))))
def Zdp (p0 : Y92) (p1 : List Y94) (p2 : Y8z) (r3 : Y8z × Bool) (r6 : Int) (r8 : Int) (x11 : Bool) : Option Int := cond x11 (some 7) (cond (p2.kind == 1) (some 0) (cond r3.2 (cond (p2.kind == 2) (Zdo p0 p1 p2 r6 r8 (p2.key == p2.author)) (Zdo p0 p1 p2 r6 r8 false)) (some 10)))
def Zdq (p0 : Y92) (p1 : List Y94) (p2 : Y8z) : Option Int := (Zd2 p0 p1 1 0).bind fun r3 => (Zd4 p0 p1 p2.author).bind fun r6 => (Zd7 p0 p1 p2.author).bind fun r8 => cond (p2.kind == 1) (Zdp p0 p1 p2 r3 r6 r8 r3.2) (Zdp p0 p1 p2 r3 r6 r8 false)
instance Zdr (p0 : Y92) (p1 : List Y94) (p2 : Y8z) : Sp Tryz.prog 203 [C.agg [cI p0.room, cM Y9b 9 p0.events, cM Y9b 9 p0.parked], cM Y9j 3 p1, C.agg [cI p2.id, cI p2.room, cI p2.author, cI p2.kind, cI p2.key, cI p2.n, C.str p2.text, cM kI64 1 p2.prev, cI p2.time]] (Zdq p0 p1 p2) cI := sp Tryz.func203 rfl rfl fun r X h => by
 unfold Zdq at h
 refine zw ?_
 refine ox fun b1 => ?_
 refine ox fun b2 => ?_
 refine zw ?_
 refine oc h fun r3 g4 h => ?_
 refine zw ?_
 refine Ops.h (ns := []) rfl rfl (Y1p (cs := [cI 0, cI 0, cI 0, cI 0, cI 0, cI 0, C.str ByteArray.empty, cV s0, cI 0]) Yac (Y42 rfl rfl) rfl) ?_
 rintro _ _ ⟨b5, rfl, rfl⟩
 refine Ops.hd (ns := [0]) rfl rfl (Y1u (gs := [cI r3.1.id, cI r3.1.room, cI r3.1.author, cI r3.1.kind, cI r3.1.key, cI r3.1.n, C.str r3.1.text, cM kI64 1 r3.1.prev, cI r3.1.time]) Yat.h rfl rfl rfl rfl rfl) ?_
 refine zw ?_
 refine rD [0,0,0] [0,3,5,8] [] [1,4,8,13,21,24,28,33,18,38,40,44] ?_
 refine zw ?_
 refine dc h fun r6 g7 h => ?_
 refine zw ?_
 refine dc h fun r8 g9 h => ?_
 refine OpsD.v rfl rfl (Yr rfl rfl) ?_
 refine OpsD.v rfl rfl (Yr rfl rfl) ?_
 refine OpsD.done ?_
 refine AW.seq ?_
 refine AW.block ?_
 refine AW.seq ?_
 refine AW.cut (τ := Bool) (fun x11 => ⟨[(1, cM Y9j 3 p1), (3, pt b1), (5, pt b2), (8, C.bool r3.2), (9, cI r6), (10, cI r8), (29, C.bool x11)], [oB b1 139 [cI p0.room, cM Y9b 9 p0.events, cM Y9b 9 p0.parked], oB b2 136 [cI p2.id, cI p2.room, cI p2.author, cI p2.kind, cI p2.key, cI p2.n, C.str p2.text, cM kI64 1 p2.prev, cI p2.time]]⟩) (fun x11 => Zdp p0 p1 p2 r3 r6 r8 x11 = some r) go fun x11 h => ?_
 replace h : Zdp p0 p1 p2 r3 r6 r8 x11 = some r := h
 unfold Zdp at h
 refine cnd h (fun hb12 h => go) fun hb12 h => ?_
 refine AW.cf hb12 rfl ?_
 refine zw ?_
 refine cnd h (fun hb13 h => go) fun hb13 h => ?_
 refine AW.cf hb13 rfl ?_
 refine zw ?_
 refine cnd h (fun hb14 h => ?_) fun hb14 h => ?_
 ·
  refine AW.cond rfl (fun hn => absurd ((Y3u hb14).symm.trans hn) (by decide)) (fun _ => ?_)
  refine AW.seq ?_
  refine AW.cut (τ := Bool) (fun x16 => ⟨[(1, cM Y9j 3 p1), (3, pt b1), (5, pt b2), (9, cI r6), (10, cI r8), (43, C.bool x16)], [oB b1 139 [cI p0.room, cM Y9b 9 p0.events, cM Y9b 9 p0.parked], oB b2 136 [cI p2.id, cI p2.room, cI p2.author, cI p2.kind, cI p2.key, cI p2.n, C.str p2.text, cM kI64 1 p2.prev, cI p2.time]]⟩) (fun x16 => Zdo p0 p1 p2 r6 r8 x16 = some r) go fun x16 h => ?_
  replace h : Zdo p0 p1 p2 r6 r8 x16 = some r := h
  unfold Zdo at h
  refine cnd h (fun hb17 h => go) fun hb17 h => ?_
  refine AW.cf hb17 rfl ?_
  refine zw ?_
  refine cnd h (fun hb20 h => go) fun hb20 h => ?_
  refine AW.cf hb20 rfl ?_
  refine zw ?_
  refine cnd h (fun hb21 h => go) fun hb21 h => ?_
  refine AW.cf hb21 rfl ?_
  refine zw ?_
  refine cnd h (fun hb24 h => ?_) fun hb24 h => ?_
  ·
   refine AW.ct hb24 rfl ?_
   refine zw ?_
   refine cnd h (fun hb25 h => go) fun hb25 h => ?_
   refine zw ?_
   refine cnd h (fun hb28 h => go) fun hb28 h => ?_
   refine zw ?_
   refine cnd h (fun hb31 h => ?_) fun hb31 h => ?_
   ·
    refine zw ?_
    refine ob' h fun r32 g33 h => ?_
    refine Ops.ghd (ns := []) rfl rfl rfl rfl hb31 rfl (Y24 ((Zd8 _ _ _).h _ g33) rfl rfl) ?_
    exact go
   exact go
  refine AW.cf hb24 rfl ?_
  refine AW.seq ?_
  refine AW.cut (τ := Bool) (fun x41 => ⟨[(3, pt b1), (5, pt b2), (10, cI r8), (63, cI p2.kind), (98, C.bool x41)], [oB b1 139 [cI p0.room, cM Y9b 9 p0.events, cM Y9b 9 p0.parked], oB b2 136 [cI p2.id, cI p2.room, cI p2.author, cI p2.kind, cI p2.key, cI p2.n, C.str p2.text, cM kI64 1 p2.prev, cI p2.time]]⟩) (fun x41 => Zdn p0 p2 r8 x41 = some r) ?_ ?_
  ·
   exact go
  intro x41 h
  replace h : Zdn p0 p2 r8 x41 = some r := h
  unfold Zdn at h
  refine cnd h (fun hb42 h => go) fun hb42 h => ?_
  refine AW.cf hb42 rfl ?_
  refine zw ?_
  refine cnd h (fun hb45 h => ?_) fun hb45 h => ?_
  ·
   refine AW.ct hb45 rfl ?_
   refine zw ?_
   refine oc h fun r46 g47 h => ?_
   refine zw ?_
   refine Ops.h (ns := []) rfl rfl (Y1p (cs := [cI 0, cI 0, cI 0, cI 0, cI 0, cI 0, C.str ByteArray.empty, cV s0, cI 0]) Yac (Y42 rfl rfl) rfl) ?_
   rintro _ _ ⟨b48, rfl, rfl⟩
   refine Ops.hd (ns := [0]) rfl rfl (Y1u (gs := [cI r46.1.id, cI r46.1.room, cI r46.1.author, cI r46.1.kind, cI r46.1.key, cI r46.1.n, C.str r46.1.text, cM kI64 1 r46.1.prev, cI r46.1.time]) Yat.h rfl rfl rfl rfl rfl) ?_
   exact go
  exact go
 exact go

def Zds (p0 : List Y94) : Option (List Y94) := (chk (decide (p0.length * 24 ≤ 140737488355328))).bind fun _ => some p0
theorem Zdt (p0 : List Y94) (r : List Y94) (h : Zds p0 = some r) : Ok Tryz.prog 252 [cM Y9j 3 p0] [] (fun c qs => ∃ (v : Value), c = cV v ∧ qs = [oA v 106 Y9j 3 r]) := by
 refine ob' h fun u hc h => ?_
 obtain rfl := Wj h
 have hc := Wo (Y3t hc)
 refine Ok.of_body (rs := [.tmp 2]) Tryz.func252 rfl rfl rfl rfl rfl fun X => ?_
 refine zw ?_
 refine Ops.h (ns := []) rfl rfl (Y5m Ybn.h rfl rfl) ?_
 rintro _ _ ⟨b, hb, rfl, rfl⟩
 refine zw ?_
 refine tf' b (fun hq => ?_) (fun hq => ?_)
 ·
  refine AW.cond rfl (fun _ => ?_) (fun hn => absurd (hq.symm.trans hn) (by decide))
  refine zw ?_
  refine AW.ret ?_
  obtain rfl := hb hq
  exact ⟨[cV s0], _, Y21.nil 106 Y9j 3, .cons (.tmp rfl) .nil, [0], _, _, rfl, ⟨_, rfl, rfl⟩⟩
 refine AW.cond rfl (fun hn => absurd (hq.symm.trans hn) (by decide)) (fun _ => ?_)
 refine zw ?_
 refine Ops.h (ns := []) rfl rfl (Y39 (k := Y9j) (ys := ([] : List Y94)) Ybt .nil rfl rfl rfl) ?_
 rintro _ _ ⟨b1, rfl, rfl⟩
 refine zw ?_
 refine Ops.h (ns := [0]) rfl rfl (Y2r Ybt rfl rfl (by simpa using hc) (by simp; omega) rfl) ?_
 rintro _ _ ⟨v, rfl, rfl⟩
 refine zw ?_
 refine AW.ret ?_
 exact ⟨[cV v], _, Y21.refl _, .cons (.tmp rfl) .nil, [0], _, _, rfl, ⟨v, rfl, rfl⟩⟩
instance Zdt' (p0 : List Y94) : Sp Tryz.prog 252 [cM Y9j 3 p0] (Zds p0) (fun r => cM Y9j 3 r) := ⟨fun r h => Ok.freeze (Zdt p0 r h) (by rintro c qs ⟨v, rfl, rfl⟩; exact Frz.arr)⟩

def Zdu (p0 : List Y94) (p1 : Int) (p2 : Int) : Option (List Y94) := delI p0 p1 p2
theorem Zdv {w1 : Value} (p0 : List Y94) (p1 : Int) (p2 : Int) (r : List Y94) (h : Zdu p0 p1 p2 = some r) : Ok Tryz.prog 254 [cV w1, cI p1, cI p2] [oA w1 106 Y9j 3 p0] (fun c qs => ∃ (v : Value), c = cV v ∧ qs = [oA v 106 Y9j 3 r]) := by
 obtain ⟨a, b, rfl, rfl, hij, hj, rfl⟩ := Y7g h
 refine Ok.of_body (rs := [.tmp 6]) Tryz.func254 rfl rfl rfl rfl rfl fun X => ?_
 refine AW.learn (Sim.arr_cap (p := 0) rfl) fun hw => ?_
 obtain ⟨A, cap, rfl, hc, _, _⟩ := hw
 refine zw ?_
 refine Ops.v rfl (Y7h (p := 0) Ybn.h rfl rfl rfl rfl rfl hij hj rfl) ?_
 refine zw ?_
 refine tf' (((a : Nat) : Int) == ((b : Nat) : Int)) (fun hq => ?_) (fun hq => ?_)
 ·
  refine AW.cond rfl (fun _ => ?_) (fun hn => absurd (hq.symm.trans hn) (by decide))
  refine zw ?_
  refine AW.ret ?_
  obtain rfl : a = b := by have := eq_of_beq hq; omega
  rw [List.take_append_drop]
  exact ⟨[cV (.slice A p0.length cap)], _, Y21.refl _, .cons (.tmp rfl) .nil, [0], _, _, rfl, ⟨_, rfl, rfl⟩⟩
 refine AW.cond rfl (fun hn => absurd (hq.symm.trans hn) (by decide)) (fun _ => ?_)
 refine zw ?_
 refine rD [] [] [] [0,4,8,12,16,20,26,28] ?_
 refine zw ?_
 refine OpsD.v rfl rfl (Y7l Ybn.h rfl rfl (by omega) hc rfl) ?_
 refine zw ?_
 refine OpsD.v rfl rfl (Y7k Ybn.h rfl rfl hj hc rfl) ?_
 refine OpsD.one ?_
 refine Y3n.h (ns := [0]) rfl rfl rfl (Y7i (v := .slice A p0.length cap) Ybt rfl rfl hij hj rfl) ?_
 rintro _ _ ⟨rfl, rfl⟩
 refine zw ?_
 refine Ops.v rfl (Y2d Ybn.h rfl rfl) ?_
 refine zw ?_
 refine Ops.v rfl (Y7j (p := 0) (h := p0.length) (v := .slice A p0.length cap) (l := a + (p0.length - b)) Ybn.h rfl rfl rfl rfl (by omega) (by simp; omega) rfl) ?_
 refine Ops.h (ns := [0]) rfl rfl (Y7d (v := .slice A p0.length cap) (l := a + (p0.length - b)) (z := (Y94.mk 0 0 0)) Ybt Yc0 (Y42 rfl rfl) rfl (by simp <;> omega)) ?_
 rintro _ _ ⟨rfl, rfl⟩
 refine zw ?_
 refine AW.ret ?_
 exact ⟨[cV (Y73 (.slice A p0.length cap) (a + (p0.length - b)))], _, Y21.prefix (p := 0) (h := a + (p0.length - b)) rfl (by simp; omega), .cons (.tmp rfl) .nil, [0], _, _, rfl, ⟨_, rfl, by rw [Y7m hij hj]⟩⟩
def Zdw (p0 : List Y94) (p1 : Int) (p2 : List Y94) : Option (List Y94) := insI 24 p0 p1 p2
theorem Zdx {w1 w2 : Value} (p0 : List Y94) (p1 : Int) (p2 : List Y94) (r : List Y94) (h : Zdw p0 p1 p2 = some r) : Ok Tryz.prog 255 [cV w1, cI p1, cV w2] [oA w1 106 Y9j 3 p0, oA w2 106 Y9j 3 p2] (fun c qs => ∃ (v : Value), c = cV v ∧ qs = [oA v 106 Y9j 3 r]) := by
 obtain ⟨i, rfl, hi, hm, hb, rfl⟩ := Y54 h
 refine Ok.of_body (rs := [.tmp 6]) Tryz.func255 rfl rfl rfl rfl rfl fun X => ?_
 refine AW.learn (Sim.arr_cap (p := 0) rfl) fun hw => ?_
 obtain ⟨A, cap, rfl, hc, hmax, hA⟩ := hw
 have hmax0 := hmax
 simp only [maxLen] at hmax
 refine zw ?_
 refine Ops.v rfl (Y52 Ybn.h rfl rfl hi hc rfl) ?_
 refine zw ?_
 refine AW.cond rfl (fun hn => absurd ((beq_false_of_ne (by omega)).symm.trans hn) (by decide)) (fun _ => ?_)
 refine zw ?_
 refine tf' (((i : Nat) : Int) == (p0.length : Int)) (fun hq => ?_) (fun hq => ?_)
 ·
  refine AW.cond rfl (fun _ => ?_) (fun hn => absurd (hq.symm.trans hn) (by decide))
  refine zw ?_
  refine Ops.h (ns := [0, 0]) rfl rfl (Y2s Ybt rfl rfl hb (by omega) rfl) ?_
  rintro _ _ ⟨v, rfl, rfl⟩
  refine zw ?_
  refine AW.ret ?_
  obtain rfl : i = p0.length := by have := eq_of_beq hq; omega
  rw [List.take_of_length_le (Nat.le_refl _), List.drop_of_length_le (Nat.le_refl _), List.append_nil]
  exact ⟨[cV v], _, Y21.refl _, .cons (.tmp rfl) .nil, [0], _, _, rfl, ⟨v, rfl, rfl⟩⟩
 have hlt : i < p0.length := by have := ne_of_beq_false hq; omega
 obtain ⟨b, rfl⟩ := hA.resolve_left (fun e => by rw [e.1] at hlt; exact absurd hlt (Nat.not_lt_zero _))
 refine AW.ghost (Y21.raw (p := 0) rfl) ?_
 rw [← Y51 b 3 p0.length cap]
 refine AW.cond rfl (fun hn => absurd (hq.symm.trans hn) (by decide)) (fun _ => ?_)
 refine AW.skip ?_
 refine AW.seq ?_
 refine AW.seq ?_
 refine AW.region ?_
 refine Ops.v rfl (Yq rfl rfl) ?_
 refine Ops.v rfl (Yq rfl rfl) ?_
 refine Ops.v rfl (Yv (r := .int .i64 ((p0.length + p2.length : Nat) : Int)) rfl rfl (Y59 (by omega) (by omega)) rfl) ?_
 refine zw ?_
 refine Ops.v rfl (Y4s Ybn.h rfl rfl) ?_
 refine zw ?_
 refine tf' (decide (((p0.length + p2.length : Nat) : Int) > (cap : Int))) (fun hg => ?_) (fun hg => ?_)
 ·
  have hg1 := Wo hg
  refine AW.cond rfl (fun _ => ?_) (fun hn => absurd (hg.symm.trans hn) (by decide))
  refine zw ?_
  refine Ops.v rfl (Y4r Ybn.h rfl rfl (by omega) (by omega) rfl) ?_
  refine Ops.v rfl (Yq rfl rfl) ?_
  refine Ops.v rfl (Yq rfl rfl) ?_
  refine Ops.v rfl (Yv (r := .int .i64 ((p0.length + p2.length : Nat) : Int)) rfl rfl (Y59 (by omega) (by omega)) rfl) ?_
  refine Ops.v rfl (Yq rfl rfl) ?_
  refine Ops.v rfl (Yv (r := .int .i64 ((p0.length + p2.length - i : Nat) : Int)) rfl rfl (Y5a (by omega) (by omega)) rfl) ?_
  refine Ops.h (ns := [0]) rfl rfl (Y58 (N := p0.length + p2.length) (k := Y9j) (z0 := (Y94.mk 0 0 0)) Ybt un_3 Yc0 (Y42 rfl rfl) rfl rfl (xs := p0.take i) (by rw [List.drop_zero, List.take_append_of_le_length (by simp; omega), List.map_take]) (by simp; omega) (by omega) (by omega) (by omega) hb (by decide) rfl) ?_
  rintro _ _ ⟨b2, c2, hc2, hm2, rfl, rfl⟩
  refine zw ?_
  refine Ops.v rfl (Y57 (o' := i) (l' := p0.length + p2.length - i) (c' := c2 - i) Ybn.h rfl rfl (by omega) (by omega) (by omega) (by omega) (by omega) (by omega) rfl) ?_
  refine zw ?_
  refine Ops.h (ns := [0, 1]) rfl rfl (Y4w (xs := p2) Ybn.h rfl rfl (by rw [List.take_of_length_le (by omega)]) (by simp; omega) rfl) ?_
  rintro _ _ ⟨rfl, rfl⟩
  refine zw ?_
  refine rD [] [] [] [0,4,8,12,16,20,24,28,34] ?_
  refine OpsD.v rfl rfl (Yq rfl rfl) ?_
  refine OpsD.v rfl rfl (Yq rfl rfl) ?_
  refine OpsD.v rfl rfl (Yq rfl rfl) ?_
  refine OpsD.v rfl rfl (Yv (r := .int .i64 ((i + p2.length : Nat) : Int)) rfl rfl (Y59 (by omega) (by omega)) rfl) ?_
  refine OpsD.v rfl rfl (Y57 (o' := i + p2.length) (l' := p0.length - i) (c' := c2 - (i + p2.length)) Ybn.h rfl rfl (by omega) (by omega) (by omega) (by omega) (by omega) (by omega) rfl) ?_
  refine zw ?_
  refine OpsD.v rfl rfl (Y57 (o' := i) (l' := p0.length - i) (c' := cap - i) Ybn.h rfl rfl (by omega) (by omega) (by omega) (by omega) (by omega) (by omega) rfl) ?_
  refine OpsD.one ?_
  refine Y3n.h (ns := [0, 1]) rfl rfl rfl (Y53 (xs := p0.drop i) Ybn.h rfl rfl (by rw [Y5b, List.drop_append_of_le_length (by simp; omega), List.take_append_of_le_length (by simp), List.take_of_length_le (by simp), List.map_drop]) (by rw [Y5b]; simp) (by simp; omega) rfl) ?_
  rintro _ _ ⟨rfl, rfl⟩
  refine zw ?_
  refine AW.ret ?_
  obtain ⟨q1, q2, q3, q4⟩ := Y56 (xs := p0) (ys := p2) (z := (Y94.mk 0 0 0)) (m := p2.length) hlt hc2 rfl _ _ rfl rfl
  exact ⟨[cV _], _, Y21.arr2 (p := 0) (m := p0.length + p2.length) rfl q1 (by omega) q2 (by omega) (Y51 _ _ _ _), .cons (.tmp rfl) .nil, [0], _, _, rfl, ⟨_, rfl, rfl⟩⟩
 have hg1 := of_decide_eq_false hg
 refine AW.cond rfl (fun hn => absurd (hg.symm.trans hn) (by decide)) (fun _ => ?_)
 refine AW.skip ?_
 refine AW.seq ?_
 refine AW.region ?_
 refine Ops.v rfl (Yq rfl rfl) ?_
 refine Ops.v rfl (Yq rfl rfl) ?_
 refine Ops.v rfl (Yq rfl rfl) ?_
 refine Ops.v rfl (Yv (r := .int .i64 ((p0.length + p2.length : Nat) : Int)) rfl rfl (Y59 (by omega) (by omega)) rfl) ?_
 refine Ops.v rfl (Y4r Ybn.h rfl rfl (by omega) (by omega) rfl) ?_
 refine Ops.v rfl (Yr rfl rfl) ?_
 refine Ops.nil ?_
 refine AW.seq ?_
 refine AW.seq ?_
 refine AW.region ?_
 refine Ops.v rfl (Yq rfl rfl) ?_
 refine Ops.v rfl (Yq rfl rfl) ?_
 refine Ops.v rfl (Yq rfl rfl) ?_
 refine Ops.v rfl (Yq rfl rfl) ?_
 refine Ops.v rfl (Yv (r := .int .i64 ((i + p2.length : Nat) : Int)) rfl rfl (Y59 (by omega) (by omega)) rfl) ?_
 refine Ops.v rfl (Y57 (o' := i + p2.length) (l' := p0.length - i) (c' := cap - (i + p2.length)) Ybn.h rfl rfl (by omega) (by omega) (by omega) (by omega) (by omega) (by omega) rfl) ?_
 refine Ops.h (ns := [0, 0]) rfl rfl (Y4x (tR := 4) (k := Y9j) (zs := p2) (ys := p0.map some ++ List.replicate (cap - p0.length) none) Ybt Tryz.func296 rfl rfl (by kernel_rfl) (by kernel_rfl) rfl rfl (by intro e; rw [e] at hm; exact absurd hm (by decide)) (by intro e; have := congrArg List.length e; simp at this; omega) rfl) ?_
 rintro _ _ ⟨rfl, rfl⟩
 refine zw ?_
 refine AW.cond rfl (fun _ => ?_) (fun hn => absurd hn (by decide))
 refine zw ?_
 refine rD [] [] [] [0,4,8,12,16,20,24,28,34] ?_
 refine OpsD.v rfl rfl (Yq rfl rfl) ?_
 refine OpsD.v rfl rfl (Yq rfl rfl) ?_
 refine OpsD.v rfl rfl (Yq rfl rfl) ?_
 refine OpsD.v rfl rfl (Yv (r := .int .i64 ((i + p2.length : Nat) : Int)) rfl rfl (Y59 (by omega) (by omega)) rfl) ?_
 refine OpsD.v rfl rfl (Y57 (o' := i + p2.length) (l' := p0.length - i) (c' := cap - (i + p2.length)) Ybn.h rfl rfl (by omega) (by omega) (by omega) (by omega) (by omega) (by omega) rfl) ?_
 refine zw ?_
 refine OpsD.v rfl rfl (Y57 (o' := i) (l' := p0.length + p2.length - i) (c' := cap - i) Ybn.h rfl rfl (by omega) (by omega) (by omega) (by omega) (by omega) (by omega) rfl) ?_
 refine OpsD.one ?_
 refine Y3n.h (ns := [0]) rfl rfl rfl (Y4v (xs := p0.drop i) Ybn.h rfl rfl (by rw [Y5c (by omega), List.drop_append_of_le_length (by simp; omega), List.take_append_of_le_length (by simp), List.take_of_length_le (by simp), List.map_drop]) (by rw [Y5c (by omega)]; simp) (by simp; omega) rfl) ?_
 rintro _ _ ⟨rfl, rfl⟩
 refine zw ?_
 refine Ops.v rfl (Y57 (o' := i) (l' := p0.length + p2.length - i) (c' := cap - i) Ybn.h rfl rfl (by omega) (by omega) (by omega) (by omega) (by omega) (by omega) rfl) ?_
 refine zw ?_
 refine Ops.h (ns := [0, 0]) rfl rfl (Y4w (xs := p2) Ybn.h rfl rfl (by rw [List.take_of_length_le (by omega)]) (by simp; omega) rfl) ?_
 rintro _ _ ⟨rfl, rfl⟩
 refine zw ?_
 refine AW.ret ?_
 obtain ⟨q1, q2, q3, q4⟩ := Y55 (xs := p0) (ys := p2) (m := p2.length) (c := cap) hlt (by omega) rfl _ _ rfl rfl
 exact ⟨[cV _], _, Y21.arr2 (p := 0) (m := p0.length + p2.length) (c := cap) rfl q1 (by omega) q2 hmax0 (Y51 _ _ _ _), .cons (.tmp rfl) .nil, [0], _, _, rfl, ⟨_, rfl, rfl⟩⟩
def Zdy (p1 : Y94) (r2 : List Y94) (r5 : Int × Bool) (x8 : Bool) : Option (List Y94) := cond x8 ((Zdu r2 r5.1 (IntKind.i64.wrap (r5.1 + 1))).bind fun r10 => some r10) (cond (p1.id == 0) (some r2) (cond r5.2 ((getI r2 r5.1).bind fun e15 => some (List.set r2 (Int.toNat r5.1) p1)) ((Zdw r2 r5.1 [p1]).bind fun r18 => some r18)))
def Zdz (p0 : List Y94) (p1 : Y94) : Option (List Y94) := (Zds p0).bind fun r2 => (Zcy r2 p1).bind fun r5 => cond (p1.id == 0) (Zdy p1 r2 r5 r5.2) (Zdy p1 r2 r5 false)
theorem Ze0 (p0 : List Y94) (p1 : Y94) (r : List Y94) (h : Zdz p0 p1 = some r) : Ok Tryz.prog 204 [cM Y9j 3 p0, C.agg [cI p1.kind, cI p1.key, cI p1.id]] [] (fun c qs => ∃ (v21 : Value), c = cV v21 ∧ qs = [oA v21 106 Y9j 3 r]) := by
 refine Ok.of_body (rs := [.tmp 4]) Tryz.func204 rfl rfl rfl rfl rfl fun X => ?_
 unfold Zdz at h
 refine zw ?_
 refine ox fun b1 => ?_
 refine zw ?_
 refine ob' h fun r2 g3 h => ?_
 refine Ops.h (ns := []) rfl rfl (Y23 (Zdt _ _ g3) rfl rfl) ?_
 rintro _ _ ⟨_, ⟨v4, rfl, rfl⟩, rfl⟩
 refine zw ?_
 refine ob' h fun r5 g6 h => ?_
 refine Ops.hd (ns := [0]) rfl rfl (Y24 (Ok.lendE ((Zcz r2 p1).h _ g6) (FrzT.cons (os := [_]) Frz.arr (fT (FrzT.nil))) (Y44.tup (Y45.cons (Y44.val _) (Y45.cons (Y44.val _) (Y45.nil))))) rfl rfl) ?_
 refine Ops.v rfl (Yq rfl rfl) ?_
 refine Ops.v rfl (Y13 rfl rfl rfl) ?_
 refine Ops.v rfl (Y13 rfl rfl rfl) ?_
 refine Ops.v rfl (Yr rfl rfl) ?_
 refine Ops.v rfl (Yr rfl rfl) ?_
 refine Ops.nil ?_
 refine AW.seq ?_
 refine AW.block ?_
 refine AW.seq ?_
 refine AW.cut (τ := Bool) (fun x8 => ⟨[(3, pt b1), (5, cV v4), (6, cI r5.1), (7, C.bool r5.2), (16, C.bool x8)], [oB b1 106 [cI p1.kind, cI p1.key, cI p1.id], oA v4 106 Y9j 3 r2]⟩) (fun x8 => Zdy p1 r2 r5 x8 = some r) go fun x8 h => ?_
 replace h : Zdy p1 r2 r5 x8 = some r := h
 unfold Zdy at h
 refine cnd h (fun hb9 h => ?_) fun hb9 h => ?_
 ·
  refine AW.ct hb9 rfl ?_
  refine zw ?_
  refine ob' h fun r10 g11 h => ?_
  refine Ops.h (ns := [1]) rfl rfl (Y23 (Zdv r2 r5.1 (IntKind.i64.wrap (r5.1 + 1)) _ g11) rfl rfl) ?_
  rintro _ _ ⟨_, ⟨v12, rfl, rfl⟩, rfl⟩
  refine zw ?_
  refine AW.ret ?_
  rw [← Wj h]
  exact ⟨[cV v12], _, Y21.refl _, (.cons (.tmp rfl) .nil), [0], _, _, rfl, ⟨v12, rfl, rfl⟩⟩
 refine AW.cf hb9 rfl ?_
 refine zw ?_
 refine cnd h (fun hb13 h => ?_) fun hb13 h => ?_
 ·
  refine AW.ct hb13 rfl ?_
  refine zw ?_
  refine AW.ret ?_
  rw [← Wj h]
  exact ⟨[cV v4], _, Y21.refl _, (.cons (.tmp rfl) .nil), [1], _, _, rfl, ⟨v4, rfl, rfl⟩⟩
 refine AW.cf hb13 rfl ?_
 refine zw ?_
 refine cnd h (fun hb14 h => ?_) fun hb14 h => ?_
 ·
  refine AW.ct hb14 rfl ?_
  refine zw ?_
  refine ob' h fun e15 g16 h => ?_
  refine Ops.v rfl (Y2x (p := 1) Ybn.h rfl rfl rfl g16 rfl) ?_
  refine Ops.hd (ns := [1]) rfl rfl (Y34 (e' := p1) Ybu.h rfl rfl rfl (Y29 g16).2.2 rfl rfl) ?_
  refine zw ?_
  refine AW.ret ?_
  rw [← Wj h]
  exact ⟨[cV v4], _, Y21.refl _, (.cons (.tmp rfl) .nil), [0], _, _, rfl, ⟨v4, rfl, rfl⟩⟩
 refine AW.cf hb14 rfl ?_
 refine zw ?_
 refine Ops.h (ns := []) rfl rfl (Y39 (k := Y9j) (ys := [p1]) Ybt (.agg rfl rfl .nil) rfl rfl rfl) ?_
 rintro _ _ ⟨b17, rfl, rfl⟩
 refine ob' h fun r18 g19 h => ?_
 refine Ops.h (ns := [2, 0]) rfl rfl (Y23 (Zdx r2 r5.1 [p1] _ g19) rfl rfl) ?_
 rintro _ _ ⟨_, ⟨v20, rfl, rfl⟩, rfl⟩
 refine zw ?_
 refine AW.ret ?_
 rw [← Wj h]
 exact ⟨[cV v20], _, Y21.refl _, (.cons (.tmp rfl) .nil), [0], _, _, rfl, ⟨v20, rfl, rfl⟩⟩
instance Ze0' (p0 : List Y94) (p1 : Y94) : Sp Tryz.prog 204 [cM Y9j 3 p0, C.agg [cI p1.kind, cI p1.key, cI p1.id]] (Zdz p0 p1) (fun r => cM Y9j 3 r) := ⟨fun r h => Ok.freeze (Ze0 p0 p1 r h) (by rintro c qs ⟨v21, rfl, rfl⟩; exact Frz.arr)⟩

def Ze1 (p0 : List Y94) (q0 : Y94) : Option Bool := (Zci p0 q0).bind fun r1 => some (!r1)
theorem Ze2 {b00 : Nat} (p0 : List Y94) (q0 : Y94) (r : Bool) (h : Ze1 p0 q0 = some r) : Ok Tryz.prog 196 [cM Y9j 3 p0, pt b00] [oB b00 106 [cI q0.kind, cI q0.key, cI q0.id]] (fun c qs => c = C.bool r ∧ qs = [oB b00 106 [cI q0.kind, cI q0.key, cI q0.id]]) := by
 refine Ok.of_body (rs := [.tmp 3]) Tryz.func196 rfl rfl rfl rfl rfl fun X => ?_
 unfold Ze1 at h
 refine zw ?_
 refine oc h fun r1 g2 h => ?_
 refine zw ?_
 refine AW.ret ?_
 rw [← Wj h]
 exact ⟨[C.bool (!r1)], _, Y21.refl _, (.cons (.tmp rfl) .nil), [0], _, _, rfl, ⟨rfl, rfl⟩⟩

def Ze3 : Option Int := some (-1)
def Ze4 (p0 : List (List Y94)) (p1_0 : Y94) (x7 : Int) : Option (Int ⊕ (Int ⊕ Unit)) := cond (decide (x7 < (p0.length : Int))) ((getI p0 x7).bind fun e9 => (Ze1 e9 p1_0).bind fun r11 => cond r11 (some (.inr (.inl x7))) (some (.inl (IntKind.i64.wrap (x7 + 1))))) (some (.inr (.inr ())))
def Ze5 (p0 : List (List Y94)) (p1_0 : Y94) : Option Int := (iter (Ze4 p0 p1_0) big 0).bind (fun z15 => match z15 with | .inl y14 => some y14 | .inr () => Ze3)
theorem Ze6 {b00 : Nat} (p0 : List (List Y94)) (p1_0 : Y94) (r : Int) (h : Ze5 p0 p1_0 = some r) : Ok Tryz.prog 243 [cM Y9k 1 p0, C.clo 196 [pt b00]] [oB b00 106 [cI p1_0.kind, cI p1_0.key, cI p1_0.id]] (fun c qs => c = cI r ∧ qs = [oB b00 106 [cI p1_0.kind, cI p1_0.key, cI p1_0.id]]) := by
 refine Ok.of_body (rs := [.tmp 4]) Tryz.func243 rfl rfl rfl rfl rfl fun X => ?_
 unfold Ze5 at h
 refine AW.seq ?_
 refine AW.region ?_
 refine Ops.v rfl (Yr rfl rfl) ?_
 refine Ops.nil ?_
 refine AW.seq ?_
 refine AW.cut (τ := Unit) (fun (_ : Unit) => ⟨[], [oB b00 106 [cI p1_0.kind, cI p1_0.key, cI p1_0.id]]⟩) (fun (_ : Unit) => Ze3 = some r) ?_ ?_
 ·
  refine zw ?_
  refine AW.lp (v := ()) h (fun x7 (_ : Unit) => ⟨[(0, cM Y9k 1 p0), (1, C.clo 196 [pt b00]), (7, cI (p0.length : Int)), (8, cI x7)], [oB b00 106 [cI p1_0.kind, cI p1_0.key, cI p1_0.id]]⟩) (gb [0]) ?_
  rintro x7 _ y21 h
  refine zw ?_
  refine cnd h (fun hb8 h => ?_) fun hb8 h => ?_
  ·
   refine AW.ct hb8 rfl ?_
   refine zw ?_
   refine oi h fun e9 g10 h => ?_
   refine zw ?_
   refine ob' h fun r11 g12 h => ?_
   refine Ops.hd (ns := [0]) rfl rfl (Y6s (cs := [_]) (ds := [_]) rfl (Ze2 e9 p1_0 _ g12) rfl rfl) ?_
   refine zw ?_
   refine cnd h (fun hb13 h => ?_) fun hb13 h => ?_
   ·
    refine AW.ct hb13 rfl ?_
    refine zw ?_
    refine AW.ret ?_
    refine lx h fun h => ?_
    rw [← Wj h]
    exact ⟨[cI x7], _, Y21.refl _, (.cons (.tmp rfl) .nil), [0], _, _, rfl, ⟨rfl, rfl⟩⟩
   exact go
  exact go
 rintro ⟨⟩ h
 replace h : Ze3 = some r := h
 unfold Ze3 at h
 refine zw ?_
 refine AW.ret ?_
 rw [← Wj h]
 exact ⟨[cI (-1)], _, Y21.refl _, (.cons (.tmp rfl) .nil), [0], _, _, rfl, ⟨rfl, rfl⟩⟩

def Ze7 (p0 : List (List Y94)) (p1_0 : Y94) : Option Bool := (Ze5 p0 p1_0).bind fun r1 => some (decide (r1 ≥ 0))
theorem Ze8 {b00 : Nat} (p0 : List (List Y94)) (p1_0 : Y94) (r : Bool) (h : Ze7 p0 p1_0 = some r) : Ok Tryz.prog 195 [cM Y9k 1 p0, C.clo 196 [pt b00]] [oB b00 106 [cI p1_0.kind, cI p1_0.key, cI p1_0.id]] (fun c qs => c = C.bool r ∧ qs = [oB b00 106 [cI p1_0.kind, cI p1_0.key, cI p1_0.id]]) := by
 refine Ok.of_body (rs := [.tmp 4]) Tryz.func195 rfl rfl rfl rfl rfl fun X => ?_
 unfold Ze7 at h
 refine zw ?_
 refine ob' h fun r1 g2 h => ?_
 refine Ops.hd (ns := [0]) rfl rfl (Y24 (Ze6 p0 p1_0 _ g2) rfl rfl) ?_
 refine zw ?_
 refine AW.ret ?_
 rw [← Wj h]
 exact ⟨[C.bool (decide (r1 ≥ 0))], _, Y21.refl _, (.cons (.tmp rfl) .nil), [0], _, _, rfl, ⟨rfl, rfl⟩⟩

def Ze9 (p0 : Y8z) (p1 : Y8z) (q0 : Y99) : Option Int := (Zcl p0).bind fun r3 => (Zcl p1).bind fun r5 => cond (r3 == r5) ((Z9b (Option.getD (mget q0.depth p0.id) 0) (Option.getD (mget q0.depth p1.id) 0)).bind fun r11 => (Z9b p0.time p1.time).bind fun r13 => (Z9b p0.id p1.id).bind fun r15 => (Zcp [r11, r13, r15]).bind fun r18 => some r18) ((Zcl p0).bind fun r8 => cond r8 (some (-1)) (some 1))
instance Zea (p0 : Y8z) (p1 : Y8z) (q0 : Y99) : Sp Tryz.prog 199 [C.agg [cI p0.id, cI p0.room, cI p0.author, cI p0.kind, cI p0.key, cI p0.n, C.str p0.text, cM kI64 1 p0.prev, cI p0.time], C.agg [cI p1.id, cI p1.room, cI p1.author, cI p1.kind, cI p1.key, cI p1.n, C.str p1.text, cM kI64 1 p1.prev, cI p1.time], C.ip [C.ip [cI q0.graph.room, cM Y9b 9 q0.graph.events, cM Y9b 9 q0.graph.parked, C.imap .i64 Y9p q0.depth, C.imap .i64 Y9q q0.before, C.imap .i64 Y9q q0.after, C.imap .i64 Y9p q0.refused]]] (Ze9 p0 p1 q0) cI := sp Tryz.func199 rfl rfl fun r X h => by
 unfold Ze9 at h
 refine zw ?_
 refine ox fun b1 => ?_
 refine ox fun b2 => ?_
 refine zw ?_
 refine rD [0,0] [0,2] [] [1,9,6,14,16] ?_
 refine zw ?_
 refine dc h fun r3 g4 h => ?_
 refine zw ?_
 refine dc h fun r5 g6 h => ?_
 refine OpsD.v rfl rfl (Y11 un_4 rfl rfl rfl) ?_
 refine zw ?_
 refine cnd h (fun hb7 h => ?_) fun hb7 h => ?_
 ·
  refine AW.cond rfl (fun hn => absurd ((Y3u hb7).symm.trans hn) (by decide)) (fun _ => ?_)
  refine zw ?_
  refine rD [0,0] [0,3,5,6,7,10,12,13,16,18,21,23] [] [1,4,8,13,16,21,25,29,32,36,41,44,49,53,60,65,68,73,80,85,88,93,58,78,98,102,106,108] ?_
  refine zw ?_
  refine OpsD.v rfl rfl (Y8a (kc := Y9p) (z0 := 0) Ydh zv_2 (fun _ _ => rfl) rfl rfl rfl) ?_
  refine zw ?_
  refine OpsD.v rfl rfl (Y8a (kc := Y9p) (z0 := 0) Ydh zv_2 (fun _ _ => rfl) rfl rfl rfl) ?_
  refine zw ?_
  refine dc h fun r11 g12 h => ?_
  refine zw ?_
  refine dc h fun r13 g14 h => ?_
  refine zw ?_
  refine dc h fun r15 g16 h => ?_
  refine OpsD.one ?_
  refine Y3n.h (ns := []) rfl rfl rfl (Y39 (k := kI64) (ys := [r11, r13, r15]) Ycu (.one rfl (One.val rfl) rfl rfl (.one rfl (One.val rfl) rfl rfl (.one rfl (One.val rfl) rfl rfl .nil))) rfl rfl rfl) ?_
  rintro _ _ ⟨b17, rfl, rfl⟩
  refine zw ?_
  refine ob' h fun r18 g19 h => ?_
  refine Y3n.h (ns := [0]) rfl rfl rfl (Y24 (Ok.lendE ((Zcq [r11, r13, r15]).h _ g19) (FrzT.cons (os := [_]) Frz.arr (FrzT.nil)) (Y44.val _)) rfl rfl) ?_
  rintro _ _ ⟨rfl, rfl⟩
  exact go
 exact go

end Go.Proofs.YtbgichfjcnibpaaGreat
