/- Printed by gen.py: plain functions for Go functions, and that the walks keep to them. -/
import Derived.Test.YtomachnjepgpbaaGreatEQ6
set_option autoImplicit false
set_option linter.unusedVariables false
set_option linter.unusedSimpArgs false
set_option maxHeartbeats 8000000
set_option maxRecDepth 100000
namespace Go.Proofs.YtomachnjepgpbaaGreat
open Go Go.Abs
attribute [local irreducible] AW Ops OpsD Y3z VoK HoK GhF UsC Go.Abs.Fin PkK LenT LenL Y98 BldK FzK FzLK
def Zdn (l27 : List Int) (x28 : Int) : Option (List Int) := (chk (decide ((0 : Int) ≤ x28 ∧ x28 ≤ (l27.length : Int)))).bind fun u30 => (chk (decide ((Int.toNat x28) ≤ l27.length))).bind fun u32 => (chk (decide ((0 : Int) ≤ x28 ∧ x28 ≤ ((List.take (Int.toNat x28) l27 ++ List.replicate (l27.length - (Int.toNat x28)) 0).length : Int)))).bind fun u34 => some (List.take (Int.toNat x28) (List.take (Int.toNat x28) l27 ++ List.replicate (l27.length - (Int.toNat x28)) 0))
def Zdo (x16 : Int) (l25 : List Int) (x26 : Int) : Option ((List Int × Int × Int) ⊕ ((List Int × Int))) := some (.inl (l25, x26, (IntKind.i64.wrap (x16 + 1))))
def Zdp (p1_0 : Y9j) (l14 : List Int) (x15 : Int) (x16 : Int) : Option ((List Int × Int × Int) ⊕ ((List Int × Int))) := cond (decide (x16 < (l14.length : Int))) ((getI l14 x16).bind fun e18 => (Zdh e18 p1_0).bind fun r20 => cond r20 (Zdo x16 l14 x15) ((getI l14 x15).bind fun e23 => Zdo x16 (List.set l14 (Int.toNat x15) e18) (IntKind.i64.wrap (x15 + 1)))) (some (.inr (l14, x15)))
def Zdq (p0 : List Int) (p1_0 : Y9j) : Option (List Int) := (Zdl p0 p1_0).bind fun r1 => cond (r1 == (-1)) (some p0) ((iter (fun z36 => Zdp p1_0 z36.1 z36.2.1 z36.2.2) big (p0, r1, (IntKind.i64.wrap (r1 + 1)))).bind fun (y37, y38) => Zdn y37 y38)
theorem Zdr {w00 : Value} {b01 : Nat} (p0 : List Int) (p1_0 : Y9j) (r : List Int) (h : Zdq p0 p1_0 = some r) : Ok Tryz.prog 230 [cV w00, C.clo 231 [pt b01]] [oA w00 2 kI64 1 p0, oB b01 42 [cI p1_0.id, cI p1_0.room, cI p1_0.author, cI p1_0.kind, cI p1_0.key, cI p1_0.n, C.str p1_0.text, cM kI64 1 p1_0.prev, cI p1_0.time]] (fun c qs => ∃ (v35 : Value), c = cV v35 ∧ qs = [oA v35 2 kI64 1 r, oB b01 42 [cI p1_0.id, cI p1_0.room, cI p1_0.author, cI p1_0.kind, cI p1_0.key, cI p1_0.n, C.str p1_0.text, cM kI64 1 p1_0.prev, cI p1_0.time]]) := by
 refine Ok.of_body (rs := [.tmp 4]) Tryz.func230 rfl rfl rfl rfl rfl fun X => ?_
 unfold Zdq at h
 refine zw ?_
 refine ob' h fun r1 g2 h => ?_
 refine Ops.hd (ns := [0, 0]) rfl rfl (Y28 ((Zdm p0 p1_0).h _ _ _ g2) rfl rfl) ?_
 refine zw ?_
 refine cnd h (fun hb3 h => ?_) fun hb3 h => ?_
 ·
  refine AW.ct hb3 rfl ?_
  refine zw ?_
  refine AW.ret ?_
  rw [← Wj h]
  exact finI ⟨[cV w00], _, Y25.refl _, (.cons (.tmp rfl) .nil), [0, 0], _, _, rfl, ⟨w00, rfl, rfl⟩⟩
 refine AW.cf hb3 rfl ?_
 refine AW.skip ?_
 refine AW.seq ?_
 refine AW.cut (τ := List Int × Int) (fun (l27, x28) => ⟨[(0, cV w00), (5, cI x28)], [oA w00 2 kI64 1 l27, oB b01 42 [cI p1_0.id, cI p1_0.room, cI p1_0.author, cI p1_0.kind, cI p1_0.key, cI p1_0.n, C.str p1_0.text, cM kI64 1 p1_0.prev, cI p1_0.time]]⟩) (fun (l27, x28) => Zdn l27 x28 = some r) ?_ ?_
 ·
  refine zw ?_
  refine ob' h fun o39 g40 q41 => ?_
  refine AW.loop (τ := List Int × Int × Int) (x := (p0, r1, (IntKind.i64.wrap (r1 + 1)))) (fun (l14, x15, x16) => ⟨[(0, cV w00), (1, C.clo 231 [pt b01]), (5, cI x15), (6, cI x16)], [oA w00 2 kI64 1 l14, oB b01 42 [cI p1_0.id, cI p1_0.room, cI p1_0.author, cI p1_0.kind, cI p1_0.key, cI p1_0.n, C.str p1_0.text, cM kI64 1 p1_0.prev, cI p1_0.time]]⟩) (fun k (l14, x15, x16) => iter (fun z36 => Zdp p1_0 z36.1 z36.2.1 z36.2.2) k (l14, x15, x16) = some o39) g40 (Y25.both (ns := [0, 0]) rfl rfl) ?_
  rintro k ⟨l14, x15, x16⟩ i43
  refine Y4f (show iter (fun z36 => Zdp p1_0 z36.1 z36.2.1 z36.2.2) k (l14, x15, x16) = some o39 from i43) fun k42 y44 hlt_k42 h h45 => ?_
  replace h : Zdp p1_0 l14 x15 x16 = some y44 := h
  unfold Zdp at h
  refine zw ?_
  refine cnd h (fun hb17 h => ?_) fun hb17 h => ?_
  ·
   refine AW.ct hb17 rfl ?_
   refine AW.skip ?_
   refine AW.seq ?_
   refine AW.cut (τ := List Int × Int) (fun (l25, x26) => ⟨[(0, cV w00), (1, C.clo 231 [pt b01]), (5, cI x26), (6, cI x16)], [oA w00 2 kI64 1 l25, oB b01 42 [cI p1_0.id, cI p1_0.room, cI p1_0.author, cI p1_0.kind, cI p1_0.key, cI p1_0.n, C.str p1_0.text, cM kI64 1 p1_0.prev, cI p1_0.time]]⟩) (fun (l25, x26) => Zdo x16 l25 x26 = some y44) ?_ ?_
   ·
    refine zw ?_
    refine oi h fun e18 g19 h => ?_
    refine zw ?_
    refine ob' h fun r20 g21 h => ?_
    refine Ops.hd (ns := [1]) rfl rfl (Y6x (cs := [_]) (ds := [_]) rfl ((Zdi e18 p1_0).h _ _ g21) rfl rfl) ?_
    refine zw ?_
    refine cnd h (fun hb22 h => ?_) fun hb22 h => ?_
    ·
     refine AW.cond rfl (fun hn => absurd ((Y46 hb22).symm.trans hn) (by decide)) (fun _ => ?_)
     refine zw ?_
     exact ⟨(l14, x15), h, Y25.both (ns := [1, 0]) rfl rfl⟩
    refine AW.cond rfl (fun _ => ?_) (fun hn => absurd ((Y47 hb22).symm.trans hn) (by decide))
    refine zw ?_
    refine ob' h fun e23 g24 h => ?_
    refine zw ?_
    refine Ops.hd (ns := [1]) rfl rfl (Y3f (e' := e18) ld_2.h rfl rfl (One.val rfl) (Y2f g24).2.2 rfl rfl) ?_
    refine zw ?_
    exact ⟨((List.set l14 (Int.toNat x15) e18), (IntKind.i64.wrap (x15 + 1))), h, Y25.both (ns := [0, 0]) rfl rfl⟩
   rintro ⟨l25, x26⟩ h
   replace h : Zdo x16 l25 x26 = some y44 := h
   unfold Zdo at h
   refine zw ?_
   obtain rfl := Wj h
   exact ⟨k42, (l25, x26, (IntKind.i64.wrap (x16 + 1))), hlt_k42, h45, Y25.both (ns := [0, 0]) rfl rfl⟩
  refine AW.cf hb17 rfl ?_
  refine AW.exit ?_
  obtain rfl := Wj h
  obtain rfl := Wj h45
  replace h := q41
  exact ⟨(l14, x15), h, Y25.both (ns := [0, 0]) rfl rfl⟩
 rintro ⟨l27, x28⟩ h
 replace h : Zdn l27 x28 = some r := h
 unfold Zdn at h
 refine zw ?_
 refine ob' h fun u30 c29 h => ?_
 refine Ops.v rfl (Y79 (p := 0) (l := (Int.toNat x28)) Yaj.h rfl rfl rfl (Wo (Y45 c29)) rfl rfl) ?_
 refine ob' h fun u32 c31 h => ?_
 refine Ops.hd (ns := [0]) rfl rfl (Y7h (z := 0) Yai ze_2 (Y4g rfl rfl) rfl (Wo (Y45 c31))) ?_
 refine zw ?_
 refine ob' h fun u34 c33 h => ?_
 refine Ops.v rfl (Y7a (p := 0) (l := (Int.toNat x28)) Yaj.h rfl rfl rfl (Wo (Y45 c33)) rfl rfl) ?_
 refine zw ?_
 refine AW.ret ?_
 rw [← Wj h]
 exact finI ⟨[cV (takeV w00 (Int.toNat x28))], _, Y25.prefix (p := 0) (h := (Int.toNat x28)) rfl (Int.le_toNat_len c33), (.cons (.tmp rfl) .nil), [0, 0], _, _, rfl, ⟨(takeV w00 (Int.toNat x28)), rfl, rfl⟩⟩
instance Zds (p0 : List Int) (p1_0 : Y9j) : SpO Tryz.prog 230 (Zdq p0 p1_0) (.x fun (w00 : Value) => .x fun (b01 : Nat) => .d [cV w00, C.clo 231 [pt b01]] [oA w00 2 kI64 1 p0, oB b01 42 [cI p1_0.id, cI p1_0.room, cI p1_0.author, cI p1_0.kind, cI p1_0.key, cI p1_0.n, C.str p1_0.text, cM kI64 1 p1_0.prev, cI p1_0.time]] fun r => .x fun (v35 : Value) => .d (cV v35) [oA v35 2 kI64 1 r, oB b01 42 [cI p1_0.id, cI p1_0.room, cI p1_0.author, cI p1_0.kind, cI p1_0.key, cI p1_0.n, C.str p1_0.text, cM kI64 1 p1_0.prev, cI p1_0.time]]) := ⟨fun w00 b01 r h => Zdr p0 p1_0 r h⟩

def Zdt (l29 : List Int) : Option (List Int) := some l29
def Zdu (p0 : Y9n) (p1 : List Int) (l17 : List Int) (x18 : Int) : Option ((List Int × Int) ⊕ ((List Int))) := cond (decide (x18 < (p1.length : Int))) ((getI p1 x18).bind fun e20 => (Z9l p0.graph e20).bind fun r22 => (Zdq l17 r22.1).bind fun r25 => some (.inl (r25, (IntKind.i64.wrap (x18 + 1))))) (some (.inr l17))
def Zdv (p0 : Y9n) (p1 : List Int) : Option (List Int) := (Zc7 p1).bind fun r1 => (Zdf r1).bind fun r4 => (iter (fun z31 => Zdu p0 p1 z31.1 z31.2) big (r4, 0)).bind fun y32 => Zdt y32
instance Zdw (p0 : Y9n) (p1 : List Int) : SpO Tryz.prog 171 (Zdv p0 p1) (.x fun (b00 : Nat) => .x fun (b01 : Nat) => .x fun (b02 : Nat) => .x fun (b03 : Nat) => .x fun (b04 : Nat) => .d [pt b00, cM kI64 1 p1] [oB b00 100 [cI p0.graph.room, cM Y9q 9 p0.graph.events, cM Y9q 9 p0.graph.parked, mt b01, mt b02, mt b03, mt b04], Abs.Obj.map b01 .i64 Y9r p0.depth, Abs.Obj.map b02 .i64 Y9u p0.before, Abs.Obj.map b03 .i64 Y9u p0.after, Abs.Obj.map b04 .i64 Y9r p0.refused] fun r => .x fun (v30 : Value) => .d (cV v30) [oA v30 2 kI64 1 r, oB b00 100 [cI p0.graph.room, cM Y9q 9 p0.graph.events, cM Y9q 9 p0.graph.parked, mt b01, mt b02, mt b03, mt b04], Abs.Obj.map b01 .i64 Y9r p0.depth, Abs.Obj.map b02 .i64 Y9u p0.before, Abs.Obj.map b03 .i64 Y9u p0.after, Abs.Obj.map b04 .i64 Y9r p0.refused]) := ⟨fun b00 b01 b02 b03 b04 => so Tryz.func171 rfl rfl fun r X h => gh (.k (.k (.c1 (fun l29 => .x fun v28 => .d [(5, cV v28)] [oA v28 2 kI64 1 l29]) [] [1,2,3,4,5] (.l2 (fun l17 x18 => .x fun v16 => .d [(5, cV v16), (15, cI x18)] [oA v16 2 kI64 1 l17]) [0,13,14] [1,2,3,4,5] .z) .z)))⟩

def Zdx (p0 : Y9n) : Option (List Int) := (Zd5 p0).bind fun r1 => (Zdv p0 r1).bind fun r4 => some r4
instance Zdy (p0 : Y9n) : SpO Tryz.prog 91 (Zdx p0) (.x fun (b00 : Nat) => .x fun (b01 : Nat) => .x fun (b02 : Nat) => .x fun (b03 : Nat) => .x fun (b04 : Nat) => .d [pt b00] [oB b00 100 [cI p0.graph.room, cM Y9q 9 p0.graph.events, cM Y9q 9 p0.graph.parked, mt b01, mt b02, mt b03, mt b04], Abs.Obj.map b01 .i64 Y9r p0.depth, Abs.Obj.map b02 .i64 Y9u p0.before, Abs.Obj.map b03 .i64 Y9u p0.after, Abs.Obj.map b04 .i64 Y9r p0.refused] fun r => .x fun (v7 : Value) => .d (cV v7) [oA v7 2 kI64 1 r, oB b00 100 [cI p0.graph.room, cM Y9q 9 p0.graph.events, cM Y9q 9 p0.graph.parked, mt b01, mt b02, mt b03, mt b04], Abs.Obj.map b01 .i64 Y9r p0.depth, Abs.Obj.map b02 .i64 Y9u p0.before, Abs.Obj.map b03 .i64 Y9u p0.after, Abs.Obj.map b04 .i64 Y9r p0.refused]) := ⟨fun b00 b01 b02 b03 b04 => so Tryz.func91 rfl rfl fun r X h => gh (.f 5 [] .z)⟩

def Zdz (p0 : Y9n) : Option (List Y9m) := (Zdx p0).bind fun r1 => (Z9p p0 r1).bind fun r4 => (Zc5 p0 r4).bind fun r7 => some r7
instance Ze0 (p0 : Y9n) : SpO Tryz.prog 88 (Zdz p0) (.x fun (b00 : Nat) => .x fun (b01 : Nat) => .x fun (b02 : Nat) => .x fun (b03 : Nat) => .x fun (b04 : Nat) => .d [pt b00] [oB b00 100 [cI p0.graph.room, cM Y9q 9 p0.graph.events, cM Y9q 9 p0.graph.parked, mt b01, mt b02, mt b03, mt b04], Abs.Obj.map b01 .i64 Y9r p0.depth, Abs.Obj.map b02 .i64 Y9u p0.before, Abs.Obj.map b03 .i64 Y9u p0.after, Abs.Obj.map b04 .i64 Y9r p0.refused] fun r => .d (cM Y9s 3 r) [oB b00 100 [cI p0.graph.room, cM Y9q 9 p0.graph.events, cM Y9q 9 p0.graph.parked, mt b01, mt b02, mt b03, mt b04], Abs.Obj.map b01 .i64 Y9r p0.depth, Abs.Obj.map b02 .i64 Y9u p0.before, Abs.Obj.map b03 .i64 Y9u p0.after, Abs.Obj.map b04 .i64 Y9r p0.refused]) := ⟨fun b00 b01 b02 b03 b04 => so Tryz.func88 rfl rfl fun r X h => gh (.f 6 [] (.f 7 [] .z))⟩

def Ze1 (p0 : Y9k) (p1 : Int) (x7 : Bool) : Option Int := cond x7 (some 0) ((Zco p0).bind fun r9 => (Zdz r9).bind fun r16 => (Zad r16 2 p1).bind fun r18 => some r18)
def Ze2 (p0 : Y9k) (p1 : Int) : Option Int := (Z82 p0).bind fun r2 => cond r2 ((Z5m p1).bind fun r5 => Ze1 p0 p1 (!r5)) (Ze1 p0 p1 true)
instance Ze3 (p0 : Y9k) (p1 : Int) : Sp Tryz.prog 29 [C.agg [cI p0.room, cM Y9q 9 p0.events, cM Y9q 9 p0.parked], cI p1] (Ze2 p0 p1) (fun r => cI r) := Sp.of (so Tryz.func29 rfl rfl fun r X h => gh (.q 2 (.c1 (fun x7 => .d [(12, C.bool x7)] []) [1,2] [0] .z (.b .z (.k .z)))))

def Ze4 (p1 : Y9k) (l5 : List Int) (x6 : Int) (x7 : Int) (x8 : Int) (x9 : Bool) : Option (Int × Y9i) := cond x9 ((Z9 (Y9i.mk l5 x6 x7 x8) (p1.events.length : Int)).bind fun r15 => (getI p1.events r15.1).bind fun e17 => some (e17.id, r15.2)) ((Z9 (Y9i.mk l5 x6 x7 x8) 20).bind fun r19 => some (r19.1, r19.2))
def Ze5 (p0 : Y9i) (p1 : Y9k) : Option (Int × Y9i) := cond (decide ((p1.events.length : Int) > 0)) ((Zc p0 6).bind fun r3 => Ze4 p1 r3.2.b r3.2.at_ r3.2.mix r3.2.size (!r3.1)) (Ze4 p1 p0.b p0.at_ p0.mix p0.size false)
instance Ze6 (p0 : Y9i) (p1 : Y9k) : SpO Tryz.prog 69 (Ze5 p0 p1) (.x fun (b00 : Nat) => .d [pt b00, C.agg [cI p1.room, cM Y9q 9 p1.events, cM Y9q 9 p1.parked]] [oB b00 159 [cM kU8 1 p0.b, cI p0.at_, cV (.int .u64 p0.mix), cI p0.size]] fun r => .d (cI r.1) [oB b00 159 [cM kU8 1 r.2.b, cI r.2.at_, cV (.int .u64 r.2.mix), cI r.2.size]]) := ⟨fun b00 => so Tryz.func69 rfl rfl fun r X h => gh (.q 2 (.c5 (fun l5 x6 x7 x8 x9 => .d [(13, C.bool x9)] [oB b00 159 [cM kU8 1 l5, cI x6, cV (.int .u64 x7), cI x8]]) [0,3] [0] .z (.b (.r [1] [1,4,9] [] [0,5,8,12,17,20,26,28,32,37,40] .z) .z)))⟩

def Ze7 (r5 : Y9k × Y9i) (l11 : List Int) (x12 : Int) (x13 : Int) (x14 : Int) (x15 : Bool) : Option (Y9k × Int) := cond x15 ((getI r5.1.events (IntKind.i64.wrap ((r5.1.events.length : Int) - 1))).bind fun e19 => some (r5.1, e19.id)) ((Ze5 (Y9i.mk l11 x12 x13 x14) r5.1).bind fun r27 => some (r5.1, r27.1))
def Ze8 (p0 : List Int) : Option (Y9k × Int) := (Z5 p0).bind fun r2 => (Z5a r2).bind fun r5 => cond (decide ((r5.1.events.length : Int) > 0)) ((Zc r5.2 2).bind fun r9 => Ze7 r5 r9.2.b r9.2.at_ r9.2.mix r9.2.size r9.1) (Ze7 r5 r5.2.b r5.2.at_ r5.2.mix r5.2.size false)
instance Ze9 (p0 : List Int) : Sp Tryz.prog 30 [cM kU8 1 p0] (Ze8 p0) (fun r => C.tup [C.agg [cI r.1.room, cM Y9q 9 r.1.events, cM Y9q 9 r.1.parked], cI r.2]) := Sp.of (so Tryz.func30 rfl rfl fun r X h => gh (.k (.q 2 (.o 1 fun b4 => .c5 (fun l11 x12 x13 x14 x15 => .d [(17, C.bool x15)] [oB b4 159 [cM kU8 1 l11, cI x12, cV (.int .u64 x13), cI x14]]) [2,4,5] [2,0] .z (.b (.r [0,1] [0,2,4,9] [] [1,4,9,12,17,20,24,28,32,37,42,44] .z) (.r [2] [0,2] [] [1,4,9,14,18,20] .z))))))

def Zea (r13 : Y9j × Bool) (x27 : Int) : Option Y9o := some (Y9o.mk (Y9j.mk 0 r13.1.room r13.1.author r13.1.kind r13.1.key x27 ByteArray.empty [] 0) 0)
def Zeb (r13 : Y9j × Bool) (x24 : Bool) : Option Y9o := cond x24 (some (Y9o.mk (Y9j.mk 0 0 0 0 0 0 ByteArray.empty [] 0) 10)) (cond (r13.1.n == 2) (Zea r13 4) (Zea r13 2))
def Zec (p1 : Int) (r6 : Y9n) (r13 : Y9j × Bool) (x17 : Bool) : Option Y9o := cond x17 (some (Y9o.mk (Y9j.mk 0 0 0 0 0 0 ByteArray.empty [] 0) 6)) (cond (r13.1.kind == 3) ((Zak r6.graph (Option.getD (mget r6.before p1) ([] : List Y9m)) r13.1.key).bind fun r21 => Zea r13 r21) (cond (r13.1.kind != 2) (Zeb r13 true) (Zeb r13 (r13.1.key == r13.1.author))))
def Zed (p0 : Y9k) (p1 : Int) : Option Y9o := (Z82 p0).bind fun r3 => cond r3 ((Zco p0).bind fun r6 => (Z9l r6.graph p1).bind fun r13 => cond r13.2 (Zec p1 r6 r13 ((Option.getD (mget r6.refused p1) 0) != 0)) (Zec p1 r6 r13 true)) (some (Y9o.mk (Y9j.mk 0 0 0 0 0 0 ByteArray.empty [] 0) 1))
instance Zee (p0 : Y9k) (p1 : Int) : Sp Tryz.prog 31 [C.agg [cI p0.room, cM Y9q 9 p0.events, cM Y9q 9 p0.parked], cI p1] (Zed p0 p1) (fun r => C.agg [cI r.event.id, cI r.event.room, cI r.event.author, cI r.event.kind, cI r.event.key, cI r.event.n, C.str r.event.text, cM kI64 1 r.event.prev, cI r.event.time, cI r.code]) := sp Tryz.func31 rfl rfl fun r X h => by
 unfold Zed at h
 refine zw ?_
 refine ox fun b1 => ?_
 refine al fun b2 => ?_
 refine zw ?_
 refine oc h fun r3 g4 h => ?_
 refine zw ?_
 refine cnd h (fun hb5 h => ?_) fun hb5 h => ?_
 ·
  refine AW.cond rfl (fun hn => absurd ((Y46 hb5).symm.trans hn) (by decide)) (fun _ => ?_)
  refine zw ?_
  refine ob' h fun r6 g7 h => ?_
  refine Ops.h (ns := []) rfl rfl (Y27 ((Zcp _).h _ g7) rfl rfl) ?_
  rintro _ _ ⟨_, ⟨b8, b9, b10, b11, b12, rfl, rfl⟩, rfl⟩
  refine zw ?_
  refine oc h fun r13 g14 h => ?_
  refine zw ?_
  refine al fun b15 => ?_
  refine Ops.sA Yaq.h rfl rfl rfl inferInstance rfl ?_
  refine Ops.v rfl (Ys rfl rfl) ?_
  refine Ops.nil ?_
  refine AW.seq ?_
  refine AW.seq ?_
  refine AW.cut (τ := Bool) (fun x17 => ⟨[(1, cI p1), (4, pt b2), (5, pt b8), (6, pt b15), (34, C.bool x17)], [oB b2 49 [cI 0, cI 0, cI 0, cI 0, cI 0, cI 0, C.str ByteArray.empty, cV s0, cI 0, cI 0], oB b8 100 [cI r6.graph.room, cM Y9q 9 r6.graph.events, cM Y9q 9 r6.graph.parked, mt b9, mt b10, mt b11, mt b12], Abs.Obj.map b9 .i64 Y9r r6.depth, Abs.Obj.map b10 .i64 Y9u r6.before, Abs.Obj.map b11 .i64 Y9u r6.after, Abs.Obj.map b12 .i64 Y9r r6.refused, oB b15 42 [cI r13.1.id, cI r13.1.room, cI r13.1.author, cI r13.1.kind, cI r13.1.key, cI r13.1.n, C.str r13.1.text, cM kI64 1 r13.1.prev, cI r13.1.time]]⟩) (fun x17 => Zec p1 r6 r13 x17 = some r) ?_ ?_
  ·
   refine zw ?_
   refine cnd h (fun hb16 h => ?_) fun hb16 h => ?_
   ·
    refine zw ?_
    refine Ops.gv rfl rfl rfl rfl (Y46 hb16) (Y6p (p := 5) (kc := Y9r) (z0 := 0) Yc1 zv_2 (fun _ _ => rfl) rfl rfl rfl rfl) ?_
    refine zw ?_
    exact ⟨((Option.getD (mget r6.refused p1) 0) != 0), h, Y25.both (ns := [6, 1, 1, 1, 1, 1, 0]) rfl rfl⟩
   refine zw ?_
   exact ⟨true, h, Y25.both (ns := [6, 1, 1, 1, 1, 1, 0]) rfl rfl⟩
  intro x17 h
  replace h : Zec p1 r6 r13 x17 = some r := h
  unfold Zec at h
  refine cnd h (fun hb18 h => ?_) fun hb18 h => ?_
  ·
   refine AW.ct hb18 rfl ?_
   refine AW.seq ?_
   refine AW.region ?_
   refine Ops.v rfl (Y3k (ds := [cI 0, cI 0, cI 0, cI 0, cI 0, cI 0, C.str ByteArray.empty, cV s0, cI 0, cI 6]) Yc8 Yc7 (Y4g rfl rfl) (.one rfl (One.val rfl) rfl rfl .nil) rfl) ?_
   refine zw ?_
   refine AW.ret ?_
   rw [← Wj h]
   exact finI ⟨[C.agg [cI 0, cI 0, cI 0, cI 0, cI 0, cI 0, C.str ByteArray.empty, cM kI64 1 [], cI 0, cI 6]], _, Y25.boxFrz (ns := [0]) rfl (fS (fS (fS (fS (fS (fS (fS (FrzL.cons (os := []) (Frz.imp (Imp.nil kI64 1)) (fS (fS FrzL.nil)))))))))), (.cons (.cell (p := 0) rfl rfl Yc9.h rfl) .nil), [], _, _, rfl, ⟨rfl, rfl⟩⟩
  refine AW.cf hb18 rfl ?_
  refine AW.skip ?_
  refine AW.seq ?_
  refine AW.region ?_
  refine Ops.v rfl (Y1f Yay.h rfl rfl) ?_
  refine Ops.v rfl (Y1o (p := 6) ld_2.h rfl rfl rfl rfl) ?_
  refine Ops.v rfl (Y1f Yan.h rfl rfl) ?_
  refine Ops.v rfl (Y1o (p := 6) ld_2.h rfl rfl rfl rfl) ?_
  refine Ops.v rfl (Y1f Yak.h rfl rfl) ?_
  refine Ops.v rfl (Y1o (p := 6) ld_2.h rfl rfl rfl rfl) ?_
  refine Ops.v rfl (Y1f Yal.h rfl rfl) ?_
  refine Ops.v rfl (Y1o (p := 6) ld_2.h rfl rfl rfl rfl) ?_
  refine Ops.v rfl (Y3k (ds := [cI 0, cI r13.1.room, cI r13.1.author, cI r13.1.kind, cI r13.1.key, cI 2, C.str ByteArray.empty, cV s0, cI 0]) Yat Yah (Y4g rfl rfl) (.one rfl (One.val rfl) rfl rfl (.one rfl (One.val rfl) rfl rfl (.one rfl (One.val rfl) rfl rfl (.one rfl (One.val rfl) rfl rfl (.one rfl (One.val rfl) rfl rfl .nil))))) rfl) ?_
  refine al fun b19 => ?_
  refine Ops.sA Yaq.h rfl rfl rfl inferInstance rfl ?_
  refine Ops.nil ?_
  refine AW.seq ?_
  refine AW.cut (τ := Int) (fun x27 => ⟨[(4, pt b2), (8, pt b19)], [oB b19 42 [cI 0, cI r13.1.room, cI r13.1.author, cI r13.1.kind, cI r13.1.key, cI x27, C.str ByteArray.empty, cV s0, cI 0], oB b2 49 [cI 0, cI 0, cI 0, cI 0, cI 0, cI 0, C.str ByteArray.empty, cV s0, cI 0, cI 0]]⟩) (fun x27 => Zea r13 x27 = some r) ?_ ?_
  ·
   refine zw ?_
   refine cnd h (fun hb20 h => ?_) fun hb20 h => ?_
   ·
    refine AW.ct hb20 rfl ?_
    refine rD [0,0,0,0,0,0,0,0] [3,7,9,11] [14] [0,4,8,13,16,20,24,29,32,37,40,45,50,52,59] ?_
    refine zw ?_
    refine OpsD.v rfl rfl (Y6p (p := 4) (kc := Y9u) (z0 := ([] : List Y9m)) Ybj Ybk (fun w F => Imp.nil Y9s 3 w F _ rfl) rfl rfl rfl rfl) ?_
    refine zw ?_
    refine dc h fun r21 g22 h => ?_
    refine zw ?_
    exact ⟨r21, h, Y25.both (ns := [0, 0]) rfl rfl⟩
   refine AW.cf hb20 rfl ?_
   refine AW.seq ?_
   refine AW.cut (τ := Bool) (fun x24 => ⟨[(4, pt b2), (6, pt b15), (8, pt b19), (63, C.bool x24)], [oB b2 49 [cI 0, cI 0, cI 0, cI 0, cI 0, cI 0, C.str ByteArray.empty, cV s0, cI 0, cI 0], oB b15 42 [cI r13.1.id, cI r13.1.room, cI r13.1.author, cI r13.1.kind, cI r13.1.key, cI r13.1.n, C.str r13.1.text, cM kI64 1 r13.1.prev, cI r13.1.time], oB b19 42 [cI 0, cI r13.1.room, cI r13.1.author, cI r13.1.kind, cI r13.1.key, cI 2, C.str ByteArray.empty, cV s0, cI 0]]⟩) (fun x24 => Zeb r13 x24 = some r) ?_ ?_
   ·
    refine zw ?_
    refine cnd h (fun hb23 h => ?_) fun hb23 h => ?_
    ·
     refine zw ?_
     exact ⟨true, h, Y25.both (ns := [1, 6, 0]) rfl rfl⟩
    refine zw ?_
    exact ⟨(r13.1.key == r13.1.author), h, Y25.both (ns := [1, 6, 0]) rfl rfl⟩
   intro x24 h
   replace h : Zeb r13 x24 = some r := h
   unfold Zeb at h
   refine cnd h (fun hb25 h => ?_) fun hb25 h => ?_
   ·
    refine AW.ct hb25 rfl ?_
    refine AW.seq ?_
    refine AW.region ?_
    refine Ops.v rfl (Y3k (ds := [cI 0, cI 0, cI 0, cI 0, cI 0, cI 0, C.str ByteArray.empty, cV s0, cI 0, cI 10]) Yc8 Yc7 (Y4g rfl rfl) (.one rfl (One.val rfl) rfl rfl .nil) rfl) ?_
    refine zw ?_
    refine AW.ret ?_
    rw [← Wj h]
    exact finI ⟨[C.agg [cI 0, cI 0, cI 0, cI 0, cI 0, cI 0, C.str ByteArray.empty, cM kI64 1 [], cI 0, cI 10]], _, Y25.boxFrz (ns := [0]) rfl (fS (fS (fS (fS (fS (fS (fS (FrzL.cons (os := []) (Frz.imp (Imp.nil kI64 1)) (fS (fS FrzL.nil)))))))))), (.cons (.cell (p := 0) rfl rfl Yc9.h rfl) .nil), [], _, _, rfl, ⟨rfl, rfl⟩⟩
   refine AW.cf hb25 rfl ?_
   refine zw ?_
   refine cnd h (fun hb26 h => ?_) fun hb26 h => ?_
   ·
    refine AW.ct hb26 rfl ?_
    refine zw ?_
    exact ⟨4, h, Y25.both (ns := [0, 0]) rfl rfl⟩
   refine AW.cf hb26 rfl ?_
   refine zw ?_
   exact ⟨2, h, Y25.both (ns := [2, 0]) rfl rfl⟩
  intro x27 h
  replace h : Zea r13 x27 = some r := h
  unfold Zea at h
  refine AW.seq ?_
  refine AW.region ?_
  refine Ops.v rfl (Y1p (p := 0) (ds := [cI 0, cI r13.1.room, cI r13.1.author, cI r13.1.kind, cI r13.1.key, cI x27, C.str ByteArray.empty, cV s0, cI 0]) Yaq.h rfl rfl rfl rfl rfl) ?_
  refine Ops.v rfl (Y3k (ds := [cI 0, cI r13.1.room, cI r13.1.author, cI r13.1.kind, cI r13.1.key, cI x27, C.str ByteArray.empty, cV s0, cI 0, cI 0]) Yc8 Yc7 (Y4g rfl rfl) (.agg rfl rfl rfl .nil) rfl) ?_
  refine zw ?_
  refine AW.ret ?_
  rw [← Wj h]
  exact finI ⟨[C.agg [cI 0, cI r13.1.room, cI r13.1.author, cI r13.1.kind, cI r13.1.key, cI x27, C.str ByteArray.empty, cM kI64 1 [], cI 0, cI 0]], _, Y25.boxFrz (ns := [0]) rfl (fS (fS (fS (fS (fS (fS (fS (FrzL.cons (os := []) (Frz.imp (Imp.nil kI64 1)) (fS (fS FrzL.nil)))))))))), (.cons (.cell (p := 0) rfl rfl Yc9.h rfl) .nil), [], _, _, rfl, ⟨rfl, rfl⟩⟩
 refine AW.cond rfl (fun _ => ?_) (fun hn => absurd ((Y47 hb5).symm.trans hn) (by decide))
 refine AW.seq ?_
 refine AW.region ?_
 refine Ops.v rfl (Y3k (ds := [cI 0, cI 0, cI 0, cI 0, cI 0, cI 0, C.str ByteArray.empty, cV s0, cI 0, cI 1]) Yc8 Yc7 (Y4g rfl rfl) (.one rfl (One.val rfl) rfl rfl .nil) rfl) ?_
 refine zw ?_
 refine AW.ret ?_
 rw [← Wj h]
 exact finI ⟨[C.agg [cI 0, cI 0, cI 0, cI 0, cI 0, cI 0, C.str ByteArray.empty, cM kI64 1 [], cI 0, cI 1]], _, Y25.boxFrz (ns := [0]) rfl (fS (fS (fS (fS (fS (fS (fS (FrzL.cons (os := []) (Frz.imp (Imp.nil kI64 1)) (fS (fS FrzL.nil)))))))))), (.cons (.cell (p := 0) rfl rfl Yc9.h rfl) .nil), [], _, _, rfl, ⟨rfl, rfl⟩⟩

def Zef (l69 : List Int) : Option (List Int) := some l69
def Zeg (x37 : Int) (l67 : List Int) : Option ((List Int × Int) ⊕ ((List Int))) := some (.inl (l67, (IntKind.i64.wrap (x37 + 1))))
def Zeh (x53 : Int) (l65 : List Int) : Option ((List Int × Int) ⊕ ((List Int))) := some (.inl (l65, (IntKind.i64.wrap (x53 + 1))))
def Zei (p0 : Y9k) (r2 : List Int) (x37 : Int) (l52 : List Int) (x53 : Int) : Option ((List Int × Int) ⊕ ((List Int))) := cond (decide (x53 < (p0.events.length : Int))) ((getI r2 x53).bind fun e55 => cond (e55 == x37) ((getI p0.events x53).bind fun e58 => (chk (decide ((l52.length + [e58.id].length) * 8 ≤ 140737488355328))).bind fun u62 => Zeh x53 (l52 ++ [e58.id])) (Zeh x53 l52)) (some (.inr l52))
def Zej (p0 : Y9k) (r2 : List Int) (l36 : List Int) (x37 : Int) : Option ((List Int × Int) ⊕ ((List Int))) := cond (decide ((l36.length : Int) < (p0.events.length : Int))) ((iter (fun z71 => Zei p0 r2 x37 z71.1 z71.2) big (l36, 0)).bind fun y72 => Zeg x37 y72) (some (.inr l36))
def Zek (p0 : Y9k) : Option (List Int) := (Z2v p0.events).bind fun r2 => (iter (fun z73 => Zej p0 r2 z73.1 z73.2) big (([] : List Int), 1)).bind fun y74 => Zef y74
instance Zel (p0 : Y9k) : SpO Tryz.prog 103 (Zek p0) (.d [C.agg [cI p0.room, cM Y9q 9 p0.events, cM Y9q 9 p0.parked]] [] fun r => .x fun (v70 : Value) => .d (cV v70) [oA v70 2 kI64 1 r]) := ⟨so Tryz.func103 rfl rfl fun r X h => gh (.q 3 (.c1 (fun l69 => .x fun v68 => .d [(4, cV v68)] [oA v68 2 kI64 1 l69]) [] [] (.l2 (fun l36 x37 => .x fun v35 => .d [(4, cV v35), (5, cI x37)] [oA v35 2 kI64 1 l36]) [1,3] [1] (.b (.c1 (fun l67 => .x fun v66 => .d [(4, cV v66)] [oA v66 2 kI64 1 l67]) [1,3,5] [1] (.l2 (fun l52 x53 => .x fun v51 => .d [(4, cV v51), (6, cI x53)] [oA v51 2 kI64 1 l52]) [1,3,5] [1] (.b (.c1 (fun l65 => .x fun v64 => .d [(4, cV v64)] [oA v64 2 kI64 1 l65]) [1,3,5,6] [1] .z .z) .z)) .z) .z)) .z))⟩
instance Zel' (p0 : Y9k) : Sp Tryz.prog 103 [C.agg [cI p0.room, cM Y9q 9 p0.events, cM Y9q 9 p0.parked]] (Zek p0) (fun r => cM kI64 1 r) := ⟨fun r h => Ok.freeze ((Zel p0).h r h) (by rintro c qs ⟨v70, rfl, rfl⟩; exact Frz.arr)⟩

def Zem : Option Int := some 0
def Zen (p0 : List Y9m) (x9 : Int) (x14 : Bool) : Option (Int ⊕ (Int ⊕ Unit)) := cond x14 ((getI p0 x9).bind fun e16 => some (.inr (.inl e16.id))) (some (.inl (IntKind.i64.wrap (x9 + 1))))
def Zeo (p0 : List Y9m) (p1 : Int) (p2 : Int) (x9 : Int) : Option (Int ⊕ (Int ⊕ Unit)) := cond (decide (x9 < (p0.length : Int))) ((getI p0 x9).bind fun e11 => cond (e11.kind == p1) (Zen p0 x9 (e11.key == p2)) (Zen p0 x9 false)) (some (.inr (.inr ())))
def Zep (p0 : List Y9m) (p1 : Int) (p2 : Int) : Option Int := (iter (Zeo p0 p1 p2) big 0).bind (fun z19 => match z19 with | .inl y18 => some y18 | .inr () => Zem)
instance Zeq (p0 : List Y9m) (p1 : Int) (p2 : Int) : Sp Tryz.prog 104 [cM Y9s 3 p0, cI p1, cI p2] (Zep p0 p1 p2) (fun r => cI r) := Sp.of (so Tryz.func104 rfl rfl fun r X h => gh (.q 1 (.c0 (.d [] []) [] [] (.l1 (fun x9 => .d [(7, cI x9)] []) [0,1,2] [] (.b (.q 1 (.c1 (fun x14 => .d [(29, C.bool x14)] []) [0,1,2,7] [] .z .z)) .z)) .z)))

def Zer : Option Bool := some true
def Zes (p0 : List (List Y9m)) (p1 : Y9m) (x8 : Int) : Option (Int ⊕ (Bool ⊕ Unit)) := cond (decide (x8 < (p0.length : Int))) ((getI p0 x8).bind fun e10 => (Zep e10 p1.kind p1.key).bind fun r12 => cond (r12 != p1.id) (some (.inr (.inl false))) (some (.inl (IntKind.i64.wrap (x8 + 1))))) (some (.inr (.inr ())))
def Zet (p0 : List (List Y9m)) (p1 : Y9m) : Option Bool := (iter (Zes p0 p1) big 0).bind (fun z16 => match z16 with | .inl y15 => some y15 | .inr () => Zer)
instance Zeu (p0 : List (List Y9m)) (p1 : Y9m) : Sp Tryz.prog 164 [cM Y9t 1 p0, C.agg [cI p1.kind, cI p1.key, cI p1.id]] (Zet p0 p1) (fun r => C.bool r) := Sp.of (so Tryz.func164 rfl rfl fun r X h => gh (.q 1 (.c0 (.d [] []) [] [] (.l1 (fun x8 => .d [(5, cI x8)] []) [0,3] [0] (.b (.r [0] [3,5,7,10] [] [0,4,8,13,16,21,24,29,36,41,34,44] .z) .z)) .z)))

def Zev (l35 : List Y9m) : Option (List Y9m) := some l35
def Zew (x19 : Int) (l33 : List Y9m) : Option ((List Y9m × Int) ⊕ ((List Y9m))) := some (.inl (l33, (IntKind.i64.wrap (x19 + 1))))
def Zex (p0 : List Y9m) (l18 : List Y9m) (x19 : Int) (x24 : Bool) : Option ((List Y9m × Int) ⊕ ((List Y9m))) := cond x24 ((getI p0 x19).bind fun e26 => (chk (decide ((l18.length + [e26].length) * 24 ≤ 140737488355328))).bind fun u30 => Zew x19 (l18 ++ [e26])) (Zew x19 l18)
def Zey (p0 : List Y9m) (p1 : Y9m) (l18 : List Y9m) (x19 : Int) : Option ((List Y9m × Int) ⊕ ((List Y9m))) := cond (decide (x19 < (p0.length : Int))) ((getI p0 x19).bind fun e21 => cond (e21.kind != p1.kind) (Zex p0 l18 x19 true) (Zex p0 l18 x19 (e21.key != p1.key))) (some (.inr l18))
def Zez (p0 : List Y9m) (p1 : Y9m) : Option (List Y9m) := (iter (fun z37 => Zey p0 p1 z37.1 z37.2) big (([] : List Y9m), 0)).bind fun y38 => Zev y38
instance Zf0 (p0 : List Y9m) (p1 : Y9m) : SpO Tryz.prog 222 (Zez p0 p1) (.d [cM Y9s 3 p0, C.agg [cI p1.kind, cI p1.key, cI p1.id]] [] fun r => .x fun (v36 : Value) => .d (cV v36) [oA v36 96 Y9s 3 r]) := ⟨so Tryz.func222 rfl rfl fun r X h => gh (.q 2 (.c1 (fun l35 => .x fun v34 => .d [(5, cV v34)] [oA v34 96 Y9s 3 l35]) [] [] (.l2 (fun l18 x19 => .x fun v17 => .d [(5, cV v17), (6, cI x19)] [oA v17 96 Y9s 3 l18]) [0,3] [1] (.b (.c1 (fun l33 => .x fun v32 => .d [(5, cV v32)] [oA v32 96 Y9s 3 l33]) [0,3,6] [1] (.c1 (fun x24 => .d [(31, C.bool x24)] []) [0,3,5,6] [1,0] (.r [0,0] [4,6,13,15] [] [0,4,8,12,17,20,25,28,32,36,40,44,48,53,56,61,64,68] .z) .z) .z) .z)) .z))⟩
instance Zf0' (p0 : List Y9m) (p1 : Y9m) : Sp Tryz.prog 222 [cM Y9s 3 p0, C.agg [cI p1.kind, cI p1.key, cI p1.id]] (Zez p0 p1) (fun r => cM Y9s 3 r) := ⟨fun r h => Ok.freeze ((Zf0 p0 p1).h r h) (by rintro c qs ⟨v36, rfl, rfl⟩; exact Frz.arr)⟩

def Zf1 (x5 : Bool) : Option Bool := some x5
def Zf2 (p0 : Y9m) (p1 : Y9m) : Option Bool := cond (decide (p0.kind < p1.kind)) (Zf1 true) (cond (p0.kind == p1.kind) (Zf1 (decide (p0.key < p1.key))) (Zf1 false))
instance Zf3 (p0 : Y9m) (p1 : Y9m) : Sp Tryz.prog 223 [C.agg [cI p0.kind, cI p0.key, cI p0.id], C.agg [cI p1.kind, cI p1.key, cI p1.id]] (Zf2 p0 p1) (fun r => C.bool r) := Sp.of (so Tryz.func223 rfl rfl fun r X h => gh (.q 1 (.c1 (fun x5 => .d [(4, C.bool x5)] []) [] [] .z .z)))

def Zf4 (p1 : Y9m) (r2 : List Y9m) (x19 : Int) : Option (List Y9m) := (Y2d r2 0 x19).bind fun s21 => (chk (decide ((([] : List Y9m).length + s21.length) * 24 ≤ 140737488355328))).bind fun u24 => (chk (decide (((([] : List Y9m) ++ s21).length + [p1].length) * 24 ≤ 140737488355328))).bind fun u28 => (Y2d r2 x19 (r2.length : Int)).bind fun s30 => (chk (decide ((((([] : List Y9m) ++ s21) ++ [p1]).length + s30.length) * 24 ≤ 140737488355328))).bind fun u33 => some (((([] : List Y9m) ++ s21) ++ [p1]) ++ s30)
def Zf5 (x11 : Int) (x17 : Bool) : Option (Int ⊕ (Int)) := cond x17 (some (.inl (IntKind.i64.wrap (x11 + 1)))) (some (.inr x11))
def Zf6 (p1 : Y9m) (r2 : List Y9m) (x11 : Int) : Option (Int ⊕ (Int)) := cond (decide (x11 < (r2.length : Int))) ((getI r2 x11).bind fun e13 => (Zf2 e13 p1).bind fun r15 => Zf5 x11 r15) (Zf5 x11 false)
def Zf7 (p0 : List Y9m) (p1 : Y9m) : Option (List Y9m) := (Zez p0 p1).bind fun r2 => (iter (Zf6 p1 r2) big 0).bind fun y36 => Zf4 p1 r2 y36
instance Zf8 (p0 : List Y9m) (p1 : Y9m) : SpO Tryz.prog 165 (Zf7 p0 p1) (.d [cM Y9s 3 p0, C.agg [cI p1.kind, cI p1.key, cI p1.id]] [] fun r => .x fun (v35 : Value) => .d (cV v35) [oA v35 96 Y9s 3 r]) := ⟨so Tryz.func165 rfl rfl fun r X h => gh (.q 3 (.c1 (fun x19 => .d [(6, cI x19)] []) [3,5] [0] (.l1 (fun x11 => .d [(6, cI x11)] []) [3,5] [0] (.q 1 (.c1 (fun x17 => .d [(22, C.bool x17)] []) [3,5,6] [0] (.r [0] [8,9] [] [0,4,8,12,16,20,24,28,33,37,42,44] .z) .z))) .z))⟩
instance Zf8' (p0 : List Y9m) (p1 : Y9m) : Sp Tryz.prog 165 [cM Y9s 3 p0, C.agg [cI p1.kind, cI p1.key, cI p1.id]] (Zf7 p0 p1) (fun r => cM Y9s 3 r) := ⟨fun r h => Ok.freeze ((Zf8 p0 p1).h r h) (by rintro c qs ⟨v35, rfl, rfl⟩; exact Frz.arr)⟩

def Zf9 (x6 : Bool) : Option Bool := some x6
def Zfa (p0 : Y9j) : Option Bool := cond (p0.kind == 1) (Zf9 true) (cond (p0.kind == 3) (Zf9 true) (cond (p0.kind == 5) (Zf9 true) (cond (p0.kind == 2) (Zf9 (p0.key != p0.author)) (Zf9 false))))
instance Zfb (p0 : Y9j) : Sp Tryz.prog 224 [C.agg [cI p0.id, cI p0.room, cI p0.author, cI p0.kind, cI p0.key, cI p0.n, C.str p0.text, cM kI64 1 p0.prev, cI p0.time]] (Zfa p0) (fun r => C.bool r) := Sp.of (so Tryz.func224 rfl rfl fun r X h => gh (.q 1 (.c1 (fun x6 => .d [(2, C.bool x6)] []) [] [] .z .z)))

def Zfc (p1 : List Int) (r2 : Int) (r4 : Int) (x13 : Int) (x14 : Int) (x15 : Int) (x16 : Int) (x17 : Int) (x18 : Int) (x19 : ByteArray) (l20 : List Int) (x21 : Int) (x23 : Int) (x24 : Int) (x25 : Int) (x26 : Int) (x27 : Int) (x28 : Int) (x29 : ByteArray) (l30 : List Int) (x31 : Int) : Option Bool := (Zfa (Y9j.mk x13 x14 x15 x16 x17 x18 x19 l20 x21)).bind fun r32 => (Zfa (Y9j.mk x23 x24 x25 x26 x27 x28 x29 l30 x31)).bind fun r34 => cond (r32 == r34) ((getI p1 r2).bind fun e37 => (getI p1 r4).bind fun e39 => cond (e37 != e39) (some (decide (e37 < e39))) (cond (x21 != x31) (some (decide (x21 < x31))) (some (decide (x13 < x23))))) ((Zfa (Y9j.mk x13 x14 x15 x16 x17 x18 x19 l20 x21)).bind fun r43 => some r43)
def Zfd (p0 : Y9k) (p1 : List Int) (p2 : Int) (p3 : Int) : Option Bool := (Zr p0.events p2).bind fun r2 => (Zr p0.events p3).bind fun r4 => (getI p0.events r2).bind fun e6 => (getI p0.events r4).bind fun e8 => Zfc p1 r2 r4 e6.id e6.room e6.author e6.kind e6.key e6.n e6.text e6.prev e6.time e8.id e8.room e8.author e8.kind e8.key e8.n e8.text e8.prev e8.time
instance Zfe (p0 : Y9k) (p1 : List Int) (p2 : Int) (p3 : Int) : Sp Tryz.prog 167 [C.agg [cI p0.room, cM Y9q 9 p0.events, cM Y9q 9 p0.parked], cM kI64 1 p1, cI p2, cI p3] (Zfd p0 p1 p2 p3) C.bool := sp Tryz.func167 rfl rfl fun r X h => by
 unfold Zfd at h
 refine zw ?_
 refine ox fun b1 => ?_
 refine zw ?_
 refine rD [0] [1,5] [] [0,5,8,16,21,24,14,30,32,36] ?_
 refine zw ?_
 refine dc h fun r2 g3 h => ?_
 refine zw ?_
 refine dc h fun r4 g5 h => ?_
 refine OpsD.v rfl rfl (Ys rfl rfl) ?_
 refine OpsD.v rfl rfl (Ys rfl rfl) ?_
 refine OpsD.done ?_
 refine AW.seq ?_
 refine AW.cut (τ := Int × Int × Int × Int × Int × Int × ByteArray × List Int × Int × Int × Int × Int × Int × Int × Int × ByteArray × List Int × Int × Nat × Nat) (fun (x13, x14, x15, x16, x17, x18, x19, l20, x21, x23, x24, x25, x26, x27, x28, x29, l30, x31, b12, b22) => ⟨[(1, cM kI64 1 p1), (9, cI r2), (10, cI r4), (11, pt b12), (12, pt b22)], [oB b12 42 [cI x13, cI x14, cI x15, cI x16, cI x17, cI x18, C.str x19, cM kI64 1 l20, cI x21], oB b22 42 [cI x23, cI x24, cI x25, cI x26, cI x27, cI x28, C.str x29, cM kI64 1 l30, cI x31]]⟩) (fun (x13, x14, x15, x16, x17, x18, x19, l20, x21, x23, x24, x25, x26, x27, x28, x29, l30, x31, b12, b22) => Zfc p1 r2 r4 x13 x14 x15 x16 x17 x18 x19 l20 x21 x23 x24 x25 x26 x27 x28 x29 l30 x31 = some r) ?_ ?_
 ·
  refine AW.regionD (L := [1, 4, 6, 9]) (Lt := [13]) (k := .light 0 false (.light 1 true (.light 2 false (.light 3 false (.light 4 true (.light 5 false (.light 6 true (.light 7 false (.light 8 false (.light 9 true (.two 10 11 (.one 11 (.one 12 (.late 13 (.done)))) (.one 10 (.one 12 (.late 13 (.done))))))))))))))) (ns := [0]) (by kernel_rfl) (by kernel_rfl) (by kernel_rfl) (by kernel_rfl) rfl ?_
  refine zw ?_
  refine di h fun e6 g7 h => ?_
  refine zw ?_
  refine di h fun e8 g9 h => ?_
  refine zw ?_
  refine OpsD.two ?_ ?_
  ·
   refine dal fun b10 => ?_
   refine zw ?_
   refine dal fun b11 => ?_
   refine OpsD.one ?_
   refine Y3z.h (ns := [1]) rfl rfl rfl (Y1y (gs := [cI e6.id, cI e6.room, cI e6.author, cI e6.kind, cI e6.key, cI e6.n, C.str e6.text, cM kI64 1 e6.prev, cI e6.time]) Yaq.h rfl rfl rfl rfl rfl) ?_
   rintro _ _ ⟨rfl, rfl⟩
   refine zw ?_
   exact ⟨(e6.id, e6.room, e6.author, e6.kind, e6.key, e6.n, e6.text, e6.prev, e6.time, e8.id, e8.room, e8.author, e8.kind, e8.key, e8.n, e8.text, e8.prev, e8.time, b10, b11), h, Y25.both (ns := [2, 0]) rfl rfl⟩
  refine dal fun b11 => ?_
  refine zw ?_
  refine dal fun b10 => ?_
  refine OpsD.one ?_
  refine Y3z.h (ns := [0]) rfl rfl rfl (Y1y (gs := [cI e6.id, cI e6.room, cI e6.author, cI e6.kind, cI e6.key, cI e6.n, C.str e6.text, cM kI64 1 e6.prev, cI e6.time]) Yaq.h rfl rfl rfl rfl rfl) ?_
  rintro _ _ ⟨rfl, rfl⟩
  refine zw ?_
  exact ⟨(e6.id, e6.room, e6.author, e6.kind, e6.key, e6.n, e6.text, e6.prev, e6.time, e8.id, e8.room, e8.author, e8.kind, e8.key, e8.n, e8.text, e8.prev, e8.time, b10, b11), h, Y25.both (ns := [2, 0]) rfl rfl⟩
 rintro ⟨x13, x14, x15, x16, x17, x18, x19, l20, x21, x23, x24, x25, x26, x27, x28, x29, l30, x31, b12, b22⟩ h
 replace h : Zfc p1 r2 r4 x13 x14 x15 x16 x17 x18 x19 l20 x21 x23 x24 x25 x26 x27 x28 x29 l30 x31 = some r := h
 unfold Zfc at h
 refine zw ?_
 refine rD [0,0] [0,2] [] [1,9,6,14,16,20] ?_
 refine zw ?_
 refine dc h fun r32 g33 h => ?_
 refine zw ?_
 refine dc h fun r34 g35 h => ?_
 refine OpsD.v rfl rfl (Y15 un_4 rfl rfl rfl) ?_
 refine zw ?_
 refine cnd h (fun hb36 h => ?_) fun hb36 h => ?_
 ·
  refine AW.cond rfl (fun hn => absurd ((Y46 hb36).symm.trans hn) (by decide)) (fun _ => ?_)
  refine zw ?_
  refine rD [0,0] [3,7] [] [0,4,8,13,16,20,24,29,32,36] ?_
  refine zw ?_
  refine di h fun e37 g38 h => ?_
  refine zw ?_
  refine di h fun e39 g40 h => ?_
  refine zw ?_
  refine cnd h (fun hb41 h => ?_) fun hb41 h => ?_
  ·
   refine AW.ct hb41 rfl ?_
   refine zw ?_
   refine rD [0,0] [3,7] [] [0,4,8,13,16,20,24,29,32,36] ?_
   refine zw ?_
   refine AW.ret ?_
   rw [← Wj h]
   exact finI ⟨[C.bool (decide (e37 < e39))], _, Y25.refl _, (.cons (.tmp rfl) .nil), [], _, _, rfl, ⟨rfl, rfl⟩⟩
  refine AW.cf hb41 rfl ?_
  refine zw ?_
  refine cnd h (fun hb42 h => ?_) fun hb42 h => ?_
  ·
   refine AW.ct hb42 rfl ?_
   refine zw ?_
   refine AW.ret ?_
   rw [← Wj h]
   exact finI ⟨[C.bool (decide (x21 < x31))], _, Y25.refl _, (.cons (.tmp rfl) .nil), [], _, _, rfl, ⟨rfl, rfl⟩⟩
  refine AW.cf hb42 rfl ?_
  refine zw ?_
  refine AW.ret ?_
  rw [← Wj h]
  exact finI ⟨[C.bool (decide (x13 < x23))], _, Y25.refl _, (.cons (.tmp rfl) .nil), [], _, _, rfl, ⟨rfl, rfl⟩⟩
 refine AW.cond rfl (fun _ => ?_) (fun hn => absurd ((Y47 hb36).symm.trans hn) (by decide))
 refine zw ?_
 refine oc h fun r43 g44 h => ?_
 refine zw ?_
 refine AW.ret ?_
 rw [← Wj h]
 exact finI ⟨[C.bool r43], _, Y25.refl _, (.cons (.tmp rfl) .nil), [], _, _, rfl, ⟨rfl, rfl⟩⟩

def Zff (p0 : Y9k) (p1 : List Y9m) (p2 : Int) (p3 : Int) : Option Y9j := (Zep p1 p2 p3).bind fun r3 => cond (r3 == 0) (some (Y9j.mk 0 0 0 0 0 0 ByteArray.empty [] 0)) ((Zr p0.events r3).bind fun r6 => (getI p0.events r6).bind fun e8 => some e8)
instance Zfg (p0 : Y9k) (p1 : List Y9m) (p2 : Int) (p3 : Int) : Sp Tryz.prog 178 [C.agg [cI p0.room, cM Y9q 9 p0.events, cM Y9q 9 p0.parked], cM Y9s 3 p1, cI p2, cI p3] (Zff p0 p1 p2 p3) (fun r => C.agg [cI r.id, cI r.room, cI r.author, cI r.kind, cI r.key, cI r.n, C.str r.text, cM kI64 1 r.prev, cI r.time]) := Sp.of (so Tryz.func178 rfl rfl fun r X h => gh (.b .z (.r [0,0] [1,3,7] [8] [0,5,8,13,16,22,24,29,35] .z)))

def Zfh (p0 : Y9k) (p1 : List Y9m) (p2 : Int) : Option Int := (Zff p0 p1 2 p2).bind fun r2 => some r2.n
instance Zfi (p0 : Y9k) (p1 : List Y9m) (p2 : Int) : Sp Tryz.prog 108 [C.agg [cI p0.room, cM Y9q 9 p0.events, cM Y9q 9 p0.parked], cM Y9s 3 p1, cI p2] (Zfh p0 p1 p2) (fun r => cI r) := Sp.of (so Tryz.func108 rfl rfl fun r X h => gh .z)

def Zfj (p0 : Y9k) (p1 : List Y9m) (p2 : Int) : Option Int := (Zep p1 3 p2).bind fun r2 => cond (decide (r2 > 0)) ((Zff p0 p1 3 p2).bind fun r5 => some r5.n) ((Zff p0 p1 1 0).bind fun r7 => cond (r7.author == p2) (some 100) (some 0))
instance Zfk (p0 : Y9k) (p1 : List Y9m) (p2 : Int) : Sp Tryz.prog 101 [C.agg [cI p0.room, cM Y9q 9 p0.events, cM Y9q 9 p0.parked], cM Y9s 3 p1, cI p2] (Zfj p0 p1 p2) (fun r => cI r) := Sp.of (so Tryz.func101 rfl rfl fun r X h => gh .z)

def Zfl (p0 : Bool) : Option Int := cond p0 (some 11) (some 0)
instance Zfm (p0 : Bool) : Sp Tryz.prog 227 [C.bool p0] (Zfl p0) (fun r => cI r) := Sp.of (so Tryz.func227 rfl rfl fun r X h => gh .z)

def Zfn (x20 : Int) : Option Int := some x20
def Zfo (p3 : Int) (x4 : Bool) (x11 : Bool) : Option Int := cond (p3 == 3) ((Zfl true).bind fun r13 => Zfn r13) (cond x4 ((Zfl false).bind fun r16 => Zfn r16) ((Zfl (!x11)).bind fun r18 => Zfn r18))
def Zfp (p0 : Y9k) (p1 : List Y9m) (p2 : Y9j) (p3 : Int) (x4 : Bool) : Option Int := cond (p2.n == 1) ((Zff p0 p1 5 0).bind fun r6 => cond (r6.n == 1) (Zfo p3 x4 true) ((Zff p0 p1 1 0).bind fun r9 => Zfo p3 x4 (r9.author == p2.author))) (cond (p2.n == 2) ((Zfl (!x4)).bind fun r22 => some r22) (some 11))
def Zfq (p0 : Y9k) (p1 : List Y9m) (p2 : Y9j) (p3 : Int) : Option Int := cond (p3 == 1) (Zfp p0 p1 p2 p3 true) (Zfp p0 p1 p2 p3 (p3 == 4))
instance Zfr (p0 : Y9k) (p1 : List Y9m) (p2 : Y9j) (p3 : Int) : Sp Tryz.prog 225 [C.agg [cI p0.room, cM Y9q 9 p0.events, cM Y9q 9 p0.parked], cM Y9s 3 p1, C.agg [cI p2.id, cI p2.room, cI p2.author, cI p2.kind, cI p2.key, cI p2.n, C.str p2.text, cM kI64 1 p2.prev, cI p2.time], cI p3] (Zfq p0 p1 p2 p3) (fun r => cI r) := Sp.of (so Tryz.func225 rfl rfl fun r X h => gh (.q 1 (.c1 (fun x4 => .d [(9, C.bool x4)] []) [1,3,4,6] [1,0] .z (.b (.c1 (fun x11 => .d [(10, C.bool x11)] []) [3,9] [] (.r [0,0] [0,6,11] [] [1,4,10,12,16,20,25,28,40,45,34,36,48,52,56] .z) (.c1 (fun x20 => .d [(8, cI x20)] []) [] [] .z .z)) .z))))

def Zfs (x13 : Int) : Option Int := some x13
def Zft (x26 : Int) : Option Int := some x26
def Zfu (x36 : Int) : Option Int := some x36
def Zfv (p0 : Y9k) (p1 : List Y9m) (p2 : Y9j) (p3 : Int) : Option Int := (Zfh p0 p1 p2.key).bind fun r3 => (Zfj p0 p1 p2.key).bind fun r5 => cond (p2.n == 4) (cond (r3 == 1) ((Zfl true).bind fun r9 => Zfs r9) ((Zfl (r3 == 3)).bind fun r11 => Zfs r11)) (cond (p2.n == 2) (cond (decide (p3 < 50)) ((Zfl true).bind fun r16 => Zft r16) (cond (decide (p3 ≤ r5)) ((Zfl true).bind fun r19 => Zft r19) (cond (r3 == 0) ((Zfl true).bind fun r22 => Zft r22) ((Zfl (r3 == 2)).bind fun r24 => Zft r24)))) (cond (p2.n == 3) (cond (decide (p3 < 50)) ((Zfl true).bind fun r29 => Zfu r29) (cond (decide (p3 ≤ r5)) ((Zfl true).bind fun r32 => Zfu r32) ((Zfl (r3 == 3)).bind fun r34 => Zfu r34))) (some 11)))
instance Zfw (p0 : Y9k) (p1 : List Y9m) (p2 : Y9j) (p3 : Int) : Sp Tryz.prog 226 [C.agg [cI p0.room, cM Y9q 9 p0.events, cM Y9q 9 p0.parked], cM Y9s 3 p1, C.agg [cI p2.id, cI p2.room, cI p2.author, cI p2.kind, cI p2.key, cI p2.n, C.str p2.text, cM kI64 1 p2.prev, cI p2.time], cI p3] (Zfv p0 p1 p2 p3) (fun r => cI r) := Sp.of (so Tryz.func226 rfl rfl fun r X h => gh (.r [0,0] [0,3,5,8] [] [1,4,8,13,21,24,28,33,18,38,40,44] (.b (.c1 (fun x13 => .d [(8, cI x13)] []) [] [] .z .z) (.b (.c1 (fun x26 => .d [(8, cI x26)] []) [] [] .z .z) (.b (.c1 (fun x36 => .d [(8, cI x36)] []) [] [] .z .z) .z)))))

def Zfx (x35 : Int) : Option Int := some x35
def Zfy (x53 : Int) : Option Int := some x53
def Zfz (p0 : Y9k) (p2 : Y9j) (r10 : Int) (x38 : Bool) : Option Int := cond x38 ((Zfl (decide (r10 < 50))).bind fun r40 => some r40) (cond (p2.kind == 8) ((Zr p0.events p2.key).bind fun r43 => cond (decide (r43 < 0)) (some 6) (cond (decide (r10 < 50)) ((getI p0.events r43).bind fun e47 => (Zfl (e47.author != p2.author)).bind fun r49 => Zfy r49) ((Zfl false).bind fun r51 => Zfy r51))) (some 0))
def Zg0 (p0 : Y9k) (p1 : List Y9m) (p2 : Y9j) (r8 : Int) (r10 : Int) (x13 : Bool) : Option Int := cond x13 ((Zfq p0 p1 p2 r8).bind fun r15 => some r15) (cond (r8 != 1) (some 11) (cond (p2.kind == 2) ((Zfv p0 p1 p2 r10).bind fun r19 => some r19) (cond (p2.kind == 3) (cond (decide (r10 < 50)) ((Zfl true).bind fun r23 => Zfx r23) (cond (decide (p2.n > r10)) ((Zfl true).bind fun r26 => Zfx r26) (cond (p2.key != p2.author) ((Zfj p0 p1 p2.key).bind fun r29 => (Zfl (decide (r29 ≥ r10))).bind fun r31 => Zfx r31) ((Zfl false).bind fun r33 => Zfx r33)))) (cond (p2.kind == 4) (Zfz p0 p2 r10 (p2.kind == 4)) (cond (p2.kind == 5) (Zfz p0 p2 r10 (p2.kind == 5)) (Zfz p0 p2 r10 (p2.kind == 6)))))))
def Zg1 (p0 : Y9k) (p1 : List Y9m) (p2 : Y9j) : Option Int := (Zep p1 1 0).bind fun r3 => cond (p2.kind == 1) (cond (decide (r3 > 0)) (some 7) (some 0)) (cond (decide (r3 > 0)) ((Zfh p0 p1 p2.author).bind fun r8 => (Zfj p0 p1 p2.author).bind fun r10 => cond (p2.kind == 2) (Zg0 p0 p1 p2 r8 r10 (p2.key == p2.author)) (Zg0 p0 p1 p2 r8 r10 false)) (some 10))
instance Zg2 (p0 : Y9k) (p1 : List Y9m) (p2 : Y9j) : Sp Tryz.prog 168 [C.agg [cI p0.room, cM Y9q 9 p0.events, cM Y9q 9 p0.parked], cM Y9s 3 p1, C.agg [cI p2.id, cI p2.room, cI p2.author, cI p2.kind, cI p2.key, cI p2.n, C.str p2.text, cM kI64 1 p2.prev, cI p2.time]] (Zg1 p0 p1 p2) (fun r => cI r) := Sp.of (so Tryz.func168 rfl rfl fun r X h => gh (.b .z (.b (.r [0,0] [0,3,5,8] [] [1,4,8,13,21,24,28,33,18,38,40,44] (.q 1 (.c1 (fun x13 => .d [(39, C.bool x13)] []) [1,3,5,8,9] [1,0] .z (.b .z (.b .z (.b .z (.b (.c1 (fun x35 => .d [(6, cI x35)] []) [] [] .z .z) (.c1 (fun x38 => .d [(83, C.bool x38)] []) [3,5,9,48] [0,1] .z (.b .z (.b (.b .z (.c1 (fun x53 => .d [(6, cI x53)] []) [] [] (.r [0,0] [4,8,10] [] [0,4,8,12,17,20,24,28,33,36,41,44,48,54,56] .z) .z)) .z)))))))))) .z)))

def Zg3 (l249 : List Y9m) : Option (List Y9m) := some l249
def Zg4 (x218 : Int) (l247 : List Y9m) : Option ((List Y9m × Int) ⊕ ((List Y9m))) := some (.inl (l247, (IntKind.i64.wrap (x218 + 1))))
def Zg5 (p0 : Y9k) (l217 : List Y9m) (x218 : Int) (x230 : Int) (x231 : Int) (x232 : Int) (x233 : Int) (x234 : Int) (x235 : Int) (x236 : ByteArray) (l237 : List Int) (x238 : Int) : Option ((List Y9m × Int) ⊕ ((List Y9m))) := (Zg1 p0 l217 (Y9j.mk x230 x231 x232 x233 x234 x235 x236 l237 x238)).bind fun r239 => cond (r239 == 0) ((Zf7 l217 (Y9m.mk x233 x234 x230)).bind fun r242 => Zg4 x218 r242) (Zg4 x218 l217)
def Zg6 (p0 : Y9k) (l186 : List Int) (l217 : List Y9m) (x218 : Int) : Option ((List Y9m × Int) ⊕ ((List Y9m))) := cond (decide (x218 < (l186.length : Int))) ((getI l186 x218).bind fun e220 => (Zr p0.events e220).bind fun r222 => (getI p0.events r222).bind fun e225 => Zg5 p0 l217 x218 e225.id e225.room e225.author e225.kind e225.key e225.n e225.text e225.prev e225.time) (some (.inr l217))
def Zg7 (p0 : Y9k) (l95 : List Y9m) (l186 : List Int) : Option (List Y9m) := (iter (fun z251 => Zg6 p0 l186 z251.1 z251.2) big (l95, 0)).bind fun y252 => Zg3 y252
def Zg8 (l96 : List Int) (l141 : List Int) (x142 : Int) (x163 : Int) : Option ((List Int × Int) ⊕ ((List Int))) := (chk (decide ((0 : Int) ≤ x163 ∧ x163 ≤ (l141.length : Int)))).bind fun u166 => (chk (decide ((Int.toNat x163) ≤ l141.length))).bind fun u168 => (chk (decide ((([] : List Int).length + (List.take (Int.toNat x163) l141).length) * 8 ≤ 140737488355328))).bind fun u170 => (getI l96 x142).bind fun e172 => (chk (decide (((([] : List Int) ++ (List.take (Int.toNat x163) l141)).length + [e172].length) * 8 ≤ 140737488355328))).bind fun u176 => (chk (decide ((0 : Int) ≤ x163 ∧ x163 ≤ (l141.length : Int)))).bind fun u179 => (chk (decide ((Int.toNat x163) ≤ l141.length))).bind fun u181 => (chk (decide ((((([] : List Int) ++ (List.take (Int.toNat x163) l141)) ++ [e172]).length + (List.drop (Int.toNat x163) l141).length) * 8 ≤ 140737488355328))).bind fun u183 => some (.inl ((((([] : List Int) ++ (List.take (Int.toNat x163) l141)) ++ [e172]) ++ (List.drop (Int.toNat x163) l141)), (IntKind.i64.wrap (x142 + 1))))
def Zg9 (x153 : Int) (x161 : Bool) : Option (Int ⊕ (Int)) := cond x161 (some (.inl (IntKind.i64.wrap (x153 - 1)))) (some (.inr x153))
def Zga (p0 : Y9k) (p1 : List Int) (l96 : List Int) (l141 : List Int) (x142 : Int) (x153 : Int) : Option (Int ⊕ (Int)) := cond (decide (x153 > 0)) ((getI l96 x142).bind fun e155 => (getI l141 (IntKind.i64.wrap (x153 - 1))).bind fun e157 => (Zfd p0 p1 e155 e157).bind fun r159 => Zg9 x153 r159) (Zg9 x153 false)
def Zgb (p0 : Y9k) (p1 : List Int) (l96 : List Int) (l141 : List Int) (x142 : Int) : Option ((List Int × Int) ⊕ ((List Int))) := cond (decide (x142 < (l96.length : Int))) ((iter (Zga p0 p1 l96 l141 x142) big (l141.length : Int)).bind fun y253 => Zg8 l96 l141 x142 y253) (some (.inr l141))
def Zgc (p0 : Y9k) (p1 : List Int) (l95 : List Y9m) (l96 : List Int) : Option (List Y9m) := (iter (fun z254 => Zgb p0 p1 l96 z254.1 z254.2) big (([] : List Int), 0)).bind fun y255 => Zg7 p0 l95 y255
def Zgd (x51 : Int) (l92 : List Y9m) (l93 : List Int) : Option ((List Y9m × List Int × Int) ⊕ ((List Y9m × List Int))) := some (.inl (l92, l93, (IntKind.i64.wrap (x51 + 1))))
def Zge (x73 : Int) (l89 : List Y9m) (l90 : List Int) : Option ((List Y9m × List Int × Int) ⊕ ((List Y9m × List Int))) := some (.inl (l89, l90, (IntKind.i64.wrap (x73 + 1))))
def Zgf (p2 : List (List Y9m)) (x51 : Int) (l71 : List Y9m) (l72 : List Int) (x73 : Int) : Option ((List Y9m × List Int × Int) ⊕ ((List Y9m × List Int))) := (getI p2 x51).bind fun e74 => cond (decide (x73 < (e74.length : Int))) ((getI e74 x73).bind fun e77 => (Zet p2 e77).bind fun r79 => cond r79 ((Zf7 l71 e77).bind fun r82 => Zge x73 r82 l72) ((Zx l72 e77.id).bind fun r86 => Zge x73 l71 r86)) (some (.inr (l71, l72)))
def Zgg (p2 : List (List Y9m)) (l49 : List Y9m) (l50 : List Int) (x51 : Int) : Option ((List Y9m × List Int × Int) ⊕ ((List Y9m × List Int))) := cond (decide (x51 < (p2.length : Int))) ((iter (fun z256 => Zgf p2 x51 z256.1 z256.2.1 z256.2.2) big (l49, l50, 0)).bind fun (y257, y258) => Zgd x51 y257 y258) (some (.inr (l49, l50)))
def Zgh (p0 : Y9k) (p1 : List Int) (p2 : List (List Y9m)) : Option (List Y9m) := (iter (fun z259 => Zgg p2 z259.1 z259.2.1 z259.2.2) big (([] : List Y9m), ([] : List Int), 0)).bind fun (y260, y261) => Zgc p0 p1 y260 y261
instance Zgi (p0 : Y9k) (p1 : List Int) (p2 : List (List Y9m)) : SpO Tryz.prog 83 (Zgh p0 p1 p2) (.d [C.agg [cI p0.room, cM Y9q 9 p0.events, cM Y9q 9 p0.parked], cM kI64 1 p1, cM Y9t 1 p2] [] fun r => .x fun (v250 : Value) => .d (cV v250) [oA v250 96 Y9s 3 r]) := ⟨so Tryz.func83 rfl rfl fun r X h => gh (.q 3 (.c2 (fun l95 l96 => .x fun v94 => .d [(7, cV v94), (8, cM kI64 1 l96)] [oA v94 96 Y9s 3 l95]) [1,3] [2] (.l3 (fun l49 l50 x51 => .x fun v48 => .d [(7, cV v48), (8, cM kI64 1 l50), (9, cI x51)] [oA v48 96 Y9s 3 l49]) [1,2,3] [2] (.b (.c2 (fun l92 l93 => .x fun v91 => .d [(7, cV v91), (8, cM kI64 1 l93)] [oA v91 96 Y9s 3 l92]) [1,2,3,9] [1] (.l3 (fun l71 l72 x73 => .x fun v70 => .d [(7, cV v70), (8, cM kI64 1 l72), (10, cI x73)] [oA v70 96 Y9s 3 l71]) [1,2,3,9] [1] (.b (.c2 (fun l89 l90 => .x fun v88 => .d [(7, cV v88), (8, cM kI64 1 l90)] [oA v88 96 Y9s 3 l89]) [1,2,3,9,10] [1] (.b (.k .z) .z) .z) .z)) .z) .z)) (.q 1 (.c1 (fun l186 => .x fun v185 => .d [(11, cV v185)] [oA v185 2 kI64 1 l186]) [3,7] [2,1] (.l2 (fun l141 x142 => .x fun v140 => .d [(11, cV v140), (12, cI x142)] [oA v140 2 kI64 1 l141]) [1,3,7,8] [2,1] (.b (.q 2 (.c1 (fun x163 => .d [(13, cI x163)] []) [1,3,7,8,11,12] [1,2,0] (.l1 (fun x153 => .d [(13, cI x153)] []) [1,3,7,8,11,12] [1,2,0] (.q 1 (.c1 (fun x161 => .d [(86, C.bool x161)] []) [1,3,7,8,11,12,13] [0,1,2] (.r [0,0,0] [3,8,13] [] [0,4,8,13,16,20,24,28,33,36,40,44,48,53,58,60] .z) .z))) .z)) .z)) (.c1 (fun l249 => .x fun v248 => .d [(7, cV v248)] [oA v248 96 Y9s 3 l249]) [] [] (.l2 (fun l217 x218 => .x fun v216 => .d [(7, cV v216), (15, cI x218)] [oA v216 96 Y9s 3 l217]) [3,11] [1,0] (.b (.c1 (fun l247 => .x fun v246 => .d [(7, cV v246)] [oA v246 96 Y9s 3 l247]) [3,11,15] [1,2] (.c9 (fun x230 x231 x232 x233 x234 x235 x236 l237 x238 => .x fun b229 => .d [(16, pt b229)] [oB b229 42 [cI x230, cI x231, cI x232, cI x233, cI x234, cI x235, C.str x236, cM kI64 1 l237, cI x238]]) [3,7,11,15] [1,0,2] (.R [0,0,0] [1,3,7,10] [12] (.light 0 false (.light 1 true (.light 2 false (.light 3 true (.light 4 false (.light 5 false (.light 6 false (.light 7 true (.two 8 11 (.light 9 false (.light 10 true (.one 11 (.late 12 (.done))))) (.one 8 (.light 9 false (.light 10 true (.late 12 (.done)))))))))))))) (.H 87 .z)) (.b (.k .z) .z)) .z) .z)) .z)))))⟩
instance Zgi' (p0 : Y9k) (p1 : List Int) (p2 : List (List Y9m)) : Sp Tryz.prog 83 [C.agg [cI p0.room, cM Y9q 9 p0.events, cM Y9q 9 p0.parked], cM kI64 1 p1, cM Y9t 1 p2] (Zgh p0 p1 p2) (fun r => cM Y9s 3 r) := ⟨fun r h => Ok.freeze ((Zgi p0 p1 p2).h r h) (by rintro c qs ⟨v250, rfl, rfl⟩; exact Frz.arr)⟩

def Zgj (p0 : Y9k) (p1 : Int) : Option Y9j := (Zr p0.events p1).bind fun r3 => cond (decide (r3 < 0)) (some (Y9j.mk 0 0 0 0 0 0 ByteArray.empty [] 0)) ((getI p0.events r3).bind fun e6 => (Z39 e6).bind fun r8 => some r8)
instance Zgk (p0 : Y9k) (p1 : Int) : Sp Tryz.prog 93 [C.agg [cI p0.room, cM Y9q 9 p0.events, cM Y9q 9 p0.parked], cI p1] (Zgj p0 p1) (fun r => C.agg [cI r.id, cI r.room, cI r.author, cI r.kind, cI r.key, cI r.n, C.str r.text, cM kI64 1 r.prev, cI r.time]) := Sp.of (so Tryz.func93 rfl rfl fun r X h => gh .z)

def Zgl : Option Bool := some false
def Zgm (p0 : Y9k) (p1 : Int) (l35 : List Bool) (l37 : List Int) : Option ((List Bool × List Int) ⊕ (Bool ⊕ Unit)) := cond (decide ((l37.length : Int) > 0)) ((getI l37 0).bind fun e39 => (chk (decide ((0 : Int) ≤ 1 ∧ 1 ≤ (l37.length : Int)))).bind fun u42 => (Zr p0.events e39).bind fun r44 => cond (e39 == p1) (some (.inr (.inl true))) ((getI l35 r44).bind fun e47 => cond e47 (some (.inl (l35, (List.drop (Int.toNat 1) l37)))) ((getI p0.events r44).bind fun e50 => (chk (decide (((List.drop (Int.toNat 1) l37).length + e50.prev.length) * 8 ≤ 140737488355328))).bind fun u53 => some (.inl ((List.set l35 (Int.toNat r44) true), ((List.drop (Int.toNat 1) l37) ++ e50.prev)))))) (some (.inr (.inr ())))
def Zgn (p0 : Y9k) (p1 : Int) (p2 : Int) (x7 : Bool) : Option Bool := cond x7 (some false) ((chk (decide (0 ≤ (p0.events.length : Int) ∧ (p0.events.length : Int) * 1 ≤ 140737488355328))).bind fun u10 => (Zgj p0 p2).bind fun r13 => (chk (decide ((([] : List Int).length + r13.prev.length) * 8 ≤ 140737488355328))).bind fun u16 => (iter (fun z55 => Zgm p0 p1 z55.1 z55.2) big ((List.replicate (Int.toNat (p0.events.length : Int)) false), (([] : List Int) ++ r13.prev))).bind (fun z57 => match z57 with | .inl y56 => some y56 | .inr () => Zgl))
def Zgo (p0 : Y9k) (p1 : Int) (p2 : Int) : Option Bool := (Zr p0.events p1).bind fun r2 => cond (decide (r2 < 0)) (Zgn p0 p1 p2 true) ((Zr p0.events p2).bind fun r5 => Zgn p0 p1 p2 (decide (r5 < 0)))
instance Zgp (p0 : Y9k) (p1 : Int) (p2 : Int) : Sp Tryz.prog 169 [C.agg [cI p0.room, cM Y9q 9 p0.events, cM Y9q 9 p0.parked], cI p1, cI p2] (Zgo p0 p1 p2) C.bool := sp Tryz.func169 rfl rfl fun r X h => by
 unfold Zgo at h
 refine zw ?_
 refine ox fun b1 => ?_
 refine Ops.v rfl (Ys rfl rfl) ?_
 refine Ops.nil ?_
 refine AW.seq ?_
 refine AW.seq ?_
 refine AW.cut (τ := Bool) (fun x7 => ⟨[(1, cI p1), (2, cI p2), (3, pt b1), (22, C.bool x7)], [oB b1 25 [cI p0.room, cM Y9q 9 p0.events, cM Y9q 9 p0.parked]]⟩) (fun x7 => Zgn p0 p1 p2 x7 = some r) ?_ ?_
 ·
  refine zw ?_
  refine oc h fun r2 g3 h => ?_
  refine zw ?_
  refine cnd h (fun hb4 h => ?_) fun hb4 h => ?_
  ·
   refine zw ?_
   exact ⟨true, h, Y25.both (ns := [0]) rfl rfl⟩
  refine zw ?_
  refine gcl h rfl rfl rfl rfl hb4 inferInstance rfl rfl fun r5 g6 h => ?_
  refine zw ?_
  exact ⟨decide (r5 < 0), h, Y25.both (ns := [0]) rfl rfl⟩
 intro x7 h
 replace h : Zgn p0 p1 p2 x7 = some r := h
 unfold Zgn at h
 refine cnd h (fun hb8 h => ?_) fun hb8 h => ?_
 ·
  refine AW.ct hb8 rfl ?_
  refine zw ?_
  refine AW.ret ?_
  rw [← Wj h]
  exact finI ⟨[C.bool false], _, Y25.refl _, (.cons (.tmp rfl) .nil), [], _, _, rfl, ⟨rfl, rfl⟩⟩
 refine AW.cf hb8 rfl ?_
 refine zw ?_
 refine ob' h fun u10 c9 h => ?_
 refine Ops.h (ns := []) rfl rfl (mS (k := Y9w) (u := false) c9 Ycc ze_4 (Y4g rfl rfl)) ?_
 rintro _ _ ⟨b11, rfl, rfl⟩
 refine zw ?_
 refine Ops.h (ns := []) rfl rfl (Y3l (k := kI64) (ys := ([] : List Int)) Yai .nil rfl rfl rfl) ?_
 rintro _ _ ⟨b12, rfl, rfl⟩
 refine zw ?_
 refine oc h fun r13 g14 h => ?_
 refine Ops.v rfl (Y70 Ycd rfl rfl rfl) ?_
 refine ob' h fun u16 c15 h => ?_
 refine Ops.h (ns := [0]) rfl rfl (Y33 Yai rfl rfl (Wo (Y45 c15)) (Y49 (by decide) c15) rfl) ?_
 rintro _ _ ⟨v17, rfl, rfl⟩
 refine Ops.v rfl (Ys rfl rfl) ?_
 refine Ops.nil ?_
 refine AW.seq ?_
 refine AW.cut (τ := Unit) (fun (_ : Unit) => ⟨[], []⟩) (fun (_ : Unit) => Zgl = some r) ?_ ?_
 ·
  refine zw ?_
  refine ob' h fun o58 g59 q60 => ?_
  refine AW.loop (τ := List Bool × List Int × Value) (x := ((List.replicate (Int.toNat (p0.events.length : Int)) false), (([] : List Int) ++ r13.prev), v17)) (fun (l35, l37, v36) => ⟨[(1, cI p1), (3, pt b1), (7, cV (sn b11 (p0.events.length : Int))), (8, cV v36)], [oA (sn b11 (p0.events.length : Int)) 4 Y9w 1 l35, Obj.que v36 2 kI64 1 l37, oB b1 25 [cI p0.room, cM Y9q 9 p0.events, cM Y9q 9 p0.parked]]⟩) (fun k (l35, l37, v36) => iter (fun z55 => Zgm p0 p1 z55.1 z55.2) k (l35, l37) = some o58) g59 ((Y25.que (p := 0) rfl).trans (Y25.both (ns := [1, 0, 0]) rfl rfl)) ?_
  rintro k ⟨l35, l37, v36⟩ i62
  refine Y4f (show iter (fun z55 => Zgm p0 p1 z55.1 z55.2) k (l35, l37) = some o58 from i62) fun k61 y63 hlt_k61 h h64 => ?_
  replace h : Zgm p0 p1 l35 l37 = some y63 := h
  unfold Zgm at h
  refine zw ?_
  refine Ops.v rfl (Y7s (p := 1) Yaj.h rfl rfl rfl) ?_
  refine zw ?_
  refine cnd h (fun hb38 h => ?_) fun hb38 h => ?_
  ·
   refine AW.ct hb38 rfl ?_
   refine zw ?_
   refine ob' h fun e39 g40 h => ?_
   refine Ops.v rfl (Y7t (p := 1) Yaj.h rfl rfl rfl g40 rfl) ?_
   refine Ops.v rfl (Y7u (p := 1) ld_2.h rfl rfl (Y2f g40).2.2 rfl rfl) ?_
   refine zw ?_
   refine ob' h fun u42 c41 h => ?_
   refine Ops.h (ns := [1]) rfl rfl (Y7v (l := (Int.toNat 1)) Yaj.h rfl rfl (Wo (Y45 c41)) rfl rfl) ?_
   rintro _ _ ⟨v43, rfl, rfl⟩
   refine zw ?_
   refine oc h fun r44 g45 h => ?_
   refine zw ?_
   refine cnd h (fun hb46 h => ?_) fun hb46 h => ?_
   ·
    refine AW.ct hb46 rfl ?_
    refine zw ?_
    refine AW.ret ?_
    obtain rfl := Wj h
    obtain rfl := Wj h64
    replace h := q60
    rw [← Wj h]
    exact finI ⟨[C.bool true], _, Y25.refl _, (.cons (.tmp rfl) .nil), [], _, _, rfl, ⟨rfl, rfl⟩⟩
   refine AW.cf hb46 rfl ?_
   refine zw ?_
   refine ob' h fun e47 g48 h => ?_
   refine zw ?_
   refine cnd h (fun hb49 h => ?_) fun hb49 h => ?_
   ·
    refine AW.cond rfl (fun hn => absurd ((Y46 hb49).symm.trans hn) (by decide)) (fun _ => ?_)
    refine zw ?_
    obtain rfl := Wj h
    exact ⟨k61, (l35, (List.drop (Int.toNat 1) l37), v43), hlt_k61, h64, Y25.both (ns := [1, 0, 0]) rfl rfl⟩
   refine AW.cond rfl (fun _ => ?_) (fun hn => absurd ((Y47 hb49).symm.trans hn) (by decide))
   refine zw ?_
   refine Ops.hd (ns := [1]) rfl rfl (Y3f (e' := true) ld_4.h rfl rfl (One.val rfl) (Y2f g48).2.2 rfl rfl) ?_
   refine zw ?_
   refine oi h fun e50 g51 h => ?_
   refine zw ?_
   refine ob' h fun u53 c52 h => ?_
   refine Ops.h (ns := [1]) rfl rfl (Y7y Yai rfl rfl (Wo (Y45 c52)) (Y49 (by decide) c52) rfl) ?_
   rintro _ _ ⟨v54, rfl, rfl⟩
   refine zw ?_
   obtain rfl := Wj h
   exact ⟨k61, ((List.set l35 (Int.toNat r44) true), ((List.drop (Int.toNat 1) l37) ++ e50.prev), v54), hlt_k61, h64, Y25.both (ns := [1, 0, 0]) rfl rfl⟩
  refine AW.cf hb38 rfl ?_
  refine AW.exit ?_
  obtain rfl := Wj h
  obtain rfl := Wj h64
  replace h := q60
  exact ⟨(), h, Y25.both (ns := []) rfl rfl⟩
 rintro ⟨⟩ h
 replace h : Zgl = some r := h
 unfold Zgl at h
 refine zw ?_
 refine AW.ret ?_
 rw [← Wj h]
 exact finI ⟨[C.bool false], _, Y25.refl _, (.cons (.tmp rfl) .nil), [], _, _, rfl, ⟨rfl, rfl⟩⟩

end Go.Proofs.YtomachnjepgpbaaGreat
