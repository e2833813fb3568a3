/- Printed by gen.py: plain functions for Go functions, and that the walks keep to them. -/
import Derived.Test.YtnoknphekhclcaaGreatDoorEQ4
set_option autoImplicit false
set_option linter.unusedVariables false
set_option linter.unusedSimpArgs false
set_option maxHeartbeats 8000000
set_option maxRecDepth 100000
namespace Go.Proofs.YtnoknphekhclcaaGreatDoor
open Go Go.Abs
attribute [local irreducible] AW Ops OpsD Y3z VoK HoK GhF UsC Go.Abs.Fin PkK LenT LenL Y9f BldK FzK FzLK
def Zit (l27 : List Int) (x28 : Int) : Option (List Int) := (chk (decide ((0 : Int) ≤ x28 ∧ x28 ≤ (l27.length : Int)))).bind fun u30 => (chk (decide ((Int.toNat x28) ≤ l27.length))).bind fun u32 => (chk (decide ((0 : Int) ≤ x28 ∧ x28 ≤ ((List.take (Int.toNat x28) l27 ++ List.replicate (l27.length - (Int.toNat x28)) 0).length : Int)))).bind fun u34 => some (List.take (Int.toNat x28) (List.take (Int.toNat x28) l27 ++ List.replicate (l27.length - (Int.toNat x28)) 0))
def Ziu (x16 : Int) (l25 : List Int) (x26 : Int) : Option ((List Int × Int × Int) ⊕ ((List Int × Int))) := some (.inl (l25, x26, (IntKind.i64.wrap (x16 + 1))))
def Ziv (p1_0 : Y9t) (l14 : List Int) (x15 : Int) (x16 : Int) : Option ((List Int × Int × Int) ⊕ ((List Int × Int))) := cond (decide (x16 < (l14.length : Int))) ((getI l14 x16).bind fun e18 => (Zin e18 p1_0).bind fun r20 => cond r20 (Ziu x16 l14 x15) ((getI l14 x15).bind fun e23 => Ziu x16 (List.set l14 (Int.toNat x15) e18) (IntKind.i64.wrap (x15 + 1)))) (some (.inr (l14, x15)))
def Ziw (p0 : List Int) (p1_0 : Y9t) : Option (List Int) := (Zir p0 p1_0).bind fun r1 => cond (r1 == (-1)) (some p0) ((iter (fun z36 => Ziv p1_0 z36.1 z36.2.1 z36.2.2) big (p0, r1, (IntKind.i64.wrap (r1 + 1)))).bind fun (y37, y38) => Zit y37 y38)
theorem Zix {w00 : Value} {b01 : Nat} (p0 : List Int) (p1_0 : Y9t) (r : List Int) (h : Ziw p0 p1_0 = some r) : Ok Tryz.prog 245 [cV w00, C.clo 246 [pt b01]] [oA w00 2 kI64 1 p0, oB b01 82 [cI p1_0.id, cI p1_0.room, cI p1_0.author, cI p1_0.kind, cI p1_0.key, cI p1_0.n, C.str p1_0.text, cM kI64 1 p1_0.prev, cI p1_0.time]] (fun c qs => ∃ (v35 : Value), c = cV v35 ∧ qs = [oA v35 2 kI64 1 r, oB b01 82 [cI p1_0.id, cI p1_0.room, cI p1_0.author, cI p1_0.kind, cI p1_0.key, cI p1_0.n, C.str p1_0.text, cM kI64 1 p1_0.prev, cI p1_0.time]]) := by
 refine Ok.of_body (rs := [.tmp 4]) Tryz.func245 rfl rfl rfl rfl rfl fun X => ?_
 unfold Ziw at h
 refine zw ?_
 refine ob' h fun r1 g2 h => ?_
 refine Ops.hd (ns := [0, 0]) rfl rfl (Y28 ((Zis p0 p1_0).h _ _ _ g2) rfl rfl) ?_
 refine zw ?_
 refine cnd h (fun hb3 h => ?_) fun hb3 h => ?_
 ·
  refine AW.ct hb3 rfl ?_
  refine zw ?_
  refine AW.ret ?_
  rw [← Wj h]
  exact finI ⟨[cV w00], _, Y25.refl _, (.cons (.tmp rfl) .nil), [0, 0], _, _, rfl, ⟨w00, rfl, rfl⟩⟩
 refine AW.cf hb3 rfl ?_
 refine AW.skip ?_
 refine AW.seq ?_
 refine AW.cut (τ := List Int × Int) (fun (l27, x28) => ⟨[(0, cV w00), (5, cI x28)], [oA w00 2 kI64 1 l27, oB b01 82 [cI p1_0.id, cI p1_0.room, cI p1_0.author, cI p1_0.kind, cI p1_0.key, cI p1_0.n, C.str p1_0.text, cM kI64 1 p1_0.prev, cI p1_0.time]]⟩) (fun (l27, x28) => Zit l27 x28 = some r) ?_ ?_
 ·
  refine zw ?_
  refine ob' h fun o39 g40 q41 => ?_
  refine AW.loop (τ := List Int × Int × Int) (x := (p0, r1, (IntKind.i64.wrap (r1 + 1)))) (fun (l14, x15, x16) => ⟨[(0, cV w00), (1, C.clo 246 [pt b01]), (5, cI x15), (6, cI x16)], [oA w00 2 kI64 1 l14, oB b01 82 [cI p1_0.id, cI p1_0.room, cI p1_0.author, cI p1_0.kind, cI p1_0.key, cI p1_0.n, C.str p1_0.text, cM kI64 1 p1_0.prev, cI p1_0.time]]⟩) (fun k (l14, x15, x16) => iter (fun z36 => Ziv p1_0 z36.1 z36.2.1 z36.2.2) k (l14, x15, x16) = some o39) g40 (Y25.both (ns := [0, 0]) rfl rfl) ?_
  rintro k ⟨l14, x15, x16⟩ i43
  refine Y4d (show iter (fun z36 => Ziv p1_0 z36.1 z36.2.1 z36.2.2) k (l14, x15, x16) = some o39 from i43) fun k42 y44 hlt_k42 h h45 => ?_
  replace h : Ziv p1_0 l14 x15 x16 = some y44 := h
  unfold Ziv at h
  refine zw ?_
  refine cnd h (fun hb17 h => ?_) fun hb17 h => ?_
  ·
   refine AW.ct hb17 rfl ?_
   refine AW.skip ?_
   refine AW.seq ?_
   refine AW.cut (τ := List Int × Int) (fun (l25, x26) => ⟨[(0, cV w00), (1, C.clo 246 [pt b01]), (5, cI x26), (6, cI x16)], [oA w00 2 kI64 1 l25, oB b01 82 [cI p1_0.id, cI p1_0.room, cI p1_0.author, cI p1_0.kind, cI p1_0.key, cI p1_0.n, C.str p1_0.text, cM kI64 1 p1_0.prev, cI p1_0.time]]⟩) (fun (l25, x26) => Ziu x16 l25 x26 = some y44) ?_ ?_
   ·
    refine zw ?_
    refine oi h fun e18 g19 h => ?_
    refine zw ?_
    refine ob' h fun r20 g21 h => ?_
    refine Ops.hd (ns := [1]) rfl rfl (Y72 (cs := [_]) (ds := [_]) rfl ((Zio e18 p1_0).h _ _ g21) rfl rfl) ?_
    refine zw ?_
    refine cnd h (fun hb22 h => ?_) fun hb22 h => ?_
    ·
     refine AW.cond rfl (fun hn => absurd ((Y46 hb22).symm.trans hn) (by decide)) (fun _ => ?_)
     refine zw ?_
     exact ⟨(l14, x15), h, Y25.both (ns := [1, 0]) rfl rfl⟩
    refine AW.cond rfl (fun _ => ?_) (fun hn => absurd ((Y47 hb22).symm.trans hn) (by decide))
    refine zw ?_
    refine ob' h fun e23 g24 h => ?_
    refine zw ?_
    refine Ops.hd (ns := [1]) rfl rfl (Y3f (e' := e18) ld_2.h rfl rfl (One.val rfl) (Y2f g24).2.2 rfl rfl) ?_
    refine zw ?_
    exact ⟨((List.set l14 (Int.toNat x15) e18), (IntKind.i64.wrap (x15 + 1))), h, Y25.both (ns := [0, 0]) rfl rfl⟩
   rintro ⟨l25, x26⟩ h
   replace h : Ziu x16 l25 x26 = some y44 := h
   unfold Ziu at h
   refine zw ?_
   obtain rfl := Wj h
   exact ⟨k42, (l25, x26, (IntKind.i64.wrap (x16 + 1))), hlt_k42, h45, Y25.both (ns := [0, 0]) rfl rfl⟩
  refine AW.cf hb17 rfl ?_
  refine AW.exit ?_
  obtain rfl := Wj h
  obtain rfl := Wj h45
  replace h := q41
  exact ⟨(l14, x15), h, Y25.both (ns := [0, 0]) rfl rfl⟩
 rintro ⟨l27, x28⟩ h
 replace h : Zit l27 x28 = some r := h
 unfold Zit at h
 refine zw ?_
 refine ob' h fun u30 c29 h => ?_
 refine Ops.v rfl (Y7g (p := 0) (l := (Int.toNat x28)) Yav.h rfl rfl rfl (Wo (Y45 c29)) rfl rfl) ?_
 refine ob' h fun u32 c31 h => ?_
 refine Ops.hd (ns := [0]) rfl rfl (Y7o (z := 0) Ybf ze_2 (Y4e rfl rfl) rfl (Wo (Y45 c31))) ?_
 refine zw ?_
 refine ob' h fun u34 c33 h => ?_
 refine Ops.v rfl (Y7h (p := 0) (l := (Int.toNat x28)) Yav.h rfl rfl rfl (Wo (Y45 c33)) rfl rfl) ?_
 refine zw ?_
 refine AW.ret ?_
 rw [← Wj h]
 exact finI ⟨[cV (Y7e w00 (Int.toNat x28))], _, Y25.prefix (p := 0) (h := (Int.toNat x28)) rfl (Int.le_toNat_len c33), (.cons (.tmp rfl) .nil), [0, 0], _, _, rfl, ⟨(Y7e w00 (Int.toNat x28)), rfl, rfl⟩⟩
instance Ziy (p0 : List Int) (p1_0 : Y9t) : SpO Tryz.prog 245 (Ziw p0 p1_0) (.x fun (w00 : Value) => .x fun (b01 : Nat) => .d [cV w00, C.clo 246 [pt b01]] [oA w00 2 kI64 1 p0, oB b01 82 [cI p1_0.id, cI p1_0.room, cI p1_0.author, cI p1_0.kind, cI p1_0.key, cI p1_0.n, C.str p1_0.text, cM kI64 1 p1_0.prev, cI p1_0.time]] fun r => .x fun (v35 : Value) => .d (cV v35) [oA v35 2 kI64 1 r, oB b01 82 [cI p1_0.id, cI p1_0.room, cI p1_0.author, cI p1_0.kind, cI p1_0.key, cI p1_0.n, C.str p1_0.text, cM kI64 1 p1_0.prev, cI p1_0.time]]) := ⟨fun w00 b01 r h => Zix p0 p1_0 r h⟩

def Ziz (l29 : List Int) : Option (List Int) := some l29
def Zj0 (p0 : Ya4) (p1 : List Int) (l17 : List Int) (x18 : Int) : Option ((List Int × Int) ⊕ ((List Int))) := cond (decide (x18 < (p1.length : Int))) ((getI p1 x18).bind fun e20 => (Zdj p0.graph e20).bind fun r22 => (Ziw l17 r22.1).bind fun r25 => some (.inl (r25, (IntKind.i64.wrap (x18 + 1))))) (some (.inr l17))
def Zj1 (p0 : Ya4) (p1 : List Int) : Option (List Int) := (Zg5 p1).bind fun r1 => (Zil r1).bind fun r4 => (iter (fun z31 => Zj0 p0 p1 z31.1 z31.2) big (r4, 0)).bind fun y32 => Ziz y32
instance Zj2 (p0 : Ya4) (p1 : List Int) : SpO Tryz.prog 229 (Zj1 p0 p1) (.d [C.ip [cI p0.graph.room, cM Ya6 9 p0.graph.events, cM Ya6 9 p0.graph.parked, C.imap .i64 Yal p0.depth, C.imap .i64 Yam p0.before, C.imap .i64 Yam p0.after, C.imap .i64 Yal p0.refused], cM kI64 1 p1] [] fun r => .x fun (v30 : Value) => .d (cV v30) [oA v30 2 kI64 1 r]) := ⟨so Tryz.func229 rfl rfl fun r X h => gh (.k (.k (.c1 (fun l29 => .x fun v28 => .d [(5, cV v28)] [oA v28 2 kI64 1 l29]) [] [] (.l2 (fun l17 x18 => .x fun v16 => .d [(5, cV v16), (15, cI x18)] [oA v16 2 kI64 1 l17]) [0,13,14] [] .z) .z)))⟩
instance Zj2' (p0 : Ya4) (p1 : List Int) : Sp Tryz.prog 229 [C.ip [cI p0.graph.room, cM Ya6 9 p0.graph.events, cM Ya6 9 p0.graph.parked, C.imap .i64 Yal p0.depth, C.imap .i64 Yam p0.before, C.imap .i64 Yam p0.after, C.imap .i64 Yal p0.refused], cM kI64 1 p1] (Zj1 p0 p1) (fun r => cM kI64 1 r) := ⟨fun r h => Ok.freeze ((Zj2 p0 p1).h r h) (by rintro c qs ⟨v30, rfl, rfl⟩; exact Frz.arr)⟩

def Zj3 (p0 : Ya4) : Option (List Int) := (Zgr p0).bind fun r1 => (Zj1 p0 r1).bind fun r3 => some r3
instance Zj4 (p0 : Ya4) : Sp Tryz.prog 205 [C.ip [cI p0.graph.room, cM Ya6 9 p0.graph.events, cM Ya6 9 p0.graph.parked, C.imap .i64 Yal p0.depth, C.imap .i64 Yam p0.before, C.imap .i64 Yam p0.after, C.imap .i64 Yal p0.refused]] (Zj3 p0) (fun r => cM kI64 1 r) := Sp.of (so Tryz.func205 rfl rfl fun r X h => gh .z)

def Zj5 (l20 : List (List Ya0)) : Option (List (List Ya0)) := some l20
def Zj6 (p0 : Ya4) (p1 : List Int) (l10 : List (List Ya0)) (x11 : Int) : Option ((List (List Ya0) × Int) ⊕ ((List (List Ya0)))) := cond (decide (x11 < (p1.length : Int))) ((getI p1 x11).bind fun e13 => (chk (decide ((l10.length + [(Option.getD (mget p0.after e13) ([] : List Ya0))].length) * 24 ≤ 140737488355328))).bind fun u17 => some (.inl ((l10 ++ [(Option.getD (mget p0.after e13) ([] : List Ya0))]), (IntKind.i64.wrap (x11 + 1))))) (some (.inr l10))
def Zj7 (p0 : Ya4) (p1 : List Int) : Option (List (List Ya0)) := (iter (fun z22 => Zj6 p0 p1 z22.1 z22.2) big (([] : List (List Ya0)), 0)).bind fun y23 => Zj5 y23
instance Zj8 (p0 : Ya4) (p1 : List Int) : SpO Tryz.prog 152 (Zj7 p0 p1) (.d [C.ip [cI p0.graph.room, cM Ya6 9 p0.graph.events, cM Ya6 9 p0.graph.parked, C.imap .i64 Yal p0.depth, C.imap .i64 Yam p0.before, C.imap .i64 Yam p0.after, C.imap .i64 Yal p0.refused], cM kI64 1 p1] [] fun r => .x fun (v21 : Value) => .d (cV v21) [oA v21 159 Yag 1 r]) := ⟨so Tryz.func152 rfl rfl fun r X h => gh (.q 2 (.c1 (fun l20 => .x fun v19 => .d [(5, cV v19)] [oA v19 159 Yag 1 l20]) [] [] (.l2 (fun l10 x11 => .x fun v9 => .d [(5, cV v9), (11, cI x11)] [oA v9 159 Yag 1 l10]) [0,9,10] [] .z) .z))⟩
instance Zj8' (p0 : Ya4) (p1 : List Int) : Sp Tryz.prog 152 [C.ip [cI p0.graph.room, cM Ya6 9 p0.graph.events, cM Ya6 9 p0.graph.parked, C.imap .i64 Yal p0.depth, C.imap .i64 Yam p0.before, C.imap .i64 Yam p0.after, C.imap .i64 Yal p0.refused], cM kI64 1 p1] (Zj7 p0 p1) (fun r => cM Yag 1 r) := ⟨fun r h => Ok.freeze ((Zj8 p0 p1).h r h) (by rintro c qs ⟨v21, rfl, rfl⟩; exact Frz.arr)⟩

def Zj9 (l205 : List Ya0) : Option (List Ya0) := some l205
def Zja (x194 : Int) (l204 : List Ya0) : Option ((List Ya0 × Int) ⊕ ((List Ya0))) := some (.inl (l204, (IntKind.i64.wrap (x194 + 1))))
def Zjb (p0 : Ya4) (r176 : List Y9t) (l193 : List Ya0) (x194 : Int) : Option ((List Ya0 × Int) ⊕ ((List Ya0))) := cond (decide (x194 < (r176.length : Int))) ((getI r176 x194).bind fun e196 => (Zf1 p0.graph l193 e196).bind fun r199 => cond (r199 == 0) ((Zfd l193 (Ya0.mk e196.kind e196.key e196.id)).bind fun r202 => Zja x194 r202) (Zja x194 l193)) (some (.inr l193))
def Zjc (p0 : Ya4) (l37 : List Ya0) (l175 : List Y9t) : Option (List Ya0) := (Y87 (fun z1 z2 => Zfn z1 z2 p0) l175).bind fun r176 => (iter (fun z206 => Zjb p0 r176 z206.1 z206.2) big (l37, 0)).bind fun y207 => Zj9 y207
def Zjd (x113 : Int) (l172 : List Y9t) (m173 : List (Int × Bool)) : Option ((List Y9t × (List (Int × Bool)) × Int) ⊕ ((List Y9t))) := some (.inl (l172, m173, (IntKind.i64.wrap (x113 + 1))))
def Zje (x145 : Int) (l169 : List Y9t) (m170 : List (Int × Bool)) : Option ((List Y9t × (List (Int × Bool)) × Int) ⊕ ((List Y9t × (List (Int × Bool))))) := some (.inl (l169, m170, (IntKind.i64.wrap (x145 + 1))))
def Zjf (l143 : List Y9t) (m144 : List (Int × Bool)) (x145 : Int) (e147 : Ya0) (x155 : Int) (x156 : Int) (x157 : Int) (x158 : Int) (x159 : Int) (x160 : Int) (x161 : ByteArray) (l162 : List Int) (x163 : Int) : Option ((List Y9t × (List (Int × Bool)) × Int) ⊕ ((List Y9t × (List (Int × Bool))))) := (chk (decide ((l143.length + [(Y9t.mk x155 x156 x157 x158 x159 x160 x161 l162 x163)].length) * 96 ≤ 140737488355328))).bind fun u166 => Zje x145 (l143 ++ [(Y9t.mk x155 x156 x157 x158 x159 x160 x161 l162 x163)]) (mset m144 e147.id true)
def Zjg (p0 : Ya4) (e115 : List Ya0) (l143 : List Y9t) (m144 : List (Int × Bool)) (x145 : Int) : Option ((List Y9t × (List (Int × Bool)) × Int) ⊕ ((List Y9t × (List (Int × Bool))))) := cond (decide (x145 < (e115.length : Int))) ((getI e115 x145).bind fun e147 => cond (Option.getD (mget m144 e147.id) false) (Zje x145 l143 m144) ((Zdj p0.graph e147.id).bind fun r151 => Zjf l143 m144 x145 e147 r151.1.id r151.1.room r151.1.author r151.1.kind r151.1.key r151.1.n r151.1.text r151.1.prev r151.1.time)) (some (.inr (l143, m144)))
def Zjh (p0 : Ya4) (p1 : List (List Ya0)) (l111 : List Y9t) (m112 : List (Int × Bool)) (x113 : Int) : Option ((List Y9t × (List (Int × Bool)) × Int) ⊕ ((List Y9t))) := cond (decide (x113 < (p1.length : Int))) ((getI p1 x113).bind fun e115 => (iter (fun z208 => Zjg p0 e115 z208.1 z208.2.1 z208.2.2) big (l111, m112, 0)).bind fun (y209, y210) => Zjd x113 y209 y210) (some (.inr l111))
def Zji (p0 : Ya4) (p1 : List (List Ya0)) (l37 : List Ya0) (m49 : List (Int × Bool)) : Option (List Ya0) := (iter (fun z211 => Zjh p0 p1 z211.1 z211.2.1 z211.2.2) big (([] : List Y9t), m49, 0)).bind fun y212 => Zjc p0 l37 y212
def Zjj (l37 : List Ya0) (m43 : List (Int × Bool)) (x44 : Int) : Option (((List (Int × Bool)) × Int) ⊕ ((List (Int × Bool)))) := cond (decide (x44 < (l37.length : Int))) ((getI l37 x44).bind fun e46 => some (.inl ((mset m43 e46.id true), (IntKind.i64.wrap (x44 + 1))))) (some (.inr m43))
def Zjk (p0 : Ya4) (p1 : List (List Ya0)) (l37 : List Ya0) : Option (List Ya0) := (iter (fun z213 => Zjj l37 z213.1 z213.2) big (([] : List (Int × Bool)), 0)).bind fun y214 => Zji p0 p1 l37 y214
def Zjl (x22 : Int) (l35 : List Ya0) : Option ((List Ya0 × Int) ⊕ ((List Ya0))) := some (.inl (l35, (IntKind.i64.wrap (x22 + 1))))
def Zjm (p1 : List (List Ya0)) (e5 : List Ya0) (l21 : List Ya0) (x22 : Int) : Option ((List Ya0 × Int) ⊕ ((List Ya0))) := cond (decide (x22 < (e5.length : Int))) ((getI e5 x22).bind fun e24 => (Zfl p1 e24).bind fun r27 => cond r27 (Zjl x22 l21) ((chk (decide ((l21.length + [e24].length) * 24 ≤ 140737488355328))).bind fun u32 => Zjl x22 (l21 ++ [e24]))) (some (.inr l21))
def Zjn (p0 : Ya4) (p1 : List (List Ya0)) : Option (List Ya0) := cond (decide ((p1.length : Int) > 0)) ((getI p1 0).bind fun e5 => (iter (fun z215 => Zjm p1 e5 z215.1 z215.2) big (([] : List Ya0), 0)).bind fun y216 => Zjk p0 p1 y216) (Zjk p0 p1 ([] : List Ya0))
instance Zjo (p0 : Ya4) (p1 : List (List Ya0)) : Sp Tryz.prog 151 [C.ip [cI p0.graph.room, cM Ya6 9 p0.graph.events, cM Ya6 9 p0.graph.parked, C.imap .i64 Yal p0.depth, C.imap .i64 Yam p0.before, C.imap .i64 Yam p0.after, C.imap .i64 Yal p0.refused], cM Yag 1 p1] (Zjn p0 p1) (fun r => cM Yaf 3 r) := Sp.of (so Tryz.func151 rfl rfl fun r X h => gh (.q 2 (.c1 (fun l37 => .x fun v36 => .d [(5, cV v36)] [oA v36 194 Yaf 3 l37]) [1,2,6] [2,0] (.b (.l2 (fun l21 x22 => .x fun v20 => .d [(5, cV v20), (29, cI x22)] [oA v20 194 Yaf 3 l21]) [1,2,6,27,28] [2,0] (.b (.c1 (fun l35 => .x fun v34 => .d [(5, cV v34)] [oA v34 194 Yaf 3 l35]) [1,2,6,27,28,29] [1,2] .z .z) .z)) .z) (.q 1 (.o 0 fun b38 => .c1 (fun m49 => .d [] [Abs.Obj.map b38 .i64 Yan m49]) [1,2,5,6,9] [2,1,3] (.O 0 fun b38 => .l2 (fun m43 x44 => .d [(45, cI x44)] [Abs.Obj.map b38 .i64 Yan m43]) [1,2,5,6,9,43,44] [2,1,3] .z) (.c1 (fun l175 => .x fun v174 => .d [(6, cV v174)] [oA v174 82 Ya6 9 l175]) [2,5] [1,2] (.O 0 fun b38 => .l3 (fun l111 m112 x113 => .x fun v110 => .d [(6, cV v110), (55, cI x113)] [oA v110 82 Ya6 9 l111, Abs.Obj.map b38 .i64 Yan m112]) [2,5,9,53,54] [1,2] (.b (.o 1 fun b38 => .c2 (fun l172 m173 => .x fun v171 => .d [(6, cV v171)] [oA v171 82 Ya6 9 l172, Abs.Obj.map b38 .i64 Yan m173]) [2,5,9,53,54,55] [2,3] (.O 1 fun b38 => .l3 (fun l143 m144 x145 => .x fun v142 => .d [(6, cV v142), (61, cI x145)] [oA v142 82 Ya6 9 l143, Abs.Obj.map b38 .i64 Yan m144]) [2,5,9,53,54,55,59,60] [2,3] (.b (.o 1 fun b38 => .c2 (fun l169 m170 => .x fun v168 => .d [(6, cV v168)] [oA v168 82 Ya6 9 l169, Abs.Obj.map b38 .i64 Yan m170]) [2,5,9,53,54,55,59,60,61] [2,3] (.b .z (.q 1 (.c9 (fun x155 x156 x157 x158 x159 x160 x161 l162 x163 => .x fun b154 => .d [(16, pt b154)] [oB b154 82 [cI x155, cI x156, cI x157, cI x158, cI x159, cI x160, C.str x161, cM kI64 1 l162, cI x163]]) [2,5,6,9,53,54,55,59,60,61] [3,4,2,0] (.R [0,0,0,0,0] [0,3,5] [11] (.light 0 true (.light 1 false (.light 2 false (.light 3 true (.light 4 false (.light 5 true (.two 6 10 (.light 7 false (.light 8 false (.light 9 false (.one 10 (.late 11 (.light 12 false .done)))))) (.one 6 (.light 7 false (.light 8 false (.light 9 false (.late 11 (.light 12 false .done))))))))))))) (.H 81 .z)) .z))) .z) .z)) .z) .z)) (.q 1 (.c1 (fun l205 => .d [(5, cM Yaf 3 l205)] []) [] [] (.l2 (fun l193 x194 => .d [(5, cM Yaf 3 l193), (94, cI x194)] []) [2,92,93] [1,0] (.b (.c1 (fun l204 => .d [(5, cM Yaf 3 l204)] []) [2,92,93,94] [0,1] (.r [0,0,0] [0,3,5] [] [1,4,8,13,16,21,26,28] .z) .z) .z)) .z))))))))

def Zjp (p0 : Ya4) : Option (List Ya0) := (Zj3 p0).bind fun r1 => (Zj7 p0 r1).bind fun r3 => (Zjn p0 r3).bind fun r5 => some r5
instance Zjq (p0 : Ya4) : Sp Tryz.prog 160 [C.ip [cI p0.graph.room, cM Ya6 9 p0.graph.events, cM Ya6 9 p0.graph.parked, C.imap .i64 Yal p0.depth, C.imap .i64 Yam p0.before, C.imap .i64 Yam p0.after, C.imap .i64 Yal p0.refused]] (Zjp p0) (fun r => cM Yaf 3 r) := Sp.of (so Tryz.func160 rfl rfl fun r X h => gh .z)

def Zjr (p0 : Y9t) : Option Y9t := (Zg5 p0.prev).bind fun r3 => some (Y9t.mk p0.id p0.room p0.author p0.kind p0.key p0.n p0.text r3 p0.time)
instance Zjs (p0 : Y9t) : Sp Tryz.prog 127 [C.agg [cI p0.id, cI p0.room, cI p0.author, cI p0.kind, cI p0.key, cI p0.n, C.str p0.text, cM kI64 1 p0.prev, cI p0.time]] (Zjr p0) (fun r => C.agg [cI r.id, cI r.room, cI r.author, cI r.kind, cI r.key, cI r.n, C.str r.text, cM kI64 1 r.prev, cI r.time]) := Sp.of (so Tryz.func127 rfl rfl fun r X h => gh .z)

def Zjt (x3 : Bool) : Option Bool := some x3
def Zju (p0 : Ya3) (q0 : Y9w) : Option Bool := cond (p0.event.kind != 7) (Zjt true) (Zjt (p0.event.author == q0.user))
instance Zjv (p0 : Ya3) (q0 : Y9w) : SpO Tryz.prog 96 (Zju p0 q0) (.x fun (b00 : Nat) => .d [C.agg [cI p0.event.id, cI p0.event.room, cI p0.event.author, cI p0.event.kind, cI p0.event.key, cI p0.event.n, C.str p0.event.text, cM kI64 1 p0.event.prev, cI p0.event.time, C.bool p0.hidden], pt b00] [oB b00 49 [cI q0.user, cM kI64 1 q0.at_]] fun r => .d (C.bool r) [oB b00 49 [cI q0.user, cM kI64 1 q0.at_]]) := ⟨fun b00 => so Tryz.func96 rfl rfl fun r X h => gh (.q 1 (.c1 (fun x3 => .d [(3, C.bool x3)] []) [] [1] .z .z))⟩

def Zjw : Option Int := some (-1)
def Zjx (p0 : List Ya3) (p1_0 : Y9w) (x7 : Int) : Option (Int ⊕ (Int ⊕ Unit)) := cond (decide (x7 < (p0.length : Int))) ((getI p0 x7).bind fun e9 => (Zju e9 p1_0).bind fun r11 => cond r11 (some (.inr (.inl x7))) (some (.inl (IntKind.i64.wrap (x7 + 1))))) (some (.inr (.inr ())))
def Zjy (p0 : List Ya3) (p1_0 : Y9w) : Option Int := (iter (Zjx p0 p1_0) big 0).bind (fun z15 => match z15 with | .inl y14 => some y14 | .inr () => Zjw)
instance Zjz (p0 : List Ya3) (p1_0 : Y9w) : SpO Tryz.prog 130 (Zjy p0 p1_0) (.x fun (w00 : Value) => .x fun (b01 : Nat) => .d [cV w00, C.clo 96 [pt b01]] [oA w00 92 Yaq 10 p0, oB b01 49 [cI p1_0.user, cM kI64 1 p1_0.at_]] fun r => .d (cI r) [oA w00 92 Yaq 10 p0, oB b01 49 [cI p1_0.user, cM kI64 1 p1_0.at_]]) := ⟨fun w00 b01 => so Tryz.func130 rfl rfl fun r X h => gh (.q 1 (.c0 (.d [] []) [] [0,1] (.l1 (fun x7 => .d [(8, cI x7)] []) [0,1,7] [0,1] .z) .z))⟩

def Zk0 (l29 : List Ya3) (x30 : Int) : Option (List Ya3) := (chk (decide ((0 : Int) ≤ x30 ∧ x30 ≤ (l29.length : Int)))).bind fun u32 => (chk (decide ((Int.toNat x30) ≤ l29.length))).bind fun u34 => (chk (decide ((0 : Int) ≤ x30 ∧ x30 ≤ ((List.take (Int.toNat x30) l29 ++ List.replicate (l29.length - (Int.toNat x30)) (Ya3.mk (Y9t.mk 0 0 0 0 0 0 ByteArray.empty [] 0) false)).length : Int)))).bind fun u36 => some (List.take (Int.toNat x30) (List.take (Int.toNat x30) l29 ++ List.replicate (l29.length - (Int.toNat x30)) (Ya3.mk (Y9t.mk 0 0 0 0 0 0 ByteArray.empty [] 0) false)))
def Zk1 (x17 : Int) (l27 : List Ya3) (x28 : Int) : Option ((List Ya3 × Int × Int) ⊕ ((List Ya3 × Int))) := some (.inl (l27, x28, (IntKind.i64.wrap (x17 + 1))))
def Zk2 (p1_0 : Y9w) (l15 : List Ya3) (x16 : Int) (x17 : Int) : Option ((List Ya3 × Int × Int) ⊕ ((List Ya3 × Int))) := cond (decide (x17 < (l15.length : Int))) ((getI l15 x17).bind fun e19 => (Zju e19 p1_0).bind fun r22 => cond r22 (Zk1 x17 l15 x16) ((getI l15 x16).bind fun e25 => Zk1 x17 (List.set l15 (Int.toNat x16) e19) (IntKind.i64.wrap (x16 + 1)))) (some (.inr (l15, x16)))
def Zk3 (p0 : List Ya3) (p1_0 : Y9w) : Option (List Ya3) := (Zjy p0 p1_0).bind fun r1 => cond (r1 == (-1)) (some p0) ((iter (fun z38 => Zk2 p1_0 z38.1 z38.2.1 z38.2.2) big (p0, r1, (IntKind.i64.wrap (r1 + 1)))).bind fun (y39, y40) => Zk0 y39 y40)
theorem Zk4 {w00 : Value} {b01 : Nat} (p0 : List Ya3) (p1_0 : Y9w) (r : List Ya3) (h : Zk3 p0 p1_0 = some r) : Ok Tryz.prog 95 [cV w00, C.clo 96 [pt b01]] [oA w00 92 Yaq 10 p0, oB b01 49 [cI p1_0.user, cM kI64 1 p1_0.at_]] (fun c qs => ∃ (v37 : Value), c = cV v37 ∧ qs = [oA v37 92 Yaq 10 r, oB b01 49 [cI p1_0.user, cM kI64 1 p1_0.at_]]) := by
 refine Ok.of_body (rs := [.tmp 4]) Tryz.func95 rfl rfl rfl rfl rfl fun X => ?_
 unfold Zk3 at h
 refine zw ?_
 refine ob' h fun r1 g2 h => ?_
 refine Ops.hd (ns := [0, 0]) rfl rfl (Y28 ((Zjz p0 p1_0).h _ _ _ g2) rfl rfl) ?_
 refine zw ?_
 refine cnd h (fun hb3 h => ?_) fun hb3 h => ?_
 ·
  refine AW.ct hb3 rfl ?_
  refine zw ?_
  refine AW.ret ?_
  rw [← Wj h]
  exact finI ⟨[cV w00], _, Y25.refl _, (.cons (.tmp rfl) .nil), [0, 0], _, _, rfl, ⟨w00, rfl, rfl⟩⟩
 refine AW.cf hb3 rfl ?_
 refine AW.skip ?_
 refine AW.seq ?_
 refine AW.cut (τ := List Ya3 × Int) (fun (l29, x30) => ⟨[(0, cV w00), (5, cI x30)], [oA w00 92 Yaq 10 l29, oB b01 49 [cI p1_0.user, cM kI64 1 p1_0.at_]]⟩) (fun (l29, x30) => Zk0 l29 x30 = some r) ?_ ?_
 ·
  refine zw ?_
  refine ob' h fun o41 g42 q43 => ?_
  refine AW.loop (τ := List Ya3 × Int × Int) (x := (p0, r1, (IntKind.i64.wrap (r1 + 1)))) (fun (l15, x16, x17) => ⟨[(0, cV w00), (1, C.clo 96 [pt b01]), (5, cI x16), (6, cI x17)], [oA w00 92 Yaq 10 l15, oB b01 49 [cI p1_0.user, cM kI64 1 p1_0.at_]]⟩) (fun k (l15, x16, x17) => iter (fun z38 => Zk2 p1_0 z38.1 z38.2.1 z38.2.2) k (l15, x16, x17) = some o41) g42 (Y25.both (ns := [0, 0]) rfl rfl) ?_
  rintro k ⟨l15, x16, x17⟩ i45
  refine Y4d (show iter (fun z38 => Zk2 p1_0 z38.1 z38.2.1 z38.2.2) k (l15, x16, x17) = some o41 from i45) fun k44 y46 hlt_k44 h h47 => ?_
  replace h : Zk2 p1_0 l15 x16 x17 = some y46 := h
  unfold Zk2 at h
  refine zw ?_
  refine cnd h (fun hb18 h => ?_) fun hb18 h => ?_
  ·
   refine AW.ct hb18 rfl ?_
   refine AW.skip ?_
   refine AW.seq ?_
   refine AW.cut (τ := List Ya3 × Int) (fun (l27, x28) => ⟨[(0, cV w00), (1, C.clo 96 [pt b01]), (5, cI x28), (6, cI x17)], [oA w00 92 Yaq 10 l27, oB b01 49 [cI p1_0.user, cM kI64 1 p1_0.at_]]⟩) (fun (l27, x28) => Zk1 x17 l27 x28 = some y46) ?_ ?_
   ·
    refine zw ?_
    refine oi h fun e19 g20 h => ?_
    refine zw ?_
    refine al fun b21 => ?_
    refine zw ?_
    refine ob' h fun r22 g23 h => ?_
    refine Ops.hd (ns := [2]) rfl rfl (Y72 (cs := [_]) (ds := [_]) rfl ((Zjv e19 p1_0).h _ _ g23) rfl rfl) ?_
    refine zw ?_
    refine cnd h (fun hb24 h => ?_) fun hb24 h => ?_
    ·
     refine AW.cond rfl (fun hn => absurd ((Y46 hb24).symm.trans hn) (by decide)) (fun _ => ?_)
     refine zw ?_
     exact ⟨(l15, x16), h, Y25.both (ns := [2, 0]) rfl rfl⟩
    refine AW.cond rfl (fun _ => ?_) (fun hn => absurd ((Y47 hb24).symm.trans hn) (by decide))
    refine zw ?_
    refine ob' h fun e25 g26 h => ?_
    refine zw ?_
    refine Ops.hd (ns := [2]) rfl rfl (Y3g (e' := e19) Yej.h rfl rfl rfl (Y2f g26).2.2 rfl rfl) ?_
    refine zw ?_
    exact ⟨((List.set l15 (Int.toNat x16) e19), (IntKind.i64.wrap (x16 + 1))), h, Y25.both (ns := [0, 0]) rfl rfl⟩
   rintro ⟨l27, x28⟩ h
   replace h : Zk1 x17 l27 x28 = some y46 := h
   unfold Zk1 at h
   refine zw ?_
   obtain rfl := Wj h
   exact ⟨k44, (l27, x28, (IntKind.i64.wrap (x17 + 1))), hlt_k44, h47, Y25.both (ns := [0, 0]) rfl rfl⟩
  refine AW.cf hb18 rfl ?_
  refine AW.exit ?_
  obtain rfl := Wj h
  obtain rfl := Wj h47
  replace h := q43
  exact ⟨(l15, x16), h, Y25.both (ns := [0, 0]) rfl rfl⟩
 rintro ⟨l29, x30⟩ h
 replace h : Zk0 l29 x30 = some r := h
 unfold Zk0 at h
 refine zw ?_
 refine ob' h fun u32 c31 h => ?_
 refine Ops.v rfl (Y7g (p := 0) (l := (Int.toNat x30)) Yfj.h rfl rfl rfl (Wo (Y45 c31)) rfl rfl) ?_
 refine ob' h fun u34 c33 h => ?_
 refine Ops.hd (ns := [0]) rfl rfl (Y7o (z := (Ya3.mk (Y9t.mk 0 0 0 0 0 0 ByteArray.empty [] 0) false)) Yfi Yeh (fun w F => Imps.cells (.cons (Imp.refl _) (.cons (Imp.refl _) (.cons (Imp.refl _) (.cons (Imp.refl _) (.cons (Imp.refl _) (.cons (Imp.refl _) (.cons (Imp.refl _) (.cons (Imp.nil kI64 1) (.cons (Imp.refl _) (.cons (Imp.refl _) .nil)))))))))) (Y4e (cs := [cV (.int .i64 0), cV (.int .i64 0), cV (.int .i64 0), cV (.int .i64 0), cV (.int .i64 0), cV (.int .i64 0), cV (.string ByteArray.empty), cV s0, cV (.int .i64 0), cV (.bool false)]) rfl rfl w F)) rfl (Wo (Y45 c33))) ?_
 refine zw ?_
 refine ob' h fun u36 c35 h => ?_
 refine Ops.v rfl (Y7h (p := 0) (l := (Int.toNat x30)) Yfj.h rfl rfl rfl (Wo (Y45 c35)) rfl rfl) ?_
 refine zw ?_
 refine AW.ret ?_
 rw [← Wj h]
 exact finI ⟨[cV (Y7e w00 (Int.toNat x30))], _, Y25.prefix (p := 0) (h := (Int.toNat x30)) rfl (Int.le_toNat_len c35), (.cons (.tmp rfl) .nil), [0, 0], _, _, rfl, ⟨(Y7e w00 (Int.toNat x30)), rfl, rfl⟩⟩
instance Zk5 (p0 : List Ya3) (p1_0 : Y9w) : SpO Tryz.prog 95 (Zk3 p0 p1_0) (.x fun (w00 : Value) => .x fun (b01 : Nat) => .d [cV w00, C.clo 96 [pt b01]] [oA w00 92 Yaq 10 p0, oB b01 49 [cI p1_0.user, cM kI64 1 p1_0.at_]] fun r => .x fun (v37 : Value) => .d (cV v37) [oA v37 92 Yaq 10 r, oB b01 49 [cI p1_0.user, cM kI64 1 p1_0.at_]]) := ⟨fun w00 b01 r h => Zk4 p0 p1_0 r h⟩

def Zk6 (p0 : ByteArray) (p1 : ByteArray) : Option Bool := (chk (decide (p0.size < 4294967281))).bind fun _ => some (Go.Lib.contains p0.data.toList p1.data.toList)
instance Zk7 (p0 : ByteArray) (p1 : ByteArray) : Sp Tryz.prog 58 [C.str p0, C.str p1] (Zk6 p0 p1) (fun r => C.bool r) := Y9m rfl Y9n Y9o p0 p1

def Zk8 (p0 : Int) (p1 : Int) : Option ByteArray := (chk (decide ((0 ≤ p0 ∧ p0 < 100) ∧ p1 = 10))).bind fun _ => some ⟨(Go.Lib.decDigits p0.toNat).toArray⟩
instance Zk9 (p0 : Int) (p1 : Int) : Sp Tryz.prog 98 [cI p0, cI p1] (Zk8 p0 p1) (fun r => C.str r) := Y9q Y9r Y9s p0 p1

def Zka (p0 : Int) : Option ByteArray := (Zk8 p0 10).bind fun r1 => some r1
instance Zkb (p0 : Int) : Sp Tryz.prog 59 [cI p0] (Zka p0) (fun r => C.str r) := Sp.of (so Tryz.func59 rfl rfl fun r X h => gh .z)

def Zkc (p0 : Y9x) (p1 : Int) (p2 : Y9t) : Option Bool := cond (p0.kind == 1) ((Zk6 p2.text p0.text).bind fun r4 => some r4) (cond (p0.kind == 2) (some (p2.author == p0.n)) (cond (p0.kind == 3) (some (p2.room == p0.n)) (cond (p0.kind == 4) ((Zka p1).bind fun r9 => (chk (decide ((ByteArray.mk #[64]).size + r9.size ≤ 9223372036854775807))).bind fun u12 => (Zk6 p2.text ((ByteArray.mk #[64]) ++ r9)).bind fun r13 => some r13) (some true))))
instance Zkd (p0 : Y9x) (p1 : Int) (p2 : Y9t) : Sp Tryz.prog 44 [C.agg [cI p0.kind, cI p0.n, C.str p0.text, cI p0.loud], cI p1, C.agg [cI p2.id, cI p2.room, cI p2.author, cI p2.kind, cI p2.key, cI p2.n, C.str p2.text, cM kI64 1 p2.prev, cI p2.time]] (Zkc p0 p1 p2) (fun r => C.bool r) := Sp.of (so Tryz.func44 rfl rfl fun r X h => gh (.b .z (.b .z (.b .z (.b (.r [0,0] [1] [] [0,5,8,14,16,22,24] .z) .z)))))

def Zke : Option Int := some 0
def Zkf (p0 : Int) (p1 : List Y9x) (p2 : Y9t) (x9 : Int) : Option (Int ⊕ (Int ⊕ Unit)) := cond (decide (x9 < (p1.length : Int))) ((getI p1 x9).bind fun e11 => (Zkc e11 p0 p2).bind fun r14 => cond r14 (some (.inr (.inl e11.loud))) (some (.inl (IntKind.i64.wrap (x9 + 1))))) (some (.inr (.inr ())))
def Zkg (p0 : Int) (p1 : List Y9x) (p2 : Y9t) : Option Int := (iter (Zkf p0 p1 p2) big 0).bind (fun z18 => match z18 with | .inl y17 => some y17 | .inr () => Zke)
instance Zkh (p0 : Int) (p1 : List Y9x) (p2 : Y9t) : Sp Tryz.prog 65 [cI p0, cM Ya9 4 p1, C.agg [cI p2.id, cI p2.room, cI p2.author, cI p2.kind, cI p2.key, cI p2.n, C.str p2.text, cM kI64 1 p2.prev, cI p2.time]] (Zkg p0 p1 p2) (fun r => cI r) := Sp.of (so Tryz.func65 rfl rfl fun r X h => gh (.q 1 (.c0 (.d [] []) [] [] (.l1 (fun x9 => .d [(11, cI x9)] []) [0,5,9,10] [0] .z) .z)))

def Zki (p0 : Ya5) (p1 : Int) (p2 : Int) : Option Int := (Zi9 p0.hub.stream (Y9v.mk p1 p2)).bind fun r1 => some (IntKind.i64.wrap (r1 + 1))
instance Zkj (p0 : Ya5) (p1 : Int) (p2 : Int) : Sp Tryz.prog 123 [C.ip [cM Yac 3 p0.hub.rooms, cM Ya8 2 p0.hub.stream, cM Yap 1 p0.rooms], cI p1, cI p2] (Zki p0 p1 p2) (fun r => cI r) := Sp.of (so Tryz.func123 rfl rfl fun r X h => gh .z)

def Zkk (p0 : Ya5) (p1 : Int) : Option Ya4 := (getI p0.rooms (IntKind.i64.wrap (p1 - 1))).bind fun e1 => some e1
instance Zkl (p0 : Ya5) (p1 : Int) : Sp Tryz.prog 80 [C.ip [cM Yac 3 p0.hub.rooms, cM Ya8 2 p0.hub.stream, cM Yap 1 p0.rooms], cI p1] (Zkk p0 p1) (fun r => C.ip [cI r.graph.room, cM Ya6 9 r.graph.events, cM Ya6 9 r.graph.parked, C.imap .i64 Yal r.depth, C.imap .i64 Yam r.before, C.imap .i64 Yam r.after, C.imap .i64 Yal r.refused]) := Sp.of (so Tryz.func80 rfl rfl fun r X h => gh .z)

def Zkm (p0 : Ya5) (p1 : Int) (p2 : Int) : Option Bool := (Zkk p0 p2).bind fun r1 => (Zjp r1).bind fun r3 => (Zef r1.graph r3 p1).bind fun r5 => some (r5 == 1)
instance Zkn (p0 : Ya5) (p1 : Int) (p2 : Int) : Sp Tryz.prog 126 [C.ip [cM Yac 3 p0.hub.rooms, cM Ya8 2 p0.hub.stream, cM Yap 1 p0.rooms], cI p1, cI p2] (Zkm p0 p1 p2) (fun r => C.bool r) := Sp.of (so Tryz.func126 rfl rfl fun r X h => gh (.r [] [3] [] [0,4,8,13,16,24,22,30,32,36] .z))

def Zko (x23 : Bool) : Option Bool := some x23
def Zkp (p0 : Ya5) (p1 : Int) (p2 : Int) (p3 : Int) (r4 : Ya4) (x16 : Bool) : Option Bool := cond x16 (some true) ((Zib r4.graph (Option.getD (mget r4.after p3) ([] : List Ya0))).bind fun r18 => cond (r18 == 2) ((Zkm p0 p1 p2).bind fun r21 => Zko r21) (Zko false))
def Zkq (p0 : Ya5) (p1 : Int) (p2 : Int) (p3 : Int) : Option Bool := (Zki p0 p2 p3).bind fun r1 => cond (r1 == 0) (some false) ((Zkk p0 p2).bind fun r4 => (Zdj r4.graph p3).bind fun r6 => (Zef r4.graph (Option.getD (mget r4.after p3) ([] : List Ya0)) p1).bind fun r9 => cond (r9 == 1) (Zkp p0 p1 p2 p3 r4 true) ((Zib r4.graph (Option.getD (mget r4.after p3) ([] : List Ya0))).bind fun r12 => cond (r12 == 1) (Zkp p0 p1 p2 p3 r4 true) (cond (r6.1.kind == 2) (Zkp p0 p1 p2 p3 r4 (r6.1.key == p1)) (Zkp p0 p1 p2 p3 r4 false))))
instance Zkr (p0 : Ya5) (p1 : Int) (p2 : Int) (p3 : Int) : Sp Tryz.prog 85 [C.ip [cM Yac 3 p0.hub.rooms, cM Ya8 2 p0.hub.stream, cM Yap 1 p0.rooms], cI p1, cI p2, cI p3] (Zkq p0 p1 p2 p3) (fun r => C.bool r) := Sp.of (so Tryz.func85 rfl rfl fun r X h => gh (.b .z (.q 4 (.c1 (fun x16 => .d [(36, C.bool x16)] []) [0,1,2,9,12] [] .z (.b .z (.c1 (fun x23 => .d [(8, C.bool x23)] []) [] [] .z .z))))))

def Zks (l42 : List Int) : Option (List Int) := some l42
def Zkt (x22 : Int) (l40 : List Int) : Option ((List Int × Int) ⊕ ((List Int))) := some (.inl (l40, (IntKind.i64.wrap (x22 + 1))))
def Zku (l21 : List Int) (x22 : Int) (x33 : Bool) : Option ((List Int × Int) ⊕ ((List Int))) := cond x33 ((chk (decide ((l21.length + [(IntKind.i64.wrap (x22 + 1))].length) * 8 ≤ 140737488355328))).bind fun u37 => Zkt x22 (l21 ++ [(IntKind.i64.wrap (x22 + 1))])) (Zkt x22 l21)
def Zkv (p0 : Ya5) (p1 : Int) (p2 : Int) (p3 : Int) (p4 : Int) (l21 : List Int) (x22 : Int) : Option ((List Int × Int) ⊕ ((List Int))) := cond (decide (x22 < (p0.hub.stream.length : Int))) ((getI p0.hub.stream x22).bind fun e24 => (Z9e (IntKind.i64.wrap (x22 + 1)) p3 p4).bind fun r27 => cond r27 (cond (e24.room == p2) ((Zkq p0 p1 p2 e24.id).bind fun r31 => Zku l21 x22 r31) (Zku l21 x22 false)) (Zku l21 x22 false)) (some (.inr l21))
def Zkw (p0 : Ya5) (p1 : Int) (p2 : Int) (p3 : Int) (p4 : Int) : Option (List Int) := (iter (fun z44 => Zkv p0 p1 p2 p3 p4 z44.1 z44.2) big (([] : List Int), 0)).bind fun y45 => Zks y45
instance Zkx (p0 : Ya5) (p1 : Int) (p2 : Int) (p3 : Int) (p4 : Int) : SpO Tryz.prog 94 (Zkw p0 p1 p2 p3 p4) (.d [C.ip [cM Yac 3 p0.hub.rooms, cM Ya8 2 p0.hub.stream, cM Yap 1 p0.rooms], cI p1, cI p2, cI p3, cI p4] [] fun r => .x fun (v43 : Value) => .d (cV v43) [oA v43 2 kI64 1 r]) := ⟨so Tryz.func94 rfl rfl fun r X h => gh (.q 2 (.c1 (fun l42 => .x fun v41 => .d [(11, cV v41)] [oA v41 2 kI64 1 l42]) [] [] (.l2 (fun l21 x22 => .x fun v20 => .d [(11, cV v20), (22, cI x22)] [oA v20 2 kI64 1 l21]) [0,1,2,3,4,20,21] [] (.b (.c1 (fun l40 => .x fun v39 => .d [(11, cV v39)] [oA v39 2 kI64 1 l40]) [0,1,2,3,4,20,21,22] [] (.q 2 (.c1 (fun x33 => .d [(46, C.bool x33)] []) [0,1,2,3,4,11,14,20,21,22] [1] .z .z)) .z) .z)) .z))⟩
instance Zkx' (p0 : Ya5) (p1 : Int) (p2 : Int) (p3 : Int) (p4 : Int) : Sp Tryz.prog 94 [C.ip [cM Yac 3 p0.hub.rooms, cM Ya8 2 p0.hub.stream, cM Yap 1 p0.rooms], cI p1, cI p2, cI p3, cI p4] (Zkw p0 p1 p2 p3 p4) (fun r => cM kI64 1 r) := ⟨fun r h => Ok.freeze ((Zkx p0 p1 p2 p3 p4).h r h) (by rintro c qs ⟨v43, rfl, rfl⟩; exact Frz.arr)⟩

end Go.Proofs.YtnoknphekhclcaaGreatDoor
