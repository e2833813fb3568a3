/- Printed by gen.py: plain functions for Go functions, and that the walks keep to them. -/
import Derived.Test.YtbgichfjcnibpaaGreatFQ6
set_option autoImplicit false
set_option linter.unusedVariables false
set_option linter.unusedSimpArgs false
set_option maxHeartbeats 1000000
set_option maxRecDepth 100000
namespace Go.Proofs.YtbgichfjcnibpaaGreat
open Go Go.Abs
attribute [local irreducible] AW Ops OpsD Y3k
def Zhq (p0 : Y8h) : Option Y8h := (Zeo p0.prev).bind fun r3 => some (Y8h.mk p0.id p0.room p0.author p0.kind p0.key p0.n p0.text r3 p0.time)
instance Zhr (p0 : Y8h) : Sp Tryz.prog 169 [C.agg [cI p0.id, cI p0.room, cI p0.author, cI p0.kind, cI p0.key, cI p0.n, C.str p0.text, cM kI64 1 p0.prev, cI p0.time]] (Zhq p0) (fun r => C.agg [cI r.id, cI r.room, cI r.author, cI r.kind, cI r.key, cI r.n, C.str r.text, cM kI64 1 r.prev, cI r.time]) := sp Tryz.func169 rfl rfl fun r X h => by
 unfold Zhq at h
 refine zw ?_
 refine ox fun b1 => ?_
 refine Ops.h (ns := []) rfl rfl (Y1n (cs := [cI 0, cI 0, cI 0, cI 0, cI 0, cI 0, C.str ByteArray.empty, cV s0, cI 0]) Y9t (Y3z rfl rfl) rfl) ?_
 rintro _ _ ⟨b2, rfl, rfl⟩
 refine zw ?_
 refine oc h fun r3 g4 h => ?_
 refine zw ?_
 refine Ops.hd (ns := [1]) rfl rfl (Y1r (gs := [cI p0.id, cI p0.room, cI p0.author, cI p0.kind, cI p0.key, cI p0.n, C.str p0.text, cM kI64 1 r3, cI p0.time]) Y9e.h rfl rfl One.im rfl rfl) ?_
 refine zw ?_
 refine Ops.hd (ns := [1]) rfl rfl (Y1s (gs := [cI p0.id, cI p0.room, cI p0.author, cI p0.kind, cI p0.key, cI p0.n, C.str p0.text, cM kI64 1 r3, cI p0.time]) Yaa.h rfl rfl rfl rfl rfl) ?_
 refine zw ?_
 refine AW.ret ?_
 rw [← Wj h]
 exact ⟨[C.agg [cI p0.id, cI p0.room, cI p0.author, cI p0.kind, cI p0.key, cI p0.n, C.str p0.text, cM kI64 1 r3, cI p0.time]], _, Y1z.refl _, (.cons (.cell (p := 0) rfl rfl Yaa.h rfl) .nil), [], _, _, rfl, ⟨rfl, rfl⟩⟩

def Zhs (x3 : Bool) : Option Bool := some x3
def Zht (p0 : Y8s) (q0 : Y8k) : Option Bool := cond (p0.event.kind != 7) (Zhs true) (Zhs (p0.event.author == q0.user))
theorem Zhu {b00 : Nat} (p0 : Y8s) (q0 : Y8k) (r : Bool) (h : Zht p0 q0 = some r) : Ok Tryz.prog 160 [C.agg [cI p0.event.id, cI p0.event.room, cI p0.event.author, cI p0.event.kind, cI p0.event.key, cI p0.event.n, C.str p0.event.text, cM kI64 1 p0.event.prev, cI p0.event.time, C.bool p0.hidden], pt b00] [oB b00 65 [cI q0.user, cM kI64 1 q0.at_]] (fun c qs => c = C.bool r ∧ qs = [oB b00 65 [cI q0.user, cM kI64 1 q0.at_]]) := by
 refine Ok.of_body (rs := [.tmp 3]) Tryz.func160 rfl rfl rfl rfl rfl fun X => ?_
 unfold Zht at h
 refine zw ?_
 refine ox fun b1 => ?_
 refine Ops.v rfl (Yr rfl rfl) ?_
 refine Ops.nil ?_
 refine AW.seq ?_
 refine AW.cut (τ := Bool) (fun x3 => ⟨[(3, C.bool x3)], [oB b00 65 [cI q0.user, cM kI64 1 q0.at_]]⟩) (fun x3 => Zhs x3 = some r) go fun x3 h => ?_
 replace h : Zhs x3 = some r := h
 unfold Zhs at h
 refine AW.ret ?_
 rw [← Wj h]
 exact ⟨[C.bool x3], _, Y1z.refl _, (.cons (.tmp rfl) .nil), [0], _, _, rfl, ⟨rfl, rfl⟩⟩

def Zhv : Option Int := some (-1)
def Zhw (p0 : List Y8s) (p1_0 : Y8k) (x7 : Int) : Option (Int ⊕ (Int ⊕ Unit)) := cond (decide (x7 < (p0.length : Int))) ((getI p0 x7).bind fun e9 => (Zht e9 p1_0).bind fun r11 => cond r11 (some (.inr (.inl x7))) (some (.inl (IntKind.i64.wrap (x7 + 1))))) (some (.inr (.inr ())))
def Zhx (p0 : List Y8s) (p1_0 : Y8k) : Option Int := (iter (Zhw p0 p1_0) big 0).bind (fun z15 => match z15 with | .inl y14 => some y14 | .inr () => Zhv)
theorem Zhy {w00 : Value} {b01 : Nat} (p0 : List Y8s) (p1_0 : Y8k) (r : Int) (h : Zhx p0 p1_0 = some r) : Ok Tryz.prog 220 [cV w00, C.clo 160 [pt b01]] [oA w00 160 Y9a 10 p0, oB b01 65 [cI p1_0.user, cM kI64 1 p1_0.at_]] (fun c qs => c = cI r ∧ qs = [oA w00 160 Y9a 10 p0, oB b01 65 [cI p1_0.user, cM kI64 1 p1_0.at_]]) := by
 refine Ok.of_body (rs := [.tmp 4]) Tryz.func220 rfl rfl rfl rfl rfl fun X => ?_
 unfold Zhx at h
 refine AW.seq ?_
 refine AW.region ?_
 refine Ops.v rfl (Yr rfl rfl) ?_
 refine Ops.nil ?_
 refine AW.seq ?_
 refine AW.cut (τ := Unit) (fun (_ : Unit) => ⟨[], [oA w00 160 Y9a 10 p0, oB b01 65 [cI p1_0.user, cM kI64 1 p1_0.at_]]⟩) (fun (_ : Unit) => Zhv = some r) ?_ ?_
 ·
  refine zw ?_
  refine AW.lp (v := ()) h (fun x7 (_ : Unit) => ⟨[(0, cV w00), (1, C.clo 160 [pt b01]), (7, cI (p0.length : Int)), (8, cI x7)], [oA w00 160 Y9a 10 p0, oB b01 65 [cI p1_0.user, cM kI64 1 p1_0.at_]]⟩) (gb [0, 0]) ?_
  rintro x7 _ y21 h
  refine zw ?_
  refine cnd h (fun hb8 h => ?_) fun hb8 h => ?_
  ·
   refine AW.ct hb8 rfl ?_
   refine zw ?_
   refine oi h fun e9 g10 h => ?_
   refine Ops.v rfl (Y2y (p := 0) Yd9.h rfl rfl (Y27 g10).2.2 rfl rfl rfl) ?_
   refine ob' h fun r11 g12 h => ?_
   refine Ops.hd (ns := [1]) rfl rfl (Y6j (cs := [_]) (ds := [_]) rfl (Zhu e9 p1_0 _ g12) rfl rfl) ?_
   refine zw ?_
   refine cnd h (fun hb13 h => ?_) fun hb13 h => ?_
   ·
    refine AW.ct hb13 rfl ?_
    refine zw ?_
    refine AW.ret ?_
    refine lx h fun h => ?_
    rw [← Wj h]
    exact ⟨[cI x7], _, Y1z.refl _, (.cons (.tmp rfl) .nil), [1, 0], _, _, rfl, ⟨rfl, rfl⟩⟩
   exact go
  exact go
 rintro ⟨⟩ h
 replace h : Zhv = some r := h
 unfold Zhv at h
 refine zw ?_
 refine AW.ret ?_
 rw [← Wj h]
 exact ⟨[cI (-1)], _, Y1z.refl _, (.cons (.tmp rfl) .nil), [0, 0], _, _, rfl, ⟨rfl, rfl⟩⟩

def Zhz (l29 : List Y8s) (x30 : Int) : Option (List Y8s) := (chk (decide ((0 : Int) ≤ x30 ∧ x30 ≤ (l29.length : Int)))).bind fun u32 => (chk (decide ((Int.toNat x30) ≤ l29.length))).bind fun u34 => (chk (decide ((0 : Int) ≤ x30 ∧ x30 ≤ ((List.take (Int.toNat x30) l29 ++ List.replicate (l29.length - (Int.toNat x30)) (Y8s.mk (Y8h.mk 0 0 0 0 0 0 ByteArray.empty [] 0) false)).length : Int)))).bind fun u36 => some (List.take (Int.toNat x30) (List.take (Int.toNat x30) l29 ++ List.replicate (l29.length - (Int.toNat x30)) (Y8s.mk (Y8h.mk 0 0 0 0 0 0 ByteArray.empty [] 0) false)))
def Zi0 (x17 : Int) (l27 : List Y8s) (x28 : Int) : Option ((List Y8s × Int × Int) ⊕ ((List Y8s × Int))) := some (.inl (l27, x28, (IntKind.i64.wrap (x17 + 1))))
def Zi1 (p1_0 : Y8k) (l15 : List Y8s) (x16 : Int) (x17 : Int) : Option ((List Y8s × Int × Int) ⊕ ((List Y8s × Int))) := cond (decide (x17 < (l15.length : Int))) ((getI l15 x17).bind fun e19 => (Zht e19 p1_0).bind fun r22 => cond r22 (Zi0 x17 l15 x16) ((getI l15 x16).bind fun e25 => Zi0 x17 (List.set l15 (Int.toNat x16) e19) (IntKind.i64.wrap (x16 + 1)))) (some (.inr (l15, x16)))
def Zi2 (p0 : List Y8s) (p1_0 : Y8k) : Option (List Y8s) := (Zhx p0 p1_0).bind fun r1 => cond (r1 == (-1)) (some p0) ((iter (fun z38 => Zi1 p1_0 z38.1 z38.2.1 z38.2.2) big (p0, r1, (IntKind.i64.wrap (r1 + 1)))).bind fun (y39, y40) => Zhz y39 y40)
theorem Zi3 {w00 : Value} {b01 : Nat} (p0 : List Y8s) (p1_0 : Y8k) (r : List Y8s) (h : Zi2 p0 p1_0 = some r) : Ok Tryz.prog 159 [cV w00, C.clo 160 [pt b01]] [oA w00 160 Y9a 10 p0, oB b01 65 [cI p1_0.user, cM kI64 1 p1_0.at_]] (fun c qs => ∃ (v37 : Value), c = cV v37 ∧ qs = [oA v37 160 Y9a 10 r, oB b01 65 [cI p1_0.user, cM kI64 1 p1_0.at_]]) := by
 refine Ok.of_body (rs := [.tmp 4]) Tryz.func159 rfl rfl rfl rfl rfl fun X => ?_
 unfold Zi2 at h
 refine zw ?_
 refine ob' h fun r1 g2 h => ?_
 refine Ops.hd (ns := [0, 0]) rfl rfl (Y22 (Zhy p0 p1_0 _ g2) rfl rfl) ?_
 refine zw ?_
 refine cnd h (fun hb3 h => ?_) fun hb3 h => ?_
 ·
  refine AW.ct hb3 rfl ?_
  refine zw ?_
  refine AW.ret ?_
  rw [← Wj h]
  exact ⟨[cV w00], _, Y1z.refl _, (.cons (.tmp rfl) .nil), [0, 0], _, _, rfl, ⟨w00, rfl, rfl⟩⟩
 refine AW.cf hb3 rfl ?_
 refine AW.skip ?_
 refine AW.seq ?_
 refine AW.cut (τ := List Y8s × Int) (fun (l29, x30) => ⟨[(0, cV w00), (5, cI x30)], [oA w00 160 Y9a 10 l29, oB b01 65 [cI p1_0.user, cM kI64 1 p1_0.at_]]⟩) (fun (l29, x30) => Zhz l29 x30 = some r) ?_ ?_
 ·
  refine zw ?_
  refine AW.lp (v := ()) h (fun (l15, x16, x17) (_ : Unit) => ⟨[(0, cV w00), (1, C.clo 160 [pt b01]), (5, cI x16), (6, cI x17)], [oA w00 160 Y9a 10 l15, oB b01 65 [cI p1_0.user, cM kI64 1 p1_0.at_]]⟩) (gb [0, 0]) ?_
  rintro ⟨l15, x16, x17⟩ _ y46 h
  refine zw ?_
  refine cnd h (fun hb18 h => ?_) fun hb18 h => ?_
  ·
   refine AW.ct hb18 rfl ?_
   refine zw ?_
   refine oi h fun e19 g20 h => ?_
   refine Ops.v rfl (Y2y (p := 0) Yd9.h rfl rfl (Y27 g20).2.2 rfl rfl rfl) ?_
   refine Ops.h (ns := []) rfl rfl (Y1n (cs := [cI 0, cI 0, cI 0, cI 0, cI 0, cI 0, C.str ByteArray.empty, cV s0, cI 0, C.bool false]) Yd7 (Y3z rfl rfl) rfl) ?_
   rintro _ _ ⟨b21, rfl, rfl⟩
   refine Ops.hd (ns := [0]) rfl rfl (Y1s (gs := [cI e19.event.id, cI e19.event.room, cI e19.event.author, cI e19.event.kind, cI e19.event.key, cI e19.event.n, C.str e19.event.text, cM kI64 1 e19.event.prev, cI e19.event.time, C.bool e19.hidden]) Yd9.h rfl rfl rfl rfl rfl) ?_
   refine zw ?_
   refine ob' h fun r22 g23 h => ?_
   refine Ops.hd (ns := [2]) rfl rfl (Y6j (cs := [_]) (ds := [_]) rfl (Zhu e19 p1_0 _ g23) rfl rfl) ?_
   refine zw ?_
   refine cnd h (fun hb24 h => go) fun hb24 h => ?_
   refine AW.cond rfl (fun _ => ?_) (fun hn => absurd ((Y3s hb24).symm.trans hn) (by decide))
   refine zw ?_
   refine ob' h fun e25 g26 h => ?_
   refine Ops.v rfl (Y2v (p := 2) Ydd.h rfl rfl rfl g26 rfl) ?_
   refine Ops.hd (ns := [2]) rfl rfl (Y31 (e' := e19) Yd9.h rfl rfl rfl (Y27 g26).2.2 rfl rfl) ?_
   exact go
  exact go
 rintro ⟨l29, x30⟩ h
 replace h : Zhz l29 x30 = some r := h
 unfold Zhz at h
 refine zw ?_
 refine ob' h fun u32 c31 h => ?_
 refine Ops.v rfl (Y6q (p := 0) (l := (Int.toNat x30)) Ydd.h rfl rfl rfl (Wo (Y3q c31)) rfl rfl) ?_
 refine ob' h fun u34 c33 h => ?_
 refine Ops.hd (ns := [0]) rfl rfl (Y6y (z := (Y8s.mk (Y8h.mk 0 0 0 0 0 0 ByteArray.empty [] 0) false)) Ydc Yd7 (fun w F => Imps.cells (.cons (Imp.refl _) (.cons (Imp.refl _) (.cons (Imp.refl _) (.cons (Imp.refl _) (.cons (Imp.refl _) (.cons (Imp.refl _) (.cons (Imp.refl _) (.cons (Imp.nil kI64 1) (.cons (Imp.refl _) (.cons (Imp.refl _) .nil)))))))))) (Y3z (cs := [cV (.int .i64 0), cV (.int .i64 0), cV (.int .i64 0), cV (.int .i64 0), cV (.int .i64 0), cV (.int .i64 0), cV (.string ByteArray.empty), cV s0, cV (.int .i64 0), cV (.bool false)]) rfl rfl w F)) rfl (Wo (Y3q c33))) ?_
 refine zw ?_
 refine ob' h fun u36 c35 h => ?_
 refine Ops.v rfl (Y6r (p := 0) (l := (Int.toNat x30)) Ydd.h rfl rfl rfl (Wo (Y3q c35)) rfl rfl) ?_
 refine zw ?_
 refine AW.ret ?_
 rw [← Wj h]
 exact ⟨[cV (Y6o w00 (Int.toNat x30))], _, Y1z.prefix (p := 0) (h := (Int.toNat x30)) rfl (Int.le_toNat_len c35), (.cons (.tmp rfl) .nil), [0, 0], _, _, rfl, ⟨(Y6o w00 (Int.toNat x30)), rfl, rfl⟩⟩

def Zi4 (p0 : Y8r) (p1 : Int) (p2 : Int) : Option Int := (Zga p0.hub.stream (Y8j.mk p1 p2)).bind fun r1 => some (IntKind.i64.wrap (r1 + 1))
instance Zi5 (p0 : Y8r) (p1 : Int) (p2 : Int) : Sp Tryz.prog 111 [C.ip [cM Y8y 3 p0.hub.rooms, cM Y8v 2 p0.hub.stream, cM Y99 1 p0.rooms], cI p1, cI p2] (Zi4 p0 p1 p2) cI := sp Tryz.func111 rfl rfl fun r X h => by
 unfold Zi4 at h
 refine zw ?_
 refine Ops.v rfl (Y35 (ds := [cI p1, cI p2]) Yd5 Yao (Y3z rfl rfl) (.one rfl (One.val rfl) rfl rfl (.one rfl (One.val rfl) rfl rfl .nil)) rfl) ?_
 exact go

def Zi6 (p0 : Y8r) (p1 : Int) : Option Y8q := (getI p0.rooms (IntKind.i64.wrap (p1 - 1))).bind fun e1 => some e1
instance Zi7 (p0 : Y8r) (p1 : Int) : Sp Tryz.prog 138 [C.ip [cM Y8y 3 p0.hub.rooms, cM Y8v 2 p0.hub.stream, cM Y99 1 p0.rooms], cI p1] (Zi6 p0 p1) (fun r => C.ip [cI r.graph.room, cM Y8t 9 r.graph.events, cM Y8t 9 r.graph.parked, C.imap .i64 Y96 r.depth, C.imap .i64 Y97 r.before, C.imap .i64 Y97 r.after, C.imap .i64 Y96 r.refused]) := sp Tryz.func138 rfl rfl fun r X h => go

def Zi8 (p0 : Y8r) (p1 : Int) (p2 : Int) : Option Bool := (Zi6 p0 p2).bind fun r1 => (Zho r1).bind fun r3 => (Zd1 r1.graph r3 p1).bind fun r5 => some (r5 == 1)
instance Zi9 (p0 : Y8r) (p1 : Int) (p2 : Int) : Sp Tryz.prog 165 [C.ip [cM Y8y 3 p0.hub.rooms, cM Y8v 2 p0.hub.stream, cM Y99 1 p0.rooms], cI p1, cI p2] (Zi8 p0 p1 p2) C.bool := sp Tryz.func165 rfl rfl fun r X h => by
 unfold Zi8 at h
 refine zw ?_
 refine oc h fun r1 g2 h => ?_
 refine zw ?_
 refine rD [] [3] [] [0,4,8,13,16,24,22,30,32,36] ?_
 exact go

def Zia (x23 : Bool) : Option Bool := some x23
def Zib (p0 : Y8r) (p1 : Int) (p2 : Int) (p3 : Int) (r4 : Y8q) (x16 : Bool) : Option Bool := cond x16 (some true) ((Zgc r4.graph (Option.getD (mget r4.after p3) ([] : List Y8n))).bind fun r18 => cond (r18 == 2) ((Zi8 p0 p1 p2).bind fun r21 => Zia r21) (Zia false))
def Zic (p0 : Y8r) (p1 : Int) (p2 : Int) (p3 : Int) : Option Bool := (Zi4 p0 p2 p3).bind fun r1 => cond (r1 == 0) (some false) ((Zi6 p0 p2).bind fun r4 => (Zc5 r4.graph p3).bind fun r6 => (Zd1 r4.graph (Option.getD (mget r4.after p3) ([] : List Y8n)) p1).bind fun r9 => cond (r9 == 1) (Zib p0 p1 p2 p3 r4 true) ((Zgc r4.graph (Option.getD (mget r4.after p3) ([] : List Y8n))).bind fun r12 => cond (r12 == 1) (Zib p0 p1 p2 p3 r4 true) (cond (r6.1.kind == 2) (Zib p0 p1 p2 p3 r4 (r6.1.key == p1)) (Zib p0 p1 p2 p3 r4 false))))
instance Zid (p0 : Y8r) (p1 : Int) (p2 : Int) (p3 : Int) : Sp Tryz.prog 109 [C.ip [cM Y8y 3 p0.hub.rooms, cM Y8v 2 p0.hub.stream, cM Y99 1 p0.rooms], cI p1, cI p2, cI p3] (Zic p0 p1 p2 p3) C.bool := sp Tryz.func109 rfl rfl fun r X h => by
 unfold Zic at h
 refine zw ?_
 refine oc h fun r1 g2 h => ?_
 refine zw ?_
 refine cnd h (fun hb3 h => go) fun hb3 h => ?_
 refine AW.cf hb3 rfl ?_
 refine zw ?_
 refine oc h fun r4 g5 h => ?_
 refine zw ?_
 refine oc h fun r6 g7 h => ?_
 refine zw ?_
 refine Ops.h (ns := []) rfl rfl (Y1n (cs := [cI 0, cI 0, cI 0, cI 0, cI 0, cI 0, C.str ByteArray.empty, cV s0, cI 0]) Y9t (Y3z rfl rfl) rfl) ?_
 rintro _ _ ⟨b8, rfl, rfl⟩
 refine Ops.hd (ns := [0]) rfl rfl (Y1s (gs := [cI r6.1.id, cI r6.1.room, cI r6.1.author, cI r6.1.kind, cI r6.1.key, cI r6.1.n, C.str r6.1.text, cM kI64 1 r6.1.prev, cI r6.1.time]) Yaa.h rfl rfl rfl rfl rfl) ?_
 refine zw ?_
 refine Ops.v rfl (Y7v (kc := Y97) (z0 := ([] : List Y8n)) Yci Ycj (fun w F => Imp.nil Y91 3 w F _ rfl) rfl rfl rfl) ?_
 refine Ops.v rfl (Yr rfl rfl) ?_
 refine Ops.nil ?_
 refine AW.seq ?_
 refine AW.block ?_
 refine AW.seq ?_
 refine AW.cut (τ := Bool) (fun x16 => ⟨[(0, C.ip [cM Y8y 3 p0.hub.rooms, cM Y8v 2 p0.hub.stream, cM Y99 1 p0.rooms]), (1, cI p1), (2, cI p2), (9, C.ip [cI r4.graph.room, cM Y8t 9 r4.graph.events, cM Y8t 9 r4.graph.parked, C.imap .i64 Y96 r4.depth, C.imap .i64 Y97 r4.before, C.imap .i64 Y97 r4.after, C.imap .i64 Y96 r4.refused]), (12, cM Y91 3 (Option.getD (mget r4.after p3) ([] : List Y8n))), (36, C.bool x16)], []⟩) (fun x16 => Zib p0 p1 p2 p3 r4 x16 = some r) ?_ ?_
 ·
  refine zw ?_
  refine oc h fun r9 g10 h => ?_
  refine zw ?_
  refine cnd h (fun hb11 h => go) fun hb11 h => ?_
  refine zw ?_
  refine ob' h fun r12 g13 h => ?_
  refine Ops.ghd (ns := []) rfl rfl rfl rfl hb11 rfl (Y22 ((Zgd _ _).h _ g13) rfl rfl) ?_
  exact go
 intro x16 h
 replace h : Zib p0 p1 p2 p3 r4 x16 = some r := h
 unfold Zib at h
 refine cnd h (fun hb17 h => go) fun hb17 h => ?_
 refine AW.cf hb17 rfl ?_
 refine zw ?_
 refine oc h fun r18 g19 h => ?_
 refine zw ?_
 refine cnd h (fun hb20 h => ?_) fun hb20 h => ?_
 ·
  refine zw ?_
  refine ob' h fun r21 g22 h => ?_
  refine Ops.ghd (ns := []) rfl rfl rfl rfl hb20 rfl (Y22 ((Zi9 _ _ _).h _ g22) rfl rfl) ?_
  exact go
 exact go

def Zie (l42 : List Int) : Option (List Int) := some l42
def Zif (x22 : Int) (l40 : List Int) : Option ((List Int × Int) ⊕ ((List Int))) := some (.inl (l40, (IntKind.i64.wrap (x22 + 1))))
def Zig (l21 : List Int) (x22 : Int) (x33 : Bool) : Option ((List Int × Int) ⊕ ((List Int))) := cond x33 ((chk (decide ((l21.length + [(IntKind.i64.wrap (x22 + 1))].length) * 8 ≤ 140737488355328))).bind fun u37 => Zif x22 (l21 ++ [(IntKind.i64.wrap (x22 + 1))])) (Zif x22 l21)
def Zih (p0 : Y8r) (p1 : Int) (p2 : Int) (p3 : Int) (p4 : Int) (l21 : List Int) (x22 : Int) : Option ((List Int × Int) ⊕ ((List Int))) := cond (decide (x22 < (p0.hub.stream.length : Int))) ((getI p0.hub.stream x22).bind fun e24 => (Z80 (IntKind.i64.wrap (x22 + 1)) p3 p4).bind fun r27 => cond r27 (cond (e24.room == p2) ((Zic p0 p1 p2 e24.id).bind fun r31 => Zig l21 x22 r31) (Zig l21 x22 false)) (Zig l21 x22 false)) (some (.inr l21))
def Zii (p0 : Y8r) (p1 : Int) (p2 : Int) (p3 : Int) (p4 : Int) : Option (List Int) := (iter (fun z44 => Zih p0 p1 p2 p3 p4 z44.1 z44.2) big (([] : List Int), 0)).bind fun y45 => Zie y45
theorem Zij (p0 : Y8r) (p1 : Int) (p2 : Int) (p3 : Int) (p4 : Int) (r : List Int) (h : Zii p0 p1 p2 p3 p4 = some r) : Ok Tryz.prog 100 [C.ip [cM Y8y 3 p0.hub.rooms, cM Y8v 2 p0.hub.stream, cM Y99 1 p0.rooms], cI p1, cI p2, cI p3, cI p4] [] (fun c qs => ∃ (v43 : Value), c = cV v43 ∧ qs = [oA v43 2 kI64 1 r]) := by
 refine Ok.of_body (rs := [.tmp 10]) Tryz.func100 rfl rfl rfl rfl rfl fun X => ?_
 unfold Zii at h
 refine zw ?_
 refine Ops.h (ns := []) rfl rfl (Y36 (k := kI64) (ys := ([] : List Int)) Y9s .nil rfl rfl rfl) ?_
 rintro _ _ ⟨b1, rfl, rfl⟩
 refine Ops.v rfl (Yr rfl rfl) ?_
 refine Ops.nil ?_
 refine AW.seq ?_
 refine AW.cut (τ := List Int × Value) (fun (l42, v41) => ⟨[(11, cV v41)], [oA v41 2 kI64 1 l42]⟩) (fun (l42, v41) => Zie l42 = some r) ?_ ?_
 ·
  refine zw ?_
  refine AW.lp h (fun (l21, x22) (v20 : Value) => ⟨[(0, C.ip [cM Y8y 3 p0.hub.rooms, cM Y8v 2 p0.hub.stream, cM Y99 1 p0.rooms]), (1, cI p1), (2, cI p2), (3, cI p3), (4, cI p4), (11, cV v20), (20, cM Y8v 2 p0.hub.stream), (21, cI (p0.hub.stream.length : Int)), (22, cI x22)], [oA v20 2 kI64 1 l21]⟩) (gb [0]) ?_
  rintro ⟨l21, x22⟩ v20 y51 h
  refine zw ?_
  refine cnd h (fun hb23 h => ?_) fun hb23 h => ?_
  ·
   refine AW.ct hb23 rfl ?_
   refine zw ?_
   refine oi h fun e24 g25 h => ?_
   refine zw ?_
   refine Ops.h (ns := []) rfl rfl (Y1n (cs := [cI 0, cI 0]) Yao (Y3z rfl rfl) rfl) ?_
   rintro _ _ ⟨b26, rfl, rfl⟩
   refine zw ?_
   refine Ops.hd (ns := [0]) rfl rfl (Y1s (gs := [cI e24.room, cI e24.id]) Yat.h rfl rfl rfl rfl rfl) ?_
   refine Ops.nil ?_
   refine AW.seq ?_
   refine AW.region ?_
   refine Ops.v rfl (Yq rfl rfl) ?_
   refine Ops.v rfl (Yv rfl rfl rfl rfl) ?_
   refine Ops.v rfl (Yr rfl rfl) ?_
   refine Ops.nil ?_
   refine AW.seq ?_
   refine AW.cut (τ := Bool) (fun x33 => ⟨[(0, C.ip [cM Y8y 3 p0.hub.rooms, cM Y8v 2 p0.hub.stream, cM Y99 1 p0.rooms]), (1, cI p1), (2, cI p2), (3, cI p3), (4, cI p4), (11, cV v20), (14, cI (IntKind.i64.wrap (x22 + 1))), (20, cM Y8v 2 p0.hub.stream), (21, cI (p0.hub.stream.length : Int)), (22, cI x22), (46, C.bool x33)], [oA v20 2 kI64 1 l21]⟩) (fun x33 => Zig l21 x22 x33 = some y51) ?_ ?_
   ·
    refine zw ?_
    refine oc h fun r27 g28 h => ?_
    refine zw ?_
    refine cnd h (fun hb29 h => ?_) fun hb29 h => ?_
    ·
     refine zw ?_
     refine cnd h (fun hb30 h => ?_) fun hb30 h => ?_
     ·
      refine zw ?_
      refine ob' h fun r31 g32 h => ?_
      refine Ops.ghd (ns := []) rfl rfl rfl rfl hb30 rfl (Y22 ((Zid _ _ _ _).h _ g32) rfl rfl) ?_
      exact go
     exact go
    exact go
   intro x33 h
   replace h : Zig l21 x22 x33 = some y51 := h
   unfold Zig at h
   refine cnd h (fun hb34 h => ?_) fun hb34 h => ?_
   ·
    refine AW.ct hb34 rfl ?_
    refine zw ?_
    refine Ops.h (ns := []) rfl rfl (Y36 (k := kI64) (ys := [(IntKind.i64.wrap (x22 + 1))]) Y9s (.one rfl (One.val rfl) rfl rfl .nil) rfl rfl rfl) ?_
    rintro _ _ ⟨b35, rfl, rfl⟩
    refine ob' h fun u37 c36 h => ?_
    refine Ops.h (ns := [1, 0]) rfl rfl (Y2q Y9s rfl rfl (Wo (Y3q c36)) (Y3t (by decide) c36) rfl) ?_
    rintro _ _ ⟨v38, rfl, rfl⟩
    exact go
   exact go
  exact go
 rintro ⟨l42, v41⟩ h
 replace h : Zie l42 = some r := h
 unfold Zie at h
 refine zw ?_
 refine AW.ret ?_
 rw [← Wj h]
 exact ⟨[cV v41], _, Y1z.refl _, (.cons (.tmp rfl) .nil), [0], _, _, rfl, ⟨v41, rfl, rfl⟩⟩
instance Zij' (p0 : Y8r) (p1 : Int) (p2 : Int) (p3 : Int) (p4 : Int) : Sp Tryz.prog 100 [C.ip [cM Y8y 3 p0.hub.rooms, cM Y8v 2 p0.hub.stream, cM Y99 1 p0.rooms], cI p1, cI p2, cI p3, cI p4] (Zii p0 p1 p2 p3 p4) (fun r => cM kI64 1 r) := ⟨fun r h => Ok.freeze (Zij p0 p1 p2 p3 p4 r h) (by rintro c qs ⟨v43, rfl, rfl⟩; exact Frz.arr)⟩

def Zik : Option Int := some 0
def Zil (x26 : Int) : Option (Int ⊕ (Int ⊕ Unit)) := some (.inl (IntKind.i64.wrap (x26 + 1)))
def Zim (x26 : Int) (e28 : Y8j) (x50 : Bool) : Option (Int ⊕ (Int ⊕ Unit)) := cond x50 (some (.inr (.inl e28.id))) (Zil x26)
def Zin (p2 : Int) (x26 : Int) (e28 : Y8j) (x40 : Int) (x41 : Int) (x42 : Int) (x43 : Int) (x44 : Int) (x45 : Int) (x46 : ByteArray) (l47 : List Int) (x48 : Int) : Option (Int ⊕ (Int ⊕ Unit)) := cond (x43 == 8) (Zim x26 e28 (x44 == p2)) (Zim x26 e28 false)
def Zio (p0 : Y8r) (p1 : Int) (p2 : Int) (x26 : Int) : Option (Int ⊕ (Int ⊕ Unit)) := cond (decide (x26 < (p0.hub.stream.length : Int))) ((getI p0.hub.stream x26).bind fun e28 => cond (e28.room != p1) (Zil x26) ((Zi6 p0 p1).bind fun r32 => (Zc5 r32.graph e28.id).bind fun r35 => Zin p2 x26 e28 r35.1.id r35.1.room r35.1.author r35.1.kind r35.1.key r35.1.n r35.1.text r35.1.prev r35.1.time)) (some (.inr (.inr ())))
def Zip (p0 : Y8r) (p1 : Int) (p2 : Int) : Option Int := (iter (Zio p0 p1 p2) big 0).bind (fun z53 => match z53 with | .inl y52 => some y52 | .inr () => Zik)
instance Ziq (p0 : Y8r) (p1 : Int) (p2 : Int) : Sp Tryz.prog 170 [C.ip [cM Y8y 3 p0.hub.rooms, cM Y8v 2 p0.hub.stream, cM Y99 1 p0.rooms], cI p1, cI p2] (Zip p0 p1 p2) cI := sp Tryz.func170 rfl rfl fun r X h => by
 unfold Zip at h
 refine zw ?_
 refine AW.lp (v := ()) h (fun x26 (_ : Unit) => ⟨[(0, C.ip [cM Y8y 3 p0.hub.rooms, cM Y8v 2 p0.hub.stream, cM Y99 1 p0.rooms]), (1, cI p1), (2, cI p2), (15, cM Y8v 2 p0.hub.stream), (16, cI (p0.hub.stream.length : Int)), (17, cI x26)], []⟩) (gb []) ?_
 rintro x26 _ y59 h
 refine zw ?_
 refine cnd h (fun hb27 h => ?_) fun hb27 h => ?_
 ·
  refine AW.ct hb27 rfl ?_
  refine zw ?_
  refine oi h fun e28 g29 h => ?_
  refine zw ?_
  refine Ops.h (ns := []) rfl rfl (Y1n (cs := [cI 0, cI 0]) Yao (Y3z rfl rfl) rfl) ?_
  rintro _ _ ⟨b30, rfl, rfl⟩
  refine Ops.hd (ns := [0]) rfl rfl (Y1s (gs := [cI e28.room, cI e28.id]) Yat.h rfl rfl rfl rfl rfl) ?_
  refine zw ?_
  refine cnd h (fun hb31 h => go) fun hb31 h => ?_
  refine AW.cf hb31 rfl ?_
  refine AW.skip ?_
  refine AW.seq ?_
  refine AW.cut (τ := Int × Int × Int × Int × Int × Int × ByteArray × List Int × Int × Nat) (fun (x40, x41, x42, x43, x44, x45, x46, l47, x48, b39) => ⟨[(0, C.ip [cM Y8y 3 p0.hub.rooms, cM Y8v 2 p0.hub.stream, cM Y99 1 p0.rooms]), (1, cI p1), (2, cI p2), (8, pt b30), (9, pt b39), (15, cM Y8v 2 p0.hub.stream), (16, cI (p0.hub.stream.length : Int)), (17, cI x26)], [oB b30 142 [cI e28.room, cI e28.id], oB b39 136 [cI x40, cI x41, cI x42, cI x43, cI x44, cI x45, C.str x46, cM kI64 1 l47, cI x48]]⟩) (fun (x40, x41, x42, x43, x44, x45, x46, l47, x48, b39) => Zin p2 x26 e28 x40 x41 x42 x43 x44 x45 x46 l47 x48 = some y59) ?_ ?_
  ·
   refine AW.regionD (L := [5, 7]) (Lt := [13]) (k := .light 0 false (.light 1 false (.light 6 false (.light 7 true (.two 2 12 (.light 3 false (.light 4 false (.light 5 true (.two 8 12 (.light 9 false (.light 10 false (.light 11 false (.one 12 (.late 13 (.light 14 false .done)))))) (.one 8 (.light 9 false (.light 10 false (.light 11 false (.late 13 (.light 14 false .done)))))))))) (.one 2 (.light 3 false (.light 4 false (.light 5 true (.one 8 (.light 9 false (.light 10 false (.light 11 false (.late 13 (.light 14 false .done))))))))))))))) (ns := [0]) (by kernel_rfl) (by kernel_rfl) (by kernel_rfl) (by kernel_rfl) rfl ?_
   refine zw ?_
   refine ob' h fun r32 g33 h => ?_
   refine OpsD.two ?_ ?_
   ·
    refine Y3k.h (ns := []) rfl rfl rfl (Y22 ((Zi7 _ _).h _ g33) rfl rfl) ?_
    rintro _ _ ⟨rfl, rfl⟩
    refine zw ?_
    refine ob' h fun r35 g36 h => ?_
    refine OpsD.two ?_ ?_
    ·
     refine Y3k.h (ns := []) rfl rfl rfl (Y22 ((Zc6 _ _).h _ g36) rfl rfl) ?_
     rintro _ _ ⟨rfl, rfl⟩
     refine OpsD.v rfl rfl (Yq rfl rfl) ?_
     refine OpsD.v rfl rfl (Y11 rfl rfl rfl) ?_
     refine OpsD.v rfl rfl (Y11 rfl rfl rfl) ?_
     refine OpsD.one ?_
     refine Y3k.h (ns := []) rfl rfl rfl (Y1n (cs := [cI 0, cI 0, cI 0, cI 0, cI 0, cI 0, C.str ByteArray.empty, cV s0, cI 0]) Y9t (Y3z rfl rfl) rfl) ?_
     rintro _ _ ⟨b34, rfl, rfl⟩
     refine OpsD.late (ns := [1]) rfl rfl rfl (Y1s (gs := [cI r35.1.id, cI r35.1.room, cI r35.1.author, cI r35.1.kind, cI r35.1.key, cI r35.1.n, C.str r35.1.text, cM kI64 1 r35.1.prev, cI r35.1.time]) Yaa.h rfl rfl rfl rfl rfl) ?_
     rintro _ _ ⟨rfl, rfl⟩
     refine zw ?_
     exact ⟨(r35.1.id, r35.1.room, r35.1.author, r35.1.kind, r35.1.key, r35.1.n, r35.1.text, r35.1.prev, r35.1.time, b34), h, Y1z.both (ns := [1, 0]) rfl rfl⟩
    refine Y3k.h (ns := []) rfl rfl rfl (Y1n (cs := [cI 0, cI 0, cI 0, cI 0, cI 0, cI 0, C.str ByteArray.empty, cV s0, cI 0]) Y9t (Y3z rfl rfl) rfl) ?_
    rintro _ _ ⟨b34, rfl, rfl⟩
    refine OpsD.one ?_
    refine Y3k.h (ns := []) rfl rfl rfl (Y22 ((Zc6 _ _).h _ g36) rfl rfl) ?_
    rintro _ _ ⟨rfl, rfl⟩
    refine zw ?_
    refine OpsD.late (ns := [1]) rfl rfl rfl (Y1s (gs := [cI r35.1.id, cI r35.1.room, cI r35.1.author, cI r35.1.kind, cI r35.1.key, cI r35.1.n, C.str r35.1.text, cM kI64 1 r35.1.prev, cI r35.1.time]) Yaa.h rfl rfl rfl rfl rfl) ?_
    rintro _ _ ⟨rfl, rfl⟩
    refine zw ?_
    exact ⟨(r35.1.id, r35.1.room, r35.1.author, r35.1.kind, r35.1.key, r35.1.n, r35.1.text, r35.1.prev, r35.1.time, b34), h, Y1z.both (ns := [1, 0]) rfl rfl⟩
   refine Y3k.h (ns := []) rfl rfl rfl (Y1n (cs := [cI 0, cI 0, cI 0, cI 0, cI 0, cI 0, C.str ByteArray.empty, cV s0, cI 0]) Y9t (Y3z rfl rfl) rfl) ?_
   rintro _ _ ⟨b34, rfl, rfl⟩
   refine OpsD.one ?_
   refine Y3k.h (ns := []) rfl rfl rfl (Y22 ((Zi7 _ _).h _ g33) rfl rfl) ?_
   rintro _ _ ⟨rfl, rfl⟩
   refine zw ?_
   refine dc h fun r37 g38 h => ?_
   refine zw ?_
   refine OpsD.late (ns := [1]) rfl rfl rfl (Y1s (gs := [cI r37.1.id, cI r37.1.room, cI r37.1.author, cI r37.1.kind, cI r37.1.key, cI r37.1.n, C.str r37.1.text, cM kI64 1 r37.1.prev, cI r37.1.time]) Yaa.h rfl rfl rfl rfl rfl) ?_
   rintro _ _ ⟨rfl, rfl⟩
   refine zw ?_
   exact ⟨(r37.1.id, r37.1.room, r37.1.author, r37.1.kind, r37.1.key, r37.1.n, r37.1.text, r37.1.prev, r37.1.time, b34), h, Y1z.both (ns := [1, 0]) rfl rfl⟩
  rintro ⟨x40, x41, x42, x43, x44, x45, x46, l47, x48, b39⟩ h
  exact go
 exact go

def Zir (r10 : Y8h) (x21 : ByteArray) (x22 : Bool) : Option Y8s := some (Y8s.mk (Y8h.mk r10.id r10.room r10.author r10.kind r10.key r10.n x21 r10.prev r10.time) x22)
def Zis (r10 : Y8h) (x19 : Bool) : Option Y8s := cond x19 (Zir r10 ByteArray.empty true) (Zir r10 r10.text false)
def Zit (p0 : Y8r) (p1 : Int) (p2 : Int) : Option Y8s := (Zi4 p0 p1 p2).bind fun r2 => cond (r2 == 0) (some (Y8s.mk (Y8h.mk 0 0 0 0 0 0 ByteArray.empty [] 0) false)) ((Zi6 p0 p1).bind fun r5 => (Zc5 r5.graph p2).bind fun r7 => (Zhq r7.1).bind fun r10 => cond (r7.1.kind == 7) ((Zip p0 p1 p2).bind fun r14 => Zis r10 (r14 != 0)) (cond (r7.1.kind == 4) ((Zip p0 p1 p2).bind fun r17 => Zis r10 (r17 != 0)) (Zis r10 false)))
instance Ziu (p0 : Y8r) (p1 : Int) (p2 : Int) : Sp Tryz.prog 116 [C.ip [cM Y8y 3 p0.hub.rooms, cM Y8v 2 p0.hub.stream, cM Y99 1 p0.rooms], cI p1, cI p2] (Zit p0 p1 p2) (fun r => C.agg [cI r.event.id, cI r.event.room, cI r.event.author, cI r.event.kind, cI r.event.key, cI r.event.n, C.str r.event.text, cM kI64 1 r.event.prev, cI r.event.time, C.bool r.hidden]) := sp Tryz.func116 rfl rfl fun r X h => by
 unfold Zit at h
 refine zw ?_
 refine Ops.h (ns := []) rfl rfl (Y1n (cs := [cI 0, cI 0, cI 0, cI 0, cI 0, cI 0, C.str ByteArray.empty, cV s0, cI 0, C.bool false]) Yd7 (Y3z rfl rfl) rfl) ?_
 rintro _ _ ⟨b1, rfl, rfl⟩
 refine zw ?_
 refine oc h fun r2 g3 h => ?_
 refine zw ?_
 refine cnd h (fun hb4 h => ?_) fun hb4 h => ?_
 ·
  refine AW.ct hb4 rfl ?_
  refine zw ?_
  refine Ops.v rfl (Y35 (ds := [cI 0, cI 0, cI 0, cI 0, cI 0, cI 0, C.str ByteArray.empty, cV s0, cI 0, C.bool false]) Yd8 Yd7 (Y3z rfl rfl) .nil rfl) ?_
  refine Ops.hd (ns := [0]) rfl rfl (Y1s (gs := [cI 0, cI 0, cI 0, cI 0, cI 0, cI 0, C.str ByteArray.empty, cV s0, cI 0, C.bool false]) Yd9.h rfl rfl rfl rfl rfl) ?_
  refine zw ?_
  refine AW.ret ?_
  rw [← Wj h]
  exact ⟨[C.agg [cI 0, cI 0, cI 0, cI 0, cI 0, cI 0, C.str ByteArray.empty, cM kI64 1 [], cI 0, C.bool false]], _, Y1z.boxFrz (ns := [0]) rfl (fS (fS (fS (fS (fS (fS (fS (FrzL.cons (os := []) (Frz.imp (Imp.nil kI64 1)) (fS (fS FrzL.nil)))))))))), (.cons (.cell (p := 0) rfl rfl Yd9.h rfl) .nil), [], _, _, rfl, ⟨rfl, rfl⟩⟩
 refine AW.cf hb4 rfl ?_
 refine zw ?_
 refine oc h fun r5 g6 h => ?_
 refine zw ?_
 refine oc h fun r7 g8 h => ?_
 refine zw ?_
 refine Ops.h (ns := []) rfl rfl (Y1n (cs := [cI 0, cI 0, cI 0, cI 0, cI 0, cI 0, C.str ByteArray.empty, cV s0, cI 0]) Y9t (Y3z rfl rfl) rfl) ?_
 rintro _ _ ⟨b9, rfl, rfl⟩
 refine Ops.hd (ns := [0]) rfl rfl (Y1s (gs := [cI r7.1.id, cI r7.1.room, cI r7.1.author, cI r7.1.kind, cI r7.1.key, cI r7.1.n, C.str r7.1.text, cM kI64 1 r7.1.prev, cI r7.1.time]) Yaa.h rfl rfl rfl rfl rfl) ?_
 refine zw ?_
 refine oc h fun r10 g11 h => ?_
 refine Ops.v rfl (Y35 (ds := [cI r10.id, cI r10.room, cI r10.author, cI r10.kind, cI r10.key, cI r10.n, C.str r10.text, cM kI64 1 r10.prev, cI r10.time, C.bool false]) Yd8 Yd7 (Y3z rfl rfl) (.agg rfl rfl rfl .nil) rfl) ?_
 refine Ops.h (ns := []) rfl rfl (Y1n (cs := [cI 0, cI 0, cI 0, cI 0, cI 0, cI 0, C.str ByteArray.empty, cV s0, cI 0, C.bool false]) Yd7 (Y3z rfl rfl) rfl) ?_
 rintro _ _ ⟨b12, rfl, rfl⟩
 refine Ops.hd (ns := [0]) rfl rfl (Y1s (gs := [cI r10.id, cI r10.room, cI r10.author, cI r10.kind, cI r10.key, cI r10.n, C.str r10.text, cM kI64 1 r10.prev, cI r10.time, C.bool false]) Yd9.h rfl rfl rfl rfl rfl) ?_
 refine Ops.nil ?_
 refine AW.seq ?_
 refine AW.cut (τ := ByteArray × Bool) (fun (x21, x22) => ⟨[(6, pt b1), (9, pt b12)], [oB b1 160 [cI 0, cI 0, cI 0, cI 0, cI 0, cI 0, C.str ByteArray.empty, cV s0, cI 0, C.bool false], oB b12 160 [cI r10.id, cI r10.room, cI r10.author, cI r10.kind, cI r10.key, cI r10.n, C.str x21, cM kI64 1 r10.prev, cI r10.time, C.bool x22]]⟩) (fun (x21, x22) => Zir r10 x21 x22 = some r) ?_ ?_
 ·
  refine AW.seq ?_
  refine AW.cut (τ := Bool) (fun x19 => ⟨[(6, pt b1), (9, pt b12), (44, C.bool x19)], [oB b1 160 [cI 0, cI 0, cI 0, cI 0, cI 0, cI 0, C.str ByteArray.empty, cV s0, cI 0, C.bool false], oB b12 160 [cI r10.id, cI r10.room, cI r10.author, cI r10.kind, cI r10.key, cI r10.n, C.str r10.text, cM kI64 1 r10.prev, cI r10.time, C.bool false]]⟩) (fun x19 => Zis r10 x19 = some r) ?_ ?_
  ·
   refine zw ?_
   refine cnd h (fun hb13 h => ?_) fun hb13 h => ?_
   ·
    refine zw ?_
    refine ob' h fun r14 g15 h => ?_
    refine Ops.ghd (ns := []) rfl rfl rfl rfl rfl rfl (Y22 ((Ziq _ _ _).h _ g15) rfl rfl) ?_
    exact go
   refine zw ?_
   refine cnd h (fun hb16 h => ?_) fun hb16 h => ?_
   ·
    refine zw ?_
    refine ob' h fun r17 g18 h => ?_
    refine Ops.ghd (ns := []) rfl rfl rfl rfl hb16 rfl (Y22 ((Ziq _ _ _).h _ g18) rfl rfl) ?_
    exact go
   exact go
  intro x19 h
  replace h : Zis r10 x19 = some r := h
  unfold Zis at h
  refine cnd h (fun hb20 h => ?_) fun hb20 h => ?_
  ·
   refine AW.ct hb20 rfl ?_
   refine zw ?_
   refine Ops.hd (ns := [1]) rfl rfl (Y1r (gs := [cI r10.id, cI r10.room, cI r10.author, cI r10.kind, cI r10.key, cI r10.n, C.str ByteArray.empty, cM kI64 1 r10.prev, cI r10.time, C.bool false]) ld_9.h rfl rfl (One.val rfl) rfl rfl) ?_
   refine zw ?_
   refine Ops.hd (ns := [0]) rfl rfl (Y1r (gs := [cI r10.id, cI r10.room, cI r10.author, cI r10.kind, cI r10.key, cI r10.n, C.str ByteArray.empty, cM kI64 1 r10.prev, cI r10.time, C.bool true]) ld_4.h rfl rfl (One.val rfl) rfl rfl) ?_
   exact go
  exact go
 rintro ⟨x21, x22⟩ h
 replace h : Zir r10 x21 x22 = some r := h
 unfold Zir at h
 refine zw ?_
 refine Ops.hd (ns := [0]) rfl rfl (Y1s (gs := [cI r10.id, cI r10.room, cI r10.author, cI r10.kind, cI r10.key, cI r10.n, C.str x21, cM kI64 1 r10.prev, cI r10.time, C.bool x22]) Yd9.h rfl rfl rfl rfl rfl) ?_
 refine zw ?_
 refine AW.ret ?_
 rw [← Wj h]
 exact ⟨[C.agg [cI r10.id, cI r10.room, cI r10.author, cI r10.kind, cI r10.key, cI r10.n, C.str x21, cM kI64 1 r10.prev, cI r10.time, C.bool x22]], _, Y1z.refl _, (.cons (.cell (p := 0) rfl rfl Yd9.h rfl) .nil), [], _, _, rfl, ⟨rfl, rfl⟩⟩

def Ziv (l30 : List Y8s) : Option (List Y8s) := some l30
def Ziw (p0 : Y8r) (p1 : List Int) (l15 : List Y8s) (x16 : Int) : Option ((List Y8s × Int) ⊕ ((List Y8s))) := cond (decide (x16 < (p1.length : Int))) ((getI p1 x16).bind fun e18 => (getI p0.hub.stream (IntKind.i64.wrap (e18 - 1))).bind fun e20 => (Zit p0 e20.room e20.id).bind fun r23 => (chk (decide ((l15.length + [r23].length) * 104 ≤ 140737488355328))).bind fun u27 => some (.inl ((l15 ++ [r23]), (IntKind.i64.wrap (x16 + 1))))) (some (.inr l15))
def Zix (p0 : Y8r) (p1 : List Int) : Option (List Y8s) := (iter (fun z32 => Ziw p0 p1 z32.1 z32.2) big (([] : List Y8s), 0)).bind fun y33 => Ziv y33
theorem Ziy (p0 : Y8r) (p1 : List Int) (r : List Y8s) (h : Zix p0 p1 = some r) : Ok Tryz.prog 123 [C.ip [cM Y8y 3 p0.hub.rooms, cM Y8v 2 p0.hub.stream, cM Y99 1 p0.rooms], cM kI64 1 p1] [] (fun c qs => ∃ (v31 : Value), c = cV v31 ∧ qs = [oA v31 160 Y9a 10 r]) := by
 refine Ok.of_body (rs := [.tmp 4]) Tryz.func123 rfl rfl rfl rfl rfl fun X => ?_
 unfold Zix at h
 refine zw ?_
 refine Ops.h (ns := []) rfl rfl (Y36 (k := Y9a) (ys := ([] : List Y8s)) Ydc .nil rfl rfl rfl) ?_
 rintro _ _ ⟨b1, rfl, rfl⟩
 refine Ops.v rfl (Yr rfl rfl) ?_
 refine Ops.nil ?_
 refine AW.seq ?_
 refine AW.cut (τ := List Y8s × Value) (fun (l30, v29) => ⟨[(5, cV v29)], [oA v29 160 Y9a 10 l30]⟩) (fun (l30, v29) => Ziv l30 = some r) ?_ ?_
 ·
  refine zw ?_
  refine AW.lp h (fun (l15, x16) (v14 : Value) => ⟨[(0, C.ip [cM Y8y 3 p0.hub.rooms, cM Y8v 2 p0.hub.stream, cM Y99 1 p0.rooms]), (5, cV v14), (10, cM kI64 1 p1), (11, cI (p1.length : Int)), (12, cI x16)], [oA v14 160 Y9a 10 l15]⟩) (gb [0]) ?_
  rintro ⟨l15, x16⟩ v14 y39 h
  refine zw ?_
  refine cnd h (fun hb17 h => ?_) fun hb17 h => ?_
  ·
   refine AW.ct hb17 rfl ?_
   refine zw ?_
   refine oi h fun e18 g19 h => ?_
   refine zw ?_
   refine oi h fun e20 g21 h => ?_
   refine zw ?_
   refine Ops.h (ns := []) rfl rfl (Y1n (cs := [cI 0, cI 0]) Yao (Y3z rfl rfl) rfl) ?_
   rintro _ _ ⟨b22, rfl, rfl⟩
   refine Ops.hd (ns := [0]) rfl rfl (Y1s (gs := [cI e20.room, cI e20.id]) Yat.h rfl rfl rfl rfl rfl) ?_
   refine zw ?_
   refine oc h fun r23 g24 h => ?_
   refine Ops.h (ns := []) rfl rfl (Y36 (k := Y9a) (ys := [r23]) Ydc (.agg rfl rfl .nil) rfl rfl rfl) ?_
   rintro _ _ ⟨b25, rfl, rfl⟩
   refine ob' h fun u27 c26 h => ?_
   refine Ops.h (ns := [2, 0]) rfl rfl (Y2q Ydc rfl rfl (Wo (Y3q c26)) (Y3t (by decide) c26) rfl) ?_
   rintro _ _ ⟨v28, rfl, rfl⟩
   exact go
  exact go
 rintro ⟨l30, v29⟩ h
 replace h : Ziv l30 = some r := h
 unfold Ziv at h
 refine zw ?_
 refine AW.ret ?_
 rw [← Wj h]
 exact ⟨[cV v29], _, Y1z.refl _, (.cons (.tmp rfl) .nil), [0], _, _, rfl, ⟨v29, rfl, rfl⟩⟩
instance Ziy' (p0 : Y8r) (p1 : List Int) : Sp Tryz.prog 123 [C.ip [cM Y8y 3 p0.hub.rooms, cM Y8v 2 p0.hub.stream, cM Y99 1 p0.rooms], cM kI64 1 p1] (Zix p0 p1) (fun r => cM Y9a 10 r) := ⟨fun r h => Ok.freeze (Ziy p0 p1 r h) (by rintro c qs ⟨v31, rfl, rfl⟩; exact Frz.arr)⟩

def Ziz (p0 : Y8r) (p1 : Y8k) (p2 : Int) : Option (List Y8s) := (getI p1.at_ (IntKind.i64.wrap (p2 - 1))).bind fun e2 => (Zii p0 p1.user p2 (IntKind.i64.wrap (e2 + 1)) 120).bind fun r4 => (Zix p0 r4).bind fun r6 => (Zi2 r6 p1).bind fun r9 => some r9
theorem Zj0 (p0 : Y8r) (p1 : Y8k) (p2 : Int) (r : List Y8s) (h : Ziz p0 p1 p2 = some r) : Ok Tryz.prog 106 [C.ip [cM Y8y 3 p0.hub.rooms, cM Y8v 2 p0.hub.stream, cM Y99 1 p0.rooms], C.agg [cI p1.user, cM kI64 1 p1.at_], cI p2] [] (fun c qs => ∃ (v12 : Value), c = cV v12 ∧ qs = [oA v12 160 Y9a 10 r]) := by
 refine Ok.of_body (rs := [.tmp 6]) Tryz.func106 rfl rfl rfl rfl rfl fun X => ?_
 unfold Ziz at h
 refine zw ?_
 refine ox fun b1 => ?_
 refine zw ?_
 refine rD [0] [3,6,10] [] [0,4,8,13,16,20,25,28,32,36,41,44,50,54,56] ?_
 refine zw ?_
 refine di h fun e2 g3 h => ?_
 refine zw ?_
 refine dc h fun r4 g5 h => ?_
 refine zw ?_
 refine ob' h fun r6 g7 h => ?_
 refine Y3k.h (ns := []) rfl rfl rfl (Y21 (Ziy _ _ _ g7) rfl rfl) ?_
 rintro _ _ ⟨_, ⟨v8, rfl, rfl⟩, rfl⟩
 refine zw ?_
 refine Ops.v rfl (Y6h rfl rfl) ?_
 refine ob' h fun r9 g10 h => ?_
 refine Ops.h (ns := [1, 0]) rfl rfl (Y21 (Zi3 r6 p1 _ g10) rfl rfl) ?_
 rintro _ _ ⟨_, ⟨v11, rfl, rfl⟩, rfl⟩
 refine zw ?_
 refine AW.ret ?_
 rw [← Wj h]
 exact ⟨[cV v11], _, Y1z.refl _, (.cons (.tmp rfl) .nil), [0], _, _, rfl, ⟨v11, rfl, rfl⟩⟩
instance Zj0' (p0 : Y8r) (p1 : Y8k) (p2 : Int) : Sp Tryz.prog 106 [C.ip [cM Y8y 3 p0.hub.rooms, cM Y8v 2 p0.hub.stream, cM Y99 1 p0.rooms], C.agg [cI p1.user, cM kI64 1 p1.at_], cI p2] (Ziz p0 p1 p2) (fun r => cM Y9a 10 r) := ⟨fun r h => Ok.freeze (Zj0 p0 p1 p2 r h) (by rintro c qs ⟨v12, rfl, rfl⟩; exact Frz.arr)⟩

def Zj1 (p1 : Y8k) (p2 : Int) (r3 : Y8r × Bool) (x11 : Bool) : Option Int := cond x11 (some (-1)) ((Ziz r3.1 p1 p2).bind fun r13 => some (r13.length : Int))
def Zj2 (p0 : Y8m) (p1 : Y8k) (p2 : Int) : Option Int := (Zfv p0).bind fun r3 => cond r3.2 ((Zg6 p1).bind fun r6 => cond r6 ((Z82 p2).bind fun r9 => Zj1 p1 p2 r3 (!r9)) (Zj1 p1 p2 r3 true)) (some (-1))
instance Zj3 (p0 : Y8m) (p1 : Y8k) (p2 : Int) : Sp Tryz.prog 41 [C.agg [cM Y8y 3 p0.rooms, cM Y8v 2 p0.stream], C.agg [cI p1.user, cM kI64 1 p1.at_], cI p2] (Zj2 p0 p1 p2) cI := sp Tryz.func41 rfl rfl fun r X h => by
 unfold Zj2 at h
 refine zw ?_
 refine ox fun b1 => ?_
 refine ox fun b2 => ?_
 refine zw ?_
 refine ob' h fun r3 g4 h => ?_
 refine Ops.h (ns := []) rfl rfl (Y21 (Zfw _ _ g4) rfl rfl) ?_
 rintro _ _ ⟨_, ⟨hb5, rfl, rfl⟩ | ⟨hb5, rfl, rfl⟩, rfl⟩
 ·
  replace h := Y3o hb5 h
  refine zw ?_
  refine ob' h fun r6 g7 h => ?_
  refine Ops.ghd (ns := []) rfl rfl rfl rfl (Y3r hb5) rfl (Y22 ((Zg7 _).h _ g7) rfl rfl) ?_
  refine zw ?_
  refine cnd h (fun hb8 h => ?_) fun hb8 h => ?_
  ·
   refine zw ?_
   refine ob' h fun r9 g10 h => ?_
   refine Ops.ghd (ns := []) rfl rfl rfl rfl (Y3r hb8) rfl (Y22 ((Z83 _).h _ g10) rfl rfl) ?_
   exact go
  exact go
 replace h := Y3p hb5 h
 refine zw ?_
 refine AW.cond rfl (fun _ => ?_) (fun hn => absurd hn (by decide))
 exact go

def Zj4 : Option Bool := some true
def Zj5 (p0 : List Int) (p1 : List Int) (x8 : Int) : Option (Int ⊕ (Bool ⊕ Unit)) := cond (decide (x8 < (p0.length : Int))) ((getI p0 x8).bind fun e10 => (getI p1 x8).bind fun e12 => cond (e10 != e12) (some (.inr (.inl false))) (some (.inl (IntKind.i64.wrap (x8 + 1))))) (some (.inr (.inr ())))
def Zj6 (p0 : List Int) (p1 : List Int) : Option Bool := cond ((p0.length : Int) != (p1.length : Int)) (some false) ((iter (Zj5 p0 p1) big 0).bind (fun z16 => match z16 with | .inl y15 => some y15 | .inr () => Zj4))
instance Zj7 (p0 : List Int) (p1 : List Int) : Sp Tryz.prog 35 [cM kI64 1 p0, cM kI64 1 p1] (Zj6 p0 p1) C.bool := sp Tryz.func35 rfl rfl fun r X h => by
 unfold Zj6 at h
 refine zw ?_
 refine cnd h (fun hb1 h => go) fun hb1 h => ?_
 refine AW.cf hb1 rfl ?_
 refine zw ?_
 refine AW.lp (v := ()) h (fun x8 (_ : Unit) => ⟨[(0, cM kI64 1 p0), (1, cM kI64 1 p1), (5, cI x8)], []⟩) (gb []) ?_
 rintro x8 _ y22 h
 refine zw ?_
 refine cnd h (fun hb9 h => ?_) fun hb9 h => ?_
 ·
  refine AW.ct hb9 rfl ?_
  refine zw ?_
  refine rD [] [3,7] [] [0,4,8,13,16,20,24,29,32] ?_
  exact go
 exact go

def Zj8 (p0 : Y8h) (p1 : Y8h) : Option Bool := cond (p0.id != p1.id) (some false) (cond (p0.room != p1.room) (some false) (cond (p0.author != p1.author) (some false) (cond (p0.kind != p1.kind) (some false) (cond (p0.key != p1.key) (some false) (cond (p0.n != p1.n) (some false) (cond (p0.text.toList == p1.text.toList) ((Zj6 p0.prev p1.prev).bind fun r10 => cond r10 (cond (p0.time != p1.time) (some false) (some true)) (some false)) (some false)))))))
instance Zj9 (p0 : Y8h) (p1 : Y8h) : Sp Tryz.prog 173 [C.agg [cI p0.id, cI p0.room, cI p0.author, cI p0.kind, cI p0.key, cI p0.n, C.str p0.text, cM kI64 1 p0.prev, cI p0.time], C.agg [cI p1.id, cI p1.room, cI p1.author, cI p1.kind, cI p1.key, cI p1.n, C.str p1.text, cM kI64 1 p1.prev, cI p1.time]] (Zj8 p0 p1) C.bool := sp Tryz.func173 rfl rfl fun r X h => go

def Zja : Option Bool := some true
def Zjb (p0 : List Y8h) (p1 : List Y8h) (x10 : Int) : Option (Int ⊕ (Bool ⊕ Unit)) := cond (decide (x10 < (p0.length : Int))) ((getI p0 x10).bind fun e12 => (getI p1 x10).bind fun e14 => (Zj8 e12 e14).bind fun r16 => cond r16 (some (.inl (IntKind.i64.wrap (x10 + 1)))) (some (.inr (.inl false)))) (some (.inr (.inr ())))
def Zjc (p0 : List Y8h) (p1 : List Y8h) : Option Bool := cond ((p0.length : Int) != (p1.length : Int)) (some false) ((iter (Zjb p0 p1) big 0).bind (fun z20 => match z20 with | .inl y19 => some y19 | .inr () => Zja))
instance Zjd (p0 : List Y8h) (p1 : List Y8h) : Sp Tryz.prog 209 [cM Y8t 9 p0, cM Y8t 9 p1] (Zjc p0 p1) C.bool := sp Tryz.func209 rfl rfl fun r X h => by
 unfold Zjc at h
 refine zw ?_
 refine cnd h (fun hb1 h => go) fun hb1 h => ?_
 refine AW.cf hb1 rfl ?_
 refine zw ?_
 refine AW.lp (v := ()) h (fun x10 (_ : Unit) => ⟨[(0, cM Y8t 9 p0), (1, cM Y8t 9 p1), (5, cI x10)], []⟩) (gb []) ?_
 rintro x10 _ y26 h
 refine zw ?_
 refine cnd h (fun hb11 h => ?_) fun hb11 h => ?_
 ·
  refine AW.ct hb11 rfl ?_
  refine zw ?_
  refine rD [] [3,7] [] [0,4,8,13,16,20,24,29,34,36] ?_
  exact go
 exact go

def Zje (p0 : Y8l) (p1 : Y8l) : Option Bool := cond (p0.room != p1.room) (some false) ((Zjc p0.events p1.events).bind fun r4 => cond r4 ((Zjc p0.parked p1.parked).bind fun r7 => cond r7 (some true) (some false)) (some false))
instance Zjf (p0 : Y8l) (p1 : Y8l) : Sp Tryz.prog 145 [C.agg [cI p0.room, cM Y8t 9 p0.events, cM Y8t 9 p0.parked], C.agg [cI p1.room, cM Y8t 9 p1.events, cM Y8t 9 p1.parked]] (Zje p0 p1) C.bool := sp Tryz.func145 rfl rfl fun r X h => go

def Zjg : Option Bool := some true
def Zjh (p0 : List Y8l) (p1 : List Y8l) (x10 : Int) : Option (Int ⊕ (Bool ⊕ Unit)) := cond (decide (x10 < (p0.length : Int))) ((getI p0 x10).bind fun e12 => (getI p1 x10).bind fun e14 => (Zje e12 e14).bind fun r16 => cond r16 (some (.inl (IntKind.i64.wrap (x10 + 1)))) (some (.inr (.inl false)))) (some (.inr (.inr ())))
def Zji (p0 : List Y8l) (p1 : List Y8l) : Option Bool := cond ((p0.length : Int) != (p1.length : Int)) (some false) ((iter (Zjh p0 p1) big 0).bind (fun z20 => match z20 with | .inl y19 => some y19 | .inr () => Zjg))
instance Zjj (p0 : List Y8l) (p1 : List Y8l) : Sp Tryz.prog 77 [cM Y8y 3 p0, cM Y8y 3 p1] (Zji p0 p1) C.bool := sp Tryz.func77 rfl rfl fun r X h => by
 unfold Zji at h
 refine zw ?_
 refine cnd h (fun hb1 h => go) fun hb1 h => ?_
 refine AW.cf hb1 rfl ?_
 refine zw ?_
 refine AW.lp (v := ()) h (fun x10 (_ : Unit) => ⟨[(0, cM Y8y 3 p0), (1, cM Y8y 3 p1), (5, cI x10)], []⟩) (gb []) ?_
 rintro x10 _ y26 h
 refine zw ?_
 refine cnd h (fun hb11 h => ?_) fun hb11 h => ?_
 ·
  refine AW.ct hb11 rfl ?_
  refine zw ?_
  refine rD [] [3,7] [] [0,4,8,13,16,20,24,29,34,36] ?_
  exact go
 exact go

def Zjk (p0 : Y8j) (p1 : Y8j) : Option Bool := cond (p0.room != p1.room) (some false) (cond (p0.id != p1.id) (some false) (some true))
instance Zjl (p0 : Y8j) (p1 : Y8j) : Sp Tryz.prog 118 [C.agg [cI p0.room, cI p0.id], C.agg [cI p1.room, cI p1.id]] (Zjk p0 p1) C.bool := sp Tryz.func118 rfl rfl fun r X h => go

def Zjm : Option Bool := some true
def Zjn (p0 : List Y8j) (p1 : List Y8j) (x10 : Int) : Option (Int ⊕ (Bool ⊕ Unit)) := cond (decide (x10 < (p0.length : Int))) ((getI p0 x10).bind fun e12 => (getI p1 x10).bind fun e14 => (Zjk e12 e14).bind fun r16 => cond r16 (some (.inl (IntKind.i64.wrap (x10 + 1)))) (some (.inr (.inl false)))) (some (.inr (.inr ())))
def Zjo (p0 : List Y8j) (p1 : List Y8j) : Option Bool := cond ((p0.length : Int) != (p1.length : Int)) (some false) ((iter (Zjn p0 p1) big 0).bind (fun z20 => match z20 with | .inl y19 => some y19 | .inr () => Zjm))
instance Zjp (p0 : List Y8j) (p1 : List Y8j) : Sp Tryz.prog 51 [cM Y8v 2 p0, cM Y8v 2 p1] (Zjo p0 p1) C.bool := sp Tryz.func51 rfl rfl fun r X h => by
 unfold Zjo at h
 refine zw ?_
 refine cnd h (fun hb1 h => go) fun hb1 h => ?_
 refine AW.cf hb1 rfl ?_
 refine zw ?_
 refine AW.lp (v := ()) h (fun x10 (_ : Unit) => ⟨[(0, cM Y8v 2 p0), (1, cM Y8v 2 p1), (5, cI x10)], []⟩) (gb []) ?_
 rintro x10 _ y26 h
 refine zw ?_
 refine cnd h (fun hb11 h => ?_) fun hb11 h => ?_
 ·
  refine AW.ct hb11 rfl ?_
  refine zw ?_
  refine rD [] [3,7] [] [0,4,8,13,16,20,24,29,34,36] ?_
  exact go
 exact go

def Zjq (p0 : Y8m) (p1 : Y8m) : Option Bool := (Zji p0.rooms p1.rooms).bind fun r3 => cond r3 ((Zjo p0.stream p1.stream).bind fun r6 => cond r6 (some true) (some false)) (some false)
instance Zjr (p0 : Y8m) (p1 : Y8m) : Sp Tryz.prog 18 [C.agg [cM Y8y 3 p0.rooms, cM Y8v 2 p0.stream], C.agg [cM Y8y 3 p1.rooms, cM Y8v 2 p1.stream]] (Zjq p0 p1) C.bool := sp Tryz.func18 rfl rfl fun r X h => go

def Zjs (p0 : Y8k) (p1 : Y8k) : Option Bool := cond (p0.user != p1.user) (some false) ((Zj6 p0.at_ p1.at_).bind fun r4 => cond r4 (some true) (some false))
instance Zjt (p0 : Y8k) (p1 : Y8k) : Sp Tryz.prog 42 [C.agg [cI p0.user, cM kI64 1 p0.at_], C.agg [cI p1.user, cM kI64 1 p1.at_]] (Zjs p0 p1) C.bool := sp Tryz.func42 rfl rfl fun r X h => go

def Zju (p0 : THub) (p1 : Y8k) (p2 : Int) : Option Bool := (Zh p0 1048576).bind fun r3 => cond (decide (r3 < 0)) (some true) ((Zj p1 r3).bind fun r6 => cond (decide (r6 < 0)) (some true) ((Z17 p0).bind fun r9 => (Z19 p1).bind fun r11 => (Z7x r9 r11 p2).bind fun r13 => (Z17 p0).bind fun r15 => (Z19 p1).bind fun r18 => (Zj2 r15 r18 p2).bind fun r21 => cond (r21 != r13) (some false) ((Z17 p0).bind fun r24 => (Zjq r15 r24).bind fun r26 => cond r26 ((Z19 p1).bind fun r29 => (Zjs r18 r29).bind fun r31 => cond r31 (some true) (some false)) (some false))))
instance Zjv (p0 : THub) (p1 : Y8k) (p2 : Int) : Sp Tryz.prog 7 [C.agg [cM Y8u 3 p0.rooms, cM Y8v 2 p0.stream], C.agg [cI p1.user, cM kI64 1 p1.at_], cI p2] (Zju p0 p1 p2) C.bool := sp Tryz.func7 rfl rfl fun r X h => by
 unfold Zju at h
 refine zw ?_
 refine ox fun b1 => ?_
 refine ox fun b2 => ?_
 refine zw ?_
 refine oc h fun r3 g4 h => ?_
 refine zw ?_
 refine cnd h (fun hb5 h => go) fun hb5 h => ?_
 refine AW.cf hb5 rfl ?_
 refine zw ?_
 refine oc h fun r6 g7 h => ?_
 refine zw ?_
 refine cnd h (fun hb8 h => go) fun hb8 h => ?_
 refine AW.cf hb8 rfl ?_
 refine zw ?_
 refine rD [0,0] [0,2] [] [1,9,16,6,14,22,24] ?_
 refine zw ?_
 refine dc h fun r9 g10 h => ?_
 refine zw ?_
 refine dc h fun r11 g12 h => ?_
 refine zw ?_
 refine dc h fun r13 g14 h => ?_
 refine zw ?_
 refine oc h fun r15 g16 h => ?_
 refine Ops.h (ns := []) rfl rfl (Y1n (cs := [cV s0, cV s0]) Yax (Y3z rfl rfl) rfl) ?_
 rintro _ _ ⟨b17, rfl, rfl⟩
 refine Ops.hd (ns := [0]) rfl rfl (Y1s (gs := [cM Y8y 3 r15.rooms, cM Y8v 2 r15.stream]) Yb2.h rfl rfl rfl rfl rfl) ?_
 refine zw ?_
 refine oc h fun r18 g19 h => ?_
 refine Ops.h (ns := []) rfl rfl (Y1n (cs := [cI 0, cV s0]) Yb3 (Y3z rfl rfl) rfl) ?_
 rintro _ _ ⟨b20, rfl, rfl⟩
 refine Ops.hd (ns := [0]) rfl rfl (Y1s (gs := [cI r18.user, cM kI64 1 r18.at_]) Yb7.h rfl rfl rfl rfl rfl) ?_
 refine zw ?_
 refine oc h fun r21 g22 h => ?_
 refine zw ?_
 refine cnd h (fun hb23 h => go) fun hb23 h => ?_
 refine AW.cf hb23 rfl ?_
 refine zw ?_
 refine rD [0,0,0,0] [0,1] [] [1,5,10,14,16] ?_
 refine OpsD.v rfl rfl (Y1j (p := 1) (ds := [cM Y8y 3 r15.rooms, cM Y8v 2 r15.stream]) Yb2.h rfl rfl rfl rfl rfl) ?_
 refine OpsD.v rfl rfl (Y1j (p := 3) (ds := [cM Y8u 3 p0.rooms, cM Y8v 2 p0.stream]) Yde.h rfl rfl rfl rfl rfl) ?_
 refine zw ?_
 refine dc h fun r24 g25 h => ?_
 refine zw ?_
 refine dc h fun r26 g27 h => ?_
 refine zw ?_
 refine cnd h (fun hb28 h => ?_) fun hb28 h => ?_
 ·
  refine AW.cond rfl (fun hn => absurd ((Y3r hb28).symm.trans hn) (by decide)) (fun _ => ?_)
  refine zw ?_
  refine rD [0,0,0,0] [0,1] [] [1,5,10,14,16] ?_
  exact go
 exact go

end Go.Proofs.YtbgichfjcnibpaaGreat
