/- Printed by gen.py: plain functions for Go functions, and that the walks keep to them. -/
import Derived.Test.YtnoknphekhclcaaGreatDoorEQ5
set_option autoImplicit false
set_option linter.unusedVariables false
set_option linter.unusedSimpArgs false
set_option maxHeartbeats 8000000
set_option maxRecDepth 100000
namespace Go.Proofs.YtnoknphekhclcaaGreatDoor
open Go Go.Abs
attribute [local irreducible] AW Ops OpsD Y3z VoK HoK GhF UsC Go.Abs.Fin PkK LenT LenL Y9f BldK FzK FzLK
def Zky : Option Int := some 0
def Zkz (x26 : Int) : Option (Int ⊕ (Int ⊕ Unit)) := some (.inl (IntKind.i64.wrap (x26 + 1)))
def Zl0 (x26 : Int) (e28 : Y9v) (x50 : Bool) : Option (Int ⊕ (Int ⊕ Unit)) := cond x50 (some (.inr (.inl e28.id))) (Zkz x26)
def Zl1 (p2 : Int) (x26 : Int) (e28 : Y9v) (x40 : Int) (x41 : Int) (x42 : Int) (x43 : Int) (x44 : Int) (x45 : Int) (x46 : ByteArray) (l47 : List Int) (x48 : Int) : Option (Int ⊕ (Int ⊕ Unit)) := cond (x43 == 8) (Zl0 x26 e28 (x44 == p2)) (Zl0 x26 e28 false)
def Zl2 (p0 : Ya5) (p1 : Int) (p2 : Int) (x26 : Int) : Option (Int ⊕ (Int ⊕ Unit)) := cond (decide (x26 < (p0.hub.stream.length : Int))) ((getI p0.hub.stream x26).bind fun e28 => cond (e28.room != p1) (Zkz x26) ((Zkk p0 p1).bind fun r32 => (Zdj r32.graph e28.id).bind fun r35 => Zl1 p2 x26 e28 r35.1.id r35.1.room r35.1.author r35.1.kind r35.1.key r35.1.n r35.1.text r35.1.prev r35.1.time)) (some (.inr (.inr ())))
def Zl3 (p0 : Ya5) (p1 : Int) (p2 : Int) : Option Int := (iter (Zl2 p0 p1 p2) big 0).bind (fun z53 => match z53 with | .inl y52 => some y52 | .inr () => Zky)
instance Zl4 (p0 : Ya5) (p1 : Int) (p2 : Int) : Sp Tryz.prog 128 [C.ip [cM Yac 3 p0.hub.rooms, cM Ya8 2 p0.hub.stream, cM Yap 1 p0.rooms], cI p1, cI p2] (Zl3 p0 p1 p2) cI := sp Tryz.func128 rfl rfl fun r X h => by
 unfold Zl3 at h
 refine AW.seq ?_
 refine AW.region ?_
 refine Ops.v rfl (Ys rfl rfl) ?_
 refine Ops.nil ?_
 refine AW.seq ?_
 refine AW.cut (τ := Unit) (fun (_ : Unit) => ⟨[], []⟩) (fun (_ : Unit) => Zky = some r) ?_ ?_
 ·
  refine zw ?_
  refine ob' h fun o54 g55 q56 => ?_
  refine AW.loop (τ := Int) (x := 0) (fun x26 => ⟨[(0, C.ip [cM Yac 3 p0.hub.rooms, cM Ya8 2 p0.hub.stream, cM Yap 1 p0.rooms]), (1, cI p1), (2, cI p2), (15, cM Ya8 2 p0.hub.stream), (16, cI (p0.hub.stream.length : Int)), (17, cI x26)], []⟩) (fun k x26 => iter (Zl2 p0 p1 p2) k x26 = some o54) g55 (Y25.both (ns := []) rfl rfl) ?_
  intro k x26 i58
  refine Y4d (show iter (Zl2 p0 p1 p2) k x26 = some o54 from i58) fun k57 y59 hlt_k57 h h60 => ?_
  replace h : Zl2 p0 p1 p2 x26 = some y59 := h
  unfold Zl2 at h
  refine zw ?_
  refine cnd h (fun hb27 h => ?_) fun hb27 h => ?_
  ·
   refine AW.ct hb27 rfl ?_
   refine AW.skip ?_
   refine AW.seq ?_
   refine AW.cut (τ := Unit) (fun (_ : Unit) => ⟨[(0, C.ip [cM Yac 3 p0.hub.rooms, cM Ya8 2 p0.hub.stream, cM Yap 1 p0.rooms]), (1, cI p1), (2, cI p2), (15, cM Ya8 2 p0.hub.stream), (16, cI (p0.hub.stream.length : Int)), (17, cI x26)], []⟩) (fun (_ : Unit) => Zkz x26 = some y59) ?_ ?_
   ·
    refine zw ?_
    refine oi h fun e28 g29 h => ?_
    refine zw ?_
    refine al fun b30 => ?_
    refine zw ?_
    refine cnd h (fun hb31 h => ?_) fun hb31 h => ?_
    ·
     refine AW.ct hb31 rfl ?_
     refine AW.exit ?_
     exact ⟨(), h, Y25.both (ns := []) rfl rfl⟩
    refine AW.cf hb31 rfl ?_
    refine AW.skip ?_
    refine AW.seq ?_
    refine AW.cut (τ := Int × Int × Int × Int × Int × Int × ByteArray × List Int × Int × Nat) (fun (x40, x41, x42, x43, x44, x45, x46, l47, x48, b39) => ⟨[(0, C.ip [cM Yac 3 p0.hub.rooms, cM Ya8 2 p0.hub.stream, cM Yap 1 p0.rooms]), (1, cI p1), (2, cI p2), (8, pt b30), (9, pt b39), (15, cM Ya8 2 p0.hub.stream), (16, cI (p0.hub.stream.length : Int)), (17, cI x26)], [oB b39 82 [cI x40, cI x41, cI x42, cI x43, cI x44, cI x45, C.str x46, cM kI64 1 l47, cI x48], oB b30 40 [cI e28.room, cI e28.id]]⟩) (fun (x40, x41, x42, x43, x44, x45, x46, l47, x48, b39) => Zl1 p2 x26 e28 x40 x41 x42 x43 x44 x45 x46 l47 x48 = some y59) ?_ ?_
    ·
     refine AW.regionD (L := [5, 7]) (Lt := [13]) (k := .light 0 false (.light 1 false (.light 6 false (.light 7 true (.two 2 12 (.light 3 false (.light 4 false (.light 5 true (.two 8 12 (.light 9 false (.light 10 false (.light 11 false (.one 12 (.late 13 (.light 14 false .done)))))) (.one 8 (.light 9 false (.light 10 false (.light 11 false (.late 13 (.light 14 false .done)))))))))) (.one 2 (.light 3 false (.light 4 false (.light 5 true (.one 8 (.light 9 false (.light 10 false (.light 11 false (.late 13 (.light 14 false .done))))))))))))))) (ns := [0]) (by kernel_rfl) (by kernel_rfl) (by kernel_rfl) (by kernel_rfl) rfl ?_
     refine zw ?_
     refine ob' h fun r32 g33 h => ?_
     refine OpsD.two ?_ ?_
     ·
      refine Y3z.h (ns := []) rfl rfl rfl (Y28 ((Zkl _ _).h _ g33) rfl rfl) ?_
      rintro _ _ ⟨rfl, rfl⟩
      refine zw ?_
      refine ob' h fun r35 g36 h => ?_
      refine OpsD.two ?_ ?_
      ·
       refine Y3z.h (ns := []) rfl rfl rfl (Y28 ((Zdk _ _).h _ g36) rfl rfl) ?_
       rintro _ _ ⟨rfl, rfl⟩
       refine zw ?_
       refine dal fun b34 => ?_
       refine zw ?_
       exact ⟨(r35.1.id, r35.1.room, r35.1.author, r35.1.kind, r35.1.key, r35.1.n, r35.1.text, r35.1.prev, r35.1.time, b34), h, Y25.both (ns := [0, 0]) rfl rfl⟩
      refine dal fun b34 => ?_
      refine OpsD.one ?_
      refine Y3z.h (ns := []) rfl rfl rfl (Y28 ((Zdk _ _).h _ g36) rfl rfl) ?_
      rintro _ _ ⟨rfl, rfl⟩
      refine zw ?_
      exact ⟨(r35.1.id, r35.1.room, r35.1.author, r35.1.kind, r35.1.key, r35.1.n, r35.1.text, r35.1.prev, r35.1.time, b34), h, Y25.both (ns := [0, 0]) rfl rfl⟩
     refine dal fun b34 => ?_
     refine OpsD.one ?_
     refine Y3z.h (ns := []) rfl rfl rfl (Y28 ((Zkl _ _).h _ g33) rfl rfl) ?_
     rintro _ _ ⟨rfl, rfl⟩
     refine zw ?_
     refine dc h fun r37 g38 h => ?_
     refine zw ?_
     exact ⟨(r37.1.id, r37.1.room, r37.1.author, r37.1.kind, r37.1.key, r37.1.n, r37.1.text, r37.1.prev, r37.1.time, b34), h, Y25.both (ns := [0, 0]) rfl rfl⟩
    rintro ⟨x40, x41, x42, x43, x44, x45, x46, l47, x48, b39⟩ h
    replace h : Zl1 p2 x26 e28 x40 x41 x42 x43 x44 x45 x46 l47 x48 = some y59 := h
    unfold Zl1 at h
    refine AW.seq ?_
    refine AW.cut (τ := Bool) (fun x50 => ⟨[(0, C.ip [cM Yac 3 p0.hub.rooms, cM Ya8 2 p0.hub.stream, cM Yap 1 p0.rooms]), (1, cI p1), (2, cI p2), (8, pt b30), (15, cM Ya8 2 p0.hub.stream), (16, cI (p0.hub.stream.length : Int)), (17, cI x26), (45, C.bool x50)], [oB b30 40 [cI e28.room, cI e28.id]]⟩) (fun x50 => Zl0 x26 e28 x50 = some y59) ?_ ?_
    ·
     refine zw ?_
     refine cnd h (fun hb49 h => ?_) fun hb49 h => ?_
     ·
      refine zw ?_
      exact ⟨(x44 == p2), h, Y25.both (ns := [1]) rfl rfl⟩
     refine zw ?_
     exact ⟨false, h, Y25.both (ns := [1]) rfl rfl⟩
    intro x50 h
    replace h : Zl0 x26 e28 x50 = some y59 := h
    unfold Zl0 at h
    refine cnd h (fun hb51 h => ?_) fun hb51 h => ?_
    ·
     refine AW.ct hb51 rfl ?_
     refine zw ?_
     refine AW.ret ?_
     obtain rfl := Wj h
     obtain rfl := Wj h60
     replace h := q56
     rw [← Wj h]
     exact finI ⟨[cI e28.id], _, Y25.refl _, (.cons (.tmp rfl) .nil), [], _, _, rfl, ⟨rfl, rfl⟩⟩
    refine AW.cf hb51 rfl ?_
    refine zw ?_
    exact ⟨(), h, Y25.both (ns := []) rfl rfl⟩
   rintro ⟨⟩ h
   replace h : Zkz x26 = some y59 := h
   unfold Zkz at h
   refine zw ?_
   obtain rfl := Wj h
   exact ⟨k57, (IntKind.i64.wrap (x26 + 1)), hlt_k57, h60, Y25.both (ns := []) rfl rfl⟩
  refine AW.cf hb27 rfl ?_
  refine AW.exit ?_
  obtain rfl := Wj h
  obtain rfl := Wj h60
  replace h := q56
  exact ⟨(), h, Y25.both (ns := []) rfl rfl⟩
 rintro ⟨⟩ h
 replace h : Zky = some r := h
 unfold Zky at h
 refine zw ?_
 refine AW.ret ?_
 rw [← Wj h]
 exact finI ⟨[cI 0], _, Y25.refl _, (.cons (.tmp rfl) .nil), [], _, _, rfl, ⟨rfl, rfl⟩⟩

def Zl5 (r10 : Y9t) (x21 : ByteArray) (x22 : Bool) : Option Ya3 := some (Ya3.mk (Y9t.mk r10.id r10.room r10.author r10.kind r10.key r10.n x21 r10.prev r10.time) x22)
def Zl6 (r10 : Y9t) (x19 : Bool) : Option Ya3 := cond x19 (Zl5 r10 ByteArray.empty true) (Zl5 r10 r10.text false)
def Zl7 (p0 : Ya5) (p1 : Int) (p2 : Int) : Option Ya3 := (Zki p0 p1 p2).bind fun r2 => cond (r2 == 0) (some (Ya3.mk (Y9t.mk 0 0 0 0 0 0 ByteArray.empty [] 0) false)) ((Zkk p0 p1).bind fun r5 => (Zdj r5.graph p2).bind fun r7 => (Zjr r7.1).bind fun r10 => cond (r7.1.kind == 7) ((Zl3 p0 p1 p2).bind fun r14 => Zl6 r10 (r14 != 0)) (cond (r7.1.kind == 4) ((Zl3 p0 p1 p2).bind fun r17 => Zl6 r10 (r17 != 0)) (Zl6 r10 false)))
instance Zl8 (p0 : Ya5) (p1 : Int) (p2 : Int) : Sp Tryz.prog 86 [C.ip [cM Yac 3 p0.hub.rooms, cM Ya8 2 p0.hub.stream, cM Yap 1 p0.rooms], cI p1, cI p2] (Zl7 p0 p1 p2) (fun r => C.agg [cI r.event.id, cI r.event.room, cI r.event.author, cI r.event.kind, cI r.event.key, cI r.event.n, C.str r.event.text, cM kI64 1 r.event.prev, cI r.event.time, C.bool r.hidden]) := sp Tryz.func86 rfl rfl fun r X h => by
 unfold Zl7 at h
 refine zw ?_
 refine al fun b1 => ?_
 refine zw ?_
 refine oc h fun r2 g3 h => ?_
 refine zw ?_
 refine cnd h (fun hb4 h => ?_) fun hb4 h => ?_
 ·
  refine AW.ct hb4 rfl ?_
  refine AW.seq ?_
  refine AW.region ?_
  refine Ops.v rfl (Y3k (ds := [cI 0, cI 0, cI 0, cI 0, cI 0, cI 0, C.str ByteArray.empty, cV s0, cI 0, C.bool false]) Yei Yeh (Y4e rfl rfl) .nil rfl) ?_
  refine zw ?_
  refine AW.ret ?_
  rw [← Wj h]
  exact finI ⟨[C.agg [cI 0, cI 0, cI 0, cI 0, cI 0, cI 0, C.str ByteArray.empty, cM kI64 1 [], cI 0, C.bool false]], _, Y25.boxFrz (ns := [0]) rfl (fS (fS (fS (fS (fS (fS (fS (FrzL.cons (os := []) (Frz.imp (Imp.nil kI64 1)) (fS (fS FrzL.nil)))))))))), (.cons (.cell (p := 0) rfl rfl Yej.h rfl) .nil), [], _, _, rfl, ⟨rfl, rfl⟩⟩
 refine AW.cf hb4 rfl ?_
 refine zw ?_
 refine oc h fun r5 g6 h => ?_
 refine zw ?_
 refine oc h fun r7 g8 h => ?_
 refine zw ?_
 refine al fun b9 => ?_
 refine zw ?_
 refine oc h fun r10 g11 h => ?_
 refine Ops.v rfl (Y3k (ds := [cI r10.id, cI r10.room, cI r10.author, cI r10.kind, cI r10.key, cI r10.n, C.str r10.text, cM kI64 1 r10.prev, cI r10.time, C.bool false]) Yei Yeh (Y4e rfl rfl) (.agg rfl rfl rfl .nil) rfl) ?_
 refine al fun b12 => ?_
 refine Ops.sA Yej.h rfl rfl rfl inferInstance rfl ?_
 refine Ops.nil ?_
 refine AW.seq ?_
 refine AW.cut (τ := ByteArray × Bool) (fun (x21, x22) => ⟨[(6, pt b1), (9, pt b12)], [oB b12 92 [cI r10.id, cI r10.room, cI r10.author, cI r10.kind, cI r10.key, cI r10.n, C.str x21, cM kI64 1 r10.prev, cI r10.time, C.bool x22], oB b1 92 [cI 0, cI 0, cI 0, cI 0, cI 0, cI 0, C.str ByteArray.empty, cV s0, cI 0, C.bool false]]⟩) (fun (x21, x22) => Zl5 r10 x21 x22 = some r) ?_ ?_
 ·
  refine AW.seq ?_
  refine AW.cut (τ := Bool) (fun x19 => ⟨[(6, pt b1), (9, pt b12), (44, C.bool x19)], [oB b1 92 [cI 0, cI 0, cI 0, cI 0, cI 0, cI 0, C.str ByteArray.empty, cV s0, cI 0, C.bool false], oB b12 92 [cI r10.id, cI r10.room, cI r10.author, cI r10.kind, cI r10.key, cI r10.n, C.str r10.text, cM kI64 1 r10.prev, cI r10.time, C.bool false]]⟩) (fun x19 => Zl6 r10 x19 = some r) ?_ ?_
  ·
   refine zw ?_
   refine cnd h (fun hb13 h => ?_) fun hb13 h => ?_
   ·
    refine zw ?_
    refine ob' h fun r14 g15 h => ?_
    refine Ops.ghd (ns := []) rfl rfl rfl rfl rfl rfl (Y28 ((Zl4 _ _ _).h _ g15) rfl rfl) ?_
    refine zw ?_
    exact ⟨(r14 != 0), h, Y25.both (ns := [2, 0]) rfl rfl⟩
   refine zw ?_
   refine cnd h (fun hb16 h => ?_) fun hb16 h => ?_
   ·
    refine zw ?_
    refine gcl h rfl rfl rfl rfl hb16 inferInstance rfl rfl fun r17 g18 h => ?_
    refine zw ?_
    exact ⟨(r17 != 0), h, Y25.both (ns := [2, 0]) rfl rfl⟩
   refine zw ?_
   exact ⟨false, h, Y25.both (ns := [2, 0]) rfl rfl⟩
  intro x19 h
  replace h : Zl6 r10 x19 = some r := h
  unfold Zl6 at h
  refine cnd h (fun hb20 h => ?_) fun hb20 h => ?_
  ·
   refine AW.ct hb20 rfl ?_
   refine zw ?_
   exact ⟨(ByteArray.empty, true), h, Y25.both (ns := [0, 0]) rfl rfl⟩
  refine AW.cf hb20 rfl ?_
  refine zw ?_
  exact ⟨(r10.text, false), h, Y25.both (ns := [1, 0]) rfl rfl⟩
 rintro ⟨x21, x22⟩ h
 replace h : Zl5 r10 x21 x22 = some r := h
 unfold Zl5 at h
 refine zw ?_
 refine AW.ret ?_
 rw [← Wj h]
 exact finI ⟨[C.agg [cI r10.id, cI r10.room, cI r10.author, cI r10.kind, cI r10.key, cI r10.n, C.str x21, cM kI64 1 r10.prev, cI r10.time, C.bool x22]], _, Y25.refl _, (.cons (.cell (p := 0) rfl rfl Yej.h rfl) .nil), [], _, _, rfl, ⟨rfl, rfl⟩⟩

def Zl9 (l30 : List Ya3) : Option (List Ya3) := some l30
def Zla (p0 : Ya5) (p1 : List Int) (l15 : List Ya3) (x16 : Int) : Option ((List Ya3 × Int) ⊕ ((List Ya3))) := cond (decide (x16 < (p1.length : Int))) ((getI p1 x16).bind fun e18 => (getI p0.hub.stream (IntKind.i64.wrap (e18 - 1))).bind fun e20 => (Zl7 p0 e20.room e20.id).bind fun r23 => (chk (decide ((l15.length + [r23].length) * 104 ≤ 140737488355328))).bind fun u27 => some (.inl ((l15 ++ [r23]), (IntKind.i64.wrap (x16 + 1))))) (some (.inr l15))
def Zlb (p0 : Ya5) (p1 : List Int) : Option (List Ya3) := (iter (fun z32 => Zla p0 p1 z32.1 z32.2) big (([] : List Ya3), 0)).bind fun y33 => Zl9 y33
instance Zlc (p0 : Ya5) (p1 : List Int) : SpO Tryz.prog 93 (Zlb p0 p1) (.d [C.ip [cM Yac 3 p0.hub.rooms, cM Ya8 2 p0.hub.stream, cM Yap 1 p0.rooms], cM kI64 1 p1] [] fun r => .x fun (v31 : Value) => .d (cV v31) [oA v31 92 Yaq 10 r]) := ⟨so Tryz.func93 rfl rfl fun r X h => gh (.q 2 (.c1 (fun l30 => .x fun v29 => .d [(5, cV v29)] [oA v29 92 Yaq 10 l30]) [] [] (.l2 (fun l15 x16 => .x fun v14 => .d [(5, cV v14), (12, cI x16)] [oA v14 92 Yaq 10 l15]) [0,10,11] [] .z) .z))⟩
instance Zlc' (p0 : Ya5) (p1 : List Int) : Sp Tryz.prog 93 [C.ip [cM Yac 3 p0.hub.rooms, cM Ya8 2 p0.hub.stream, cM Yap 1 p0.rooms], cM kI64 1 p1] (Zlb p0 p1) (fun r => cM Yaq 10 r) := ⟨fun r h => Ok.freeze ((Zlc p0 p1).h r h) (by rintro c qs ⟨v31, rfl, rfl⟩; exact Frz.arr)⟩

def Zld (p0 : Ya5) (p1 : Y9w) (p2 : Int) : Option (List Ya3) := (getI p1.at_ (IntKind.i64.wrap (p2 - 1))).bind fun e2 => (Zkw p0 p1.user p2 (IntKind.i64.wrap (e2 + 1)) 120).bind fun r4 => (Zlb p0 r4).bind fun r6 => (Zk3 r6 p1).bind fun r9 => some r9
instance Zle (p0 : Ya5) (p1 : Y9w) (p2 : Int) : SpO Tryz.prog 57 (Zld p0 p1 p2) (.d [C.ip [cM Yac 3 p0.hub.rooms, cM Ya8 2 p0.hub.stream, cM Yap 1 p0.rooms], C.agg [cI p1.user, cM kI64 1 p1.at_], cI p2] [] fun r => .x fun (v12 : Value) => .d (cV v12) [oA v12 92 Yaq 10 r]) := ⟨so Tryz.func57 rfl rfl fun r X h => gh (.r [0] [3,6,10] [] [0,4,8,13,16,20,25,28,32,36,41,44,50,54,56] (.p (.k .z)))⟩
instance Zle' (p0 : Ya5) (p1 : Y9w) (p2 : Int) : Sp Tryz.prog 57 [C.ip [cM Yac 3 p0.hub.rooms, cM Ya8 2 p0.hub.stream, cM Yap 1 p0.rooms], C.agg [cI p1.user, cM kI64 1 p1.at_], cI p2] (Zld p0 p1 p2) (fun r => cM Yaq 10 r) := ⟨fun r h => Ok.freeze ((Zle p0 p1 p2).h r h) (by rintro c qs ⟨v12, rfl, rfl⟩; exact Frz.arr)⟩

def Zlf (x39 : Int) : Option Int := some x39
def Zlg (x30 : Int) (x38 : Int) : Option ((Int × Int) ⊕ (Int)) := some (.inl (x38, (IntKind.i64.wrap (x30 + 1))))
def Zlh (p1 : Y9w) (p2 : List Y9x) (p4 : Int) (r19 : List Ya3) (x29 : Int) (x30 : Int) : Option ((Int × Int) ⊕ (Int)) := cond (decide (x30 < (r19.length : Int))) ((getI r19 x30).bind fun e32 => (Zkg p1.user p2 e32.event).bind fun r35 => cond (r35 == p4) (Zlg x30 (IntKind.i64.wrap (x29 + 1))) (Zlg x30 x29)) (some (.inr x29))
def Zli (p1 : Y9w) (p2 : List Y9x) (p3 : Int) (p4 : Int) (r3 : Ya5 × Bool) (x17 : Bool) : Option Int := cond x17 (some (-1)) ((Zld r3.1 p1 p3).bind fun r19 => (iter (fun z40 => Zlh p1 p2 p4 r19 z40.1 z40.2) big (0, 0)).bind fun y41 => Zlf y41)
def Zlj (p0 : Y9z) (p1 : Y9w) (p2 : List Y9x) (p3 : Int) (p4 : Int) : Option Int := (Zhd p0).bind fun r3 => cond r3.2 ((Zho p1).bind fun r6 => cond r6 ((Zi5 p2).bind fun r9 => cond r9 ((Z9g p3).bind fun r12 => cond r12 ((Zhq p4).bind fun r15 => Zli p1 p2 p3 p4 r3 (!r15)) (Zli p1 p2 p3 p4 r3 true)) (Zli p1 p2 p3 p4 r3 true)) (Zli p1 p2 p3 p4 r3 true)) (some (-1))
instance Zlk (p0 : Y9z) (p1 : Y9w) (p2 : List Y9x) (p3 : Int) (p4 : Int) : Sp Tryz.prog 31 [C.agg [cM Yac 3 p0.rooms, cM Ya8 2 p0.stream], C.agg [cI p1.user, cM kI64 1 p1.at_], cM Ya9 4 p2, cI p3, cI p4] (Zlj p0 p1 p2 p3 p4) (fun r => cI r) := Sp.of (so Tryz.func31 rfl rfl fun r X h => gh (.b (.q 1 (.c1 (fun x17 => .d [(42, C.bool x17)] []) [2,3,4,6,11] [0] .z (.b .z (.q 1 (.c1 (fun x39 => .d [(13, cI x39)] []) [] [] (.l2 (fun x29 x30 => .d [(13, cI x29), (48, cI x30)] []) [2,4,6,46,47] [0] (.b (.c1 (fun x38 => .d [(13, cI x38)] []) [2,4,6,46,47,48] [0] .z .z) .z)) .z))))) .z))

def Zll : Option Bool := some true
def Zlm (p0 : List Int) (p1 : List Int) (x8 : Int) : Option (Int ⊕ (Bool ⊕ Unit)) := cond (decide (x8 < (p0.length : Int))) ((getI p0 x8).bind fun e10 => (getI p1 x8).bind fun e12 => cond (e10 != e12) (some (.inr (.inl false))) (some (.inl (IntKind.i64.wrap (x8 + 1))))) (some (.inr (.inr ())))
def Zln (p0 : List Int) (p1 : List Int) : Option Bool := cond ((p0.length : Int) != (p1.length : Int)) (some false) ((iter (Zlm p0 p1) big 0).bind (fun z16 => match z16 with | .inl y15 => some y15 | .inr () => Zll))
instance Zlo (p0 : List Int) (p1 : List Int) : Sp Tryz.prog 19 [cM kI64 1 p0, cM kI64 1 p1] (Zln p0 p1) (fun r => C.bool r) := Sp.of (so Tryz.func19 rfl rfl fun r X h => gh (.b .z (.c0 (.d [] []) [] [] (.l1 (fun x8 => .d [(5, cI x8)] []) [0,1] [] (.b (.r [] [3,7] [] [0,4,8,13,16,20,24,29,32] .z) .z)) .z)))

def Zlp (p0 : Y9t) (p1 : Y9t) : Option Bool := cond (p0.id != p1.id) (some false) (cond (p0.room != p1.room) (some false) (cond (p0.author != p1.author) (some false) (cond (p0.kind != p1.kind) (some false) (cond (p0.key != p1.key) (some false) (cond (p0.n != p1.n) (some false) (cond (p0.text.toList == p1.text.toList) ((Zln p0.prev p1.prev).bind fun r10 => cond r10 (cond (p0.time != p1.time) (some false) (some true)) (some false)) (some false)))))))
instance Zlq (p0 : Y9t) (p1 : Y9t) : Sp Tryz.prog 162 [C.agg [cI p0.id, cI p0.room, cI p0.author, cI p0.kind, cI p0.key, cI p0.n, C.str p0.text, cM kI64 1 p0.prev, cI p0.time], C.agg [cI p1.id, cI p1.room, cI p1.author, cI p1.kind, cI p1.key, cI p1.n, C.str p1.text, cM kI64 1 p1.prev, cI p1.time]] (Zlp p0 p1) (fun r => C.bool r) := Sp.of (so Tryz.func162 rfl rfl fun r X h => gh .z)

def Zlr : Option Bool := some true
def Zls (p0 : List Y9t) (p1 : List Y9t) (x10 : Int) : Option (Int ⊕ (Bool ⊕ Unit)) := cond (decide (x10 < (p0.length : Int))) ((getI p0 x10).bind fun e12 => (getI p1 x10).bind fun e14 => (Zlp e12 e14).bind fun r16 => cond r16 (some (.inl (IntKind.i64.wrap (x10 + 1)))) (some (.inr (.inl false)))) (some (.inr (.inr ())))
def Zlt (p0 : List Y9t) (p1 : List Y9t) : Option Bool := cond ((p0.length : Int) != (p1.length : Int)) (some false) ((iter (Zls p0 p1) big 0).bind (fun z20 => match z20 with | .inl y19 => some y19 | .inr () => Zlr))
instance Zlu (p0 : List Y9t) (p1 : List Y9t) : Sp Tryz.prog 129 [cM Ya6 9 p0, cM Ya6 9 p1] (Zlt p0 p1) (fun r => C.bool r) := Sp.of (so Tryz.func129 rfl rfl fun r X h => gh (.b .z (.c0 (.d [] []) [] [] (.l1 (fun x10 => .d [(5, cI x10)] []) [0,1] [] (.b (.r [] [3,7] [] [0,4,8,13,16,20,24,29,34,36] .z) .z)) .z)))

def Zlv (p0 : Y9y) (p1 : Y9y) : Option Bool := cond (p0.room != p1.room) (some false) ((Zlt p0.events p1.events).bind fun r4 => cond r4 ((Zlt p0.parked p1.parked).bind fun r7 => cond r7 (some true) (some false)) (some false))
instance Zlw (p0 : Y9y) (p1 : Y9y) : Sp Tryz.prog 87 [C.agg [cI p0.room, cM Ya6 9 p0.events, cM Ya6 9 p0.parked], C.agg [cI p1.room, cM Ya6 9 p1.events, cM Ya6 9 p1.parked]] (Zlv p0 p1) (fun r => C.bool r) := Sp.of (so Tryz.func87 rfl rfl fun r X h => gh .z)

def Zlx : Option Bool := some true
def Zly (p0 : List Y9y) (p1 : List Y9y) (x10 : Int) : Option (Int ⊕ (Bool ⊕ Unit)) := cond (decide (x10 < (p0.length : Int))) ((getI p0 x10).bind fun e12 => (getI p1 x10).bind fun e14 => (Zlv e12 e14).bind fun r16 => cond r16 (some (.inl (IntKind.i64.wrap (x10 + 1)))) (some (.inr (.inl false)))) (some (.inr (.inr ())))
def Zlz (p0 : List Y9y) (p1 : List Y9y) : Option Bool := cond ((p0.length : Int) != (p1.length : Int)) (some false) ((iter (Zly p0 p1) big 0).bind (fun z20 => match z20 with | .inl y19 => some y19 | .inr () => Zlx))
instance Zm0 (p0 : List Y9y) (p1 : List Y9y) : Sp Tryz.prog 45 [cM Yac 3 p0, cM Yac 3 p1] (Zlz p0 p1) (fun r => C.bool r) := Sp.of (so Tryz.func45 rfl rfl fun r X h => gh (.b .z (.c0 (.d [] []) [] [] (.l1 (fun x10 => .d [(5, cI x10)] []) [0,1] [] (.b (.r [] [3,7] [] [0,4,8,13,16,20,24,29,34,36] .z) .z)) .z)))

def Zm1 (p0 : Y9v) (p1 : Y9v) : Option Bool := cond (p0.room != p1.room) (some false) (cond (p0.id != p1.id) (some false) (some true))
instance Zm2 (p0 : Y9v) (p1 : Y9v) : Sp Tryz.prog 88 [C.agg [cI p0.room, cI p0.id], C.agg [cI p1.room, cI p1.id]] (Zm1 p0 p1) (fun r => C.bool r) := Sp.of (so Tryz.func88 rfl rfl fun r X h => gh .z)

def Zm3 : Option Bool := some true
def Zm4 (p0 : List Y9v) (p1 : List Y9v) (x10 : Int) : Option (Int ⊕ (Bool ⊕ Unit)) := cond (decide (x10 < (p0.length : Int))) ((getI p0 x10).bind fun e12 => (getI p1 x10).bind fun e14 => (Zm1 e12 e14).bind fun r16 => cond r16 (some (.inl (IntKind.i64.wrap (x10 + 1)))) (some (.inr (.inl false)))) (some (.inr (.inr ())))
def Zm5 (p0 : List Y9v) (p1 : List Y9v) : Option Bool := cond ((p0.length : Int) != (p1.length : Int)) (some false) ((iter (Zm4 p0 p1) big 0).bind (fun z20 => match z20 with | .inl y19 => some y19 | .inr () => Zm3))
instance Zm6 (p0 : List Y9v) (p1 : List Y9v) : Sp Tryz.prog 46 [cM Ya8 2 p0, cM Ya8 2 p1] (Zm5 p0 p1) (fun r => C.bool r) := Sp.of (so Tryz.func46 rfl rfl fun r X h => gh (.b .z (.c0 (.d [] []) [] [] (.l1 (fun x10 => .d [(5, cI x10)] []) [0,1] [] (.b (.r [] [3,7] [] [0,4,8,13,16,20,24,29,34,36] .z) .z)) .z)))

def Zm7 (p0 : Y9z) (p1 : Y9z) : Option Bool := (Zlz p0.rooms p1.rooms).bind fun r3 => cond r3 ((Zm5 p0.stream p1.stream).bind fun r6 => cond r6 (some true) (some false)) (some false)
instance Zm8 (p0 : Y9z) (p1 : Y9z) : Sp Tryz.prog 14 [C.agg [cM Yac 3 p0.rooms, cM Ya8 2 p0.stream], C.agg [cM Yac 3 p1.rooms, cM Ya8 2 p1.stream]] (Zm7 p0 p1) (fun r => C.bool r) := Sp.of (so Tryz.func14 rfl rfl fun r X h => gh .z)

def Zm9 (p0 : Y9w) (p1 : Y9w) : Option Bool := cond (p0.user != p1.user) (some false) ((Zln p0.at_ p1.at_).bind fun r4 => cond r4 (some true) (some false))
instance Zma (p0 : Y9w) (p1 : Y9w) : Sp Tryz.prog 20 [C.agg [cI p0.user, cM kI64 1 p0.at_], C.agg [cI p1.user, cM kI64 1 p1.at_]] (Zm9 p0 p1) (fun r => C.bool r) := Sp.of (so Tryz.func20 rfl rfl fun r X h => gh .z)

def Zmb (p0 : Y9x) (p1 : Y9x) : Option Bool := cond (p0.kind != p1.kind) (some false) (cond (p0.n != p1.n) (some false) (cond (p0.text.toList == p1.text.toList) (cond (p0.loud != p1.loud) (some false) (some true)) (some false)))
instance Zmc (p0 : Y9x) (p1 : Y9x) : Sp Tryz.prog 66 [C.agg [cI p0.kind, cI p0.n, C.str p0.text, cI p0.loud], C.agg [cI p1.kind, cI p1.n, C.str p1.text, cI p1.loud]] (Zmb p0 p1) (fun r => C.bool r) := Sp.of (so Tryz.func66 rfl rfl fun r X h => gh .z)

def Zmd : Option Bool := some true
def Zme (p0 : List Y9x) (p1 : List Y9x) (x10 : Int) : Option (Int ⊕ (Bool ⊕ Unit)) := cond (decide (x10 < (p0.length : Int))) ((getI p0 x10).bind fun e12 => (getI p1 x10).bind fun e14 => (Zmb e12 e14).bind fun r16 => cond r16 (some (.inl (IntKind.i64.wrap (x10 + 1)))) (some (.inr (.inl false)))) (some (.inr (.inr ())))
def Zmf (p0 : List Y9x) (p1 : List Y9x) : Option Bool := cond ((p0.length : Int) != (p1.length : Int)) (some false) ((iter (Zme p0 p1) big 0).bind (fun z20 => match z20 with | .inl y19 => some y19 | .inr () => Zmd))
instance Zmg (p0 : List Y9x) (p1 : List Y9x) : Sp Tryz.prog 29 [cM Ya9 4 p0, cM Ya9 4 p1] (Zmf p0 p1) (fun r => C.bool r) := Sp.of (so Tryz.func29 rfl rfl fun r X h => gh (.b .z (.c0 (.d [] []) [] [] (.l1 (fun x10 => .d [(5, cI x10)] []) [0,1] [] (.b (.r [] [3,7] [] [0,4,8,13,16,20,24,29,34,36] .z) .z)) .z)))

def Zmh (p0 : THub) (p1 : Y9w) (p2 : List Y9x) (p3 : Int) (p4 : Int) : Option Bool := (Zh p0 1048576).bind fun r3 => cond (decide (r3 < 0)) (some true) ((Zj p1 r3).bind fun r6 => cond (decide (r6 < 0)) (some true) ((Zp p2 r6).bind fun r9 => cond (decide (r9 < 0)) (some true) ((Z1f p0).bind fun r12 => (Z1h p1).bind fun r14 => (Z1n p2).bind fun r16 => (Z9b r12 r14 r16 p3 p4).bind fun r18 => (Z1f p0).bind fun r20 => (Z1h p1).bind fun r23 => (Z1n p2).bind fun r26 => (Zlj r20 r23 r26 p3 p4).bind fun r28 => cond (r28 != r18) (some false) ((Z1f p0).bind fun r31 => (Zm7 r20 r31).bind fun r33 => cond r33 ((Z1h p1).bind fun r36 => (Zm9 r23 r36).bind fun r38 => cond r38 ((Z1n p2).bind fun r41 => (Zmf r26 r41).bind fun r43 => cond r43 (some true) (some false)) (some false)) (some false)))))
instance Zmi (p0 : THub) (p1 : Y9w) (p2 : List Y9x) (p3 : Int) (p4 : Int) : Sp Tryz.prog 6 [C.agg [cM Ya7 3 p0.rooms, cM Ya8 2 p0.stream], C.agg [cI p1.user, cM kI64 1 p1.at_], cM Ya9 4 p2, cI p3, cI p4] (Zmh p0 p1 p2 p3 p4) (fun r => C.bool r) := Sp.of (so Tryz.func6 rfl rfl fun r X h => gh (.b .z (.b .z (.b .z (.r [0,0] [0,2] [] [1,9,16,24,28,6,14,22,34,36] (.b .z (.r [0,0,0,0] [0,1] [] [1,5,10,14,16] (.b (.r [0,0,0,0] [0,1] [] [1,5,10,14,16] .z) .z))))))))

end Go.Proofs.YtnoknphekhclcaaGreatDoor
