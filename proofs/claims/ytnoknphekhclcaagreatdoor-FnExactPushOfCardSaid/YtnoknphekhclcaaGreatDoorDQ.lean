/- Printed by gen.py: plain functions for Go functions, and that the walks keep to them. -/
import Derived.Test.YtnoknphekhclcaaGreatDoorDQ4
set_option autoImplicit false
set_option linter.unusedVariables false
set_option linter.unusedSimpArgs false
set_option maxHeartbeats 8000000
set_option maxRecDepth 100000
namespace Go.Proofs.YtnoknphekhclcaaGreatDoor
open Go Go.Abs
attribute [local irreducible] AW Ops OpsD Y3z VoK HoK GhF UsC Go.Abs.Fin PkK LenT LenL Y9f BldK FzK FzLK
def Zix (p0 : ByteArray) (p1 : ByteArray) : Option Bool := (chk (decide (p0.size < 4294967281))).bind fun _ => some (Go.Lib.contains p0.data.toList p1.data.toList)
instance Ziy (p0 : ByteArray) (p1 : ByteArray) : Sp Tryz.prog 58 [C.str p0, C.str p1] (Zix p0 p1) (fun r => C.bool r) := Y9m rfl Y9n Y9o p0 p1

def Ziz (p0 : Int) (p1 : Int) : Option ByteArray := (chk (decide ((0 ≤ p0 ∧ p0 < 100) ∧ p1 = 10))).bind fun _ => some ⟨(Go.Lib.decDigits p0.toNat).toArray⟩
instance Zj0 (p0 : Int) (p1 : Int) : Sp Tryz.prog 98 [cI p0, cI p1] (Ziz p0 p1) (fun r => C.str r) := Y9q Y9r Y9s p0 p1

def Zj1 (p0 : Int) : Option ByteArray := (Ziz p0 10).bind fun r1 => some r1
instance Zj2 (p0 : Int) : Sp Tryz.prog 59 [cI p0] (Zj1 p0) (fun r => C.str r) := Sp.of (so Tryz.func59 rfl rfl fun r X h => gh .z)

def Zj3 (p0 : Y9w) (p1 : Int) (p2 : Y9t) : Option Bool := cond (p0.kind == 1) ((Zix p2.text p0.text).bind fun r4 => some r4) (cond (p0.kind == 2) (some (p2.author == p0.n)) (cond (p0.kind == 3) (some (p2.room == p0.n)) (cond (p0.kind == 4) ((Zj1 p1).bind fun r9 => (chk (decide ((ByteArray.mk #[64]).size + r9.size ≤ 9223372036854775807))).bind fun u12 => (Zix p2.text ((ByteArray.mk #[64]) ++ r9)).bind fun r13 => some r13) (some true))))
instance Zj4 (p0 : Y9w) (p1 : Int) (p2 : Y9t) : Sp Tryz.prog 44 [C.agg [cI p0.kind, cI p0.n, C.str p0.text, cI p0.loud], cI p1, C.agg [cI p2.id, cI p2.room, cI p2.author, cI p2.kind, cI p2.key, cI p2.n, C.str p2.text, cM kI64 1 p2.prev, cI p2.time]] (Zj3 p0 p1 p2) (fun r => C.bool r) := Sp.of (so Tryz.func44 rfl rfl fun r X h => gh (.b .z (.b .z (.b .z (.b (.r [0,0] [1] [] [0,5,8,14,16,22,24] .z) .z)))))

def Zj5 : Option Int := some 0
def Zj6 (p0 : Int) (p1 : List Y9w) (p2 : Y9t) (x9 : Int) : Option (Int ⊕ (Int ⊕ Unit)) := cond (decide (x9 < (p1.length : Int))) ((getI p1 x9).bind fun e11 => (Zj3 e11 p0 p2).bind fun r14 => cond r14 (some (.inr (.inl e11.loud))) (some (.inl (IntKind.i64.wrap (x9 + 1))))) (some (.inr (.inr ())))
def Zj7 (p0 : Int) (p1 : List Y9w) (p2 : Y9t) : Option Int := (iter (Zj6 p0 p1 p2) big 0).bind (fun z18 => match z18 with | .inl y17 => some y17 | .inr () => Zj5)
instance Zj8 (p0 : Int) (p1 : List Y9w) (p2 : Y9t) : Sp Tryz.prog 65 [cI p0, cM Ya8 4 p1, C.agg [cI p2.id, cI p2.room, cI p2.author, cI p2.kind, cI p2.key, cI p2.n, C.str p2.text, cM kI64 1 p2.prev, cI p2.time]] (Zj7 p0 p1 p2) (fun r => cI r) := Sp.of (so Tryz.func65 rfl rfl fun r X h => gh (.q 1 (.c0 (.d [] []) [] [] (.l1 (fun x9 => .d [(11, cI x9)] []) [0,5,9,10] [0] .z) .z)))

def Zj9 (p0 : Ya4) (p1 : Int) (p2 : Int) : Option Int := (Zhd p0.hub.stream (Y9v.mk p1 p2)).bind fun r1 => some (IntKind.i64.wrap (r1 + 1))
instance Zja (p0 : Ya4) (p1 : Int) (p2 : Int) : Sp Tryz.prog 123 [C.ip [cM Yab 3 p0.hub.rooms, cM Ya7 2 p0.hub.stream, cM Yao 1 p0.rooms], cI p1, cI p2] (Zj9 p0 p1 p2) (fun r => cI r) := Sp.of (so Tryz.func123 rfl rfl fun r X h => gh .z)

def Zjb (p0 : Ya4) (p1 : Int) : Option Ya3 := (getI p0.rooms (IntKind.i64.wrap (p1 - 1))).bind fun e1 => some e1
instance Zjc (p0 : Ya4) (p1 : Int) : Sp Tryz.prog 80 [C.ip [cM Yab 3 p0.hub.rooms, cM Ya7 2 p0.hub.stream, cM Yao 1 p0.rooms], cI p1] (Zjb p0 p1) (fun r => C.ip [cI r.graph.room, cM Ya5 9 r.graph.events, cM Ya5 9 r.graph.parked, C.imap .i64 Yak r.depth, C.imap .i64 Yal r.before, C.imap .i64 Yal r.after, C.imap .i64 Yak r.refused]) := Sp.of (so Tryz.func80 rfl rfl fun r X h => gh .z)

def Zjd (p0 : Ya4) (p1 : Int) (p2 : Int) : Option Bool := (Zjb p0 p2).bind fun r1 => (Zit r1).bind fun r3 => (Zdu r1.graph r3 p1).bind fun r5 => some (r5 == 1)
instance Zje (p0 : Ya4) (p1 : Int) (p2 : Int) : Sp Tryz.prog 126 [C.ip [cM Yab 3 p0.hub.rooms, cM Ya7 2 p0.hub.stream, cM Yao 1 p0.rooms], cI p1, cI p2] (Zjd p0 p1 p2) (fun r => C.bool r) := Sp.of (so Tryz.func126 rfl rfl fun r X h => gh (.r [] [3] [] [0,4,8,13,16,24,22,30,32,36] .z))

def Zjf (x23 : Bool) : Option Bool := some x23
def Zjg (p0 : Ya4) (p1 : Int) (p2 : Int) (p3 : Int) (r4 : Ya3) (x16 : Bool) : Option Bool := cond x16 (some true) ((Zhf r4.graph (Option.getD (mget r4.after p3) ([] : List Y9z))).bind fun r18 => cond (r18 == 2) ((Zjd p0 p1 p2).bind fun r21 => Zjf r21) (Zjf false))
def Zjh (p0 : Ya4) (p1 : Int) (p2 : Int) (p3 : Int) : Option Bool := (Zj9 p0 p2 p3).bind fun r1 => cond (r1 == 0) (some false) ((Zjb p0 p2).bind fun r4 => (Zcy r4.graph p3).bind fun r6 => (Zdu r4.graph (Option.getD (mget r4.after p3) ([] : List Y9z)) p1).bind fun r9 => cond (r9 == 1) (Zjg p0 p1 p2 p3 r4 true) ((Zhf r4.graph (Option.getD (mget r4.after p3) ([] : List Y9z))).bind fun r12 => cond (r12 == 1) (Zjg p0 p1 p2 p3 r4 true) (cond (r6.1.kind == 2) (Zjg p0 p1 p2 p3 r4 (r6.1.key == p1)) (Zjg p0 p1 p2 p3 r4 false))))
instance Zji (p0 : Ya4) (p1 : Int) (p2 : Int) (p3 : Int) : Sp Tryz.prog 85 [C.ip [cM Yab 3 p0.hub.rooms, cM Ya7 2 p0.hub.stream, cM Yao 1 p0.rooms], cI p1, cI p2, cI p3] (Zjh p0 p1 p2 p3) (fun r => C.bool r) := Sp.of (so Tryz.func85 rfl rfl fun r X h => gh (.b .z (.q 4 (.c1 (fun x16 => .d [(36, C.bool x16)] []) [0,1,2,9,12] [] .z (.b .z (.c1 (fun x23 => .d [(8, C.bool x23)] []) [] [] .z .z))))))

def Zjj : Option Int := some 0
def Zjk (x26 : Int) : Option (Int ⊕ (Int ⊕ Unit)) := some (.inl (IntKind.i64.wrap (x26 + 1)))
def Zjl (x26 : Int) (e28 : Y9v) (x50 : Bool) : Option (Int ⊕ (Int ⊕ Unit)) := cond x50 (some (.inr (.inl e28.id))) (Zjk x26)
def Zjm (p2 : Int) (x26 : Int) (e28 : Y9v) (x40 : Int) (x41 : Int) (x42 : Int) (x43 : Int) (x44 : Int) (x45 : Int) (x46 : ByteArray) (l47 : List Int) (x48 : Int) : Option (Int ⊕ (Int ⊕ Unit)) := cond (x43 == 8) (Zjl x26 e28 (x44 == p2)) (Zjl x26 e28 false)
def Zjn (p0 : Ya4) (p1 : Int) (p2 : Int) (x26 : Int) : Option (Int ⊕ (Int ⊕ Unit)) := cond (decide (x26 < (p0.hub.stream.length : Int))) ((getI p0.hub.stream x26).bind fun e28 => cond (e28.room != p1) (Zjk x26) ((Zjb p0 p1).bind fun r32 => (Zcy r32.graph e28.id).bind fun r35 => Zjm p2 x26 e28 r35.1.id r35.1.room r35.1.author r35.1.kind r35.1.key r35.1.n r35.1.text r35.1.prev r35.1.time)) (some (.inr (.inr ())))
def Zjo (p0 : Ya4) (p1 : Int) (p2 : Int) : Option Int := (iter (Zjn p0 p1 p2) big 0).bind (fun z53 => match z53 with | .inl y52 => some y52 | .inr () => Zjj)
instance Zjp (p0 : Ya4) (p1 : Int) (p2 : Int) : Sp Tryz.prog 128 [C.ip [cM Yab 3 p0.hub.rooms, cM Ya7 2 p0.hub.stream, cM Yao 1 p0.rooms], cI p1, cI p2] (Zjo p0 p1 p2) cI := sp Tryz.func128 rfl rfl fun r X h => by
 unfold Zjo at h
 refine AW.seq ?_
 refine AW.region ?_
 refine Ops.v rfl (Ys rfl rfl) ?_
 refine Ops.nil ?_
 refine AW.seq ?_
 refine AW.cut (τ := Unit) (fun (_ : Unit) => ⟨[], []⟩) (fun (_ : Unit) => Zjj = some r) ?_ ?_
 ·
  refine zw ?_
  refine ob' h fun o54 g55 q56 => ?_
  refine AW.loop (τ := Int) (x := 0) (fun x26 => ⟨[(0, C.ip [cM Yab 3 p0.hub.rooms, cM Ya7 2 p0.hub.stream, cM Yao 1 p0.rooms]), (1, cI p1), (2, cI p2), (15, cM Ya7 2 p0.hub.stream), (16, cI (p0.hub.stream.length : Int)), (17, cI x26)], []⟩) (fun k x26 => iter (Zjn p0 p1 p2) k x26 = some o54) g55 (Y25.both (ns := []) rfl rfl) ?_
  intro k x26 i58
  refine Y4d (show iter (Zjn p0 p1 p2) k x26 = some o54 from i58) fun k57 y59 hlt_k57 h h60 => ?_
  replace h : Zjn p0 p1 p2 x26 = some y59 := h
  unfold Zjn at h
  refine zw ?_
  refine cnd h (fun hb27 h => ?_) fun hb27 h => ?_
  ·
   refine AW.ct hb27 rfl ?_
   refine AW.skip ?_
   refine AW.seq ?_
   refine AW.cut (τ := Unit) (fun (_ : Unit) => ⟨[(0, C.ip [cM Yab 3 p0.hub.rooms, cM Ya7 2 p0.hub.stream, cM Yao 1 p0.rooms]), (1, cI p1), (2, cI p2), (15, cM Ya7 2 p0.hub.stream), (16, cI (p0.hub.stream.length : Int)), (17, cI x26)], []⟩) (fun (_ : Unit) => Zjk x26 = some y59) ?_ ?_
   ·
    refine zw ?_
    refine oi h fun e28 g29 h => ?_
    refine zw ?_
    refine al fun b30 => ?_
    refine zw ?_
    refine cnd h (fun hb31 h => ?_) fun hb31 h => ?_
    ·
     refine AW.ct hb31 rfl ?_
     refine AW.exit ?_
     exact ⟨(), h, Y25.both (ns := []) rfl rfl⟩
    refine AW.cf hb31 rfl ?_
    refine AW.skip ?_
    refine AW.seq ?_
    refine AW.cut (τ := Int × Int × Int × Int × Int × Int × ByteArray × List Int × Int × Nat) (fun (x40, x41, x42, x43, x44, x45, x46, l47, x48, b39) => ⟨[(0, C.ip [cM Yab 3 p0.hub.rooms, cM Ya7 2 p0.hub.stream, cM Yao 1 p0.rooms]), (1, cI p1), (2, cI p2), (8, pt b30), (9, pt b39), (15, cM Ya7 2 p0.hub.stream), (16, cI (p0.hub.stream.length : Int)), (17, cI x26)], [oB b39 82 [cI x40, cI x41, cI x42, cI x43, cI x44, cI x45, C.str x46, cM kI64 1 l47, cI x48], oB b30 40 [cI e28.room, cI e28.id]]⟩) (fun (x40, x41, x42, x43, x44, x45, x46, l47, x48, b39) => Zjm p2 x26 e28 x40 x41 x42 x43 x44 x45 x46 l47 x48 = some y59) ?_ ?_
    ·
     refine AW.regionD (L := [5, 7]) (Lt := [13]) (k := .light 0 false (.light 1 false (.light 6 false (.light 7 true (.two 2 12 (.light 3 false (.light 4 false (.light 5 true (.two 8 12 (.light 9 false (.light 10 false (.light 11 false (.one 12 (.late 13 (.light 14 false .done)))))) (.one 8 (.light 9 false (.light 10 false (.light 11 false (.late 13 (.light 14 false .done)))))))))) (.one 2 (.light 3 false (.light 4 false (.light 5 true (.one 8 (.light 9 false (.light 10 false (.light 11 false (.late 13 (.light 14 false .done))))))))))))))) (ns := [0]) (by kernel_rfl) (by kernel_rfl) (by kernel_rfl) (by kernel_rfl) rfl ?_
     refine zw ?_
     refine ob' h fun r32 g33 h => ?_
     refine OpsD.two ?_ ?_
     ·
      refine Y3z.h (ns := []) rfl rfl rfl (Y28 ((Zjc _ _).h _ g33) rfl rfl) ?_
      rintro _ _ ⟨rfl, rfl⟩
      refine zw ?_
      refine ob' h fun r35 g36 h => ?_
      refine OpsD.two ?_ ?_
      ·
       refine Y3z.h (ns := []) rfl rfl rfl (Y28 ((Zcz _ _).h _ g36) rfl rfl) ?_
       rintro _ _ ⟨rfl, rfl⟩
       refine zw ?_
       refine dal fun b34 => ?_
       refine zw ?_
       exact ⟨(r35.1.id, r35.1.room, r35.1.author, r35.1.kind, r35.1.key, r35.1.n, r35.1.text, r35.1.prev, r35.1.time, b34), h, Y25.both (ns := [0, 0]) rfl rfl⟩
      refine dal fun b34 => ?_
      refine OpsD.one ?_
      refine Y3z.h (ns := []) rfl rfl rfl (Y28 ((Zcz _ _).h _ g36) rfl rfl) ?_
      rintro _ _ ⟨rfl, rfl⟩
      refine zw ?_
      exact ⟨(r35.1.id, r35.1.room, r35.1.author, r35.1.kind, r35.1.key, r35.1.n, r35.1.text, r35.1.prev, r35.1.time, b34), h, Y25.both (ns := [0, 0]) rfl rfl⟩
     refine dal fun b34 => ?_
     refine OpsD.one ?_
     refine Y3z.h (ns := []) rfl rfl rfl (Y28 ((Zjc _ _).h _ g33) rfl rfl) ?_
     rintro _ _ ⟨rfl, rfl⟩
     refine zw ?_
     refine dc h fun r37 g38 h => ?_
     refine zw ?_
     exact ⟨(r37.1.id, r37.1.room, r37.1.author, r37.1.kind, r37.1.key, r37.1.n, r37.1.text, r37.1.prev, r37.1.time, b34), h, Y25.both (ns := [0, 0]) rfl rfl⟩
    rintro ⟨x40, x41, x42, x43, x44, x45, x46, l47, x48, b39⟩ h
    replace h : Zjm p2 x26 e28 x40 x41 x42 x43 x44 x45 x46 l47 x48 = some y59 := h
    unfold Zjm at h
    refine AW.seq ?_
    refine AW.cut (τ := Bool) (fun x50 => ⟨[(0, C.ip [cM Yab 3 p0.hub.rooms, cM Ya7 2 p0.hub.stream, cM Yao 1 p0.rooms]), (1, cI p1), (2, cI p2), (8, pt b30), (15, cM Ya7 2 p0.hub.stream), (16, cI (p0.hub.stream.length : Int)), (17, cI x26), (45, C.bool x50)], [oB b30 40 [cI e28.room, cI e28.id]]⟩) (fun x50 => Zjl x26 e28 x50 = some y59) ?_ ?_
    ·
     refine zw ?_
     refine cnd h (fun hb49 h => ?_) fun hb49 h => ?_
     ·
      refine zw ?_
      exact ⟨(x44 == p2), h, Y25.both (ns := [1]) rfl rfl⟩
     refine zw ?_
     exact ⟨false, h, Y25.both (ns := [1]) rfl rfl⟩
    intro x50 h
    replace h : Zjl x26 e28 x50 = some y59 := h
    unfold Zjl at h
    refine cnd h (fun hb51 h => ?_) fun hb51 h => ?_
    ·
     refine AW.ct hb51 rfl ?_
     refine zw ?_
     refine AW.ret ?_
     obtain rfl := Wj h
     obtain rfl := Wj h60
     replace h := q56
     rw [← Wj h]
     exact finI ⟨[cI e28.id], _, Y25.refl _, (.cons (.tmp rfl) .nil), [], _, _, rfl, ⟨rfl, rfl⟩⟩
    refine AW.cf hb51 rfl ?_
    refine zw ?_
    exact ⟨(), h, Y25.both (ns := []) rfl rfl⟩
   rintro ⟨⟩ h
   replace h : Zjk x26 = some y59 := h
   unfold Zjk at h
   refine zw ?_
   obtain rfl := Wj h
   exact ⟨k57, (IntKind.i64.wrap (x26 + 1)), hlt_k57, h60, Y25.both (ns := []) rfl rfl⟩
  refine AW.cf hb27 rfl ?_
  refine AW.exit ?_
  obtain rfl := Wj h
  obtain rfl := Wj h60
  replace h := q56
  exact ⟨(), h, Y25.both (ns := []) rfl rfl⟩
 rintro ⟨⟩ h
 replace h : Zjj = some r := h
 unfold Zjj at h
 refine zw ?_
 refine AW.ret ?_
 rw [← Wj h]
 exact finI ⟨[cI 0], _, Y25.refl _, (.cons (.tmp rfl) .nil), [], _, _, rfl, ⟨rfl, rfl⟩⟩

def Zjq (r10 : Y9t) (x21 : ByteArray) (x22 : Bool) : Option Ya2 := some (Ya2.mk (Y9t.mk r10.id r10.room r10.author r10.kind r10.key r10.n x21 r10.prev r10.time) x22)
def Zjr (r10 : Y9t) (x19 : Bool) : Option Ya2 := cond x19 (Zjq r10 ByteArray.empty true) (Zjq r10 r10.text false)
def Zjs (p0 : Ya4) (p1 : Int) (p2 : Int) : Option Ya2 := (Zj9 p0 p1 p2).bind fun r2 => cond (r2 == 0) (some (Ya2.mk (Y9t.mk 0 0 0 0 0 0 ByteArray.empty [] 0) false)) ((Zjb p0 p1).bind fun r5 => (Zcy r5.graph p2).bind fun r7 => (Ziv r7.1).bind fun r10 => cond (r7.1.kind == 7) ((Zjo p0 p1 p2).bind fun r14 => Zjr r10 (r14 != 0)) (cond (r7.1.kind == 4) ((Zjo p0 p1 p2).bind fun r17 => Zjr r10 (r17 != 0)) (Zjr r10 false)))
instance Zjt (p0 : Ya4) (p1 : Int) (p2 : Int) : Sp Tryz.prog 86 [C.ip [cM Yab 3 p0.hub.rooms, cM Ya7 2 p0.hub.stream, cM Yao 1 p0.rooms], cI p1, cI p2] (Zjs p0 p1 p2) (fun r => C.agg [cI r.event.id, cI r.event.room, cI r.event.author, cI r.event.kind, cI r.event.key, cI r.event.n, C.str r.event.text, cM kI64 1 r.event.prev, cI r.event.time, C.bool r.hidden]) := sp Tryz.func86 rfl rfl fun r X h => by
 unfold Zjs at h
 refine zw ?_
 refine al fun b1 => ?_
 refine zw ?_
 refine oc h fun r2 g3 h => ?_
 refine zw ?_
 refine cnd h (fun hb4 h => ?_) fun hb4 h => ?_
 ·
  refine AW.ct hb4 rfl ?_
  refine AW.seq ?_
  refine AW.region ?_
  refine Ops.v rfl (Y3k (ds := [cI 0, cI 0, cI 0, cI 0, cI 0, cI 0, C.str ByteArray.empty, cV s0, cI 0, C.bool false]) Ye8 Ye7 (Y4e rfl rfl) .nil rfl) ?_
  refine zw ?_
  refine AW.ret ?_
  rw [← Wj h]
  exact finI ⟨[C.agg [cI 0, cI 0, cI 0, cI 0, cI 0, cI 0, C.str ByteArray.empty, cM kI64 1 [], cI 0, C.bool false]], _, Y25.boxFrz (ns := [0]) rfl (fS (fS (fS (fS (fS (fS (fS (FrzL.cons (os := []) (Frz.imp (Imp.nil kI64 1)) (fS (fS FrzL.nil)))))))))), (.cons (.cell (p := 0) rfl rfl Ye9.h rfl) .nil), [], _, _, rfl, ⟨rfl, rfl⟩⟩
 refine AW.cf hb4 rfl ?_
 refine zw ?_
 refine oc h fun r5 g6 h => ?_
 refine zw ?_
 refine oc h fun r7 g8 h => ?_
 refine zw ?_
 refine al fun b9 => ?_
 refine zw ?_
 refine oc h fun r10 g11 h => ?_
 refine Ops.v rfl (Y3k (ds := [cI r10.id, cI r10.room, cI r10.author, cI r10.kind, cI r10.key, cI r10.n, C.str r10.text, cM kI64 1 r10.prev, cI r10.time, C.bool false]) Ye8 Ye7 (Y4e rfl rfl) (.agg rfl rfl rfl .nil) rfl) ?_
 refine al fun b12 => ?_
 refine Ops.sA Ye9.h rfl rfl rfl inferInstance rfl ?_
 refine Ops.nil ?_
 refine AW.seq ?_
 refine AW.cut (τ := ByteArray × Bool) (fun (x21, x22) => ⟨[(6, pt b1), (9, pt b12)], [oB b12 92 [cI r10.id, cI r10.room, cI r10.author, cI r10.kind, cI r10.key, cI r10.n, C.str x21, cM kI64 1 r10.prev, cI r10.time, C.bool x22], oB b1 92 [cI 0, cI 0, cI 0, cI 0, cI 0, cI 0, C.str ByteArray.empty, cV s0, cI 0, C.bool false]]⟩) (fun (x21, x22) => Zjq r10 x21 x22 = some r) ?_ ?_
 ·
  refine AW.seq ?_
  refine AW.cut (τ := Bool) (fun x19 => ⟨[(6, pt b1), (9, pt b12), (44, C.bool x19)], [oB b1 92 [cI 0, cI 0, cI 0, cI 0, cI 0, cI 0, C.str ByteArray.empty, cV s0, cI 0, C.bool false], oB b12 92 [cI r10.id, cI r10.room, cI r10.author, cI r10.kind, cI r10.key, cI r10.n, C.str r10.text, cM kI64 1 r10.prev, cI r10.time, C.bool false]]⟩) (fun x19 => Zjr r10 x19 = some r) ?_ ?_
  ·
   refine zw ?_
   refine cnd h (fun hb13 h => ?_) fun hb13 h => ?_
   ·
    refine zw ?_
    refine ob' h fun r14 g15 h => ?_
    refine Ops.ghd (ns := []) rfl rfl rfl rfl rfl rfl (Y28 ((Zjp _ _ _).h _ g15) rfl rfl) ?_
    refine zw ?_
    exact ⟨(r14 != 0), h, Y25.both (ns := [2, 0]) rfl rfl⟩
   refine zw ?_
   refine cnd h (fun hb16 h => ?_) fun hb16 h => ?_
   ·
    refine zw ?_
    refine gcl h rfl rfl rfl rfl hb16 inferInstance rfl rfl fun r17 g18 h => ?_
    refine zw ?_
    exact ⟨(r17 != 0), h, Y25.both (ns := [2, 0]) rfl rfl⟩
   refine zw ?_
   exact ⟨false, h, Y25.both (ns := [2, 0]) rfl rfl⟩
  intro x19 h
  replace h : Zjr r10 x19 = some r := h
  unfold Zjr at h
  refine cnd h (fun hb20 h => ?_) fun hb20 h => ?_
  ·
   refine AW.ct hb20 rfl ?_
   refine zw ?_
   exact ⟨(ByteArray.empty, true), h, Y25.both (ns := [0, 0]) rfl rfl⟩
  refine AW.cf hb20 rfl ?_
  refine zw ?_
  exact ⟨(r10.text, false), h, Y25.both (ns := [1, 0]) rfl rfl⟩
 rintro ⟨x21, x22⟩ h
 replace h : Zjq r10 x21 x22 = some r := h
 unfold Zjq at h
 refine zw ?_
 refine AW.ret ?_
 rw [← Wj h]
 exact finI ⟨[C.agg [cI r10.id, cI r10.room, cI r10.author, cI r10.kind, cI r10.key, cI r10.n, C.str x21, cM kI64 1 r10.prev, cI r10.time, C.bool x22]], _, Y25.refl _, (.cons (.cell (p := 0) rfl rfl Ye9.h rfl) .nil), [], _, _, rfl, ⟨rfl, rfl⟩⟩

def Zju (r10 : Ya2) (x15 : Bool) : Option (Y9t × Bool) := some (r10.event, x15)
def Zjv (p0 : Ya4) (p1 : Int) (p2 : Y9v) (x8 : Bool) : Option (Y9t × Bool) := cond x8 (some ((Y9t.mk 0 0 0 0 0 0 ByteArray.empty [] 0), false)) ((Zjs p0 p2.room p2.id).bind fun r10 => cond (r10.event.kind == 7) (Zju r10 (r10.event.author != p1)) (Zju r10 false))
def Zjw (p0 : Ya4) (p1 : Int) (p2 : Y9v) : Option (Y9t × Bool) := (Z8v p2.room).bind fun r3 => cond r3 ((Zjh p0 p1 p2.room p2.id).bind fun r6 => Zjv p0 p1 p2 (!r6)) (Zjv p0 p1 p2 true)
instance Zjx (p0 : Ya4) (p1 : Int) (p2 : Y9v) : Sp Tryz.prog 43 [C.ip [cM Yab 3 p0.hub.rooms, cM Ya7 2 p0.hub.stream, cM Yao 1 p0.rooms], cI p1, C.agg [cI p2.room, cI p2.id]] (Zjw p0 p1 p2) (fun r => C.tup [C.agg [cI r.1.id, cI r.1.room, cI r.1.author, cI r.1.kind, cI r.1.key, cI r.1.n, C.str r.1.text, cM kI64 1 r.1.prev, cI r.1.time], C.bool r.2]) := sp Tryz.func43 rfl rfl fun r X h => by
 unfold Zjw at h
 refine zw ?_
 refine ox fun b1 => ?_
 refine al fun b2 => ?_
 refine Ops.v rfl (Ys rfl rfl) ?_
 refine Ops.nil ?_
 refine AW.seq ?_
 refine AW.seq ?_
 refine AW.cut (τ := Bool) (fun x8 => ⟨[(0, C.ip [cM Yab 3 p0.hub.rooms, cM Ya7 2 p0.hub.stream, cM Yao 1 p0.rooms]), (1, cI p1), (5, pt b1), (6, pt b2), (22, C.bool x8)], [oB b1 40 [cI p2.room, cI p2.id], oB b2 82 [cI 0, cI 0, cI 0, cI 0, cI 0, cI 0, C.str ByteArray.empty, cV s0, cI 0]]⟩) (fun x8 => Zjv p0 p1 p2 x8 = some r) ?_ ?_
 ·
  refine zw ?_
  refine oc h fun r3 g4 h => ?_
  refine zw ?_
  refine cnd h (fun hb5 h => ?_) fun hb5 h => ?_
  ·
   refine zw ?_
   refine ob' h fun r6 g7 h => ?_
   refine Ops.ghd (ns := []) rfl rfl rfl rfl (Y46 hb5) rfl (Y28 ((Zji _ _ _ _).h _ g7) rfl rfl) ?_
   refine zw ?_
   exact ⟨(!r6), h, Y25.both (ns := [1, 0]) rfl rfl⟩
  refine zw ?_
  exact ⟨true, h, Y25.both (ns := [1, 0]) rfl rfl⟩
 intro x8 h
 replace h : Zjv p0 p1 p2 x8 = some r := h
 unfold Zjv at h
 refine cnd h (fun hb9 h => ?_) fun hb9 h => ?_
 ·
  refine AW.ct hb9 rfl ?_
  refine AW.seq ?_
  refine AW.region ?_
  refine Ops.v rfl (Y3k (ds := [cI 0, cI 0, cI 0, cI 0, cI 0, cI 0, C.str ByteArray.empty, cV s0, cI 0]) Ydb Ybd (Y4e rfl rfl) .nil rfl) ?_
  refine zw ?_
  refine AW.ret ?_
  rw [← Wj h]
  exact finI ⟨[C.agg [cI 0, cI 0, cI 0, cI 0, cI 0, cI 0, C.str ByteArray.empty, cM kI64 1 [], cI 0], C.bool false], _, Y25.boxFrz (ns := [0]) rfl (fS (fS (fS (fS (fS (fS (fS (FrzL.cons (os := []) (Frz.imp (Imp.nil kI64 1)) (fS FrzL.nil))))))))), (.cons (.cell (p := 0) rfl rfl Ybu.h rfl) (.cons (.tmp rfl) .nil)), [], _, _, rfl, ⟨rfl, rfl⟩⟩
 refine AW.cf hb9 rfl ?_
 refine zw ?_
 refine oc h fun r10 g11 h => ?_
 refine Ops.v rfl (Y76 (ds := [cI r10.event.id, cI r10.event.room, cI r10.event.author, cI r10.event.kind, cI r10.event.key, cI r10.event.n, C.str r10.event.text, cM kI64 1 r10.event.prev, cI r10.event.time]) Yec rfl rfl rfl) ?_
 refine al fun b12 => ?_
 refine Ops.sA Ybu.h rfl rfl rfl inferInstance rfl ?_
 refine Ops.nil ?_
 refine AW.seq ?_
 refine AW.cut (τ := Bool) (fun x15 => ⟨[(6, pt b2), (7, C.bool x15)], [oB b2 82 [cI r10.event.id, cI r10.event.room, cI r10.event.author, cI r10.event.kind, cI r10.event.key, cI r10.event.n, C.str r10.event.text, cM kI64 1 r10.event.prev, cI r10.event.time]]⟩) (fun x15 => Zju r10 x15 = some r) ?_ ?_
 ·
  refine rD [0,0] [0,2,6] [] [1,4,9,12,16,20,25,28,32,36,42,44] ?_
  refine zw ?_
  refine cnd h (fun hb14 h => ?_) fun hb14 h => ?_
  ·
   refine OpsD.gv rfl rfl rfl rfl rfl hb14 (Y1f Ybj.h rfl rfl) ?_
   refine OpsD.gv rfl rfl rfl rfl rfl hb14 (Y1o (p := 0) ld_2.h rfl rfl rfl rfl) ?_
   refine OpsD.gv rfl rfl rfl rfl rfl hb14 (Yr rfl rfl) ?_
   refine OpsD.gv rfl rfl rfl rfl rfl hb14 (Yx rfl rfl rfl rfl) ?_
   refine OpsD.v rfl rfl (Yt rfl hb14 rfl rfl) ?_
   refine OpsD.one ?_
   refine Y3z.h (ns := [0]) rfl rfl rfl (Y1y (gs := [cI r10.event.id, cI r10.event.room, cI r10.event.author, cI r10.event.kind, cI r10.event.key, cI r10.event.n, C.str r10.event.text, cM kI64 1 r10.event.prev, cI r10.event.time]) Ybu.h rfl rfl rfl rfl rfl) ?_
   rintro _ _ ⟨rfl, rfl⟩
   refine zw ?_
   exact ⟨(r10.event.author != p1), h, Y25.both (ns := [2]) rfl rfl⟩
  refine OpsD.gs rfl rfl rfl rfl (.b rfl hb14) rfl rfl ?_
  refine OpsD.gs rfl rfl rfl rfl (.b rfl hb14) rfl rfl ?_
  refine OpsD.gs rfl rfl rfl rfl (.b rfl hb14) rfl rfl ?_
  refine OpsD.gs rfl rfl rfl rfl (.b rfl hb14) rfl rfl ?_
  refine OpsD.v rfl rfl (Yu rfl hb14 rfl rfl) ?_
  refine OpsD.one ?_
  refine Y3z.h (ns := [0]) rfl rfl rfl (Y1y (gs := [cI r10.event.id, cI r10.event.room, cI r10.event.author, cI r10.event.kind, cI r10.event.key, cI r10.event.n, C.str r10.event.text, cM kI64 1 r10.event.prev, cI r10.event.time]) Ybu.h rfl rfl rfl rfl rfl) ?_
  rintro _ _ ⟨rfl, rfl⟩
  refine zw ?_
  exact ⟨false, h, Y25.both (ns := [2]) rfl rfl⟩
 intro x15 h
 replace h : Zju r10 x15 = some r := h
 unfold Zju at h
 refine AW.ret ?_
 rw [← Wj h]
 exact finI ⟨[C.agg [cI r10.event.id, cI r10.event.room, cI r10.event.author, cI r10.event.kind, cI r10.event.key, cI r10.event.n, C.str r10.event.text, cM kI64 1 r10.event.prev, cI r10.event.time], C.bool x15], _, Y25.refl _, (.cons (.cell (p := 0) rfl rfl Ybu.h rfl) (.cons (.tmp rfl) .nil)), [], _, _, rfl, ⟨rfl, rfl⟩⟩

def Zjy (p1 : Int) (p2 : List Y9w) (p3 : Y9v) (r3 : Ya4 × Bool) (x11 : Bool) : Option Int := cond x11 (some 0) ((Zjw r3.1 p1 p3).bind fun r13 => cond r13.2 ((Zj7 p1 p2 r13.1).bind fun r17 => some r17) (some 0))
def Zjz (p0 : Y9y) (p1 : Int) (p2 : List Y9w) (p3 : Y9v) : Option Int := (Zgs p0).bind fun r3 => cond r3.2 ((Z8z p1).bind fun r6 => cond r6 ((Zh9 p2).bind fun r9 => Zjy p1 p2 p3 r3 (!r9)) (Zjy p1 p2 p3 r3 true)) (some 0)
instance Zk0 (p0 : Y9y) (p1 : Int) (p2 : List Y9w) (p3 : Y9v) : Sp Tryz.prog 28 [C.agg [cM Yab 3 p0.rooms, cM Ya7 2 p0.stream], cI p1, cM Ya8 4 p2, C.agg [cI p3.room, cI p3.id]] (Zjz p0 p1 p2 p3) (fun r => cI r) := Sp.of (so Tryz.func28 rfl rfl fun r X h => gh (.b (.q 1 (.c1 (fun x11 => .d [(29, C.bool x11)] []) [1,2,7,9] [0] .z .z)) .z))

def Zk1 : Option Bool := some true
def Zk2 (p0 : List Int) (p1 : List Int) (x8 : Int) : Option (Int ⊕ (Bool ⊕ Unit)) := cond (decide (x8 < (p0.length : Int))) ((getI p0 x8).bind fun e10 => (getI p1 x8).bind fun e12 => cond (e10 != e12) (some (.inr (.inl false))) (some (.inl (IntKind.i64.wrap (x8 + 1))))) (some (.inr (.inr ())))
def Zk3 (p0 : List Int) (p1 : List Int) : Option Bool := cond ((p0.length : Int) != (p1.length : Int)) (some false) ((iter (Zk2 p0 p1) big 0).bind (fun z16 => match z16 with | .inl y15 => some y15 | .inr () => Zk1))
instance Zk4 (p0 : List Int) (p1 : List Int) : Sp Tryz.prog 19 [cM kI64 1 p0, cM kI64 1 p1] (Zk3 p0 p1) (fun r => C.bool r) := Sp.of (so Tryz.func19 rfl rfl fun r X h => gh (.b .z (.c0 (.d [] []) [] [] (.l1 (fun x8 => .d [(5, cI x8)] []) [0,1] [] (.b (.r [] [3,7] [] [0,4,8,13,16,20,24,29,32] .z) .z)) .z)))

def Zk5 (p0 : Y9t) (p1 : Y9t) : Option Bool := cond (p0.id != p1.id) (some false) (cond (p0.room != p1.room) (some false) (cond (p0.author != p1.author) (some false) (cond (p0.kind != p1.kind) (some false) (cond (p0.key != p1.key) (some false) (cond (p0.n != p1.n) (some false) (cond (p0.text.toList == p1.text.toList) ((Zk3 p0.prev p1.prev).bind fun r10 => cond r10 (cond (p0.time != p1.time) (some false) (some true)) (some false)) (some false)))))))
instance Zk6 (p0 : Y9t) (p1 : Y9t) : Sp Tryz.prog 162 [C.agg [cI p0.id, cI p0.room, cI p0.author, cI p0.kind, cI p0.key, cI p0.n, C.str p0.text, cM kI64 1 p0.prev, cI p0.time], C.agg [cI p1.id, cI p1.room, cI p1.author, cI p1.kind, cI p1.key, cI p1.n, C.str p1.text, cM kI64 1 p1.prev, cI p1.time]] (Zk5 p0 p1) (fun r => C.bool r) := Sp.of (so Tryz.func162 rfl rfl fun r X h => gh .z)

def Zk7 : Option Bool := some true
def Zk8 (p0 : List Y9t) (p1 : List Y9t) (x10 : Int) : Option (Int ⊕ (Bool ⊕ Unit)) := cond (decide (x10 < (p0.length : Int))) ((getI p0 x10).bind fun e12 => (getI p1 x10).bind fun e14 => (Zk5 e12 e14).bind fun r16 => cond r16 (some (.inl (IntKind.i64.wrap (x10 + 1)))) (some (.inr (.inl false)))) (some (.inr (.inr ())))
def Zk9 (p0 : List Y9t) (p1 : List Y9t) : Option Bool := cond ((p0.length : Int) != (p1.length : Int)) (some false) ((iter (Zk8 p0 p1) big 0).bind (fun z20 => match z20 with | .inl y19 => some y19 | .inr () => Zk7))
instance Zka (p0 : List Y9t) (p1 : List Y9t) : Sp Tryz.prog 129 [cM Ya5 9 p0, cM Ya5 9 p1] (Zk9 p0 p1) (fun r => C.bool r) := Sp.of (so Tryz.func129 rfl rfl fun r X h => gh (.b .z (.c0 (.d [] []) [] [] (.l1 (fun x10 => .d [(5, cI x10)] []) [0,1] [] (.b (.r [] [3,7] [] [0,4,8,13,16,20,24,29,34,36] .z) .z)) .z)))

def Zkb (p0 : Y9x) (p1 : Y9x) : Option Bool := cond (p0.room != p1.room) (some false) ((Zk9 p0.events p1.events).bind fun r4 => cond r4 ((Zk9 p0.parked p1.parked).bind fun r7 => cond r7 (some true) (some false)) (some false))
instance Zkc (p0 : Y9x) (p1 : Y9x) : Sp Tryz.prog 87 [C.agg [cI p0.room, cM Ya5 9 p0.events, cM Ya5 9 p0.parked], C.agg [cI p1.room, cM Ya5 9 p1.events, cM Ya5 9 p1.parked]] (Zkb p0 p1) (fun r => C.bool r) := Sp.of (so Tryz.func87 rfl rfl fun r X h => gh .z)

def Zkd : Option Bool := some true
def Zke (p0 : List Y9x) (p1 : List Y9x) (x10 : Int) : Option (Int ⊕ (Bool ⊕ Unit)) := cond (decide (x10 < (p0.length : Int))) ((getI p0 x10).bind fun e12 => (getI p1 x10).bind fun e14 => (Zkb e12 e14).bind fun r16 => cond r16 (some (.inl (IntKind.i64.wrap (x10 + 1)))) (some (.inr (.inl false)))) (some (.inr (.inr ())))
def Zkf (p0 : List Y9x) (p1 : List Y9x) : Option Bool := cond ((p0.length : Int) != (p1.length : Int)) (some false) ((iter (Zke p0 p1) big 0).bind (fun z20 => match z20 with | .inl y19 => some y19 | .inr () => Zkd))
instance Zkg (p0 : List Y9x) (p1 : List Y9x) : Sp Tryz.prog 45 [cM Yab 3 p0, cM Yab 3 p1] (Zkf p0 p1) (fun r => C.bool r) := Sp.of (so Tryz.func45 rfl rfl fun r X h => gh (.b .z (.c0 (.d [] []) [] [] (.l1 (fun x10 => .d [(5, cI x10)] []) [0,1] [] (.b (.r [] [3,7] [] [0,4,8,13,16,20,24,29,34,36] .z) .z)) .z)))

def Zkh (p0 : Y9v) (p1 : Y9v) : Option Bool := cond (p0.room != p1.room) (some false) (cond (p0.id != p1.id) (some false) (some true))
instance Zki (p0 : Y9v) (p1 : Y9v) : Sp Tryz.prog 88 [C.agg [cI p0.room, cI p0.id], C.agg [cI p1.room, cI p1.id]] (Zkh p0 p1) (fun r => C.bool r) := Sp.of (so Tryz.func88 rfl rfl fun r X h => gh .z)

def Zkj : Option Bool := some true
def Zkk (p0 : List Y9v) (p1 : List Y9v) (x10 : Int) : Option (Int ⊕ (Bool ⊕ Unit)) := cond (decide (x10 < (p0.length : Int))) ((getI p0 x10).bind fun e12 => (getI p1 x10).bind fun e14 => (Zkh e12 e14).bind fun r16 => cond r16 (some (.inl (IntKind.i64.wrap (x10 + 1)))) (some (.inr (.inl false)))) (some (.inr (.inr ())))
def Zkl (p0 : List Y9v) (p1 : List Y9v) : Option Bool := cond ((p0.length : Int) != (p1.length : Int)) (some false) ((iter (Zkk p0 p1) big 0).bind (fun z20 => match z20 with | .inl y19 => some y19 | .inr () => Zkj))
instance Zkm (p0 : List Y9v) (p1 : List Y9v) : Sp Tryz.prog 46 [cM Ya7 2 p0, cM Ya7 2 p1] (Zkl p0 p1) (fun r => C.bool r) := Sp.of (so Tryz.func46 rfl rfl fun r X h => gh (.b .z (.c0 (.d [] []) [] [] (.l1 (fun x10 => .d [(5, cI x10)] []) [0,1] [] (.b (.r [] [3,7] [] [0,4,8,13,16,20,24,29,34,36] .z) .z)) .z)))

def Zkn (p0 : Y9y) (p1 : Y9y) : Option Bool := (Zkf p0.rooms p1.rooms).bind fun r3 => cond r3 ((Zkl p0.stream p1.stream).bind fun r6 => cond r6 (some true) (some false)) (some false)
instance Zko (p0 : Y9y) (p1 : Y9y) : Sp Tryz.prog 14 [C.agg [cM Yab 3 p0.rooms, cM Ya7 2 p0.stream], C.agg [cM Yab 3 p1.rooms, cM Ya7 2 p1.stream]] (Zkn p0 p1) (fun r => C.bool r) := Sp.of (so Tryz.func14 rfl rfl fun r X h => gh .z)

def Zkp (p0 : Y9w) (p1 : Y9w) : Option Bool := cond (p0.kind != p1.kind) (some false) (cond (p0.n != p1.n) (some false) (cond (p0.text.toList == p1.text.toList) (cond (p0.loud != p1.loud) (some false) (some true)) (some false)))
instance Zkq (p0 : Y9w) (p1 : Y9w) : Sp Tryz.prog 66 [C.agg [cI p0.kind, cI p0.n, C.str p0.text, cI p0.loud], C.agg [cI p1.kind, cI p1.n, C.str p1.text, cI p1.loud]] (Zkp p0 p1) (fun r => C.bool r) := Sp.of (so Tryz.func66 rfl rfl fun r X h => gh .z)

def Zkr : Option Bool := some true
def Zks (p0 : List Y9w) (p1 : List Y9w) (x10 : Int) : Option (Int ⊕ (Bool ⊕ Unit)) := cond (decide (x10 < (p0.length : Int))) ((getI p0 x10).bind fun e12 => (getI p1 x10).bind fun e14 => (Zkp e12 e14).bind fun r16 => cond r16 (some (.inl (IntKind.i64.wrap (x10 + 1)))) (some (.inr (.inl false)))) (some (.inr (.inr ())))
def Zkt (p0 : List Y9w) (p1 : List Y9w) : Option Bool := cond ((p0.length : Int) != (p1.length : Int)) (some false) ((iter (Zks p0 p1) big 0).bind (fun z20 => match z20 with | .inl y19 => some y19 | .inr () => Zkr))
instance Zku (p0 : List Y9w) (p1 : List Y9w) : Sp Tryz.prog 29 [cM Ya8 4 p0, cM Ya8 4 p1] (Zkt p0 p1) (fun r => C.bool r) := Sp.of (so Tryz.func29 rfl rfl fun r X h => gh (.b .z (.c0 (.d [] []) [] [] (.l1 (fun x10 => .d [(5, cI x10)] []) [0,1] [] (.b (.r [] [3,7] [] [0,4,8,13,16,20,24,29,34,36] .z) .z)) .z)))

def Zkv (p0 : THub) (p1 : Int) (p2 : List Y9w) (p3 : Y9v) : Option Bool := (Zh p0 1048576).bind fun r3 => cond (decide (r3 < 0)) (some true) ((Zn p2 r3).bind fun r6 => cond (decide (r6 < 0)) (some true) ((Z1d p0).bind fun r9 => (Z1j p2).bind fun r11 => (Z17 p3).bind fun r13 => (Z8q r9 p1 r11 r13).bind fun r15 => (Z1d p0).bind fun r17 => (Z1j p2).bind fun r20 => (Z17 p3).bind fun r22 => (Zjz r17 p1 r20 r22).bind fun r24 => cond (r24 != r15) (some false) ((Z1d p0).bind fun r27 => (Zkn r17 r27).bind fun r29 => cond r29 ((Z1j p2).bind fun r32 => (Zkt r20 r32).bind fun r34 => cond r34 (some true) (some false)) (some false))))
instance Zkw (p0 : THub) (p1 : Int) (p2 : List Y9w) (p3 : Y9v) : Sp Tryz.prog 5 [C.agg [cM Ya6 3 p0.rooms, cM Ya7 2 p0.stream], cI p1, cM Ya8 4 p2, C.agg [cI p3.room, cI p3.id]] (Zkv p0 p1 p2 p3) (fun r => C.bool r) := Sp.of (so Tryz.func5 rfl rfl fun r X h => gh (.b .z (.b .z (.r [0,0] [0,5] [] [1,8,12,21,6,18,26,30,32] (.r [0,0,0] [0,3] [] [1,4,8,13,18,22,24] (.b .z (.r [0,0,0] [0,1] [] [1,5,10,14,16] .z)))))))

end Go.Proofs.YtnoknphekhclcaaGreatDoor
