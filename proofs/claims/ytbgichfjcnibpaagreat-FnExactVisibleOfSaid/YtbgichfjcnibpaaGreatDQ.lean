/- Printed by gen.py: plain functions for Go functions, and that the walks keep to them. -/
import Derived.Test.YtbgichfjcnibpaaGreatDQ6
set_option autoImplicit false
set_option linter.unusedVariables false
set_option linter.unusedSimpArgs false
set_option maxRecDepth 100000
namespace Go.Proofs.YtbgichfjcnibpaaGreat
open Go Go.Abs
attribute [local irreducible] AW Ops OpsD Y3n
def Zhi (l37 : List Int) : Option (List Int) := some l37
def Zhj (r2 : Y95 × Bool) (r13 : List Int) (l25 : List Int) (x26 : Int) : Option ((List Int × Int) ⊕ ((List Int))) := cond (decide (x26 < (r13.length : Int))) ((getI r13 x26).bind fun e28 => (getI r2.1.hub.stream (IntKind.i64.wrap (e28 - 1))).bind fun e30 => (chk (decide ((l25.length + [e30.id].length) * 8 ≤ 140737488355328))).bind fun u34 => some (.inl ((l25 ++ [e30.id]), (IntKind.i64.wrap (x26 + 1))))) (some (.inr l25))
def Zhk (p1 : Int) (p2 : Int) (r2 : Y95 × Bool) (x10 : Bool) : Option (List Int) := cond x10 (some []) ((Zhg r2.1 p1 p2 1 120).bind fun r13 => (iter (fun z39 => Zhj r2 r13 z39.1 z39.2) big (([] : List Int), 0)).bind fun y40 => Zhi y40)
def Zhl (p0 : Y90) (p1 : Int) (p2 : Int) : Option (List Int) := (Zfi p0).bind fun r2 => cond r2.2 ((Z7t p1).bind fun r5 => cond r5 ((Z7p p2).bind fun r8 => Zhk p1 p2 r2 (!r8)) (Zhk p1 p2 r2 true)) (some [])
set_option maxHeartbeats 1000000 in
theorem Zhm (p0 : Y90) (p1 : Int) (p2 : Int) (r : List Int) (h : Zhl p0 p1 p2 = some r) : Ok Tryz.prog 34 [C.agg [C.im Y9b 3 p0.rooms, C.im Y98 2 p0.stream], C.int p1, C.int p2] [] (fun c qs => ∃ (v38 : Value), c = C.val v38 ∧ qs = [Obj.arr v38 2 kI64 1 r]) := by
 refine Ok.of_body (rs := [.tmp 6]) Tryz.func34 rfl rfl rfl rfl rfl fun X => ?_
 unfold Zhl at h
 refine zw ?_
 refine ox fun b1 => ?_
 refine zw ?_
 refine ob' h fun r2 g3 h => ?_
 refine Ops.h (ns := []) rfl rfl (Y23 (Zfj _ _ g3) rfl rfl) ?_
 rintro _ _ ⟨_, ⟨hb4, rfl, rfl⟩ | ⟨hb4, rfl, rfl⟩, rfl⟩
 ·
  replace h := Y3r hb4 h
  refine Ops.v rfl (Yq rfl rfl) ?_
  refine Ops.v rfl (Y13 rfl rfl rfl) ?_
  refine Ops.v rfl (Y13 rfl rfl rfl) ?_
  refine Ops.v rfl (Yr rfl rfl) ?_
  refine Ops.v rfl (Yr rfl rfl) ?_
  refine Ops.nil ?_
  refine AW.seq ?_
  refine AW.seq ?_
  refine AW.cut (τ := Bool) (fun x10 => ⟨[(1, C.int p1), (2, C.int p2), (7, C.ip [C.im Y9b 3 r2.1.hub.rooms, C.im Y98 2 r2.1.hub.stream, C.im Y9m 1 r2.1.rooms]), (28, C.bool x10)], []⟩) (fun x10 => Zhk p1 p2 r2 x10 = some r) ?_ ?_
  ·
   refine zw ?_
   refine ob' h fun r5 g6 h => ?_
   refine Ops.ghd (ns := []) rfl rfl rfl rfl (Y3u hb4) rfl (Y24 ((Z7u _).h _ g6) rfl rfl) ?_
   refine zw ?_
   refine cnd h (fun hb7 h => ?_) fun hb7 h => ?_
   ·
    refine zw ?_
    refine ob' h fun r8 g9 h => ?_
    refine Ops.ghd (ns := []) rfl rfl rfl rfl (Y3u hb7) rfl (Y24 ((Z7q _).h _ g9) rfl rfl) ?_
    exact go
   exact go
  intro x10 h
  replace h : Zhk p1 p2 r2 x10 = some r := h
  unfold Zhk at h
  refine cnd h (fun hb11 h => ?_) fun hb11 h => ?_
  ·
   refine AW.ct hb11 rfl ?_
   refine zw ?_
   refine AW.ret ?_
   rw [← Option.some.inj h]
   exact ⟨[C.val s0], _, Y21.nil 2 kI64 1, (.cons (.tmp rfl) .nil), [0], _, _, rfl, ⟨s0, rfl, rfl⟩⟩
  refine AW.cf hb11 rfl ?_
  refine zw ?_
  refine Ops.h (ns := []) rfl rfl (Y39 (k := kI64) (ys := ([] : List Int)) Ya3 .nil rfl rfl rfl) ?_
  rintro _ _ ⟨b12, rfl, rfl⟩
  refine Ops.v rfl (Yr rfl rfl) ?_
  refine Ops.nil ?_
  refine AW.seq ?_
  refine AW.cut (τ := List Int × Value) (fun (l37, v36) => ⟨[(9, C.val v36)], [Obj.arr v36 2 kI64 1 l37]⟩) (fun (l37, v36) => Zhi l37 = some r) ?_ ?_
  ·
   refine zw ?_
   refine oc h fun r13 g14 h => ?_
   refine zw ?_
   refine AW.lp h (fun (l25, x26) (v24 : Value) => ⟨[(7, C.ip [C.im Y9b 3 r2.1.hub.rooms, C.im Y98 2 r2.1.hub.stream, C.im Y9m 1 r2.1.rooms]), (9, C.val v24), (33, C.im kI64 1 r13), (34, C.int (r13.length : Int)), (35, C.int x26)], [Obj.arr v24 2 kI64 1 l25]⟩) (gb [0]) ?_
   rintro ⟨l25, x26⟩ v24 y46 h
   refine zw ?_
   refine cnd h (fun hb27 h => ?_) fun hb27 h => ?_
   ·
    refine AW.ct hb27 rfl ?_
    refine zw ?_
    refine oi h fun e28 g29 h => ?_
    refine zw ?_
    refine oi h fun e30 g31 h => ?_
    refine zw ?_
    refine Ops.h (ns := []) rfl rfl (Y39 (k := kI64) (ys := [e30.id]) Ya3 (.one rfl (One.val rfl) rfl rfl .nil) rfl rfl rfl) ?_
    rintro _ _ ⟨b32, rfl, rfl⟩
    refine ob' h fun u34 c33 h => ?_
    refine Ops.h (ns := [1, 0]) rfl rfl (Y2s Ya3 rfl rfl (of_decide_eq_true (Y3t c33)) (Y3w (by decide) c33) rfl) ?_
    rintro _ _ ⟨v35, rfl, rfl⟩
    exact go
   exact go
  rintro ⟨l37, v36⟩ h
  replace h : Zhi l37 = some r := h
  unfold Zhi at h
  refine zw ?_
  refine AW.ret ?_
  rw [← Option.some.inj h]
  exact ⟨[C.val v36], _, Y21.refl _, (.cons (.tmp rfl) .nil), [0], _, _, rfl, ⟨v36, rfl, rfl⟩⟩
 replace h := Y3s hb4 h
 refine zw ?_
 refine AW.cond rfl (fun _ => ?_) (fun hn => absurd hn (by decide))
 refine zw ?_
 refine AW.ret ?_
 rw [← Option.some.inj h]
 exact ⟨[C.val s0], _, Y21.nil 2 kI64 1, (.cons (.tmp rfl) .nil), [0], _, _, rfl, ⟨s0, rfl, rfl⟩⟩
instance Zhm' (p0 : Y90) (p1 : Int) (p2 : Int) : Sp Tryz.prog 34 [C.agg [C.im Y9b 3 p0.rooms, C.im Y98 2 p0.stream], C.int p1, C.int p2] (Zhl p0 p1 p2) (fun r => C.im kI64 1 r) := ⟨fun r h => Ok.freeze (Zhm p0 p1 p2 r h) (by rintro c qs ⟨v38, rfl, rfl⟩; exact Frz.arr)⟩

def Zhn : Option Bool := some true
def Zho (p0 : List Int) (p1 : List Int) (x8 : Int) : Option (Int ⊕ (Bool ⊕ Unit)) := cond (decide (x8 < (p0.length : Int))) ((getI p0 x8).bind fun e10 => (getI p1 x8).bind fun e12 => cond (e10 != e12) (some (.inr (.inl false))) (some (.inl (IntKind.i64.wrap (x8 + 1))))) (some (.inr (.inr ())))
def Zhp (p0 : List Int) (p1 : List Int) : Option Bool := cond ((p0.length : Int) != (p1.length : Int)) (some false) ((iter (Zho p0 p1) big 0).bind (fun z16 => match z16 with | .inl y15 => some y15 | .inr () => Zhn))
set_option maxHeartbeats 1000000 in
instance Zhq (p0 : List Int) (p1 : List Int) : Sp Tryz.prog 35 [C.im kI64 1 p0, C.im kI64 1 p1] (Zhp p0 p1) C.bool := sp Tryz.func35 rfl rfl fun r X h => by
 unfold Zhp at h
 refine zw ?_
 refine cnd h (fun hb1 h => go) fun hb1 h => ?_
 refine AW.cf hb1 rfl ?_
 refine zw ?_
 refine AW.lp (v := ()) h (fun x8 (_ : Unit) => ⟨[(0, C.im kI64 1 p0), (1, C.im kI64 1 p1), (5, C.int x8)], []⟩) (gb []) ?_
 rintro x8 _ y22 h
 refine zw ?_
 refine cnd h (fun hb9 h => ?_) fun hb9 h => ?_
 ·
  refine AW.ct hb9 rfl ?_
  refine zw ?_
  refine AW.regionD (L := [3, 7]) (Lt := []) (k := dec [0,3,6,10,12,15,18,22,24]) (ns := []) (by kernel_rfl) (by kernel_rfl) (by kernel_rfl) (by kernel_rfl) rfl ?_
  exact go
 exact go

def Zhr (p0 : Y8w) (p1 : Y8w) : Option Bool := cond (p0.id != p1.id) (some false) (cond (p0.room != p1.room) (some false) (cond (p0.author != p1.author) (some false) (cond (p0.kind != p1.kind) (some false) (cond (p0.key != p1.key) (some false) (cond (p0.n != p1.n) (some false) (cond (p0.text.toList == p1.text.toList) ((Zhp p0.prev p1.prev).bind fun r10 => cond r10 (cond (p0.time != p1.time) (some false) (some true)) (some false)) (some false)))))))
set_option maxHeartbeats 1000000 in
instance Zhs (p0 : Y8w) (p1 : Y8w) : Sp Tryz.prog 173 [C.agg [C.int p0.id, C.int p0.room, C.int p0.author, C.int p0.kind, C.int p0.key, C.int p0.n, C.str p0.text, C.im kI64 1 p0.prev, C.int p0.time], C.agg [C.int p1.id, C.int p1.room, C.int p1.author, C.int p1.kind, C.int p1.key, C.int p1.n, C.str p1.text, C.im kI64 1 p1.prev, C.int p1.time]] (Zhr p0 p1) C.bool := sp Tryz.func173 rfl rfl fun r X h => go

def Zht : Option Bool := some true
def Zhu (p0 : List Y8w) (p1 : List Y8w) (x10 : Int) : Option (Int ⊕ (Bool ⊕ Unit)) := cond (decide (x10 < (p0.length : Int))) ((getI p0 x10).bind fun e12 => (getI p1 x10).bind fun e14 => (Zhr e12 e14).bind fun r16 => cond r16 (some (.inl (IntKind.i64.wrap (x10 + 1)))) (some (.inr (.inl false)))) (some (.inr (.inr ())))
def Zhv (p0 : List Y8w) (p1 : List Y8w) : Option Bool := cond ((p0.length : Int) != (p1.length : Int)) (some false) ((iter (Zhu p0 p1) big 0).bind (fun z20 => match z20 with | .inl y19 => some y19 | .inr () => Zht))
set_option maxHeartbeats 1000000 in
instance Zhw (p0 : List Y8w) (p1 : List Y8w) : Sp Tryz.prog 209 [C.im Y96 9 p0, C.im Y96 9 p1] (Zhv p0 p1) C.bool := sp Tryz.func209 rfl rfl fun r X h => by
 unfold Zhv at h
 refine zw ?_
 refine cnd h (fun hb1 h => go) fun hb1 h => ?_
 refine AW.cf hb1 rfl ?_
 refine zw ?_
 refine AW.lp (v := ()) h (fun x10 (_ : Unit) => ⟨[(0, C.im Y96 9 p0), (1, C.im Y96 9 p1), (5, C.int x10)], []⟩) (gb []) ?_
 rintro x10 _ y26 h
 refine zw ?_
 refine cnd h (fun hb11 h => ?_) fun hb11 h => ?_
 ·
  refine AW.ct hb11 rfl ?_
  refine zw ?_
  refine AW.regionD (L := [3, 7]) (Lt := []) (k := dec [0,3,6,10,12,15,18,22,26,27]) (ns := []) (by kernel_rfl) (by kernel_rfl) (by kernel_rfl) (by kernel_rfl) rfl ?_
  exact go
 exact go

def Zhx (p0 : Y8z) (p1 : Y8z) : Option Bool := cond (p0.room != p1.room) (some false) ((Zhv p0.events p1.events).bind fun r4 => cond r4 ((Zhv p0.parked p1.parked).bind fun r7 => cond r7 (some true) (some false)) (some false))
set_option maxHeartbeats 1000000 in
instance Zhy (p0 : Y8z) (p1 : Y8z) : Sp Tryz.prog 145 [C.agg [C.int p0.room, C.im Y96 9 p0.events, C.im Y96 9 p0.parked], C.agg [C.int p1.room, C.im Y96 9 p1.events, C.im Y96 9 p1.parked]] (Zhx p0 p1) C.bool := sp Tryz.func145 rfl rfl fun r X h => go

def Zhz : Option Bool := some true
def Zi0 (p0 : List Y8z) (p1 : List Y8z) (x10 : Int) : Option (Int ⊕ (Bool ⊕ Unit)) := cond (decide (x10 < (p0.length : Int))) ((getI p0 x10).bind fun e12 => (getI p1 x10).bind fun e14 => (Zhx e12 e14).bind fun r16 => cond r16 (some (.inl (IntKind.i64.wrap (x10 + 1)))) (some (.inr (.inl false)))) (some (.inr (.inr ())))
def Zi1 (p0 : List Y8z) (p1 : List Y8z) : Option Bool := cond ((p0.length : Int) != (p1.length : Int)) (some false) ((iter (Zi0 p0 p1) big 0).bind (fun z20 => match z20 with | .inl y19 => some y19 | .inr () => Zhz))
set_option maxHeartbeats 1000000 in
instance Zi2 (p0 : List Y8z) (p1 : List Y8z) : Sp Tryz.prog 77 [C.im Y9b 3 p0, C.im Y9b 3 p1] (Zi1 p0 p1) C.bool := sp Tryz.func77 rfl rfl fun r X h => by
 unfold Zi1 at h
 refine zw ?_
 refine cnd h (fun hb1 h => go) fun hb1 h => ?_
 refine AW.cf hb1 rfl ?_
 refine zw ?_
 refine AW.lp (v := ()) h (fun x10 (_ : Unit) => ⟨[(0, C.im Y9b 3 p0), (1, C.im Y9b 3 p1), (5, C.int x10)], []⟩) (gb []) ?_
 rintro x10 _ y26 h
 refine zw ?_
 refine cnd h (fun hb11 h => ?_) fun hb11 h => ?_
 ·
  refine AW.ct hb11 rfl ?_
  refine zw ?_
  refine AW.regionD (L := [3, 7]) (Lt := []) (k := dec [0,3,6,10,12,15,18,22,26,27]) (ns := []) (by kernel_rfl) (by kernel_rfl) (by kernel_rfl) (by kernel_rfl) rfl ?_
  exact go
 exact go

def Zi3 (p0 : Y8y) (p1 : Y8y) : Option Bool := cond (p0.room != p1.room) (some false) (cond (p0.id != p1.id) (some false) (some true))
set_option maxHeartbeats 1000000 in
instance Zi4 (p0 : Y8y) (p1 : Y8y) : Sp Tryz.prog 118 [C.agg [C.int p0.room, C.int p0.id], C.agg [C.int p1.room, C.int p1.id]] (Zi3 p0 p1) C.bool := sp Tryz.func118 rfl rfl fun r X h => go

def Zi5 : Option Bool := some true
def Zi6 (p0 : List Y8y) (p1 : List Y8y) (x10 : Int) : Option (Int ⊕ (Bool ⊕ Unit)) := cond (decide (x10 < (p0.length : Int))) ((getI p0 x10).bind fun e12 => (getI p1 x10).bind fun e14 => (Zi3 e12 e14).bind fun r16 => cond r16 (some (.inl (IntKind.i64.wrap (x10 + 1)))) (some (.inr (.inl false)))) (some (.inr (.inr ())))
def Zi7 (p0 : List Y8y) (p1 : List Y8y) : Option Bool := cond ((p0.length : Int) != (p1.length : Int)) (some false) ((iter (Zi6 p0 p1) big 0).bind (fun z20 => match z20 with | .inl y19 => some y19 | .inr () => Zi5))
set_option maxHeartbeats 1000000 in
instance Zi8 (p0 : List Y8y) (p1 : List Y8y) : Sp Tryz.prog 51 [C.im Y98 2 p0, C.im Y98 2 p1] (Zi7 p0 p1) C.bool := sp Tryz.func51 rfl rfl fun r X h => by
 unfold Zi7 at h
 refine zw ?_
 refine cnd h (fun hb1 h => go) fun hb1 h => ?_
 refine AW.cf hb1 rfl ?_
 refine zw ?_
 refine AW.lp (v := ()) h (fun x10 (_ : Unit) => ⟨[(0, C.im Y98 2 p0), (1, C.im Y98 2 p1), (5, C.int x10)], []⟩) (gb []) ?_
 rintro x10 _ y26 h
 refine zw ?_
 refine cnd h (fun hb11 h => ?_) fun hb11 h => ?_
 ·
  refine AW.ct hb11 rfl ?_
  refine zw ?_
  refine AW.regionD (L := [3, 7]) (Lt := []) (k := dec [0,3,6,10,12,15,18,22,26,27]) (ns := []) (by kernel_rfl) (by kernel_rfl) (by kernel_rfl) (by kernel_rfl) rfl ?_
  exact go
 exact go

def Zi9 (p0 : Y90) (p1 : Y90) : Option Bool := (Zi1 p0.rooms p1.rooms).bind fun r3 => cond r3 ((Zi7 p0.stream p1.stream).bind fun r6 => cond r6 (some true) (some false)) (some false)
set_option maxHeartbeats 1000000 in
instance Zia (p0 : Y90) (p1 : Y90) : Sp Tryz.prog 18 [C.agg [C.im Y9b 3 p0.rooms, C.im Y98 2 p0.stream], C.agg [C.im Y9b 3 p1.rooms, C.im Y98 2 p1.stream]] (Zi9 p0 p1) C.bool := sp Tryz.func18 rfl rfl fun r X h => go

def Zib (x12 : ByteArray) : Option ByteArray := (chk (decide ((ByteArray.mk #[109]).size + x12.size ≤ 9223372036854775807))).bind fun u14 => some ((ByteArray.mk #[109]) ++ x12)
def Zic (x6 : Int) (x7 : ByteArray) : Option ((Int × ByteArray) ⊕ (ByteArray)) := cond (decide (x6 > 0)) ((chk (decide ((Y6w [(IntKind.u8.wrap (IntKind.i64.wrap (48 + (Int.tmod x6 10))))]).size + x7.size ≤ 9223372036854775807))).bind fun u11 => some (.inl ((IntKind.i64.wrap (Int.tdiv x6 10)), ((Y6w [(IntKind.u8.wrap (IntKind.i64.wrap (48 + (Int.tmod x6 10))))]) ++ x7)))) (some (.inr x7))
def Zid (p0 : Int) : Option ByteArray := cond (decide (p0 ≤ 0)) (some (ByteArray.mk #[109, 48])) ((iter (fun z15 => Zic z15.1 z15.2) big (p0, ByteArray.empty)).bind fun y16 => Zib y16)
set_option maxHeartbeats 1000000 in
instance Zie (p0 : Int) : Sp Tryz.prog 125 [C.int p0] (Zid p0) C.str := sp Tryz.func125 rfl rfl fun r X h => by
 unfold Zid at h
 refine zw ?_
 refine cnd h (fun hb1 h => go) fun hb1 h => ?_
 refine AW.cf hb1 rfl ?_
 refine AW.skip ?_
 refine AW.seq ?_
 refine AW.region ?_
 refine Ops.v rfl (Yr rfl rfl) ?_
 refine Ops.nil ?_
 refine AW.seq ?_
 refine AW.cut (τ := ByteArray) (fun x12 => ⟨[(3, C.str x12)], []⟩) (fun x12 => Zib x12 = some r) ?_ ?_
 ·
  refine zw ?_
  refine AW.lp (v := ()) h (fun (x6, x7) (_ : Unit) => ⟨[(0, C.int x6), (3, C.str x7)], []⟩) (gb []) ?_
  rintro ⟨x6, x7⟩ _ y22 h
  refine zw ?_
  refine cnd h (fun hb8 h => ?_) fun hb8 h => ?_
  ·
   refine AW.ct hb8 rfl ?_
   refine zw ?_
   refine Ops.v rfl (Yw rfl rfl (by decide) rfl) ?_
   refine zw ?_
   refine Ops.v rfl (Y12 un_3 un_5 rfl rfl) ?_
   refine Ops.h (ns := []) rfl rfl (Y39 (k := kU8) (ys := [(IntKind.u8.wrap (IntKind.i64.wrap (48 + (Int.tmod x6 10))))]) Yde (.one rfl (One.val rfl) rfl rfl .nil) rfl rfl rfl) ?_
   rintro _ _ ⟨b9, rfl, rfl⟩
   refine Ops.v rfl (Y70 (p := 0) Ydf un_9 (fun _ => rfl) rfl rfl rfl) ?_
   refine zw ?_
   refine ob' h fun u11 c10 h => ?_
   refine Ops.v rfl (Y71 rfl rfl (of_decide_eq_true (Y3t c10)) rfl) ?_
   refine zw ?_
   refine Ops.v rfl (Yx rfl rfl (by decide) rfl) ?_
   exact go
  exact go
 intro x12 h
 replace h : Zib x12 = some r := h
 unfold Zib at h
 refine zw ?_
 refine ob' h fun u14 c13 h => ?_
 refine Ops.v rfl (Y71 rfl rfl (of_decide_eq_true (Y3t c13)) rfl) ?_
 exact go

def Zif (x10 : Int) (l11 : List Int) : Option (Int × List Int) := some (x10, l11)
def Zig (l4 : List Int) (x5 : Int) (x6 : Int) : Option ((List Int × Int × Int) ⊕ ((Int × List Int))) := cond (decide (x6 < (l4.length : Int))) ((getI l4 x6).bind fun e8 => some (.inl ((List.set l4 (Int.toNat x6) x5), (IntKind.i64.wrap (x5 + 1)), (IntKind.i64.wrap (x6 + 1))))) (some (.inr (x5, l4)))
def Zih (p0 : List Int) (p1 : Int) : Option (Int × List Int) := (iter (fun z12 => Zig z12.1 z12.2.1 z12.2.2) big (p0, p1, 0)).bind fun (y13, y14) => Zif y13 y14
set_option maxHeartbeats 1000000 in
theorem Zii {w00 : Value} (p0 : List Int) (p1 : Int) (r : Int × List Int) (h : Zih p0 p1 = some r) : Ok Tryz.prog 36 [C.val w00, C.int p1] [Obj.arr w00 2 kI64 1 p0] (fun c qs => c = C.int r.1 ∧ qs = [Obj.arr w00 2 kI64 1 r.2]) := by
 refine Ok.of_body (rs := [.tmp 4]) Tryz.func36 rfl rfl rfl rfl rfl fun X => ?_
 unfold Zih at h
 refine AW.seq ?_
 refine AW.region ?_
 refine Ops.v rfl (Yr rfl rfl) ?_
 refine Ops.nil ?_
 refine AW.seq ?_
 refine AW.cut (τ := Int × List Int) (fun (x10, l11) => ⟨[(1, C.int x10)], [Obj.arr w00 2 kI64 1 l11]⟩) (fun (x10, l11) => Zif x10 l11 = some r) ?_ ?_
 ·
  refine zw ?_
  refine AW.lp (v := ()) h (fun (l4, x5, x6) (_ : Unit) => ⟨[(0, C.val w00), (1, C.int x5), (5, C.int x6)], [Obj.arr w00 2 kI64 1 l4]⟩) (gb [0]) ?_
  rintro ⟨l4, x5, x6⟩ _ y20 h
  refine zw ?_
  refine cnd h (fun hb7 h => ?_) fun hb7 h => ?_
  ·
   refine AW.ct hb7 rfl ?_
   refine zw ?_
   refine oi h fun e8 g9 h => ?_
   refine Ops.hd (ns := [0]) rfl rfl (Y33 (e' := x5) ld_2.h rfl rfl (One.val rfl) (Y29 g9).2.2 rfl rfl) ?_
   exact go
  exact go
 rintro ⟨x10, l11⟩ h
 replace h : Zif x10 l11 = some r := h
 unfold Zif at h
 refine zw ?_
 refine AW.ret ?_
 rw [← Option.some.inj h]
 exact ⟨[C.int x10], _, Y21.refl _, (.cons (.tmp rfl) .nil), [0], _, _, rfl, ⟨rfl, rfl⟩⟩

def Zij (x52 : Int) (l53 : List Y8w) : Option (Int × List Y8w) := some (x52, l53)
def Zik (l25 : List Y8w) (x26 : Int) (x27 : Int) : Option ((List Y8w × Int × Int) ⊕ ((Int × List Y8w))) := cond (decide (x27 < (l25.length : Int))) ((getI l25 x27).bind fun e29 => (getI (List.set l25 (Int.toNat x27) (Y8w.mk x26 e29.room e29.author e29.kind e29.key e29.n e29.text e29.prev e29.time)) x27).bind fun e31 => (getI (List.set (List.set l25 (Int.toNat x27) (Y8w.mk x26 e29.room e29.author e29.kind e29.key e29.n e29.text e29.prev e29.time)) (Int.toNat x27) (Y8w.mk e31.id (IntKind.i64.wrap (x26 + 1)) e31.author e31.kind e31.key e31.n e31.text e31.prev e31.time)) x27).bind fun e33 => (getI (List.set (List.set (List.set l25 (Int.toNat x27) (Y8w.mk x26 e29.room e29.author e29.kind e29.key e29.n e29.text e29.prev e29.time)) (Int.toNat x27) (Y8w.mk e31.id (IntKind.i64.wrap (x26 + 1)) e31.author e31.kind e31.key e31.n e31.text e31.prev e31.time)) (Int.toNat x27) (Y8w.mk e33.id e33.room (IntKind.i64.wrap ((IntKind.i64.wrap (x26 + 1)) + 1)) e33.kind e33.key e33.n e33.text e33.prev e33.time)) x27).bind fun e35 => (getI (List.set (List.set (List.set (List.set l25 (Int.toNat x27) (Y8w.mk x26 e29.room e29.author e29.kind e29.key e29.n e29.text e29.prev e29.time)) (Int.toNat x27) (Y8w.mk e31.id (IntKind.i64.wrap (x26 + 1)) e31.author e31.kind e31.key e31.n e31.text e31.prev e31.time)) (Int.toNat x27) (Y8w.mk e33.id e33.room (IntKind.i64.wrap ((IntKind.i64.wrap (x26 + 1)) + 1)) e33.kind e33.key e33.n e33.text e33.prev e33.time)) (Int.toNat x27) (Y8w.mk e35.id e35.room e35.author (IntKind.i64.wrap ((IntKind.i64.wrap ((IntKind.i64.wrap (x26 + 1)) + 1)) + 1)) e35.key e35.n e35.text e35.prev e35.time)) x27).bind fun e37 => (getI (List.set (List.set (List.set (List.set (List.set l25 (Int.toNat x27) (Y8w.mk x26 e29.room e29.author e29.kind e29.key e29.n e29.text e29.prev e29.time)) (Int.toNat x27) (Y8w.mk e31.id (IntKind.i64.wrap (x26 + 1)) e31.author e31.kind e31.key e31.n e31.text e31.prev e31.time)) (Int.toNat x27) (Y8w.mk e33.id e33.room (IntKind.i64.wrap ((IntKind.i64.wrap (x26 + 1)) + 1)) e33.kind e33.key e33.n e33.text e33.prev e33.time)) (Int.toNat x27) (Y8w.mk e35.id e35.room e35.author (IntKind.i64.wrap ((IntKind.i64.wrap ((IntKind.i64.wrap (x26 + 1)) + 1)) + 1)) e35.key e35.n e35.text e35.prev e35.time)) (Int.toNat x27) (Y8w.mk e37.id e37.room e37.author e37.kind (IntKind.i64.wrap ((IntKind.i64.wrap ((IntKind.i64.wrap ((IntKind.i64.wrap (x26 + 1)) + 1)) + 1)) + 1)) e37.n e37.text e37.prev e37.time)) x27).bind fun e39 => (Zid (IntKind.i64.wrap ((IntKind.i64.wrap ((IntKind.i64.wrap ((IntKind.i64.wrap ((IntKind.i64.wrap ((IntKind.i64.wrap (x26 + 1)) + 1)) + 1)) + 1)) + 1)) + 1))).bind fun r41 => (getI (List.set (List.set (List.set (List.set (List.set (List.set l25 (Int.toNat x27) (Y8w.mk x26 e29.room e29.author e29.kind e29.key e29.n e29.text e29.prev e29.time)) (Int.toNat x27) (Y8w.mk e31.id (IntKind.i64.wrap (x26 + 1)) e31.author e31.kind e31.key e31.n e31.text e31.prev e31.time)) (Int.toNat x27) (Y8w.mk e33.id e33.room (IntKind.i64.wrap ((IntKind.i64.wrap (x26 + 1)) + 1)) e33.kind e33.key e33.n e33.text e33.prev e33.time)) (Int.toNat x27) (Y8w.mk e35.id e35.room e35.author (IntKind.i64.wrap ((IntKind.i64.wrap ((IntKind.i64.wrap (x26 + 1)) + 1)) + 1)) e35.key e35.n e35.text e35.prev e35.time)) (Int.toNat x27) (Y8w.mk e37.id e37.room e37.author e37.kind (IntKind.i64.wrap ((IntKind.i64.wrap ((IntKind.i64.wrap ((IntKind.i64.wrap (x26 + 1)) + 1)) + 1)) + 1)) e37.n e37.text e37.prev e37.time)) (Int.toNat x27) (Y8w.mk e39.id e39.room e39.author e39.kind e39.key (IntKind.i64.wrap ((IntKind.i64.wrap ((IntKind.i64.wrap ((IntKind.i64.wrap ((IntKind.i64.wrap (x26 + 1)) + 1)) + 1)) + 1)) + 1)) e39.text e39.prev e39.time)) x27).bind fun e43 => (getI (List.set (List.set (List.set (List.set (List.set (List.set (List.set l25 (Int.toNat x27) (Y8w.mk x26 e29.room e29.author e29.kind e29.key e29.n e29.text e29.prev e29.time)) (Int.toNat x27) (Y8w.mk e31.id (IntKind.i64.wrap (x26 + 1)) e31.author e31.kind e31.key e31.n e31.text e31.prev e31.time)) (Int.toNat x27) (Y8w.mk e33.id e33.room (IntKind.i64.wrap ((IntKind.i64.wrap (x26 + 1)) + 1)) e33.kind e33.key e33.n e33.text e33.prev e33.time)) (Int.toNat x27) (Y8w.mk e35.id e35.room e35.author (IntKind.i64.wrap ((IntKind.i64.wrap ((IntKind.i64.wrap (x26 + 1)) + 1)) + 1)) e35.key e35.n e35.text e35.prev e35.time)) (Int.toNat x27) (Y8w.mk e37.id e37.room e37.author e37.kind (IntKind.i64.wrap ((IntKind.i64.wrap ((IntKind.i64.wrap ((IntKind.i64.wrap (x26 + 1)) + 1)) + 1)) + 1)) e37.n e37.text e37.prev e37.time)) (Int.toNat x27) (Y8w.mk e39.id e39.room e39.author e39.kind e39.key (IntKind.i64.wrap ((IntKind.i64.wrap ((IntKind.i64.wrap ((IntKind.i64.wrap ((IntKind.i64.wrap (x26 + 1)) + 1)) + 1)) + 1)) + 1)) e39.text e39.prev e39.time)) (Int.toNat x27) (Y8w.mk e43.id e43.room e43.author e43.kind e43.key e43.n r41 e43.prev e43.time)) x27).bind fun e45 => (Zih e45.prev (IntKind.i64.wrap ((IntKind.i64.wrap ((IntKind.i64.wrap ((IntKind.i64.wrap ((IntKind.i64.wrap ((IntKind.i64.wrap ((IntKind.i64.wrap (x26 + 1)) + 1)) + 1)) + 1)) + 1)) + 1)) + 1))).bind fun r48 => (getI (List.set (List.set (List.set (List.set (List.set (List.set (List.set (List.set l25 (Int.toNat x27) (Y8w.mk x26 e29.room e29.author e29.kind e29.key e29.n e29.text e29.prev e29.time)) (Int.toNat x27) (Y8w.mk e31.id (IntKind.i64.wrap (x26 + 1)) e31.author e31.kind e31.key e31.n e31.text e31.prev e31.time)) (Int.toNat x27) (Y8w.mk e33.id e33.room (IntKind.i64.wrap ((IntKind.i64.wrap (x26 + 1)) + 1)) e33.kind e33.key e33.n e33.text e33.prev e33.time)) (Int.toNat x27) (Y8w.mk e35.id e35.room e35.author (IntKind.i64.wrap ((IntKind.i64.wrap ((IntKind.i64.wrap (x26 + 1)) + 1)) + 1)) e35.key e35.n e35.text e35.prev e35.time)) (Int.toNat x27) (Y8w.mk e37.id e37.room e37.author e37.kind (IntKind.i64.wrap ((IntKind.i64.wrap ((IntKind.i64.wrap ((IntKind.i64.wrap (x26 + 1)) + 1)) + 1)) + 1)) e37.n e37.text e37.prev e37.time)) (Int.toNat x27) (Y8w.mk e39.id e39.room e39.author e39.kind e39.key (IntKind.i64.wrap ((IntKind.i64.wrap ((IntKind.i64.wrap ((IntKind.i64.wrap ((IntKind.i64.wrap (x26 + 1)) + 1)) + 1)) + 1)) + 1)) e39.text e39.prev e39.time)) (Int.toNat x27) (Y8w.mk e43.id e43.room e43.author e43.kind e43.key e43.n r41 e43.prev e43.time)) (Int.toNat x27) (Y8w.mk e45.id e45.room e45.author e45.kind e45.key e45.n e45.text r48.2 e45.time)) x27).bind fun e50 => some (.inl ((List.set (List.set (List.set (List.set (List.set (List.set (List.set (List.set (List.set l25 (Int.toNat x27) (Y8w.mk x26 e29.room e29.author e29.kind e29.key e29.n e29.text e29.prev e29.time)) (Int.toNat x27) (Y8w.mk e31.id (IntKind.i64.wrap (x26 + 1)) e31.author e31.kind e31.key e31.n e31.text e31.prev e31.time)) (Int.toNat x27) (Y8w.mk e33.id e33.room (IntKind.i64.wrap ((IntKind.i64.wrap (x26 + 1)) + 1)) e33.kind e33.key e33.n e33.text e33.prev e33.time)) (Int.toNat x27) (Y8w.mk e35.id e35.room e35.author (IntKind.i64.wrap ((IntKind.i64.wrap ((IntKind.i64.wrap (x26 + 1)) + 1)) + 1)) e35.key e35.n e35.text e35.prev e35.time)) (Int.toNat x27) (Y8w.mk e37.id e37.room e37.author e37.kind (IntKind.i64.wrap ((IntKind.i64.wrap ((IntKind.i64.wrap ((IntKind.i64.wrap (x26 + 1)) + 1)) + 1)) + 1)) e37.n e37.text e37.prev e37.time)) (Int.toNat x27) (Y8w.mk e39.id e39.room e39.author e39.kind e39.key (IntKind.i64.wrap ((IntKind.i64.wrap ((IntKind.i64.wrap ((IntKind.i64.wrap ((IntKind.i64.wrap (x26 + 1)) + 1)) + 1)) + 1)) + 1)) e39.text e39.prev e39.time)) (Int.toNat x27) (Y8w.mk e43.id e43.room e43.author e43.kind e43.key e43.n r41 e43.prev e43.time)) (Int.toNat x27) (Y8w.mk e45.id e45.room e45.author e45.kind e45.key e45.n e45.text r48.2 e45.time)) (Int.toNat x27) (Y8w.mk e50.id e50.room e50.author e50.kind e50.key e50.n e50.text e50.prev r48.1)), (IntKind.i64.wrap (r48.1 + 1)), (IntKind.i64.wrap (x27 + 1))))) (some (.inr (x26, l25)))
def Zil (p0 : List Y8w) (p1 : Int) : Option (Int × List Y8w) := (iter (fun z54 => Zik z54.1 z54.2.1 z54.2.2) big (p0, p1, 0)).bind fun (y55, y56) => Zij y55 y56
set_option maxHeartbeats 1000000 in
theorem Zim {w00 : Value} (p0 : List Y8w) (p1 : Int) (r : Int × List Y8w) (h : Zil p0 p1 = some r) : Ok Tryz.prog 146 [C.val w00, C.int p1] [Obj.deep w00 136 Y99 Y9a 9 p0] (fun c qs => c = C.int r.1 ∧ qs = [Obj.deep w00 136 Y99 Y9a 9 r.2]) := by
 refine Ok.of_body (rs := [.tmp 4]) Tryz.func146 rfl rfl rfl rfl rfl fun X => ?_
 unfold Zil at h
 refine AW.seq ?_
 refine AW.region ?_
 refine Ops.v rfl (Yr rfl rfl) ?_
 refine Ops.nil ?_
 refine AW.seq ?_
 refine AW.cut (τ := Int × List Y8w) (fun (x52, l53) => ⟨[(1, C.int x52)], [Obj.deep w00 136 Y99 Y9a 9 l53]⟩) (fun (x52, l53) => Zij x52 l53 = some r) ?_ ?_
 ·
  refine zw ?_
  refine AW.lp (v := ()) h (fun (l25, x26, x27) (_ : Unit) => ⟨[(0, C.val w00), (1, C.int x26), (5, C.int x27)], [Obj.deep w00 136 Y99 Y9a 9 l25]⟩) (gb [0]) ?_
  rintro ⟨l25, x26, x27⟩ _ y62 h
  refine zw ?_
  refine Ops.v rfl (Y5w (p := 0) Yap.h rfl rfl rfl) ?_
  refine zw ?_
  refine cnd h (fun hb28 h => ?_) fun hb28 h => ?_
  ·
   refine AW.ct hb28 rfl ?_
   refine zw ?_
   refine ob' h fun e29 g30 h => ?_
   refine Ops.v rfl (Y5y (p := 0) Yap.h rfl rfl rfl g30 rfl) ?_
   refine Ops.v rfl (Y5z (p := 0) Ya6.h rfl rfl (Y29 g30).2.2 rfl) ?_
   refine Ops.hd (ns := [0]) rfl rfl (Y61 (e' := (Y8w.mk x26 e29.room e29.author e29.kind e29.key e29.n e29.text e29.prev e29.time)) ld_2.h rfl rfl (One.val rfl) (Y29 g30).2.2 (fun _ => rfl) (fun _ => rfl) (fun _ => rfl)) ?_
   refine zw ?_
   refine ob' h fun e31 g32 h => ?_
   refine Ops.v rfl (Y5y (p := 0) Yap.h rfl rfl rfl g32 rfl) ?_
   refine Ops.v rfl (Y5z (p := 0) Ya8.h rfl rfl (Y29 g32).2.2 rfl) ?_
   refine Ops.hd (ns := [0]) rfl rfl (Y61 (e' := (Y8w.mk e31.id (IntKind.i64.wrap (x26 + 1)) e31.author e31.kind e31.key e31.n e31.text e31.prev e31.time)) ld_2.h rfl rfl (One.val rfl) (Y29 g32).2.2 (fun _ => rfl) (fun _ => rfl) (fun _ => rfl)) ?_
   refine zw ?_
   refine ob' h fun e33 g34 h => ?_
   refine Ops.v rfl (Y5y (p := 0) Yap.h rfl rfl rfl g34 rfl) ?_
   refine Ops.v rfl (Y5z (p := 0) Yaa.h rfl rfl (Y29 g34).2.2 rfl) ?_
   refine Ops.hd (ns := [0]) rfl rfl (Y61 (e' := (Y8w.mk e33.id e33.room (IntKind.i64.wrap ((IntKind.i64.wrap (x26 + 1)) + 1)) e33.kind e33.key e33.n e33.text e33.prev e33.time)) ld_2.h rfl rfl (One.val rfl) (Y29 g34).2.2 (fun _ => rfl) (fun _ => rfl) (fun _ => rfl)) ?_
   refine zw ?_
   refine ob' h fun e35 g36 h => ?_
   refine Ops.v rfl (Y5y (p := 0) Yap.h rfl rfl rfl g36 rfl) ?_
   refine Ops.v rfl (Y5z (p := 0) Yac.h rfl rfl (Y29 g36).2.2 rfl) ?_
   refine Ops.hd (ns := [0]) rfl rfl (Y61 (e' := (Y8w.mk e35.id e35.room e35.author (IntKind.i64.wrap ((IntKind.i64.wrap ((IntKind.i64.wrap (x26 + 1)) + 1)) + 1)) e35.key e35.n e35.text e35.prev e35.time)) ld_2.h rfl rfl (One.val rfl) (Y29 g36).2.2 (fun _ => rfl) (fun _ => rfl) (fun _ => rfl)) ?_
   refine zw ?_
   refine ob' h fun e37 g38 h => ?_
   refine Ops.v rfl (Y5y (p := 0) Yap.h rfl rfl rfl g38 rfl) ?_
   refine Ops.v rfl (Y5z (p := 0) Yae.h rfl rfl (Y29 g38).2.2 rfl) ?_
   refine Ops.hd (ns := [0]) rfl rfl (Y61 (e' := (Y8w.mk e37.id e37.room e37.author e37.kind (IntKind.i64.wrap ((IntKind.i64.wrap ((IntKind.i64.wrap ((IntKind.i64.wrap (x26 + 1)) + 1)) + 1)) + 1)) e37.n e37.text e37.prev e37.time)) ld_2.h rfl rfl (One.val rfl) (Y29 g38).2.2 (fun _ => rfl) (fun _ => rfl) (fun _ => rfl)) ?_
   refine zw ?_
   refine ob' h fun e39 g40 h => ?_
   refine Ops.v rfl (Y5y (p := 0) Yap.h rfl rfl rfl g40 rfl) ?_
   refine Ops.v rfl (Y5z (p := 0) Yag.h rfl rfl (Y29 g40).2.2 rfl) ?_
   refine Ops.hd (ns := [0]) rfl rfl (Y61 (e' := (Y8w.mk e39.id e39.room e39.author e39.kind e39.key (IntKind.i64.wrap ((IntKind.i64.wrap ((IntKind.i64.wrap ((IntKind.i64.wrap ((IntKind.i64.wrap (x26 + 1)) + 1)) + 1)) + 1)) + 1)) e39.text e39.prev e39.time)) ld_2.h rfl rfl (One.val rfl) (Y29 g40).2.2 (fun _ => rfl) (fun _ => rfl) (fun _ => rfl)) ?_
   refine zw ?_
   refine oc h fun r41 g42 h => ?_
   refine ob' h fun e43 g44 h => ?_
   refine Ops.v rfl (Y5y (p := 0) Yap.h rfl rfl rfl g44 rfl) ?_
   refine Ops.v rfl (Y5z (p := 0) Yah.h rfl rfl (Y29 g44).2.2 rfl) ?_
   refine Ops.hd (ns := [0]) rfl rfl (Y61 (e' := (Y8w.mk e43.id e43.room e43.author e43.kind e43.key e43.n r41 e43.prev e43.time)) ld_9.h rfl rfl (One.val rfl) (Y29 g44).2.2 (fun _ => rfl) (fun _ => rfl) (fun _ => rfl)) ?_
   refine zw ?_
   refine ob' h fun e45 g46 h => ?_
   refine Ops.v rfl (Y5y (p := 0) Yap.h rfl rfl rfl g46 rfl) ?_
   refine Ops.v rfl (Y5z (p := 0) Yai.h rfl rfl (Y29 g46).2.2 rfl) ?_
   refine Ops.take (p := 0) rfl (Y29 g46).2.2 fun q47 => ?_
   refine Ops.v rfl (Y60 (p := 1) Y9q.h rfl rfl (Y29 g46).2.2 rfl rfl) ?_
   refine zw ?_
   refine ob' h fun r48 g49 h => ?_
   refine Ops.hd (ns := [0]) rfl rfl (Y24 (Zii e45.prev (IntKind.i64.wrap ((IntKind.i64.wrap ((IntKind.i64.wrap ((IntKind.i64.wrap ((IntKind.i64.wrap ((IntKind.i64.wrap ((IntKind.i64.wrap (x26 + 1)) + 1)) + 1)) + 1)) + 1)) + 1)) + 1)) _ g49) rfl rfl) ?_
   refine Ops.ghost (Y21.back (x' := (Y8w.mk e45.id e45.room e45.author e45.kind e45.key e45.n e45.text r48.2 e45.time)) (ns := [1, 0]) rfl (Y29 g46).2.2 rfl rfl) ?_
   refine zw ?_
   refine ob' h fun e50 g51 h => ?_
   refine Ops.v rfl (Y5y (p := 0) Yap.h rfl rfl rfl g51 rfl) ?_
   refine Ops.v rfl (Y5z (p := 0) Yak.h rfl rfl (Y29 g51).2.2 rfl) ?_
   refine Ops.hd (ns := [0]) rfl rfl (Y61 (e' := (Y8w.mk e50.id e50.room e50.author e50.kind e50.key e50.n e50.text e50.prev r48.1)) ld_2.h rfl rfl (One.val rfl) (Y29 g51).2.2 (fun _ => rfl) (fun _ => rfl) (fun _ => rfl)) ?_
   exact go
  exact go
 rintro ⟨x52, l53⟩ h
 replace h : Zij x52 l53 = some r := h
 unfold Zij at h
 refine zw ?_
 refine AW.ret ?_
 rw [← Option.some.inj h]
 exact ⟨[C.int x52], _, Y21.refl _, (.cons (.tmp rfl) .nil), [0], _, _, rfl, ⟨rfl, rfl⟩⟩

def Zin (x30 : Int) (l31 : List Y8z) : Option (Int × List Y8z) := some (x30, l31)
def Zio (l14 : List Y8z) (x15 : Int) (x16 : Int) : Option ((List Y8z × Int × Int) ⊕ ((Int × List Y8z))) := cond (decide (x16 < (l14.length : Int))) ((getI l14 x16).bind fun e18 => (getI (List.set l14 (Int.toNat x16) (Y8z.mk x15 e18.events e18.parked)) x16).bind fun e20 => (Zil e20.events (IntKind.i64.wrap (x15 + 1))).bind fun r23 => (getI (List.set (List.set l14 (Int.toNat x16) (Y8z.mk x15 e18.events e18.parked)) (Int.toNat x16) (Y8z.mk e20.room r23.2 e20.parked)) x16).bind fun e25 => (Zil e25.parked r23.1).bind fun r28 => some (.inl ((List.set (List.set (List.set l14 (Int.toNat x16) (Y8z.mk x15 e18.events e18.parked)) (Int.toNat x16) (Y8z.mk e20.room r23.2 e20.parked)) (Int.toNat x16) (Y8z.mk e25.room e25.events r28.2)), r28.1, (IntKind.i64.wrap (x16 + 1))))) (some (.inr (x15, l14)))
def Zip (p0 : List Y8z) (p1 : Int) : Option (Int × List Y8z) := (iter (fun z32 => Zio z32.1 z32.2.1 z32.2.2) big (p0, p1, 0)).bind fun (y33, y34) => Zin y33 y34
set_option maxHeartbeats 1000000 in
theorem Ziq {w00 : Value} (p0 : List Y8z) (p1 : Int) (r : Int × List Y8z) (h : Zip p0 p1 = some r) : Ok Tryz.prog 78 [C.val w00, C.int p1] [Obj.deep w00 139 Y9c Y9d 3 p0] (fun c qs => c = C.int r.1 ∧ qs = [Obj.deep w00 139 Y9c Y9d 3 r.2]) := by
 refine Ok.of_body (rs := [.tmp 4]) Tryz.func78 rfl rfl rfl rfl rfl fun X => ?_
 unfold Zip at h
 refine AW.seq ?_
 refine AW.region ?_
 refine Ops.v rfl (Yr rfl rfl) ?_
 refine Ops.nil ?_
 refine AW.seq ?_
 refine AW.cut (τ := Int × List Y8z) (fun (x30, l31) => ⟨[(1, C.int x30)], [Obj.deep w00 139 Y9c Y9d 3 l31]⟩) (fun (x30, l31) => Zin x30 l31 = some r) ?_ ?_
 ·
  refine zw ?_
  refine AW.lp (v := ()) h (fun (l14, x15, x16) (_ : Unit) => ⟨[(0, C.val w00), (1, C.int x15), (5, C.int x16)], [Obj.deep w00 139 Y9c Y9d 3 l14]⟩) (gb [0]) ?_
  rintro ⟨l14, x15, x16⟩ _ y40 h
  refine zw ?_
  refine Ops.v rfl (Y5w (p := 0) Yaz.h rfl rfl rfl) ?_
  refine zw ?_
  refine cnd h (fun hb17 h => ?_) fun hb17 h => ?_
  ·
   refine AW.ct hb17 rfl ?_
   refine zw ?_
   refine ob' h fun e18 g19 h => ?_
   refine Ops.v rfl (Y5y (p := 0) Yaz.h rfl rfl rfl g19 rfl) ?_
   refine Ops.v rfl (Y5z (p := 0) Yas.h rfl rfl (Y29 g19).2.2 rfl) ?_
   refine Ops.hd (ns := [0]) rfl rfl (Y61 (e' := (Y8z.mk x15 e18.events e18.parked)) ld_2.h rfl rfl (One.val rfl) (Y29 g19).2.2 (fun _ => rfl) (fun _ => rfl) (fun _ => rfl)) ?_
   refine zw ?_
   refine ob' h fun e20 g21 h => ?_
   refine Ops.v rfl (Y5y (p := 0) Yaz.h rfl rfl rfl g21 rfl) ?_
   refine Ops.v rfl (Y5z (p := 0) Yat.h rfl rfl (Y29 g21).2.2 rfl) ?_
   refine Ops.take (p := 0) rfl (Y29 g21).2.2 fun q22 => ?_
   refine Ops.v rfl (Y60 (p := 2) Yau.h rfl rfl (Y29 g21).2.2 rfl rfl) ?_
   refine zw ?_
   refine ob' h fun r23 g24 h => ?_
   refine Ops.hd (ns := [0]) rfl rfl (Y24 (Zim e20.events (IntKind.i64.wrap (x15 + 1)) _ g24) rfl rfl) ?_
   refine Ops.ghost (Y21.back (x' := (Y8z.mk e20.room r23.2 e20.parked)) (ns := [2, 0, 0]) rfl (Y29 g21).2.2 rfl rfl) ?_
   refine zw ?_
   refine ob' h fun e25 g26 h => ?_
   refine Ops.v rfl (Y5y (p := 0) Yaz.h rfl rfl rfl g26 rfl) ?_
   refine Ops.v rfl (Y5z (p := 0) Yav.h rfl rfl (Y29 g26).2.2 rfl) ?_
   refine Ops.take (p := 0) rfl (Y29 g26).2.2 fun q27 => ?_
   refine Ops.v rfl (Y60 (p := 2) Yau.h rfl rfl (Y29 g26).2.2 rfl rfl) ?_
   refine zw ?_
   refine ob' h fun r28 g29 h => ?_
   refine Ops.hd (ns := [1]) rfl rfl (Y24 (Zim e25.parked r23.1 _ g29) rfl rfl) ?_
   refine Ops.ghost (Y21.back (x' := (Y8z.mk e25.room e25.events r28.2)) (ns := [2, 1, 0]) rfl (Y29 g26).2.2 rfl rfl) ?_
   exact go
  exact go
 rintro ⟨x30, l31⟩ h
 replace h : Zin x30 l31 = some r := h
 unfold Zin at h
 refine zw ?_
 refine AW.ret ?_
 rw [← Option.some.inj h]
 exact ⟨[C.int x30], _, Y21.refl _, (.cons (.tmp rfl) .nil), [0], _, _, rfl, ⟨rfl, rfl⟩⟩

def Zir (x14 : Int) (l15 : List Y8y) : Option (Int × List Y8y) := some (x14, l15)
def Zis (l6 : List Y8y) (x7 : Int) (x8 : Int) : Option ((List Y8y × Int × Int) ⊕ ((Int × List Y8y))) := cond (decide (x8 < (l6.length : Int))) ((getI l6 x8).bind fun e10 => (getI (List.set l6 (Int.toNat x8) (Y8y.mk x7 e10.id)) x8).bind fun e12 => some (.inl ((List.set (List.set l6 (Int.toNat x8) (Y8y.mk x7 e10.id)) (Int.toNat x8) (Y8y.mk e12.room (IntKind.i64.wrap (x7 + 1)))), (IntKind.i64.wrap ((IntKind.i64.wrap (x7 + 1)) + 1)), (IntKind.i64.wrap (x8 + 1))))) (some (.inr (x7, l6)))
def Zit (p0 : List Y8y) (p1 : Int) : Option (Int × List Y8y) := (iter (fun z16 => Zis z16.1 z16.2.1 z16.2.2) big (p0, p1, 0)).bind fun (y17, y18) => Zir y17 y18
set_option maxHeartbeats 1000000 in
theorem Ziu {w00 : Value} (p0 : List Y8y) (p1 : Int) (r : Int × List Y8y) (h : Zit p0 p1 = some r) : Ok Tryz.prog 52 [C.val w00, C.int p1] [Obj.arr w00 142 Y98 2 p0] (fun c qs => c = C.int r.1 ∧ qs = [Obj.arr w00 142 Y98 2 r.2]) := by
 refine Ok.of_body (rs := [.tmp 4]) Tryz.func52 rfl rfl rfl rfl rfl fun X => ?_
 unfold Zit at h
 refine AW.seq ?_
 refine AW.region ?_
 refine Ops.v rfl (Yr rfl rfl) ?_
 refine Ops.nil ?_
 refine AW.seq ?_
 refine AW.cut (τ := Int × List Y8y) (fun (x14, l15) => ⟨[(1, C.int x14)], [Obj.arr w00 142 Y98 2 l15]⟩) (fun (x14, l15) => Zir x14 l15 = some r) ?_ ?_
 ·
  refine zw ?_
  refine AW.lp (v := ()) h (fun (l6, x7, x8) (_ : Unit) => ⟨[(0, C.val w00), (1, C.int x7), (5, C.int x8)], [Obj.arr w00 142 Y98 2 l6]⟩) (gb [0]) ?_
  rintro ⟨l6, x7, x8⟩ _ y24 h
  refine zw ?_
  refine cnd h (fun hb9 h => ?_) fun hb9 h => ?_
  ·
   refine AW.ct hb9 rfl ?_
   refine zw ?_
   refine oi h fun e10 g11 h => ?_
   refine Ops.v rfl (Y2y (p := 0) Yb2.h rfl rfl (Y29 g11).2.2 rfl) ?_
   refine Ops.hd (ns := [0]) rfl rfl (Y33 (e' := (Y8y.mk x7 e10.id)) ld_2.h rfl rfl (One.val rfl) (Y29 g11).2.2 rfl rfl) ?_
   refine zw ?_
   refine oi h fun e12 g13 h => ?_
   refine Ops.v rfl (Y2y (p := 0) Yb4.h rfl rfl (Y29 g13).2.2 rfl) ?_
   refine Ops.hd (ns := [0]) rfl rfl (Y33 (e' := (Y8y.mk e12.room (IntKind.i64.wrap (x7 + 1)))) ld_2.h rfl rfl (One.val rfl) (Y29 g13).2.2 rfl rfl) ?_
   exact go
  exact go
 rintro ⟨x14, l15⟩ h
 replace h : Zir x14 l15 = some r := h
 unfold Zir at h
 refine zw ?_
 refine AW.ret ?_
 rw [← Option.some.inj h]
 exact ⟨[C.int x14], _, Y21.refl _, (.cons (.tmp rfl) .nil), [0], _, _, rfl, ⟨rfl, rfl⟩⟩

def Ziv (p0 : Y90) (p1 : Int) : Option (Int × List Y8z × List Y8y) := (Zip p0.rooms p1).bind fun r2 => (Zit p0.stream r2.1).bind fun r4 => some (r4.1, r2.2, r4.2)
theorem Ziw {w00 : Value} {w01 : Value} (p0 : Y90) (p1 : Int) (r : Int × List Y8z × List Y8y) (h : Ziv p0 p1 = some r) : Ok Tryz.prog 19 [C.agg [C.val w00, C.val w01], C.int p1] [Obj.deep w00 139 Y9c Y9d 3 p0.rooms, Obj.arr w01 142 Y98 2 p0.stream] (fun c qs => c = C.int r.1 ∧ qs = [Obj.deep w00 139 Y9c Y9d 3 r.2.1, Obj.arr w01 142 Y98 2 r.2.2]) := by
 refine Ok.of_body (rs := [.tmp 4]) Tryz.func19 rfl rfl rfl rfl rfl fun X => ?_
 unfold Ziv at h
 refine zw ?_
 refine ox fun b1 => ?_
 refine zw ?_
 refine ob' h fun r2 g3 h => ?_
 refine Ops.hd (ns := [1]) rfl rfl (Y24 (Ziq p0.rooms p1 _ g3) rfl rfl) ?_
 refine zw ?_
 refine ob' h fun r4 g5 h => ?_
 refine Ops.hd (ns := [2]) rfl rfl (Y24 (Ziu p0.stream r2.1 _ g5) rfl rfl) ?_
 refine zw ?_
 refine AW.ret ?_
 rw [← Option.some.inj h]
 exact ⟨[C.int r4.1], _, Y21.refl _, (.cons (.tmp rfl) .nil), [1, 0], _, _, rfl, ⟨rfl, rfl⟩⟩

def Zix (x11 : Int) : Option Int := some x11
def Ziy (p0 : List Int) (x5 : Int) (x6 : Int) : Option ((Int × Int) ⊕ (Int ⊕ Int)) := cond (decide (x6 < (p0.length : Int))) ((getI p0 x6).bind fun e8 => cond (e8 != x5) (some (.inr (.inl (-1)))) (some (.inl ((IntKind.i64.wrap (x5 + 1)), (IntKind.i64.wrap (x6 + 1)))))) (some (.inr (.inr x5)))
def Ziz (p0 : List Int) (p1 : Int) : Option Int := (iter (fun z12 => Ziy p0 z12.1 z12.2) big (p1, 0)).bind (fun z15 => match z15 with | .inl y13 => some y13 | .inr y14 => Zix y14)
set_option maxHeartbeats 1000000 in
instance Zj0 (p0 : List Int) (p1 : Int) : Sp Tryz.prog 37 [C.im kI64 1 p0, C.int p1] (Ziz p0 p1) C.int := sp Tryz.func37 rfl rfl fun r X h => by
 unfold Ziz at h
 refine zw ?_
 refine AW.lp (v := ()) h (fun (x5, x6) (_ : Unit) => ⟨[(0, C.im kI64 1 p0), (1, C.int x5), (5, C.int x6)], []⟩) (gb []) ?_
 rintro ⟨x5, x6⟩ _ y21 h
 exact go

def Zj1 (p0 : THub) (p1 : Int) (p2 : Int) (r7 : List Int) (r14 : List Int) (x43 : Bool) : Option Bool := cond x43 (some false) ((Zih r14 1).bind fun r45 => (Ziz r45.2 1).bind fun r47 => cond (decide (r47 < 0)) (some false) (cond (r47 != r45.1) (some false) ((Z15 p0).bind fun r51 => (Zhl r51 p1 p2).bind fun r53 => (Zhp r53 r7).bind fun r55 => cond r55 ((Ziz r45.2 1).bind fun r58 => cond (decide (r58 < 0)) (some false) (cond (r58 != r45.1) (some false) (some true))) (some false))))
def Zj2 (p0 : THub) (p1 : Int) (p2 : Int) : Option Bool := (Zh p0 1048576).bind fun r2 => cond (decide (r2 < 0)) (some true) ((Z15 p0).bind fun r5 => (Z7k r5 p1 p2).bind fun r7 => (Z15 p0).bind fun r9 => (Zhl r9 p1 p2).bind fun r14 => (Zhp r14 r7).bind fun r18 => cond r18 ((Z15 p0).bind fun r33 => (Zi9 r9 r33).bind fun r35 => cond r35 ((Ziv r9 1).bind fun r38 => cond (decide (r38.1 < 0)) (Zj1 p0 p1 p2 r7 r14 true) ((Zhp r14 r7).bind fun r41 => Zj1 p0 p1 p2 r7 r14 (!r41))) (some false)) (some false))
set_option maxHeartbeats 1000000 in
instance Zj3 (p0 : THub) (p1 : Int) (p2 : Int) : Sp Tryz.prog 6 [C.agg [C.im Y97 3 p0.rooms, C.im Y98 2 p0.stream], C.int p1, C.int p2] (Zj2 p0 p1 p2) C.bool := sp Tryz.func6 rfl rfl fun r X h => by
 unfold Zj2 at h
 refine zw ?_
 refine ox fun b1 => ?_
 refine zw ?_
 refine oc h fun r2 g3 h => ?_
 refine zw ?_
 refine cnd h (fun hb4 h => go) fun hb4 h => ?_
 refine AW.cf hb4 rfl ?_
 refine zw ?_
 refine oc h fun r5 g6 h => ?_
 refine zw ?_
 refine oc h fun r7 g8 h => ?_
 refine zw ?_
 refine ob' h fun r9 g10 h => ?_
 refine Ops.h (ns := []) rfl rfl (Y23 (Z16 _ _ g10) rfl rfl) ?_
 rintro _ _ ⟨_, ⟨v11, v12, rfl, rfl⟩, rfl⟩
 refine Ops.h (ns := []) rfl rfl (Y1p (cs := [C.val s0, C.val s0]) Yb9 (Y42 rfl rfl) rfl) ?_
 rintro _ _ ⟨b13, rfl, rfl⟩
 refine Ops.hd (ns := [0]) rfl rfl (Y1u (gs := [C.val v11, C.val v12]) Ybe.h rfl rfl rfl rfl rfl) ?_
 refine zw ?_
 refine ob' h fun r14 g15 h => ?_
 refine Ops.h (ns := [1, 1]) rfl rfl (Y23 (Ok.lend (Zhm r9 p1 p2 _ g15) (FrzT.cons (os := [_, _]) (Frz.agg (FrzL.cons (os := [_]) (Frz.deep Yay) (FrzL.cons (os := [_]) Frz.arr (FrzL.nil)))) (FrzT.cons (os := []) (Frz.same _) (FrzT.cons (os := []) (Frz.same _) (FrzT.nil)))) (by rintro _ _ ⟨_, rfl, rfl⟩; exact ⟨(Y44.val _), Y48 (Y46.arr Yan) (Y47)⟩)) rfl rfl) ?_
 rintro _ _ ⟨_, ⟨_, ⟨v16, rfl, rfl⟩, rfl⟩, rfl⟩
 refine zw ?_
 refine ob' h fun r18 g19 h => ?_
 refine Ops.hd (ns := [0]) rfl rfl (Y24 (Ok.lendE ((Zhq r14 r7).h _ g19) (FrzT.cons (os := [_]) Frz.arr (FrzT.cons (os := []) (Frz.same _) (FrzT.nil))) (Y44.val _)) rfl rfl) ?_
 refine zw ?_
 refine cnd h (fun hb20 h => ?_) fun hb20 h => ?_
 ·
  refine AW.cond rfl (fun hn => absurd ((Y3u hb20).symm.trans hn) (by decide)) (fun _ => ?_)
  refine zw ?_
  refine AW.regionD (L := [0, 1]) (Lt := []) (k := dec [1,4,8,11,12]) (ns := [0, 2, 2]) (by kernel_rfl) (by kernel_rfl) (by kernel_rfl) (by kernel_rfl) rfl ?_
  refine zw ?_
  refine dc h fun r33 g34 h => ?_
  refine zw ?_
  refine ob' h fun r35 g36 h => ?_
  refine Y3n.h (ns := [0, 0]) rfl rfl rfl (Y24 (Ok.lendE ((Zia r9 r33).h _ g36) (FrzT.cons (os := [_, _]) (Frz.agg (FrzL.cons (os := [_]) (Frz.deep Yay) (FrzL.cons (os := [_]) Frz.arr (FrzL.nil)))) (FrzT.cons (os := []) (Frz.same _) (FrzT.nil))) (Y44.val _)) rfl rfl) ?_
  rintro _ _ ⟨rfl, rfl⟩
  refine zw ?_
  refine cnd h (fun hb37 h => ?_) fun hb37 h => ?_
  ·
   refine AW.cond rfl (fun hn => absurd ((Y3u hb37).symm.trans hn) (by decide)) (fun _ => ?_)
   refine zw ?_
   refine ob' h fun r38 g39 h => ?_
   refine Ops.hd (ns := [3, 3]) rfl rfl (Y24 (Ziw r9 1 _ g39) rfl rfl) ?_
   refine Ops.v rfl (Yr rfl rfl) ?_
   refine Ops.nil ?_
   refine AW.seq ?_
   refine AW.seq ?_
   refine AW.cut (τ := Bool) (fun x43 => ⟨[(1, C.int p1), (2, C.int p2), (3, pt b1), (8, C.im kI64 1 r7), (10, C.val v16), (50, C.bool x43)], [Obj.box b1 25 [C.im Y97 3 p0.rooms, C.im Y98 2 p0.stream], Obj.arr v16 2 kI64 1 r14]⟩) (fun x43 => Zj1 p0 p1 p2 r7 r14 x43 = some r) ?_ ?_
   ·
    refine zw ?_
    refine cnd h (fun hb40 h => go) fun hb40 h => ?_
    refine zw ?_
    refine ob' h fun r41 g42 h => ?_
    refine Ops.ghd (ns := [2]) rfl rfl rfl rfl hb40 rfl (Y24 (Ok.lendE ((Zhq r14 r7).h _ g42) (FrzT.cons (os := [_]) Frz.arr (FrzT.cons (os := []) (Frz.same _) (FrzT.nil))) (Y44.val _)) rfl rfl) ?_
    exact go
   intro x43 h
   replace h : Zj1 p0 p1 p2 r7 r14 x43 = some r := h
   unfold Zj1 at h
   refine cnd h (fun hb44 h => go) fun hb44 h => ?_
   refine AW.cf hb44 rfl ?_
   refine zw ?_
   refine ob' h fun r45 g46 h => ?_
   refine Ops.hd (ns := [1]) rfl rfl (Y24 (Zii r14 1 _ g46) rfl rfl) ?_
   refine zw ?_
   refine ob' h fun r47 g48 h => ?_
   refine Ops.hd (ns := [0]) rfl rfl (Y24 (Ok.lendE ((Zj0 r45.2 1).h _ g48) (FrzT.cons (os := [_]) Frz.arr (FrzT.cons (os := []) (Frz.same _) (FrzT.nil))) (Y44.val _)) rfl rfl) ?_
   refine zw ?_
   refine cnd h (fun hb49 h => go) fun hb49 h => ?_
   refine AW.cf hb49 rfl ?_
   refine zw ?_
   refine cnd h (fun hb50 h => go) fun hb50 h => ?_
   refine AW.cf hb50 rfl ?_
   refine zw ?_
   refine oc h fun r51 g52 h => ?_
   refine zw ?_
   refine oc h fun r53 g54 h => ?_
   refine zw ?_
   refine oc h fun r55 g56 h => ?_
   refine zw ?_
   refine cnd h (fun hb57 h => ?_) fun hb57 h => ?_
   ·
    refine AW.cond rfl (fun hn => absurd ((Y3u hb57).symm.trans hn) (by decide)) (fun _ => ?_)
    refine zw ?_
    refine ob' h fun r58 g59 h => ?_
    refine Ops.hd (ns := [0]) rfl rfl (Y24 (Ok.lendE ((Zj0 r45.2 1).h _ g59) (FrzT.cons (os := [_]) Frz.arr (FrzT.cons (os := []) (Frz.same _) (FrzT.nil))) (Y44.val _)) rfl rfl) ?_
    exact go
   exact go
  exact go
 exact go

end Go.Proofs.YtbgichfjcnibpaaGreat
