/- Printed by gen.py: plain functions for Go functions, and that the walks keep to them. -/
import Derived.Test.YtbgichfjcnibpaaGreatEQ6
set_option autoImplicit false
set_option linter.unusedVariables false
set_option linter.unusedSimpArgs false
set_option maxRecDepth 100000
namespace Go.Proofs.YtbgichfjcnibpaaGreat
open Go Go.Abs
attribute [local irreducible] AW Ops OpsD Y3n
def Zht : Option Bool := some true
def Zhu (p0 : List Int) (p1 : List Int) (x8 : Int) : Option (Int ⊕ (Bool ⊕ Unit)) := cond (decide (x8 < (p0.length : Int))) ((getI p0 x8).bind fun e10 => (getI p1 x8).bind fun e12 => cond (e10 != e12) (some (.inr (.inl false))) (some (.inl (IntKind.i64.wrap (x8 + 1))))) (some (.inr (.inr ())))
def Zhv (p0 : List Int) (p1 : List Int) : Option Bool := cond ((p0.length : Int) != (p1.length : Int)) (some false) ((iter (Zhu p0 p1) big 0).bind (fun z16 => match z16 with | .inl y15 => some y15 | .inr () => Zht))
set_option maxHeartbeats 1000000 in
instance Zhw (p0 : List Int) (p1 : List Int) : Sp Tryz.prog 35 [C.im kI64 1 p0, C.im kI64 1 p1] (Zhv p0 p1) C.bool := sp Tryz.func35 rfl rfl fun r X h => by
 unfold Zhv at h
 refine zw ?_
 refine cnd h (fun hb1 h => go) fun hb1 h => ?_
 refine AW.cf hb1 rfl ?_
 refine zw ?_
 refine AW.lp (v := ()) h (fun x8 (_ : Unit) => ⟨[(0, C.im kI64 1 p0), (1, C.im kI64 1 p1), (5, C.int x8)], []⟩) (gb []) ?_
 rintro x8 _ y22 h
 refine zw ?_
 refine cnd h (fun hb9 h => ?_) fun hb9 h => ?_
 ·
  refine AW.ct hb9 rfl ?_
  refine zw ?_
  refine AW.regionD (L := [3, 7]) (Lt := []) (k := dec [0,3,6,10,12,15,18,22,24]) (ns := []) (by kernel_rfl) (by kernel_rfl) (by kernel_rfl) (by kernel_rfl) rfl ?_
  exact go
 exact go

def Zhx (p0 : Y8z) (p1 : Y8z) : Option Bool := cond (p0.user != p1.user) (some false) ((Zhv p0.at_ p1.at_).bind fun r4 => cond r4 (some true) (some false))
set_option maxHeartbeats 1000000 in
instance Zhy (p0 : Y8z) (p1 : Y8z) : Sp Tryz.prog 42 [C.agg [C.int p0.user, C.im kI64 1 p0.at_], C.agg [C.int p1.user, C.im kI64 1 p1.at_]] (Zhx p0 p1) C.bool := sp Tryz.func42 rfl rfl fun r X h => go

def Zhz (p0 : Y95) (p1 : Y95) : Option Bool := (Zhx p0.marks p1.marks).bind fun r3 => cond r3 (cond (p0.code != p1.code) (some false) (some true)) (some false)
set_option maxHeartbeats 1000000 in
instance Zi0 (p0 : Y95) (p1 : Y95) : Sp Tryz.prog 45 [C.agg [C.int p0.marks.user, C.im kI64 1 p0.marks.at_, C.int p0.code], C.agg [C.int p1.marks.user, C.im kI64 1 p1.marks.at_, C.int p1.code]] (Zhz p0 p1) C.bool := sp Tryz.func45 rfl rfl fun r X h => go

def Zi1 (p0 : Y8w) (p1 : Y8w) : Option Bool := cond (p0.id != p1.id) (some false) (cond (p0.room != p1.room) (some false) (cond (p0.author != p1.author) (some false) (cond (p0.kind != p1.kind) (some false) (cond (p0.key != p1.key) (some false) (cond (p0.n != p1.n) (some false) (cond (p0.text.toList == p1.text.toList) ((Zhv p0.prev p1.prev).bind fun r10 => cond r10 (cond (p0.time != p1.time) (some false) (some true)) (some false)) (some false)))))))
set_option maxHeartbeats 1000000 in
instance Zi2 (p0 : Y8w) (p1 : Y8w) : Sp Tryz.prog 173 [C.agg [C.int p0.id, C.int p0.room, C.int p0.author, C.int p0.kind, C.int p0.key, C.int p0.n, C.str p0.text, C.im kI64 1 p0.prev, C.int p0.time], C.agg [C.int p1.id, C.int p1.room, C.int p1.author, C.int p1.kind, C.int p1.key, C.int p1.n, C.str p1.text, C.im kI64 1 p1.prev, C.int p1.time]] (Zi1 p0 p1) C.bool := sp Tryz.func173 rfl rfl fun r X h => go

def Zi3 : Option Bool := some true
def Zi4 (p0 : List Y8w) (p1 : List Y8w) (x10 : Int) : Option (Int ⊕ (Bool ⊕ Unit)) := cond (decide (x10 < (p0.length : Int))) ((getI p0 x10).bind fun e12 => (getI p1 x10).bind fun e14 => (Zi1 e12 e14).bind fun r16 => cond r16 (some (.inl (IntKind.i64.wrap (x10 + 1)))) (some (.inr (.inl false)))) (some (.inr (.inr ())))
def Zi5 (p0 : List Y8w) (p1 : List Y8w) : Option Bool := cond ((p0.length : Int) != (p1.length : Int)) (some false) ((iter (Zi4 p0 p1) big 0).bind (fun z20 => match z20 with | .inl y19 => some y19 | .inr () => Zi3))
set_option maxHeartbeats 1000000 in
instance Zi6 (p0 : List Y8w) (p1 : List Y8w) : Sp Tryz.prog 209 [C.im Y98 9 p0, C.im Y98 9 p1] (Zi5 p0 p1) C.bool := sp Tryz.func209 rfl rfl fun r X h => by
 unfold Zi5 at h
 refine zw ?_
 refine cnd h (fun hb1 h => go) fun hb1 h => ?_
 refine AW.cf hb1 rfl ?_
 refine zw ?_
 refine AW.lp (v := ()) h (fun x10 (_ : Unit) => ⟨[(0, C.im Y98 9 p0), (1, C.im Y98 9 p1), (5, C.int x10)], []⟩) (gb []) ?_
 rintro x10 _ y26 h
 refine zw ?_
 refine cnd h (fun hb11 h => ?_) fun hb11 h => ?_
 ·
  refine AW.ct hb11 rfl ?_
  refine zw ?_
  refine AW.regionD (L := [3, 7]) (Lt := []) (k := dec [0,3,6,10,12,15,18,22,26,27]) (ns := []) (by kernel_rfl) (by kernel_rfl) (by kernel_rfl) (by kernel_rfl) rfl ?_
  exact go
 exact go

def Zi7 (p0 : Y90) (p1 : Y90) : Option Bool := cond (p0.room != p1.room) (some false) ((Zi5 p0.events p1.events).bind fun r4 => cond r4 ((Zi5 p0.parked p1.parked).bind fun r7 => cond r7 (some true) (some false)) (some false))
set_option maxHeartbeats 1000000 in
instance Zi8 (p0 : Y90) (p1 : Y90) : Sp Tryz.prog 145 [C.agg [C.int p0.room, C.im Y98 9 p0.events, C.im Y98 9 p0.parked], C.agg [C.int p1.room, C.im Y98 9 p1.events, C.im Y98 9 p1.parked]] (Zi7 p0 p1) C.bool := sp Tryz.func145 rfl rfl fun r X h => go

def Zi9 : Option Bool := some true
def Zia (p0 : List Y90) (p1 : List Y90) (x10 : Int) : Option (Int ⊕ (Bool ⊕ Unit)) := cond (decide (x10 < (p0.length : Int))) ((getI p0 x10).bind fun e12 => (getI p1 x10).bind fun e14 => (Zi7 e12 e14).bind fun r16 => cond r16 (some (.inl (IntKind.i64.wrap (x10 + 1)))) (some (.inr (.inl false)))) (some (.inr (.inr ())))
def Zib (p0 : List Y90) (p1 : List Y90) : Option Bool := cond ((p0.length : Int) != (p1.length : Int)) (some false) ((iter (Zia p0 p1) big 0).bind (fun z20 => match z20 with | .inl y19 => some y19 | .inr () => Zi9))
set_option maxHeartbeats 1000000 in
instance Zic (p0 : List Y90) (p1 : List Y90) : Sp Tryz.prog 77 [C.im Y9d 3 p0, C.im Y9d 3 p1] (Zib p0 p1) C.bool := sp Tryz.func77 rfl rfl fun r X h => by
 unfold Zib at h
 refine zw ?_
 refine cnd h (fun hb1 h => go) fun hb1 h => ?_
 refine AW.cf hb1 rfl ?_
 refine zw ?_
 refine AW.lp (v := ()) h (fun x10 (_ : Unit) => ⟨[(0, C.im Y9d 3 p0), (1, C.im Y9d 3 p1), (5, C.int x10)], []⟩) (gb []) ?_
 rintro x10 _ y26 h
 refine zw ?_
 refine cnd h (fun hb11 h => ?_) fun hb11 h => ?_
 ·
  refine AW.ct hb11 rfl ?_
  refine zw ?_
  refine AW.regionD (L := [3, 7]) (Lt := []) (k := dec [0,3,6,10,12,15,18,22,26,27]) (ns := []) (by kernel_rfl) (by kernel_rfl) (by kernel_rfl) (by kernel_rfl) rfl ?_
  exact go
 exact go

def Zid (p0 : Y8y) (p1 : Y8y) : Option Bool := cond (p0.room != p1.room) (some false) (cond (p0.id != p1.id) (some false) (some true))
set_option maxHeartbeats 1000000 in
instance Zie (p0 : Y8y) (p1 : Y8y) : Sp Tryz.prog 118 [C.agg [C.int p0.room, C.int p0.id], C.agg [C.int p1.room, C.int p1.id]] (Zid p0 p1) C.bool := sp Tryz.func118 rfl rfl fun r X h => go

def Zif : Option Bool := some true
def Zig (p0 : List Y8y) (p1 : List Y8y) (x10 : Int) : Option (Int ⊕ (Bool ⊕ Unit)) := cond (decide (x10 < (p0.length : Int))) ((getI p0 x10).bind fun e12 => (getI p1 x10).bind fun e14 => (Zid e12 e14).bind fun r16 => cond r16 (some (.inl (IntKind.i64.wrap (x10 + 1)))) (some (.inr (.inl false)))) (some (.inr (.inr ())))
def Zih (p0 : List Y8y) (p1 : List Y8y) : Option Bool := cond ((p0.length : Int) != (p1.length : Int)) (some false) ((iter (Zig p0 p1) big 0).bind (fun z20 => match z20 with | .inl y19 => some y19 | .inr () => Zif))
set_option maxHeartbeats 1000000 in
instance Zii (p0 : List Y8y) (p1 : List Y8y) : Sp Tryz.prog 51 [C.im Y9a 2 p0, C.im Y9a 2 p1] (Zih p0 p1) C.bool := sp Tryz.func51 rfl rfl fun r X h => by
 unfold Zih at h
 refine zw ?_
 refine cnd h (fun hb1 h => go) fun hb1 h => ?_
 refine AW.cf hb1 rfl ?_
 refine zw ?_
 refine AW.lp (v := ()) h (fun x10 (_ : Unit) => ⟨[(0, C.im Y9a 2 p0), (1, C.im Y9a 2 p1), (5, C.int x10)], []⟩) (gb []) ?_
 rintro x10 _ y26 h
 refine zw ?_
 refine cnd h (fun hb11 h => ?_) fun hb11 h => ?_
 ·
  refine AW.ct hb11 rfl ?_
  refine zw ?_
  refine AW.regionD (L := [3, 7]) (Lt := []) (k := dec [0,3,6,10,12,15,18,22,26,27]) (ns := []) (by kernel_rfl) (by kernel_rfl) (by kernel_rfl) (by kernel_rfl) rfl ?_
  exact go
 exact go

def Zij (p0 : Y91) (p1 : Y91) : Option Bool := (Zib p0.rooms p1.rooms).bind fun r3 => cond r3 ((Zih p0.stream p1.stream).bind fun r6 => cond r6 (some true) (some false)) (some false)
set_option maxHeartbeats 1000000 in
instance Zik (p0 : Y91) (p1 : Y91) : Sp Tryz.prog 18 [C.agg [C.im Y9d 3 p0.rooms, C.im Y9a 2 p0.stream], C.agg [C.im Y9d 3 p1.rooms, C.im Y9a 2 p1.stream]] (Zij p0 p1) C.bool := sp Tryz.func18 rfl rfl fun r X h => go

def Zil (x12 : ByteArray) : Option ByteArray := (chk (decide ((ByteArray.mk #[109]).size + x12.size ≤ 9223372036854775807))).bind fun u14 => some ((ByteArray.mk #[109]) ++ x12)
def Zim (x6 : Int) (x7 : ByteArray) : Option ((Int × ByteArray) ⊕ (ByteArray)) := cond (decide (x6 > 0)) ((chk (decide ((Y6w [(IntKind.u8.wrap (IntKind.i64.wrap (48 + (Int.tmod x6 10))))]).size + x7.size ≤ 9223372036854775807))).bind fun u11 => some (.inl ((IntKind.i64.wrap (Int.tdiv x6 10)), ((Y6w [(IntKind.u8.wrap (IntKind.i64.wrap (48 + (Int.tmod x6 10))))]) ++ x7)))) (some (.inr x7))
def Zin (p0 : Int) : Option ByteArray := cond (decide (p0 ≤ 0)) (some (ByteArray.mk #[109, 48])) ((iter (fun z15 => Zim z15.1 z15.2) big (p0, ByteArray.empty)).bind fun y16 => Zil y16)
set_option maxHeartbeats 1000000 in
instance Zio (p0 : Int) : Sp Tryz.prog 125 [C.int p0] (Zin p0) C.str := sp Tryz.func125 rfl rfl fun r X h => by
 unfold Zin at h
 refine zw ?_
 refine cnd h (fun hb1 h => go) fun hb1 h => ?_
 refine AW.cf hb1 rfl ?_
 refine AW.skip ?_
 refine AW.seq ?_
 refine AW.region ?_
 refine Ops.v rfl (Yr rfl rfl) ?_
 refine Ops.nil ?_
 refine AW.seq ?_
 refine AW.cut (τ := ByteArray) (fun x12 => ⟨[(3, C.str x12)], []⟩) (fun x12 => Zil x12 = some r) ?_ ?_
 ·
  refine zw ?_
  refine AW.lp (v := ()) h (fun (x6, x7) (_ : Unit) => ⟨[(0, C.int x6), (3, C.str x7)], []⟩) (gb []) ?_
  rintro ⟨x6, x7⟩ _ y22 h
  refine zw ?_
  refine cnd h (fun hb8 h => ?_) fun hb8 h => ?_
  ·
   refine AW.ct hb8 rfl ?_
   refine zw ?_
   refine Ops.v rfl (Yw rfl rfl (by decide) rfl) ?_
   refine zw ?_
   refine Ops.v rfl (Y12 un_3 un_5 rfl rfl) ?_
   refine Ops.h (ns := []) rfl rfl (Y39 (k := kU8) (ys := [(IntKind.u8.wrap (IntKind.i64.wrap (48 + (Int.tmod x6 10))))]) Yds (.one rfl (One.val rfl) rfl rfl .nil) rfl rfl rfl) ?_
   rintro _ _ ⟨b9, rfl, rfl⟩
   refine Ops.v rfl (Y70 (p := 0) Ydt un_9 (fun _ => rfl) rfl rfl rfl) ?_
   refine zw ?_
   refine ob' h fun u11 c10 h => ?_
   refine Ops.v rfl (Y71 rfl rfl (of_decide_eq_true (Y3t c10)) rfl) ?_
   refine zw ?_
   refine Ops.v rfl (Yx rfl rfl (by decide) rfl) ?_
   exact go
  exact go
 intro x12 h
 replace h : Zil x12 = some r := h
 unfold Zil at h
 refine zw ?_
 refine ob' h fun u14 c13 h => ?_
 refine Ops.v rfl (Y71 rfl rfl (of_decide_eq_true (Y3t c13)) rfl) ?_
 exact go

def Zip (x10 : Int) (l11 : List Int) : Option (Int × List Int) := some (x10, l11)
def Ziq (l4 : List Int) (x5 : Int) (x6 : Int) : Option ((List Int × Int × Int) ⊕ ((Int × List Int))) := cond (decide (x6 < (l4.length : Int))) ((getI l4 x6).bind fun e8 => some (.inl ((List.set l4 (Int.toNat x6) x5), (IntKind.i64.wrap (x5 + 1)), (IntKind.i64.wrap (x6 + 1))))) (some (.inr (x5, l4)))
def Zir (p0 : List Int) (p1 : Int) : Option (Int × List Int) := (iter (fun z12 => Ziq z12.1 z12.2.1 z12.2.2) big (p0, p1, 0)).bind fun (y13, y14) => Zip y13 y14
set_option maxHeartbeats 1000000 in
theorem Zis {w00 : Value} (p0 : List Int) (p1 : Int) (r : Int × List Int) (h : Zir p0 p1 = some r) : Ok Tryz.prog 36 [C.val w00, C.int p1] [Obj.arr w00 2 kI64 1 p0] (fun c qs => c = C.int r.1 ∧ qs = [Obj.arr w00 2 kI64 1 r.2]) := by
 refine Ok.of_body (rs := [.tmp 4]) Tryz.func36 rfl rfl rfl rfl rfl fun X => ?_
 unfold Zir at h
 refine AW.seq ?_
 refine AW.region ?_
 refine Ops.v rfl (Yr rfl rfl) ?_
 refine Ops.nil ?_
 refine AW.seq ?_
 refine AW.cut (τ := Int × List Int) (fun (x10, l11) => ⟨[(1, C.int x10)], [Obj.arr w00 2 kI64 1 l11]⟩) (fun (x10, l11) => Zip x10 l11 = some r) ?_ ?_
 ·
  refine zw ?_
  refine AW.lp (v := ()) h (fun (l4, x5, x6) (_ : Unit) => ⟨[(0, C.val w00), (1, C.int x5), (5, C.int x6)], [Obj.arr w00 2 kI64 1 l4]⟩) (gb [0]) ?_
  rintro ⟨l4, x5, x6⟩ _ y20 h
  refine zw ?_
  refine cnd h (fun hb7 h => ?_) fun hb7 h => ?_
  ·
   refine AW.ct hb7 rfl ?_
   refine zw ?_
   refine oi h fun e8 g9 h => ?_
   refine Ops.hd (ns := [0]) rfl rfl (Y33 (e' := x5) ld_2.h rfl rfl (One.val rfl) (Y29 g9).2.2 rfl rfl) ?_
   exact go
  exact go
 rintro ⟨x10, l11⟩ h
 replace h : Zip x10 l11 = some r := h
 unfold Zip at h
 refine zw ?_
 refine AW.ret ?_
 rw [← Option.some.inj h]
 exact ⟨[C.int x10], _, Y21.refl _, (.cons (.tmp rfl) .nil), [0], _, _, rfl, ⟨rfl, rfl⟩⟩

def Zit (x52 : Int) (l53 : List Y8w) : Option (Int × List Y8w) := some (x52, l53)
def Ziu (l25 : List Y8w) (x26 : Int) (x27 : Int) : Option ((List Y8w × Int × Int) ⊕ ((Int × List Y8w))) := cond (decide (x27 < (l25.length : Int))) ((getI l25 x27).bind fun e29 => (getI (List.set l25 (Int.toNat x27) (Y8w.mk x26 e29.room e29.author e29.kind e29.key e29.n e29.text e29.prev e29.time)) x27).bind fun e31 => (getI (List.set (List.set l25 (Int.toNat x27) (Y8w.mk x26 e29.room e29.author e29.kind e29.key e29.n e29.text e29.prev e29.time)) (Int.toNat x27) (Y8w.mk e31.id (IntKind.i64.wrap (x26 + 1)) e31.author e31.kind e31.key e31.n e31.text e31.prev e31.time)) x27).bind fun e33 => (getI (List.set (List.set (List.set l25 (Int.toNat x27) (Y8w.mk x26 e29.room e29.author e29.kind e29.key e29.n e29.text e29.prev e29.time)) (Int.toNat x27) (Y8w.mk e31.id (IntKind.i64.wrap (x26 + 1)) e31.author e31.kind e31.key e31.n e31.text e31.prev e31.time)) (Int.toNat x27) (Y8w.mk e33.id e33.room (IntKind.i64.wrap ((IntKind.i64.wrap (x26 + 1)) + 1)) e33.kind e33.key e33.n e33.text e33.prev e33.time)) x27).bind fun e35 => (getI (List.set (List.set (List.set (List.set l25 (Int.toNat x27) (Y8w.mk x26 e29.room e29.author e29.kind e29.key e29.n e29.text e29.prev e29.time)) (Int.toNat x27) (Y8w.mk e31.id (IntKind.i64.wrap (x26 + 1)) e31.author e31.kind e31.key e31.n e31.text e31.prev e31.time)) (Int.toNat x27) (Y8w.mk e33.id e33.room (IntKind.i64.wrap ((IntKind.i64.wrap (x26 + 1)) + 1)) e33.kind e33.key e33.n e33.text e33.prev e33.time)) (Int.toNat x27) (Y8w.mk e35.id e35.room e35.author (IntKind.i64.wrap ((IntKind.i64.wrap ((IntKind.i64.wrap (x26 + 1)) + 1)) + 1)) e35.key e35.n e35.text e35.prev e35.time)) x27).bind fun e37 => (getI (List.set (List.set (List.set (List.set (List.set l25 (Int.toNat x27) (Y8w.mk x26 e29.room e29.author e29.kind e29.key e29.n e29.text e29.prev e29.time)) (Int.toNat x27) (Y8w.mk e31.id (IntKind.i64.wrap (x26 + 1)) e31.author e31.kind e31.key e31.n e31.text e31.prev e31.time)) (Int.toNat x27) (Y8w.mk e33.id e33.room (IntKind.i64.wrap ((IntKind.i64.wrap (x26 + 1)) + 1)) e33.kind e33.key e33.n e33.text e33.prev e33.time)) (Int.toNat x27) (Y8w.mk e35.id e35.room e35.author (IntKind.i64.wrap ((IntKind.i64.wrap ((IntKind.i64.wrap (x26 + 1)) + 1)) + 1)) e35.key e35.n e35.text e35.prev e35.time)) (Int.toNat x27) (Y8w.mk e37.id e37.room e37.author e37.kind (IntKind.i64.wrap ((IntKind.i64.wrap ((IntKind.i64.wrap ((IntKind.i64.wrap (x26 + 1)) + 1)) + 1)) + 1)) e37.n e37.text e37.prev e37.time)) x27).bind fun e39 => (Zin (IntKind.i64.wrap ((IntKind.i64.wrap ((IntKind.i64.wrap ((IntKind.i64.wrap ((IntKind.i64.wrap ((IntKind.i64.wrap (x26 + 1)) + 1)) + 1)) + 1)) + 1)) + 1))).bind fun r41 => (getI (List.set (List.set (List.set (List.set (List.set (List.set l25 (Int.toNat x27) (Y8w.mk x26 e29.room e29.author e29.kind e29.key e29.n e29.text e29.prev e29.time)) (Int.toNat x27) (Y8w.mk e31.id (IntKind.i64.wrap (x26 + 1)) e31.author e31.kind e31.key e31.n e31.text e31.prev e31.time)) (Int.toNat x27) (Y8w.mk e33.id e33.room (IntKind.i64.wrap ((IntKind.i64.wrap (x26 + 1)) + 1)) e33.kind e33.key e33.n e33.text e33.prev e33.time)) (Int.toNat x27) (Y8w.mk e35.id e35.room e35.author (IntKind.i64.wrap ((IntKind.i64.wrap ((IntKind.i64.wrap (x26 + 1)) + 1)) + 1)) e35.key e35.n e35.text e35.prev e35.time)) (Int.toNat x27) (Y8w.mk e37.id e37.room e37.author e37.kind (IntKind.i64.wrap ((IntKind.i64.wrap ((IntKind.i64.wrap ((IntKind.i64.wrap (x26 + 1)) + 1)) + 1)) + 1)) e37.n e37.text e37.prev e37.time)) (Int.toNat x27) (Y8w.mk e39.id e39.room e39.author e39.kind e39.key (IntKind.i64.wrap ((IntKind.i64.wrap ((IntKind.i64.wrap ((IntKind.i64.wrap ((IntKind.i64.wrap (x26 + 1)) + 1)) + 1)) + 1)) + 1)) e39.text e39.prev e39.time)) x27).bind fun e43 => (getI (List.set (List.set (List.set (List.set (List.set (List.set (List.set l25 (Int.toNat x27) (Y8w.mk x26 e29.room e29.author e29.kind e29.key e29.n e29.text e29.prev e29.time)) (Int.toNat x27) (Y8w.mk e31.id (IntKind.i64.wrap (x26 + 1)) e31.author e31.kind e31.key e31.n e31.text e31.prev e31.time)) (Int.toNat x27) (Y8w.mk e33.id e33.room (IntKind.i64.wrap ((IntKind.i64.wrap (x26 + 1)) + 1)) e33.kind e33.key e33.n e33.text e33.prev e33.time)) (Int.toNat x27) (Y8w.mk e35.id e35.room e35.author (IntKind.i64.wrap ((IntKind.i64.wrap ((IntKind.i64.wrap (x26 + 1)) + 1)) + 1)) e35.key e35.n e35.text e35.prev e35.time)) (Int.toNat x27) (Y8w.mk e37.id e37.room e37.author e37.kind (IntKind.i64.wrap ((IntKind.i64.wrap ((IntKind.i64.wrap ((IntKind.i64.wrap (x26 + 1)) + 1)) + 1)) + 1)) e37.n e37.text e37.prev e37.time)) (Int.toNat x27) (Y8w.mk e39.id e39.room e39.author e39.kind e39.key (IntKind.i64.wrap ((IntKind.i64.wrap ((IntKind.i64.wrap ((IntKind.i64.wrap ((IntKind.i64.wrap (x26 + 1)) + 1)) + 1)) + 1)) + 1)) e39.text e39.prev e39.time)) (Int.toNat x27) (Y8w.mk e43.id e43.room e43.author e43.kind e43.key e43.n r41 e43.prev e43.time)) x27).bind fun e45 => (Zir e45.prev (IntKind.i64.wrap ((IntKind.i64.wrap ((IntKind.i64.wrap ((IntKind.i64.wrap ((IntKind.i64.wrap ((IntKind.i64.wrap ((IntKind.i64.wrap (x26 + 1)) + 1)) + 1)) + 1)) + 1)) + 1)) + 1))).bind fun r48 => (getI (List.set (List.set (List.set (List.set (List.set (List.set (List.set (List.set l25 (Int.toNat x27) (Y8w.mk x26 e29.room e29.author e29.kind e29.key e29.n e29.text e29.prev e29.time)) (Int.toNat x27) (Y8w.mk e31.id (IntKind.i64.wrap (x26 + 1)) e31.author e31.kind e31.key e31.n e31.text e31.prev e31.time)) (Int.toNat x27) (Y8w.mk e33.id e33.room (IntKind.i64.wrap ((IntKind.i64.wrap (x26 + 1)) + 1)) e33.kind e33.key e33.n e33.text e33.prev e33.time)) (Int.toNat x27) (Y8w.mk e35.id e35.room e35.author (IntKind.i64.wrap ((IntKind.i64.wrap ((IntKind.i64.wrap (x26 + 1)) + 1)) + 1)) e35.key e35.n e35.text e35.prev e35.time)) (Int.toNat x27) (Y8w.mk e37.id e37.room e37.author e37.kind (IntKind.i64.wrap ((IntKind.i64.wrap ((IntKind.i64.wrap ((IntKind.i64.wrap (x26 + 1)) + 1)) + 1)) + 1)) e37.n e37.text e37.prev e37.time)) (Int.toNat x27) (Y8w.mk e39.id e39.room e39.author e39.kind e39.key (IntKind.i64.wrap ((IntKind.i64.wrap ((IntKind.i64.wrap ((IntKind.i64.wrap ((IntKind.i64.wrap (x26 + 1)) + 1)) + 1)) + 1)) + 1)) e39.text e39.prev e39.time)) (Int.toNat x27) (Y8w.mk e43.id e43.room e43.author e43.kind e43.key e43.n r41 e43.prev e43.time)) (Int.toNat x27) (Y8w.mk e45.id e45.room e45.author e45.kind e45.key e45.n e45.text r48.2 e45.time)) x27).bind fun e50 => some (.inl ((List.set (List.set (List.set (List.set (List.set (List.set (List.set (List.set (List.set l25 (Int.toNat x27) (Y8w.mk x26 e29.room e29.author e29.kind e29.key e29.n e29.text e29.prev e29.time)) (Int.toNat x27) (Y8w.mk e31.id (IntKind.i64.wrap (x26 + 1)) e31.author e31.kind e31.key e31.n e31.text e31.prev e31.time)) (Int.toNat x27) (Y8w.mk e33.id e33.room (IntKind.i64.wrap ((IntKind.i64.wrap (x26 + 1)) + 1)) e33.kind e33.key e33.n e33.text e33.prev e33.time)) (Int.toNat x27) (Y8w.mk e35.id e35.room e35.author (IntKind.i64.wrap ((IntKind.i64.wrap ((IntKind.i64.wrap (x26 + 1)) + 1)) + 1)) e35.key e35.n e35.text e35.prev e35.time)) (Int.toNat x27) (Y8w.mk e37.id e37.room e37.author e37.kind (IntKind.i64.wrap ((IntKind.i64.wrap ((IntKind.i64.wrap ((IntKind.i64.wrap (x26 + 1)) + 1)) + 1)) + 1)) e37.n e37.text e37.prev e37.time)) (Int.toNat x27) (Y8w.mk e39.id e39.room e39.author e39.kind e39.key (IntKind.i64.wrap ((IntKind.i64.wrap ((IntKind.i64.wrap ((IntKind.i64.wrap ((IntKind.i64.wrap (x26 + 1)) + 1)) + 1)) + 1)) + 1)) e39.text e39.prev e39.time)) (Int.toNat x27) (Y8w.mk e43.id e43.room e43.author e43.kind e43.key e43.n r41 e43.prev e43.time)) (Int.toNat x27) (Y8w.mk e45.id e45.room e45.author e45.kind e45.key e45.n e45.text r48.2 e45.time)) (Int.toNat x27) (Y8w.mk e50.id e50.room e50.author e50.kind e50.key e50.n e50.text e50.prev r48.1)), (IntKind.i64.wrap (r48.1 + 1)), (IntKind.i64.wrap (x27 + 1))))) (some (.inr (x26, l25)))
def Ziv (p0 : List Y8w) (p1 : Int) : Option (Int × List Y8w) := (iter (fun z54 => Ziu z54.1 z54.2.1 z54.2.2) big (p0, p1, 0)).bind fun (y55, y56) => Zit y55 y56
set_option maxHeartbeats 1000000 in
theorem Ziw {w00 : Value} (p0 : List Y8w) (p1 : Int) (r : Int × List Y8w) (h : Ziv p0 p1 = some r) : Ok Tryz.prog 146 [C.val w00, C.int p1] [Obj.deep w00 136 Y9b Y9c 9 p0] (fun c qs => c = C.int r.1 ∧ qs = [Obj.deep w00 136 Y9b Y9c 9 r.2]) := by
 refine Ok.of_body (rs := [.tmp 4]) Tryz.func146 rfl rfl rfl rfl rfl fun X => ?_
 unfold Ziv at h
 refine AW.seq ?_
 refine AW.region ?_
 refine Ops.v rfl (Yr rfl rfl) ?_
 refine Ops.nil ?_
 refine AW.seq ?_
 refine AW.cut (τ := Int × List Y8w) (fun (x52, l53) => ⟨[(1, C.int x52)], [Obj.deep w00 136 Y9b Y9c 9 l53]⟩) (fun (x52, l53) => Zit x52 l53 = some r) ?_ ?_
 ·
  refine zw ?_
  refine AW.lp (v := ()) h (fun (l25, x26, x27) (_ : Unit) => ⟨[(0, C.val w00), (1, C.int x26), (5, C.int x27)], [Obj.deep w00 136 Y9b Y9c 9 l25]⟩) (gb [0]) ?_
  rintro ⟨l25, x26, x27⟩ _ y62 h
  refine zw ?_
  refine Ops.v rfl (Y5w (p := 0) Yas.h rfl rfl rfl) ?_
  refine zw ?_
  refine cnd h (fun hb28 h => ?_) fun hb28 h => ?_
  ·
   refine AW.ct hb28 rfl ?_
   refine zw ?_
   refine ob' h fun e29 g30 h => ?_
   refine Ops.v rfl (Y5y (p := 0) Yas.h rfl rfl rfl g30 rfl) ?_
   refine Ops.v rfl (Y5z (p := 0) Ya9.h rfl rfl (Y29 g30).2.2 rfl) ?_
   refine Ops.hd (ns := [0]) rfl rfl (Y61 (e' := (Y8w.mk x26 e29.room e29.author e29.kind e29.key e29.n e29.text e29.prev e29.time)) ld_2.h rfl rfl (One.val rfl) (Y29 g30).2.2 (fun _ => rfl) (fun _ => rfl) (fun _ => rfl)) ?_
   refine zw ?_
   refine ob' h fun e31 g32 h => ?_
   refine Ops.v rfl (Y5y (p := 0) Yas.h rfl rfl rfl g32 rfl) ?_
   refine Ops.v rfl (Y5z (p := 0) Yab.h rfl rfl (Y29 g32).2.2 rfl) ?_
   refine Ops.hd (ns := [0]) rfl rfl (Y61 (e' := (Y8w.mk e31.id (IntKind.i64.wrap (x26 + 1)) e31.author e31.kind e31.key e31.n e31.text e31.prev e31.time)) ld_2.h rfl rfl (One.val rfl) (Y29 g32).2.2 (fun _ => rfl) (fun _ => rfl) (fun _ => rfl)) ?_
   refine zw ?_
   refine ob' h fun e33 g34 h => ?_
   refine Ops.v rfl (Y5y (p := 0) Yas.h rfl rfl rfl g34 rfl) ?_
   refine Ops.v rfl (Y5z (p := 0) Yad.h rfl rfl (Y29 g34).2.2 rfl) ?_
   refine Ops.hd (ns := [0]) rfl rfl (Y61 (e' := (Y8w.mk e33.id e33.room (IntKind.i64.wrap ((IntKind.i64.wrap (x26 + 1)) + 1)) e33.kind e33.key e33.n e33.text e33.prev e33.time)) ld_2.h rfl rfl (One.val rfl) (Y29 g34).2.2 (fun _ => rfl) (fun _ => rfl) (fun _ => rfl)) ?_
   refine zw ?_
   refine ob' h fun e35 g36 h => ?_
   refine Ops.v rfl (Y5y (p := 0) Yas.h rfl rfl rfl g36 rfl) ?_
   refine Ops.v rfl (Y5z (p := 0) Yaf.h rfl rfl (Y29 g36).2.2 rfl) ?_
   refine Ops.hd (ns := [0]) rfl rfl (Y61 (e' := (Y8w.mk e35.id e35.room e35.author (IntKind.i64.wrap ((IntKind.i64.wrap ((IntKind.i64.wrap (x26 + 1)) + 1)) + 1)) e35.key e35.n e35.text e35.prev e35.time)) ld_2.h rfl rfl (One.val rfl) (Y29 g36).2.2 (fun _ => rfl) (fun _ => rfl) (fun _ => rfl)) ?_
   refine zw ?_
   refine ob' h fun e37 g38 h => ?_
   refine Ops.v rfl (Y5y (p := 0) Yas.h rfl rfl rfl g38 rfl) ?_
   refine Ops.v rfl (Y5z (p := 0) Yah.h rfl rfl (Y29 g38).2.2 rfl) ?_
   refine Ops.hd (ns := [0]) rfl rfl (Y61 (e' := (Y8w.mk e37.id e37.room e37.author e37.kind (IntKind.i64.wrap ((IntKind.i64.wrap ((IntKind.i64.wrap ((IntKind.i64.wrap (x26 + 1)) + 1)) + 1)) + 1)) e37.n e37.text e37.prev e37.time)) ld_2.h rfl rfl (One.val rfl) (Y29 g38).2.2 (fun _ => rfl) (fun _ => rfl) (fun _ => rfl)) ?_
   refine zw ?_
   refine ob' h fun e39 g40 h => ?_
   refine Ops.v rfl (Y5y (p := 0) Yas.h rfl rfl rfl g40 rfl) ?_
   refine Ops.v rfl (Y5z (p := 0) Yaj.h rfl rfl (Y29 g40).2.2 rfl) ?_
   refine Ops.hd (ns := [0]) rfl rfl (Y61 (e' := (Y8w.mk e39.id e39.room e39.author e39.kind e39.key (IntKind.i64.wrap ((IntKind.i64.wrap ((IntKind.i64.wrap ((IntKind.i64.wrap ((IntKind.i64.wrap (x26 + 1)) + 1)) + 1)) + 1)) + 1)) e39.text e39.prev e39.time)) ld_2.h rfl rfl (One.val rfl) (Y29 g40).2.2 (fun _ => rfl) (fun _ => rfl) (fun _ => rfl)) ?_
   refine zw ?_
   refine oc h fun r41 g42 h => ?_
   refine ob' h fun e43 g44 h => ?_
   refine Ops.v rfl (Y5y (p := 0) Yas.h rfl rfl rfl g44 rfl) ?_
   refine Ops.v rfl (Y5z (p := 0) Yak.h rfl rfl (Y29 g44).2.2 rfl) ?_
   refine Ops.hd (ns := [0]) rfl rfl (Y61 (e' := (Y8w.mk e43.id e43.room e43.author e43.kind e43.key e43.n r41 e43.prev e43.time)) ld_9.h rfl rfl (One.val rfl) (Y29 g44).2.2 (fun _ => rfl) (fun _ => rfl) (fun _ => rfl)) ?_
   refine zw ?_
   refine ob' h fun e45 g46 h => ?_
   refine Ops.v rfl (Y5y (p := 0) Yas.h rfl rfl rfl g46 rfl) ?_
   refine Ops.v rfl (Y5z (p := 0) Yal.h rfl rfl (Y29 g46).2.2 rfl) ?_
   refine Ops.take (p := 0) rfl (Y29 g46).2.2 fun q47 => ?_
   refine Ops.v rfl (Y60 (p := 1) Y9s.h rfl rfl (Y29 g46).2.2 rfl rfl) ?_
   refine zw ?_
   refine ob' h fun r48 g49 h => ?_
   refine Ops.hd (ns := [0]) rfl rfl (Y24 (Zis e45.prev (IntKind.i64.wrap ((IntKind.i64.wrap ((IntKind.i64.wrap ((IntKind.i64.wrap ((IntKind.i64.wrap ((IntKind.i64.wrap ((IntKind.i64.wrap (x26 + 1)) + 1)) + 1)) + 1)) + 1)) + 1)) + 1)) _ g49) rfl rfl) ?_
   refine Ops.ghost (Y21.back (x' := (Y8w.mk e45.id e45.room e45.author e45.kind e45.key e45.n e45.text r48.2 e45.time)) (ns := [1, 0]) rfl (Y29 g46).2.2 rfl rfl) ?_
   refine zw ?_
   refine ob' h fun e50 g51 h => ?_
   refine Ops.v rfl (Y5y (p := 0) Yas.h rfl rfl rfl g51 rfl) ?_
   refine Ops.v rfl (Y5z (p := 0) Yan.h rfl rfl (Y29 g51).2.2 rfl) ?_
   refine Ops.hd (ns := [0]) rfl rfl (Y61 (e' := (Y8w.mk e50.id e50.room e50.author e50.kind e50.key e50.n e50.text e50.prev r48.1)) ld_2.h rfl rfl (One.val rfl) (Y29 g51).2.2 (fun _ => rfl) (fun _ => rfl) (fun _ => rfl)) ?_
   exact go
  exact go
 rintro ⟨x52, l53⟩ h
 replace h : Zit x52 l53 = some r := h
 unfold Zit at h
 refine zw ?_
 refine AW.ret ?_
 rw [← Option.some.inj h]
 exact ⟨[C.int x52], _, Y21.refl _, (.cons (.tmp rfl) .nil), [0], _, _, rfl, ⟨rfl, rfl⟩⟩

def Zix (x30 : Int) (l31 : List Y90) : Option (Int × List Y90) := some (x30, l31)
def Ziy (l14 : List Y90) (x15 : Int) (x16 : Int) : Option ((List Y90 × Int × Int) ⊕ ((Int × List Y90))) := cond (decide (x16 < (l14.length : Int))) ((getI l14 x16).bind fun e18 => (getI (List.set l14 (Int.toNat x16) (Y90.mk x15 e18.events e18.parked)) x16).bind fun e20 => (Ziv e20.events (IntKind.i64.wrap (x15 + 1))).bind fun r23 => (getI (List.set (List.set l14 (Int.toNat x16) (Y90.mk x15 e18.events e18.parked)) (Int.toNat x16) (Y90.mk e20.room r23.2 e20.parked)) x16).bind fun e25 => (Ziv e25.parked r23.1).bind fun r28 => some (.inl ((List.set (List.set (List.set l14 (Int.toNat x16) (Y90.mk x15 e18.events e18.parked)) (Int.toNat x16) (Y90.mk e20.room r23.2 e20.parked)) (Int.toNat x16) (Y90.mk e25.room e25.events r28.2)), r28.1, (IntKind.i64.wrap (x16 + 1))))) (some (.inr (x15, l14)))
def Ziz (p0 : List Y90) (p1 : Int) : Option (Int × List Y90) := (iter (fun z32 => Ziy z32.1 z32.2.1 z32.2.2) big (p0, p1, 0)).bind fun (y33, y34) => Zix y33 y34
set_option maxHeartbeats 1000000 in
theorem Zj0 {w00 : Value} (p0 : List Y90) (p1 : Int) (r : Int × List Y90) (h : Ziz p0 p1 = some r) : Ok Tryz.prog 78 [C.val w00, C.int p1] [Obj.deep w00 139 Y9e Y9f 3 p0] (fun c qs => c = C.int r.1 ∧ qs = [Obj.deep w00 139 Y9e Y9f 3 r.2]) := by
 refine Ok.of_body (rs := [.tmp 4]) Tryz.func78 rfl rfl rfl rfl rfl fun X => ?_
 unfold Ziz at h
 refine AW.seq ?_
 refine AW.region ?_
 refine Ops.v rfl (Yr rfl rfl) ?_
 refine Ops.nil ?_
 refine AW.seq ?_
 refine AW.cut (τ := Int × List Y90) (fun (x30, l31) => ⟨[(1, C.int x30)], [Obj.deep w00 139 Y9e Y9f 3 l31]⟩) (fun (x30, l31) => Zix x30 l31 = some r) ?_ ?_
 ·
  refine zw ?_
  refine AW.lp (v := ()) h (fun (l14, x15, x16) (_ : Unit) => ⟨[(0, C.val w00), (1, C.int x15), (5, C.int x16)], [Obj.deep w00 139 Y9e Y9f 3 l14]⟩) (gb [0]) ?_
  rintro ⟨l14, x15, x16⟩ _ y40 h
  refine zw ?_
  refine Ops.v rfl (Y5w (p := 0) Yb2.h rfl rfl rfl) ?_
  refine zw ?_
  refine cnd h (fun hb17 h => ?_) fun hb17 h => ?_
  ·
   refine AW.ct hb17 rfl ?_
   refine zw ?_
   refine ob' h fun e18 g19 h => ?_
   refine Ops.v rfl (Y5y (p := 0) Yb2.h rfl rfl rfl g19 rfl) ?_
   refine Ops.v rfl (Y5z (p := 0) Yav.h rfl rfl (Y29 g19).2.2 rfl) ?_
   refine Ops.hd (ns := [0]) rfl rfl (Y61 (e' := (Y90.mk x15 e18.events e18.parked)) ld_2.h rfl rfl (One.val rfl) (Y29 g19).2.2 (fun _ => rfl) (fun _ => rfl) (fun _ => rfl)) ?_
   refine zw ?_
   refine ob' h fun e20 g21 h => ?_
   refine Ops.v rfl (Y5y (p := 0) Yb2.h rfl rfl rfl g21 rfl) ?_
   refine Ops.v rfl (Y5z (p := 0) Yaw.h rfl rfl (Y29 g21).2.2 rfl) ?_
   refine Ops.take (p := 0) rfl (Y29 g21).2.2 fun q22 => ?_
   refine Ops.v rfl (Y60 (p := 2) Yax.h rfl rfl (Y29 g21).2.2 rfl rfl) ?_
   refine zw ?_
   refine ob' h fun r23 g24 h => ?_
   refine Ops.hd (ns := [0]) rfl rfl (Y24 (Ziw e20.events (IntKind.i64.wrap (x15 + 1)) _ g24) rfl rfl) ?_
   refine Ops.ghost (Y21.back (x' := (Y90.mk e20.room r23.2 e20.parked)) (ns := [2, 0, 0]) rfl (Y29 g21).2.2 rfl rfl) ?_
   refine zw ?_
   refine ob' h fun e25 g26 h => ?_
   refine Ops.v rfl (Y5y (p := 0) Yb2.h rfl rfl rfl g26 rfl) ?_
   refine Ops.v rfl (Y5z (p := 0) Yay.h rfl rfl (Y29 g26).2.2 rfl) ?_
   refine Ops.take (p := 0) rfl (Y29 g26).2.2 fun q27 => ?_
   refine Ops.v rfl (Y60 (p := 2) Yax.h rfl rfl (Y29 g26).2.2 rfl rfl) ?_
   refine zw ?_
   refine ob' h fun r28 g29 h => ?_
   refine Ops.hd (ns := [1]) rfl rfl (Y24 (Ziw e25.parked r23.1 _ g29) rfl rfl) ?_
   refine Ops.ghost (Y21.back (x' := (Y90.mk e25.room e25.events r28.2)) (ns := [2, 1, 0]) rfl (Y29 g26).2.2 rfl rfl) ?_
   exact go
  exact go
 rintro ⟨x30, l31⟩ h
 replace h : Zix x30 l31 = some r := h
 unfold Zix at h
 refine zw ?_
 refine AW.ret ?_
 rw [← Option.some.inj h]
 exact ⟨[C.int x30], _, Y21.refl _, (.cons (.tmp rfl) .nil), [0], _, _, rfl, ⟨rfl, rfl⟩⟩

def Zj1 (x14 : Int) (l15 : List Y8y) : Option (Int × List Y8y) := some (x14, l15)
def Zj2 (l6 : List Y8y) (x7 : Int) (x8 : Int) : Option ((List Y8y × Int × Int) ⊕ ((Int × List Y8y))) := cond (decide (x8 < (l6.length : Int))) ((getI l6 x8).bind fun e10 => (getI (List.set l6 (Int.toNat x8) (Y8y.mk x7 e10.id)) x8).bind fun e12 => some (.inl ((List.set (List.set l6 (Int.toNat x8) (Y8y.mk x7 e10.id)) (Int.toNat x8) (Y8y.mk e12.room (IntKind.i64.wrap (x7 + 1)))), (IntKind.i64.wrap ((IntKind.i64.wrap (x7 + 1)) + 1)), (IntKind.i64.wrap (x8 + 1))))) (some (.inr (x7, l6)))
def Zj3 (p0 : List Y8y) (p1 : Int) : Option (Int × List Y8y) := (iter (fun z16 => Zj2 z16.1 z16.2.1 z16.2.2) big (p0, p1, 0)).bind fun (y17, y18) => Zj1 y17 y18
set_option maxHeartbeats 1000000 in
theorem Zj4 {w00 : Value} (p0 : List Y8y) (p1 : Int) (r : Int × List Y8y) (h : Zj3 p0 p1 = some r) : Ok Tryz.prog 52 [C.val w00, C.int p1] [Obj.arr w00 142 Y9a 2 p0] (fun c qs => c = C.int r.1 ∧ qs = [Obj.arr w00 142 Y9a 2 r.2]) := by
 refine Ok.of_body (rs := [.tmp 4]) Tryz.func52 rfl rfl rfl rfl rfl fun X => ?_
 unfold Zj3 at h
 refine AW.seq ?_
 refine AW.region ?_
 refine Ops.v rfl (Yr rfl rfl) ?_
 refine Ops.nil ?_
 refine AW.seq ?_
 refine AW.cut (τ := Int × List Y8y) (fun (x14, l15) => ⟨[(1, C.int x14)], [Obj.arr w00 142 Y9a 2 l15]⟩) (fun (x14, l15) => Zj1 x14 l15 = some r) ?_ ?_
 ·
  refine zw ?_
  refine AW.lp (v := ()) h (fun (l6, x7, x8) (_ : Unit) => ⟨[(0, C.val w00), (1, C.int x7), (5, C.int x8)], [Obj.arr w00 142 Y9a 2 l6]⟩) (gb [0]) ?_
  rintro ⟨l6, x7, x8⟩ _ y24 h
  refine zw ?_
  refine cnd h (fun hb9 h => ?_) fun hb9 h => ?_
  ·
   refine AW.ct hb9 rfl ?_
   refine zw ?_
   refine oi h fun e10 g11 h => ?_
   refine Ops.v rfl (Y2y (p := 0) Yb5.h rfl rfl (Y29 g11).2.2 rfl) ?_
   refine Ops.hd (ns := [0]) rfl rfl (Y33 (e' := (Y8y.mk x7 e10.id)) ld_2.h rfl rfl (One.val rfl) (Y29 g11).2.2 rfl rfl) ?_
   refine zw ?_
   refine oi h fun e12 g13 h => ?_
   refine Ops.v rfl (Y2y (p := 0) Yb7.h rfl rfl (Y29 g13).2.2 rfl) ?_
   refine Ops.hd (ns := [0]) rfl rfl (Y33 (e' := (Y8y.mk e12.room (IntKind.i64.wrap (x7 + 1)))) ld_2.h rfl rfl (One.val rfl) (Y29 g13).2.2 rfl rfl) ?_
   exact go
  exact go
 rintro ⟨x14, l15⟩ h
 replace h : Zj1 x14 l15 = some r := h
 unfold Zj1 at h
 refine zw ?_
 refine AW.ret ?_
 rw [← Option.some.inj h]
 exact ⟨[C.int x14], _, Y21.refl _, (.cons (.tmp rfl) .nil), [0], _, _, rfl, ⟨rfl, rfl⟩⟩

def Zj5 (p0 : Y91) (p1 : Int) : Option (Int × List Y90 × List Y8y) := (Ziz p0.rooms p1).bind fun r2 => (Zj3 p0.stream r2.1).bind fun r4 => some (r4.1, r2.2, r4.2)
theorem Zj6 {w00 : Value} {w01 : Value} (p0 : Y91) (p1 : Int) (r : Int × List Y90 × List Y8y) (h : Zj5 p0 p1 = some r) : Ok Tryz.prog 19 [C.agg [C.val w00, C.val w01], C.int p1] [Obj.deep w00 139 Y9e Y9f 3 p0.rooms, Obj.arr w01 142 Y9a 2 p0.stream] (fun c qs => c = C.int r.1 ∧ qs = [Obj.deep w00 139 Y9e Y9f 3 r.2.1, Obj.arr w01 142 Y9a 2 r.2.2]) := by
 refine Ok.of_body (rs := [.tmp 4]) Tryz.func19 rfl rfl rfl rfl rfl fun X => ?_
 unfold Zj5 at h
 refine zw ?_
 refine ox fun b1 => ?_
 refine zw ?_
 refine ob' h fun r2 g3 h => ?_
 refine Ops.hd (ns := [1]) rfl rfl (Y24 (Zj0 p0.rooms p1 _ g3) rfl rfl) ?_
 refine zw ?_
 refine ob' h fun r4 g5 h => ?_
 refine Ops.hd (ns := [2]) rfl rfl (Y24 (Zj4 p0.stream r2.1 _ g5) rfl rfl) ?_
 refine zw ?_
 refine AW.ret ?_
 rw [← Option.some.inj h]
 exact ⟨[C.int r4.1], _, Y21.refl _, (.cons (.tmp rfl) .nil), [1, 0], _, _, rfl, ⟨rfl, rfl⟩⟩

def Zj7 (p0 : Y8z) (p1 : Int) : Option (Int × List Int) := (Zir p0.at_ p1).bind fun r2 => some (r2.1, r2.2)
theorem Zj8 {w00 : Value} (p0 : Y8z) (p1 : Int) (r : Int × List Int) (h : Zj7 p0 p1 = some r) : Ok Tryz.prog 46 [C.agg [C.int p0.user, C.val w00], C.int p1] [Obj.arr w00 2 kI64 1 p0.at_] (fun c qs => c = C.int r.1 ∧ qs = [Obj.arr w00 2 kI64 1 r.2]) := by
 refine Ok.of_body (rs := [.tmp 4]) Tryz.func46 rfl rfl rfl rfl rfl fun X => ?_
 unfold Zj7 at h
 refine zw ?_
 refine ox fun b1 => ?_
 refine zw ?_
 refine ob' h fun r2 g3 h => ?_
 refine Ops.hd (ns := [1]) rfl rfl (Y24 (Zis p0.at_ p1 _ g3) rfl rfl) ?_
 refine zw ?_
 refine AW.ret ?_
 rw [← Option.some.inj h]
 exact ⟨[C.int r2.1], _, Y21.refl _, (.cons (.tmp rfl) .nil), [0], _, _, rfl, ⟨rfl, rfl⟩⟩

def Zj9 (p0 : Y95) (p1 : Int) : Option (Int × List Int) := (Zj7 p0.marks p1).bind fun r2 => some (r2.1, r2.2)
theorem Zja {w00 : Value} (p0 : Y95) (p1 : Int) (r : Int × List Int) (h : Zj9 p0 p1 = some r) : Ok Tryz.prog 47 [C.agg [C.int p0.marks.user, C.val w00, C.int p0.code], C.int p1] [Obj.arr w00 2 kI64 1 p0.marks.at_] (fun c qs => c = C.int r.1 ∧ qs = [Obj.arr w00 2 kI64 1 r.2]) := by
 refine Ok.of_body (rs := [.tmp 4]) Tryz.func47 rfl rfl rfl rfl rfl fun X => ?_
 unfold Zj9 at h
 refine zw ?_
 refine ox fun b1 => ?_
 refine zw ?_
 refine ob' h fun r2 g3 h => ?_
 refine Ops.hd (ns := [1]) rfl rfl (Y24 (Zj8 p0.marks p1 _ g3) rfl rfl) ?_
 refine zw ?_
 refine AW.ret ?_
 rw [← Option.some.inj h]
 exact ⟨[C.int r2.1], _, Y21.refl _, (.cons (.tmp rfl) .nil), [0], _, _, rfl, ⟨rfl, rfl⟩⟩

def Zjb (x11 : Int) : Option Int := some x11
def Zjc (p0 : List Int) (x5 : Int) (x6 : Int) : Option ((Int × Int) ⊕ (Int ⊕ Int)) := cond (decide (x6 < (p0.length : Int))) ((getI p0 x6).bind fun e8 => cond (e8 != x5) (some (.inr (.inl (-1)))) (some (.inl ((IntKind.i64.wrap (x5 + 1)), (IntKind.i64.wrap (x6 + 1)))))) (some (.inr (.inr x5)))
def Zjd (p0 : List Int) (p1 : Int) : Option Int := (iter (fun z12 => Zjc p0 z12.1 z12.2) big (p1, 0)).bind (fun z15 => match z15 with | .inl y13 => some y13 | .inr y14 => Zjb y14)
set_option maxHeartbeats 1000000 in
instance Zje (p0 : List Int) (p1 : Int) : Sp Tryz.prog 37 [C.im kI64 1 p0, C.int p1] (Zjd p0 p1) C.int := sp Tryz.func37 rfl rfl fun r X h => by
 unfold Zjd at h
 refine zw ?_
 refine AW.lp (v := ()) h (fun (x5, x6) (_ : Unit) => ⟨[(0, C.im kI64 1 p0), (1, C.int x5), (5, C.int x6)], []⟩) (gb []) ?_
 rintro ⟨x5, x6⟩ _ y21 h
 exact go

def Zjf (p0 : Y8z) (p1 : Int) : Option Int := (Zjd p0.at_ p1).bind fun r2 => cond (decide (r2 < 0)) (some (-1)) (some r2)
instance Zjg (p0 : Y8z) (p1 : Int) : Sp Tryz.prog 112 [C.agg [C.int p0.user, C.im kI64 1 p0.at_], C.int p1] (Zjf p0 p1) C.int := sp Tryz.func112 rfl rfl fun r X h => go

def Zjh (p0 : Y95) (p1 : Int) : Option Int := (Zjf p0.marks p1).bind fun r2 => cond (decide (r2 < 0)) (some (-1)) (some r2)
instance Zji (p0 : Y95) (p1 : Int) : Sp Tryz.prog 48 [C.agg [C.int p0.marks.user, C.im kI64 1 p0.marks.at_, C.int p0.code], C.int p1] (Zjh p0 p1) C.int := sp Tryz.func48 rfl rfl fun r X h => go

def Zjj (x23 : Int) (l24 : List Int) (x25 : Int) (r35 : Y95) (r80 : Int × List Int) (x100 : Int) (l101 : List Int) (x102 : Int) : Option Bool := (Zhz (Y95.mk (Y8z.mk x100 l101) x102) (Y95.mk (Y8z.mk x23 l24) x25)).bind fun r103 => cond r103 ((Zjh (Y95.mk (Y8z.mk r35.marks.user r80.2) r35.code) 1).bind fun r106 => cond (decide (r106 < 0)) (some false) (cond (r106 != r80.1) (some false) (some true))) (some false)
def Zjk (p0 : THub) (p1 : Y8z) (p2 : Int) (p3 : Int) (x23 : Int) (l24 : List Int) (x25 : Int) (r35 : Y95) (x78 : Bool) : Option Bool := cond x78 (some false) ((Zj9 r35 1).bind fun r80 => (Zjh (Y95.mk (Y8z.mk r35.marks.user r80.2) r35.code) 1).bind fun r82 => cond (decide (r82 < 0)) (some false) (cond (r82 != r80.1) (some false) ((Z17 p0).bind fun r86 => (Z19 p1).bind fun r89 => (Zhr r86 r89 p2 p3).bind fun r91 => Zjj x23 l24 x25 r35 r80 r91.marks.user r91.marks.at_ r91.code)))
def Zjl (p0 : THub) (p1 : Y8z) (p2 : Int) (p3 : Int) (x23 : Int) (l24 : List Int) (x25 : Int) : Option Bool := (Z17 p0).bind fun r26 => (Z19 p1).bind fun r31 => (Zhr r26 r31 p2 p3).bind fun r35 => (Zhz r35 (Y95.mk (Y8z.mk x23 l24) x25)).bind fun r40 => cond r40 ((Z17 p0).bind fun r55 => (Zij r26 r55).bind fun r57 => cond r57 ((Z19 p1).bind fun r66 => (Zhx r31 r66).bind fun r68 => cond r68 ((Zj5 r26 1).bind fun r71 => (Zj7 r31 r71.1).bind fun r73 => cond (decide (r73.1 < 0)) (Zjk p0 p1 p2 p3 x23 l24 x25 r35 true) ((Zhz r35 (Y95.mk (Y8z.mk x23 l24) x25)).bind fun r76 => Zjk p0 p1 p2 p3 x23 l24 x25 r35 (!r76))) (some false)) (some false)) (some false)
def Zjm (p0 : THub) (p1 : Y8z) (p2 : Int) (p3 : Int) : Option Bool := (Zh p0 1048576).bind fun r3 => cond (decide (r3 < 0)) (some true) ((Zj p1 r3).bind fun r6 => cond (decide (r6 < 0)) (some true) ((Z17 p0).bind fun r9 => (Z19 p1).bind fun r12 => (Z7m r9 r12 p2 p3).bind fun r14 => Zjl p0 p1 p2 p3 r14.marks.user r14.marks.at_ r14.code))
set_option maxHeartbeats 1000000 in
instance Zjn (p0 : THub) (p1 : Y8z) (p2 : Int) (p3 : Int) : Sp Tryz.prog 8 [C.agg [C.im Y99 3 p0.rooms, C.im Y9a 2 p0.stream], C.agg [C.int p1.user, C.im kI64 1 p1.at_], C.int p2, C.int p3] (Zjm p0 p1 p2 p3) C.bool := sp Tryz.func8 rfl rfl fun r X h => by
 unfold Zjm at h
 refine zw ?_
 refine ox fun b1 => ?_
 refine ox fun b2 => ?_
 refine zw ?_
 refine oc h fun r3 g4 h => ?_
 refine zw ?_
 refine cnd h (fun hb5 h => go) fun hb5 h => ?_
 refine AW.cf hb5 rfl ?_
 refine zw ?_
 refine oc h fun r6 g7 h => ?_
 refine zw ?_
 refine cnd h (fun hb8 h => go) fun hb8 h => ?_
 refine AW.cf hb8 rfl ?_
 refine AW.skip ?_
 refine AW.seq ?_
 refine AW.cut (τ := Int × List Int × Int × Nat) (fun (x23, l24, x25, b22) => ⟨[(2, C.int p2), (3, C.int p3), (4, pt b1), (5, pt b2), (10, pt b22)], [Obj.box b1 25 [C.im Y99 3 p0.rooms, C.im Y9a 2 p0.stream], Obj.box b2 62 [C.int p1.user, C.im kI64 1 p1.at_], Obj.box b22 70 [C.int x23, C.im kI64 1 l24, C.int x25]]⟩) (fun (x23, l24, x25, b22) => Zjl p0 p1 p2 p3 x23 l24 x25 = some r) ?_ ?_
 ·
  refine AW.regionD (L := [0, 2]) (Lt := [8]) (k := .light 0 true (.light 2 true (.light 4 false (.light 5 false (.two 1 7 (.two 3 7 (.two 6 7 (.one 7 (.late 8 (.done))) (.one 6 (.late 8 (.done)))) (.one 3 (.one 6 (.late 8 (.done))))) (.one 1 (.one 3 (.one 6 (.late 8 (.done)))))))))) (ns := [0, 0]) (by kernel_rfl) (by kernel_rfl) (by kernel_rfl) (by kernel_rfl) rfl ?_
  refine zw ?_
  refine ob' h fun r9 g10 h => ?_
  refine OpsD.two ?_ ?_
  ·
   refine Y3n.h (ns := []) rfl rfl rfl (Y24 ((Z18' _).h _ g10) rfl rfl) ?_
   rintro _ _ ⟨rfl, rfl⟩
   refine ob' h fun r12 g13 h => ?_
   refine OpsD.two ?_ ?_
   ·
    refine Y3n.h (ns := []) rfl rfl rfl (Y24 ((Z1a' _).h _ g13) rfl rfl) ?_
    rintro _ _ ⟨rfl, rfl⟩
    refine ob' h fun r14 g15 h => ?_
    refine OpsD.two ?_ ?_
    ·
     refine Y3n.h (ns := []) rfl rfl rfl (Y24 ((Z7n' _ _ _ _).h _ g15) rfl rfl) ?_
     rintro _ _ ⟨rfl, rfl⟩
     refine OpsD.one ?_
     refine Y3n.h (ns := []) rfl rfl rfl (Y1p (cs := [C.int 0, C.val s0, C.int 0]) Ycr (Y42 rfl rfl) rfl) ?_
     rintro _ _ ⟨b11, rfl, rfl⟩
     refine OpsD.late (ns := [2]) rfl rfl rfl (Y1u (gs := [C.int r14.marks.user, C.im kI64 1 r14.marks.at_, C.int r14.code]) Yct.h rfl rfl rfl rfl rfl) ?_
     rintro _ _ ⟨rfl, rfl⟩
     exact go
    refine Y3n.h (ns := []) rfl rfl rfl (Y1p (cs := [C.int 0, C.val s0, C.int 0]) Ycr (Y42 rfl rfl) rfl) ?_
    rintro _ _ ⟨b11, rfl, rfl⟩
    refine OpsD.one ?_
    refine Y3n.h (ns := []) rfl rfl rfl (Y24 ((Z7n' _ _ _ _).h _ g15) rfl rfl) ?_
    rintro _ _ ⟨rfl, rfl⟩
    refine OpsD.late (ns := [2]) rfl rfl rfl (Y1u (gs := [C.int r14.marks.user, C.im kI64 1 r14.marks.at_, C.int r14.code]) Yct.h rfl rfl rfl rfl rfl) ?_
    rintro _ _ ⟨rfl, rfl⟩
    exact go
   refine Y3n.h (ns := []) rfl rfl rfl (Y1p (cs := [C.int 0, C.val s0, C.int 0]) Ycr (Y42 rfl rfl) rfl) ?_
   rintro _ _ ⟨b11, rfl, rfl⟩
   refine OpsD.one ?_
   refine Y3n.h (ns := []) rfl rfl rfl (Y24 ((Z1a' _).h _ g13) rfl rfl) ?_
   rintro _ _ ⟨rfl, rfl⟩
   refine zw ?_
   refine dc h fun r16 g17 h => ?_
   refine OpsD.late (ns := [2]) rfl rfl rfl (Y1u (gs := [C.int r16.marks.user, C.im kI64 1 r16.marks.at_, C.int r16.code]) Yct.h rfl rfl rfl rfl rfl) ?_
   rintro _ _ ⟨rfl, rfl⟩
   exact go
  refine Y3n.h (ns := []) rfl rfl rfl (Y1p (cs := [C.int 0, C.val s0, C.int 0]) Ycr (Y42 rfl rfl) rfl) ?_
  rintro _ _ ⟨b11, rfl, rfl⟩
  refine OpsD.one ?_
  refine Y3n.h (ns := []) rfl rfl rfl (Y24 ((Z18' _).h _ g10) rfl rfl) ?_
  rintro _ _ ⟨rfl, rfl⟩
  refine zw ?_
  refine dc h fun r18 g19 h => ?_
  refine zw ?_
  refine dc h fun r20 g21 h => ?_
  refine OpsD.late (ns := [2]) rfl rfl rfl (Y1u (gs := [C.int r20.marks.user, C.im kI64 1 r20.marks.at_, C.int r20.code]) Yct.h rfl rfl rfl rfl rfl) ?_
  rintro _ _ ⟨rfl, rfl⟩
  exact go
 rintro ⟨x23, l24, x25, b22⟩ h
 replace h : Zjl p0 p1 p2 p3 x23 l24 x25 = some r := h
 unfold Zjl at h
 refine zw ?_
 refine ob' h fun r26 g27 h => ?_
 refine Ops.h (ns := []) rfl rfl (Y23 (Z18 _ _ g27) rfl rfl) ?_
 rintro _ _ ⟨_, ⟨v28, v29, rfl, rfl⟩, rfl⟩
 refine Ops.h (ns := []) rfl rfl (Y1p (cs := [C.val s0, C.val s0]) Ybc (Y42 rfl rfl) rfl) ?_
 rintro _ _ ⟨b30, rfl, rfl⟩
 refine Ops.hd (ns := [0]) rfl rfl (Y1u (gs := [C.val v28, C.val v29]) Ybh.h rfl rfl rfl rfl rfl) ?_
 refine Ops.nil ?_
 refine AW.seq ?_
 refine AW.region ?_
 refine Ops.v rfl (Y1l (p := 4) (ds := [C.int p1.user, C.im kI64 1 p1.at_]) Ydv.h rfl rfl rfl rfl rfl) ?_
 refine ob' h fun r31 g32 h => ?_
 refine Ops.h (ns := []) rfl rfl (Y23 (Z1a _ _ g32) rfl rfl) ?_
 rintro _ _ ⟨_, ⟨v33, rfl, rfl⟩, rfl⟩
 refine Ops.h (ns := []) rfl rfl (Y1p (cs := [C.int 0, C.val s0]) Ybi (Y42 rfl rfl) rfl) ?_
 rintro _ _ ⟨b34, rfl, rfl⟩
 refine Ops.hd (ns := [0]) rfl rfl (Y1u (gs := [C.int r31.user, C.val v33]) Ybm.h rfl rfl rfl rfl rfl) ?_
 refine zw ?_
 refine ob' h fun r35 g36 h => ?_
 refine Ops.h (ns := [3, 3, 1]) rfl rfl (Y23 (Ok.lend (Zhs r26 r31 p2 p3 _ g36) (FrzT.cons (os := [_, _]) (Frz.agg (FrzL.cons (os := [_]) (Frz.deep Yb1) (FrzL.cons (os := [_]) Frz.arr (FrzL.nil)))) (FrzT.cons (os := [_]) (Frz.agg (FrzL.cons (os := []) (Frz.same _) (FrzL.cons (os := [_]) Frz.arr (FrzL.nil)))) (FrzT.cons (os := []) (Frz.same _) (FrzT.cons (os := []) (Frz.same _) (FrzT.nil))))) (by rintro _ _ ⟨_, rfl, rfl⟩; exact ⟨(Y44.agg (Y45.cons (Y44.val _) (Y45.cons (Y44.val _) (Y45.cons (Y44.val _) (Y45.nil))))), Y48 (Y46.arr Yaq) (Y47)⟩)) rfl rfl) ?_
 rintro _ _ ⟨_, ⟨_, ⟨v37, rfl, rfl⟩, rfl⟩, rfl⟩
 refine Ops.h (ns := []) rfl rfl (Y1p (cs := [C.int 0, C.val s0, C.int 0]) Ycr (Y42 rfl rfl) rfl) ?_
 rintro _ _ ⟨b39, rfl, rfl⟩
 refine Ops.hd (ns := [0]) rfl rfl (Y1u (gs := [C.int r35.marks.user, C.val v37, C.int r35.code]) Yct.h rfl rfl rfl rfl rfl) ?_
 refine Ops.nil ?_
 refine AW.seq ?_
 refine AW.seq ?_
 refine AW.region ?_
 refine Ops.v rfl (Y1l (p := 0) (ds := [C.int r35.marks.user, C.val v37, C.int r35.code]) Yct.h rfl rfl rfl rfl rfl) ?_
 refine Ops.v rfl (Y1l (p := 9) (ds := [C.int x23, C.im kI64 1 l24, C.int x25]) Yct.h rfl rfl rfl rfl rfl) ?_
 refine ob' h fun r40 g41 h => ?_
 refine Ops.hd (ns := [1]) rfl rfl (Y24 (Ok.lendE ((Zi0 r35 (Y95.mk (Y8z.mk x23 l24) x25)).h _ g41) (FrzT.cons (os := [_]) (Frz.agg (FrzL.cons (os := []) (Frz.same _) (FrzL.cons (os := [_]) Frz.arr (FrzL.cons (os := []) (Frz.same _) (FrzL.nil))))) (FrzT.cons (os := []) (Frz.same _) (FrzT.nil))) (Y44.val _)) rfl rfl) ?_
 refine zw ?_
 refine cnd h (fun hb42 h => ?_) fun hb42 h => ?_
 ·
  refine AW.cond rfl (fun hn => absurd ((Y3u hb42).symm.trans hn) (by decide)) (fun _ => ?_)
  refine zw ?_
  refine AW.regionD (L := [0, 1]) (Lt := []) (k := dec [1,4,8,11,12]) (ns := [0, 0, 2, 2, 2, 2, 2, 2]) (by kernel_rfl) (by kernel_rfl) (by kernel_rfl) (by kernel_rfl) rfl ?_
  refine OpsD.v rfl rfl (Y1l (p := 4) (ds := [C.val v28, C.val v29]) Ybh.h rfl rfl rfl rfl rfl) ?_
  refine OpsD.v rfl rfl (Y1l (p := 5) (ds := [C.im Y99 3 p0.rooms, C.im Y9a 2 p0.stream]) Ydu.h rfl rfl rfl rfl rfl) ?_
  refine zw ?_
  refine dc h fun r55 g56 h => ?_
  refine zw ?_
  refine ob' h fun r57 g58 h => ?_
  refine Y3n.h (ns := [0, 0]) rfl rfl rfl (Y24 (Ok.lendE ((Zik r26 r55).h _ g58) (FrzT.cons (os := [_, _]) (Frz.agg (FrzL.cons (os := [_]) (Frz.deep Yb1) (FrzL.cons (os := [_]) Frz.arr (FrzL.nil)))) (FrzT.cons (os := []) (Frz.same _) (FrzT.nil))) (Y44.val _)) rfl rfl) ?_
  rintro _ _ ⟨rfl, rfl⟩
  refine zw ?_
  refine cnd h (fun hb59 h => ?_) fun hb59 h => ?_
  ·
   refine AW.cond rfl (fun hn => absurd ((Y3u hb59).symm.trans hn) (by decide)) (fun _ => ?_)
   refine zw ?_
   refine AW.regionD (L := [0, 1]) (Lt := []) (k := dec [1,4,8,11,12]) (ns := [0, 0, 1, 1, 1, 1, 1, 1, 1]) (by kernel_rfl) (by kernel_rfl) (by kernel_rfl) (by kernel_rfl) rfl ?_
   refine OpsD.v rfl rfl (Y1l (p := 2) (ds := [C.int r31.user, C.val v33]) Ybm.h rfl rfl rfl rfl rfl) ?_
   refine OpsD.v rfl rfl (Y1l (p := 5) (ds := [C.int p1.user, C.im kI64 1 p1.at_]) Ydv.h rfl rfl rfl rfl rfl) ?_
   refine zw ?_
   refine dc h fun r66 g67 h => ?_
   refine zw ?_
   refine ob' h fun r68 g69 h => ?_
   refine Y3n.h (ns := [0]) rfl rfl rfl (Y24 (Ok.lendE ((Zhy r31 r66).h _ g69) (FrzT.cons (os := [_]) (Frz.agg (FrzL.cons (os := []) (Frz.same _) (FrzL.cons (os := [_]) Frz.arr (FrzL.nil)))) (FrzT.cons (os := []) (Frz.same _) (FrzT.nil))) (Y44.val _)) rfl rfl) ?_
   rintro _ _ ⟨rfl, rfl⟩
   refine zw ?_
   refine cnd h (fun hb70 h => ?_) fun hb70 h => ?_
   ·
    refine AW.cond rfl (fun hn => absurd ((Y3u hb70).symm.trans hn) (by decide)) (fun _ => ?_)
    refine AW.skip ?_
    refine AW.seq ?_
    refine AW.region ?_
    refine Ops.v rfl (Yr rfl rfl) ?_
    refine Ops.nil ?_
    refine AW.seq ?_
    refine AW.region ?_
    refine Ops.v rfl (Y1l (p := 3) (ds := [C.val v28, C.val v29]) Ybh.h rfl rfl rfl rfl rfl) ?_
    refine zw ?_
    refine ob' h fun r71 g72 h => ?_
    refine Ops.hd (ns := [7, 7]) rfl rfl (Y24 (Zj6 r26 1 _ g72) rfl rfl) ?_
    refine Ops.v rfl (Yr rfl rfl) ?_
    refine Ops.nil ?_
    refine AW.seq ?_
    refine AW.region ?_
    refine Ops.v rfl (Y1l (p := 4) (ds := [C.int r31.user, C.val v33]) Ybm.h rfl rfl rfl rfl rfl) ?_
    refine zw ?_
    refine ob' h fun r73 g74 h => ?_
    refine Ops.hd (ns := [9]) rfl rfl (Y24 (Zj8 r31 r71.1 _ g74) rfl rfl) ?_
    refine Ops.v rfl (Yr rfl rfl) ?_
    refine Ops.nil ?_
    refine AW.seq ?_
    refine AW.seq ?_
    refine AW.cut (τ := Bool) (fun x78 => ⟨[(2, C.int p2), (3, C.int p3), (4, pt b1), (5, pt b2), (10, pt b22), (13, pt b39), (71, C.bool x78)], [Obj.box b1 25 [C.im Y99 3 p0.rooms, C.im Y9a 2 p0.stream], Obj.box b2 62 [C.int p1.user, C.im kI64 1 p1.at_], Obj.box b22 70 [C.int x23, C.im kI64 1 l24, C.int x25], Obj.box b39 70 [C.int r35.marks.user, C.val v37, C.int r35.code], Obj.arr v37 2 kI64 1 r35.marks.at_]⟩) (fun x78 => Zjk p0 p1 p2 p3 x23 l24 x25 r35 x78 = some r) ?_ ?_
    ·
     refine zw ?_
     refine cnd h (fun hb75 h => ?_) fun hb75 h => ?_
     ·
      refine zw ?_
      exact ⟨true, h, Y21.both (ns := [7, 7, 7, 4, 3]) rfl rfl⟩
     refine Ops.gv rfl rfl rfl rfl hb75 (Y1l (p := 4) (ds := [C.int r35.marks.user, C.val v37, C.int r35.code]) Yct.h rfl rfl rfl rfl rfl) ?_
     refine Ops.gv rfl rfl rfl rfl hb75 (Y1l (p := 9) (ds := [C.int x23, C.im kI64 1 l24, C.int x25]) Yct.h rfl rfl rfl rfl rfl) ?_
     refine ob' h fun r76 g77 h => ?_
     refine Ops.ghd (ns := [3]) rfl rfl rfl rfl hb75 rfl (Y24 (Ok.lendE ((Zi0 r35 (Y95.mk (Y8z.mk x23 l24) x25)).h _ g77) (FrzT.cons (os := [_]) (Frz.agg (FrzL.cons (os := []) (Frz.same _) (FrzL.cons (os := [_]) Frz.arr (FrzL.cons (os := []) (Frz.same _) (FrzL.nil))))) (FrzT.cons (os := []) (Frz.same _) (FrzT.nil))) (Y44.val _)) rfl rfl) ?_
     refine zw ?_
     exact ⟨(!r76), h, Y21.both (ns := [7, 7, 7, 4, 0]) rfl rfl⟩
    intro x78 h
    replace h : Zjk p0 p1 p2 p3 x23 l24 x25 r35 x78 = some r := h
    unfold Zjk at h
    refine cnd h (fun hb79 h => go) fun hb79 h => ?_
    refine AW.cf hb79 rfl ?_
    refine AW.skip ?_
    refine AW.seq ?_
    refine AW.region ?_
    refine Ops.v rfl (Yr rfl rfl) ?_
    refine Ops.nil ?_
    refine AW.seq ?_
    refine AW.region ?_
    refine Ops.v rfl (Y1l (p := 3) (ds := [C.int r35.marks.user, C.val v37, C.int r35.code]) Yct.h rfl rfl rfl rfl rfl) ?_
    refine zw ?_
    refine ob' h fun r80 g81 h => ?_
    refine Ops.hd (ns := [4]) rfl rfl (Y24 (Zja r35 1 _ g81) rfl rfl) ?_
    refine Ops.v rfl (Yr rfl rfl) ?_
    refine Ops.nil ?_
    refine AW.seq ?_
    refine AW.region ?_
    refine Ops.v rfl (Yr rfl rfl) ?_
    refine Ops.nil ?_
    refine AW.seq ?_
    refine AW.region ?_
    refine Ops.v rfl (Y1l (p := 4) (ds := [C.int r35.marks.user, C.val v37, C.int r35.code]) Yct.h rfl rfl rfl rfl rfl) ?_
    refine zw ?_
    refine ob' h fun r82 g83 h => ?_
    refine Ops.hd (ns := [0]) rfl rfl (Y24 (Ok.lendE ((Zji (Y95.mk (Y8z.mk r35.marks.user r80.2) r35.code) 1).h _ g83) (FrzT.cons (os := [_]) (Frz.agg (FrzL.cons (os := []) (Frz.same _) (FrzL.cons (os := [_]) Frz.arr (FrzL.cons (os := []) (Frz.same _) (FrzL.nil))))) (FrzT.cons (os := []) (Frz.same _) (FrzT.nil))) (Y44.val _)) rfl rfl) ?_
    refine zw ?_
    refine cnd h (fun hb84 h => go) fun hb84 h => ?_
    refine AW.cf hb84 rfl ?_
    refine zw ?_
    refine cnd h (fun hb85 h => go) fun hb85 h => ?_
    refine AW.cf hb85 rfl ?_
    refine AW.skip ?_
    refine AW.seq ?_
    refine AW.cut (τ := Int × List Int × Int × Nat) (fun (x100, l101, x102, b99) => ⟨[(10, pt b22), (13, pt b39), (15, C.int r80.1), (17, pt b99)], [Obj.box b22 70 [C.int x23, C.im kI64 1 l24, C.int x25], Obj.box b39 70 [C.int r35.marks.user, C.val v37, C.int r35.code], Obj.arr v37 2 kI64 1 r80.2, Obj.box b99 70 [C.int x100, C.im kI64 1 l101, C.int x102]]⟩) (fun (x100, l101, x102, b99) => Zjj x23 l24 x25 r35 r80 x100 l101 x102 = some r) ?_ ?_
    ·
     refine AW.regionD (L := [0, 2]) (Lt := [8]) (k := .light 0 true (.light 2 true (.light 4 false (.light 5 false (.two 1 7 (.two 3 7 (.two 6 7 (.one 7 (.late 8 (.done))) (.one 6 (.late 8 (.done)))) (.one 3 (.one 6 (.late 8 (.done))))) (.one 1 (.one 3 (.one 6 (.late 8 (.done)))))))))) (ns := [0, 0, 0, 0, 0]) (by kernel_rfl) (by kernel_rfl) (by kernel_rfl) (by kernel_rfl) rfl ?_
     refine zw ?_
     refine ob' h fun r86 g87 h => ?_
     refine OpsD.two ?_ ?_
     ·
      refine Y3n.h (ns := []) rfl rfl rfl (Y24 ((Z18' _).h _ g87) rfl rfl) ?_
      rintro _ _ ⟨rfl, rfl⟩
      refine ob' h fun r89 g90 h => ?_
      refine OpsD.two ?_ ?_
      ·
       refine Y3n.h (ns := []) rfl rfl rfl (Y24 ((Z1a' _).h _ g90) rfl rfl) ?_
       rintro _ _ ⟨rfl, rfl⟩
       refine ob' h fun r91 g92 h => ?_
       refine OpsD.two ?_ ?_
       ·
        refine Y3n.h (ns := []) rfl rfl rfl (Y24 ((Zhs' _ _ _ _).h _ g92) rfl rfl) ?_
        rintro _ _ ⟨rfl, rfl⟩
        refine OpsD.one ?_
        refine Y3n.h (ns := []) rfl rfl rfl (Y1p (cs := [C.int 0, C.val s0, C.int 0]) Ycr (Y42 rfl rfl) rfl) ?_
        rintro _ _ ⟨b88, rfl, rfl⟩
        refine OpsD.late (ns := [5]) rfl rfl rfl (Y1u (gs := [C.int r91.marks.user, C.im kI64 1 r91.marks.at_, C.int r91.code]) Yct.h rfl rfl rfl rfl rfl) ?_
        rintro _ _ ⟨rfl, rfl⟩
        refine zw ?_
        exact ⟨(r91.marks.user, r91.marks.at_, r91.code, b88), h, Y21.both (ns := [4, 4, 1, 0]) rfl rfl⟩
       refine Y3n.h (ns := []) rfl rfl rfl (Y1p (cs := [C.int 0, C.val s0, C.int 0]) Ycr (Y42 rfl rfl) rfl) ?_
       rintro _ _ ⟨b88, rfl, rfl⟩
       refine OpsD.one ?_
       refine Y3n.h (ns := []) rfl rfl rfl (Y24 ((Zhs' _ _ _ _).h _ g92) rfl rfl) ?_
       rintro _ _ ⟨rfl, rfl⟩
       refine OpsD.late (ns := [5]) rfl rfl rfl (Y1u (gs := [C.int r91.marks.user, C.im kI64 1 r91.marks.at_, C.int r91.code]) Yct.h rfl rfl rfl rfl rfl) ?_
       rintro _ _ ⟨rfl, rfl⟩
       refine zw ?_
       exact ⟨(r91.marks.user, r91.marks.at_, r91.code, b88), h, Y21.both (ns := [4, 4, 1, 0]) rfl rfl⟩
      refine Y3n.h (ns := []) rfl rfl rfl (Y1p (cs := [C.int 0, C.val s0, C.int 0]) Ycr (Y42 rfl rfl) rfl) ?_
      rintro _ _ ⟨b88, rfl, rfl⟩
      refine OpsD.one ?_
      refine Y3n.h (ns := []) rfl rfl rfl (Y24 ((Z1a' _).h _ g90) rfl rfl) ?_
      rintro _ _ ⟨rfl, rfl⟩
      refine zw ?_
      refine dc h fun r93 g94 h => ?_
      refine OpsD.late (ns := [5]) rfl rfl rfl (Y1u (gs := [C.int r93.marks.user, C.im kI64 1 r93.marks.at_, C.int r93.code]) Yct.h rfl rfl rfl rfl rfl) ?_
      rintro _ _ ⟨rfl, rfl⟩
      refine zw ?_
      exact ⟨(r93.marks.user, r93.marks.at_, r93.code, b88), h, Y21.both (ns := [4, 4, 1, 0]) rfl rfl⟩
     refine Y3n.h (ns := []) rfl rfl rfl (Y1p (cs := [C.int 0, C.val s0, C.int 0]) Ycr (Y42 rfl rfl) rfl) ?_
     rintro _ _ ⟨b88, rfl, rfl⟩
     refine OpsD.one ?_
     refine Y3n.h (ns := []) rfl rfl rfl (Y24 ((Z18' _).h _ g87) rfl rfl) ?_
     rintro _ _ ⟨rfl, rfl⟩
     refine zw ?_
     refine dc h fun r95 g96 h => ?_
     refine zw ?_
     refine dc h fun r97 g98 h => ?_
     refine OpsD.late (ns := [5]) rfl rfl rfl (Y1u (gs := [C.int r97.marks.user, C.im kI64 1 r97.marks.at_, C.int r97.code]) Yct.h rfl rfl rfl rfl rfl) ?_
     rintro _ _ ⟨rfl, rfl⟩
     refine zw ?_
     exact ⟨(r97.marks.user, r97.marks.at_, r97.code, b88), h, Y21.both (ns := [4, 4, 1, 0]) rfl rfl⟩
    rintro ⟨x100, l101, x102, b99⟩ h
    replace h : Zjj x23 l24 x25 r35 r80 x100 l101 x102 = some r := h
    unfold Zjj at h
    refine AW.seq ?_
    refine AW.seq ?_
    refine AW.region ?_
    refine Ops.v rfl (Y1l (p := 3) (ds := [C.int x100, C.im kI64 1 l101, C.int x102]) Yct.h rfl rfl rfl rfl rfl) ?_
    refine zw ?_
    refine oc h fun r103 g104 h => ?_
    refine zw ?_
    refine cnd h (fun hb105 h => ?_) fun hb105 h => ?_
    ·
     refine AW.cond rfl (fun hn => absurd ((Y3u hb105).symm.trans hn) (by decide)) (fun _ => ?_)
     refine zw ?_
     refine ob' h fun r106 g107 h => ?_
     refine Ops.hd (ns := [2]) rfl rfl (Y24 (Ok.lendE ((Zji (Y95.mk (Y8z.mk r35.marks.user r80.2) r35.code) 1).h _ g107) (FrzT.cons (os := [_]) (Frz.agg (FrzL.cons (os := []) (Frz.same _) (FrzL.cons (os := [_]) Frz.arr (FrzL.cons (os := []) (Frz.same _) (FrzL.nil))))) (FrzT.cons (os := []) (Frz.same _) (FrzT.nil))) (Y44.val _)) rfl rfl) ?_
     exact go
    exact go
   exact go
  exact go
 exact go

end Go.Proofs.YtbgichfjcnibpaaGreat
