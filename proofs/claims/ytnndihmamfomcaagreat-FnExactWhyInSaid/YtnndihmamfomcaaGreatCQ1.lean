/- Printed by gen.py: plain functions for Go functions, and that the walks keep to them. -/
import Derived.Test.YtnndihmamfomcaaGreatCSorts
import Derived.Test.YtnndihmamfomcaaGreatCL
import Derived.Test.YtnndihmamfomcaaGreatChecked
set_option autoImplicit false
set_option linter.unusedVariables false
set_option linter.unusedSimpArgs false
set_option maxRecDepth 100000
namespace Go.Proofs.YtnndihmamfomcaaGreat
open Go Go.Abs
attribute [local irreducible] AW Ops OpsD StepD
structure TEvent where
  id : Int
  room : Int
  author : Int
  kind : Int
  key : Int
  n : Int
  text : ByteArray
  prev : List Int
  time : Int
structure TGraph where
  room : Int
  events : List TEvent
  parked : List TEvent
structure TGraph' where
  room : Int
  events : List TEvent
  parked : List TEvent
structure TEntry where
  kind : Int
  key : Int
  id : Int
structure TL06Known where
  depths : List Int
  ahead : List (List TEntry)
  behind : List (List TEntry)
  code : List Int
structure THistory where
  graph : TGraph'
  depth : List (Int × Int)
  before : List (Int × List TEntry)
  after : List (Int × List TEntry)
  refused : List (Int × Int)
def kI64 (x : Int) : List C := [C.int x]
def kEvent (x : TEvent) : List C := [C.int x.id, C.int x.room, C.int x.author, C.int x.kind, C.int x.key, C.int x.n, C.str x.text, C.im kI64 1 x.prev, C.int x.time]
def kdEvent (x : TEvent) (u : Value) : List C := [C.int x.id, C.int x.room, C.int x.author, C.int x.kind, C.int x.key, C.int x.n, C.str x.text, C.val u, C.int x.time]
def obEvent (x : TEvent) (u : Value) : List Abs.Obj := [Obj.arr u 2 kI64 1 x.prev]
def kEntry (x : TEntry) : List C := [C.int x.kind, C.int x.key, C.int x.id]
def kEntryS (x : List TEntry) : List C := [C.im kEntry 3 x]
def kBool (x : Bool) : List C := [C.bool x]
abbrev mcI64 (x : Int) : C := C.int x
abbrev mcEntryS (x : List TEntry) : C := C.im kEntry 3 x
abbrev mcBool (x : Bool) : C := C.bool x
instance sl_26 : SlI Tryz.prog 26 2 1 8 := ⟨by kernel_rfl⟩
instance fo_112_6 : FldI Tryz.prog 112 6 6 := ⟨by kernel_rfl⟩
instance ld_9 : LdI Tryz.prog 9 false 1 := ⟨by kernel_rfl⟩
theorem un_9 : Tryz.prog.underlying 9 = some .string := by kernel_rfl
instance fo_112_7 : FldI Tryz.prog 112 7 7 := ⟨by kernel_rfl⟩
instance ld_26 : LdI Tryz.prog 26 false 1 := ⟨by kernel_rfl⟩
instance sl_22 : SlI Tryz.prog 22 112 9 96 := ⟨by kernel_rfl⟩
instance ld_112 : LdI Tryz.prog 112 true 9 := ⟨by kernel_rfl⟩
instance fo_24_1 : FldI Tryz.prog 24 1 1 := ⟨by kernel_rfl⟩
instance ld_22 : LdI Tryz.prog 22 false 1 := ⟨by kernel_rfl⟩
instance fo_24_2 : FldI Tryz.prog 24 2 2 := ⟨by kernel_rfl⟩
theorem ar_26 : arInfo Tryz.prog 26 = some (2, 1, 8) := by kernel_rfl
theorem ze_2 : zeroOf Tryz.prog 2 = some [.int .i64 0] := by kernel_rfl
instance ld_2 : LdI Tryz.prog 2 false 1 := ⟨by kernel_rfl⟩
theorem ze_38 : zeroOf Tryz.prog 38 = some [.int .i64 0, .int .i64 0, .int .i64 0, .int .i64 0, .int .i64 0, .int .i64 0, .string ByteArray.empty, .slice none 0 0, .int .i64 0] := by kernel_rfl
instance fo_112_0 : FldI Tryz.prog 112 0 0 := ⟨by kernel_rfl⟩
instance fo_38_0 : FldI Tryz.prog 38 0 0 := ⟨by kernel_rfl⟩
instance fo_112_1 : FldI Tryz.prog 112 1 1 := ⟨by kernel_rfl⟩
instance fo_38_1 : FldI Tryz.prog 38 1 1 := ⟨by kernel_rfl⟩
instance fo_112_2 : FldI Tryz.prog 112 2 2 := ⟨by kernel_rfl⟩
instance fo_38_2 : FldI Tryz.prog 38 2 2 := ⟨by kernel_rfl⟩
instance fo_112_3 : FldI Tryz.prog 112 3 3 := ⟨by kernel_rfl⟩
instance fo_38_3 : FldI Tryz.prog 38 3 3 := ⟨by kernel_rfl⟩
instance fo_112_4 : FldI Tryz.prog 112 4 4 := ⟨by kernel_rfl⟩
instance fo_38_4 : FldI Tryz.prog 38 4 4 := ⟨by kernel_rfl⟩
instance fo_112_5 : FldI Tryz.prog 112 5 5 := ⟨by kernel_rfl⟩
instance fo_38_5 : FldI Tryz.prog 38 5 5 := ⟨by kernel_rfl⟩
instance fo_38_6 : FldI Tryz.prog 38 6 6 := ⟨by kernel_rfl⟩
instance fo_38_7 : FldI Tryz.prog 38 7 7 := ⟨by kernel_rfl⟩
instance fo_112_8 : FldI Tryz.prog 112 8 8 := ⟨by kernel_rfl⟩
instance fo_38_8 : FldI Tryz.prog 38 8 8 := ⟨by kernel_rfl⟩
instance ld_38 : LdI Tryz.prog 38 true 9 := ⟨by kernel_rfl⟩
theorem ar_28 : arInfo Tryz.prog 28 = some (38, 9, 96) := by kernel_rfl
theorem frz_kdEvent : ∀ x u, FrzL (kdEvent x u) (obEvent x u) (kEvent x) := fun _ _ => (FrzL.cons (os := []) (Frz.same _) (FrzL.cons (os := []) (Frz.same _) (FrzL.cons (os := []) (Frz.same _) (FrzL.cons (os := []) (Frz.same _) (FrzL.cons (os := []) (Frz.same _) (FrzL.cons (os := []) (Frz.same _) (FrzL.cons (os := []) (Frz.same _) (FrzL.cons (os := [_]) Frz.arr (FrzL.cons (os := []) (Frz.same _) FrzL.nil)))))))))
instance sl_28 : SlI Tryz.prog 28 38 9 96 := ⟨by kernel_rfl⟩
theorem ze_30 : zeroOf Tryz.prog 30 = some [.int .i64 0, .slice none 0 0, .slice none 0 0] := by kernel_rfl
instance fo_24_0 : FldI Tryz.prog 24 0 0 := ⟨by kernel_rfl⟩
instance fo_30_0 : FldI Tryz.prog 30 0 0 := ⟨by kernel_rfl⟩
instance fo_30_1 : FldI Tryz.prog 30 1 1 := ⟨by kernel_rfl⟩
instance ld_28 : LdI Tryz.prog 28 false 1 := ⟨by kernel_rfl⟩
instance fo_30_2 : FldI Tryz.prog 30 2 2 := ⟨by kernel_rfl⟩
instance ld_30 : LdI Tryz.prog 30 true 3 := ⟨by kernel_rfl⟩
theorem un_4 : Tryz.prog.underlying 4 = some .bool := by kernel_rfl
instance sl_49 : SlI Tryz.prog 49 99 3 24 := ⟨by kernel_rfl⟩
instance fo_99_0 : FldI Tryz.prog 99 0 0 := ⟨by kernel_rfl⟩
instance fo_99_1 : FldI Tryz.prog 99 1 1 := ⟨by kernel_rfl⟩
instance fo_99_2 : FldI Tryz.prog 99 2 2 := ⟨by kernel_rfl⟩
instance sl_46 : SlI Tryz.prog 46 49 1 24 := ⟨by kernel_rfl⟩
instance ld_49 : LdI Tryz.prog 49 false 1 := ⟨by kernel_rfl⟩
theorem ar_49 : arInfo Tryz.prog 49 = some (99, 3, 24) := by kernel_rfl
instance ld_99 : LdI Tryz.prog 99 true 3 := ⟨by kernel_rfl⟩
theorem pl_38 : places Tryz.prog 38 = some [(0, 1), (1, 1), (2, 1), (3, 1), (4, 1), (5, 1), (6, 1), (7, 1), (8, 1)] := by kernel_rfl
theorem fi_38_5 : fieldInfo Tryz.prog 38 5 = some (5, 1, false) := by kernel_rfl
theorem fi_38_2 : fieldInfo Tryz.prog 38 2 = some (2, 1, false) := by kernel_rfl
theorem plain_kEntry : ∀ x, PlainCs (kEntry x) := fun x => (PlainCs.cons (PlainC.val _) (PlainCs.cons (PlainC.val _) (PlainCs.cons (PlainC.val _) (PlainCs.nil))) : PlainCs [C.int x.kind, C.int x.key, C.int x.id])
theorem pl_99 : places Tryz.prog 99 = some [(0, 1), (1, 1), (2, 1)] := by kernel_rfl
theorem ze_99 : zeroOf Tryz.prog 99 = some [.int .i64 0, .int .i64 0, .int .i64 0] := by kernel_rfl
theorem ar_105 : arInfo Tryz.prog 105 = some (4, 1, 1) := by kernel_rfl
theorem ze_4 : zeroOf Tryz.prog 4 = some [.bool false] := by kernel_rfl
theorem fi_38_7 : fieldInfo Tryz.prog 38 7 = some (7, 1, false) := by kernel_rfl
instance sl_105 : SlI Tryz.prog 105 4 1 1 := ⟨by kernel_rfl⟩
instance ld_4 : LdI Tryz.prog 4 false 1 := ⟨by kernel_rfl⟩
theorem ar_46 : arInfo Tryz.prog 46 = some (49, 1, 24) := by kernel_rfl
theorem ze_49 : zeroOf Tryz.prog 49 = some [.slice none 0 0] := by kernel_rfl
theorem pl_73 : places Tryz.prog 73 = some [(0, 1), (1, 1), (2, 1), (3, 1)] := by kernel_rfl
theorem ze_73 : zeroOf Tryz.prog 73 = some [.slice none 0 0, .slice none 0 0, .slice none 0 0, .slice none 0 0] := by kernel_rfl
instance fo_73_2 : FldI Tryz.prog 73 2 2 := ⟨by kernel_rfl⟩
instance ld_46 : LdI Tryz.prog 46 false 1 := ⟨by kernel_rfl⟩
instance fo_73_1 : FldI Tryz.prog 73 1 1 := ⟨by kernel_rfl⟩
instance fo_73_0 : FldI Tryz.prog 73 0 0 := ⟨by kernel_rfl⟩
instance fo_73_3 : FldI Tryz.prog 73 3 3 := ⟨by kernel_rfl⟩
theorem un_3 : Tryz.prog.underlying 3 = some (.int .i64) := by kernel_rfl
theorem un_138 : Tryz.prog.underlying 138 = some (.int .u64) := by kernel_rfl
theorem ze_26 : zeroOf Tryz.prog 26 = some [.slice none 0 0] := by kernel_rfl
theorem ar_170 : arInfo Tryz.prog 170 = some (3, 1, 8) := by kernel_rfl
instance sl_170 : SlI Tryz.prog 170 3 1 8 := ⟨by kernel_rfl⟩
instance ld_3 : LdI Tryz.prog 3 false 1 := ⟨by kernel_rfl⟩
instance fo_84_3 : FldI Tryz.prog 84 3 5 := ⟨by kernel_rfl⟩
instance ld_82 : LdI Tryz.prog 82 false 1 := ⟨by kernel_rfl⟩
theorem mi_82 : mapInfo Tryz.prog 82 = some (.i64, 49) := by kernel_rfl
theorem zv_49 : zeroVal Tryz.prog 49 = some (.slice none 0 0) := by kernel_rfl
theorem eq_99 : eqKinds Tryz.prog 99 = some [0, 0, 0] := by kernel_rfl
theorem mi_147 : mapInfo Tryz.prog 147 = some (.i64, 4) := by kernel_rfl
theorem zv_4 : zeroVal Tryz.prog 4 = some (.bool false) := by kernel_rfl
instance ld_75 : LdI Tryz.prog 75 false 1 := ⟨by kernel_rfl⟩
instance fo_84_0 : FldI Tryz.prog 84 0 0 := ⟨by kernel_rfl⟩
instance fo_84_1 : FldI Tryz.prog 84 1 3 := ⟨by kernel_rfl⟩
instance ld_81 : LdI Tryz.prog 81 false 1 := ⟨by kernel_rfl⟩
theorem mi_81 : mapInfo Tryz.prog 81 = some (.i64, 2) := by kernel_rfl
theorem zv_2 : zeroVal Tryz.prog 2 = some (.int .i64 0) := by kernel_rfl
instance fo_84_2 : FldI Tryz.prog 84 2 4 := ⟨by kernel_rfl⟩
instance fo_84_4 : FldI Tryz.prog 84 4 6 := ⟨by kernel_rfl⟩
theorem pl_84 : places Tryz.prog 84 = some [(0, 3), (3, 1), (4, 1), (5, 1), (6, 1)] := by kernel_rfl
theorem ze_84 : zeroOf Tryz.prog 84 = some [.int .i64 0, .slice none 0 0, .slice none 0 0, .map none, .map none, .map none, .map none] := by kernel_rfl
instance ld_24 : LdI Tryz.prog 24 true 3 := ⟨by kernel_rfl⟩

def Z7z (p0 : List Int) (p1 : Int) : Option Int := cond (decide ((IntKind.i64.wrap (p1 - (p0.length : Int))) < 0)) (some (-1)) (some (IntKind.i64.wrap (p1 - (p0.length : Int))))
theorem Zde (p0 : List Int) (p1 : Int) (r : Int) (h : Z7z p0 p1 = some r) : Ok Tryz.prog 159 [C.im kI64 1 p0, C.int p1] [] (fun c qs => c = C.int r ∧ qs = []) := by
 refine Ok.of_body (rs := [.tmp 4]) Tryz.func159 rfl rfl rfl rfl rfl fun X => ?_
 unfold Z7z at h
 refine zz ?_
 refine cnd h (fun hb1 h => ?_) fun hb1 h => ?_
 ·
  refine AW.ct hb1 rfl ?_
  refine zz ?_
  refine AW.ret ?_
  rw [← Option.some.inj h]
  exact ⟨[C.int (-1)], _, Ghost.refl _, (.cons (.tmp rfl) .nil), [], _, _, rfl, ⟨rfl, rfl⟩⟩
 refine AW.cf hb1 rfl ?_
 refine zz ?_
 refine AW.ret ?_
 rw [← Option.some.inj h]
 exact ⟨[C.int (IntKind.i64.wrap (p1 - (p0.length : Int)))], _, Ghost.refl _, (.cons (.tmp rfl) .nil), [], _, _, rfl, ⟨rfl, rfl⟩⟩

def Z7x (p0 : TEvent) (p1 : Int) : Option Int := cond (decide ((IntKind.i64.wrap (p1 - (p0.text.size : Int))) < 0)) (some (-1)) ((Z7z p0.prev (IntKind.i64.wrap (p1 - (p0.text.size : Int)))).bind fun r3 => cond (decide (r3 < 0)) (some (-1)) (some r3))
theorem Zdc (p0 : TEvent) (p1 : Int) (r : Int) (h : Z7x p0 p1 = some r) : Ok Tryz.prog 103 [C.agg [C.int p0.id, C.int p0.room, C.int p0.author, C.int p0.kind, C.int p0.key, C.int p0.n, C.str p0.text, C.im kI64 1 p0.prev, C.int p0.time], C.int p1] [] (fun c qs => c = C.int r ∧ qs = []) := by
 refine Ok.of_body (rs := [.tmp 4]) Tryz.func103 rfl rfl rfl rfl rfl fun X => ?_
 unfold Z7x at h
 refine zz ?_
 refine Ops.h (ns := []) rfl rfl (op_boxA rfl rfl) ?_
 rintro _ _ ⟨b1, rfl, rfl⟩
 refine zz ?_
 refine Ops.v rfl (op_len_str un_9 rfl rfl) ?_
 refine zz ?_
 refine cnd h (fun hb2 h => ?_) fun hb2 h => ?_
 ·
  refine AW.ct hb2 rfl ?_
  refine zz ?_
  refine AW.ret ?_
  rw [← Option.some.inj h]
  exact ⟨[C.int (-1)], _, Ghost.refl _, (.cons (.tmp rfl) .nil), [], _, _, rfl, ⟨rfl, rfl⟩⟩
 refine AW.cf hb2 rfl ?_
 refine zz ?_
 refine ob' h fun r3 g4 h => ?_
 refine Ops.hd (ns := []) rfl rfl (op_callE (Zde _ _ _ g4) rfl rfl) ?_
 refine zz ?_
 refine cnd h (fun hb5 h => ?_) fun hb5 h => ?_
 ·
  refine AW.ct hb5 rfl ?_
  refine zz ?_
  refine AW.ret ?_
  rw [← Option.some.inj h]
  exact ⟨[C.int (-1)], _, Ghost.refl _, (.cons (.tmp rfl) .nil), [], _, _, rfl, ⟨rfl, rfl⟩⟩
 refine AW.cf hb5 rfl ?_
 refine zz ?_
 refine AW.ret ?_
 rw [← Option.some.inj h]
 exact ⟨[C.int r3], _, Ghost.refl _, (.cons (.tmp rfl) .nil), [], _, _, rfl, ⟨rfl, rfl⟩⟩

def Za1 (x16 : Int) : Option Int := some x16
def Z1v (p0 : List TEvent) (x8 : Int) (x9 : Int) : Option ((Int × Int) ⊕ (Int ⊕ Int)) := cond (decide (x9 < (p0.length : Int))) ((getI p0 x9).bind fun e11 => (Z7x e11 x8).bind fun r13 => cond (decide (r13 < 0)) (some (.inr (.inl (-1)))) (some (.inl (r13, (IntKind.i64.wrap (x9 + 1)))))) (some (.inr (.inr x8)))
def Z5o (p0 : List TEvent) (p1 : Int) : Option Int := cond (decide ((IntKind.i64.wrap (p1 - (p0.length : Int))) < 0)) (some (-1)) ((iter (fun z17 => Z1v p0 z17.1 z17.2) big ((IntKind.i64.wrap (p1 - (p0.length : Int))), 0)).bind (fun z20 => match z20 with | .inl y18 => some y18 | .inr y19 => Za1 y19))
theorem Zc1 (p0 : List TEvent) (p1 : Int) (r : Int) (h : Z5o p0 p1 = some r) : Ok Tryz.prog 53 [C.im kEvent 9 p0, C.int p1] [] (fun c qs => c = C.int r ∧ qs = []) := by
 refine Ok.of_body (rs := [.tmp 4]) Tryz.func53 rfl rfl rfl rfl rfl fun X => ?_
 unfold Z5o at h
 refine zz ?_
 refine cnd h (fun hb1 h => ?_) fun hb1 h => ?_
 ·
  refine AW.ct hb1 rfl ?_
  refine zz ?_
  refine AW.ret ?_
  rw [← Option.some.inj h]
  exact ⟨[C.int (-1)], _, Ghost.refl _, (.cons (.tmp rfl) .nil), [], _, _, rfl, ⟨rfl, rfl⟩⟩
 refine AW.cf hb1 rfl ?_
 refine AW.skip ?_
 refine AW.seq ?_
 refine AW.cut (τ := Int) (fun x16 => ⟨[(1, C.int x16)], []⟩) (fun x16 => Za1 x16 = some r) ?_ ?_
 ·
  refine zz ?_
  refine ob' h fun o21 g22 q23 => ?_
  refine AW.loop (τ := Int × Int) (x := ((IntKind.i64.wrap (p1 - (p0.length : Int))), 0)) (fun (x8, x9) => ⟨[(0, C.im kEvent 9 p0), (1, C.int x8), (5, C.int x9)], []⟩) (fun k (x8, x9) => iter (fun z17 => Z1v p0 z17.1 z17.2) k (x8, x9) = some o21) g22 (Ghost.both (ns := []) rfl rfl) ?_
  rintro k ⟨x8, x9⟩ i25
  refine iter_succ' (show iter (fun z17 => Z1v p0 z17.1 z17.2) k (x8, x9) = some o21 from i25) fun k24 y26 hlt_k24 h h27 => ?_
  replace h : Z1v p0 x8 x9 = some y26 := h
  unfold Z1v at h
  refine zz ?_
  refine cnd h (fun hb10 h => ?_) fun hb10 h => ?_
  ·
   refine AW.ct hb10 rfl ?_
   refine zz ?_
   refine ob' h fun e11 g12 h => ?_
   refine Ops.v rfl (op_indexAddr_im sl_22.h rfl rfl g12 rfl) ?_
   refine Ops.v rfl (op_load_ipA ld_112.h rfl rfl rfl rfl) ?_
   refine zz ?_
   refine ob' h fun r13 g14 h => ?_
   refine Ops.hd (ns := []) rfl rfl (op_callE (Zdc _ _ _ g14) rfl rfl) ?_
   refine zz ?_
   refine cnd h (fun hb15 h => ?_) fun hb15 h => ?_
   ·
    refine AW.ct hb15 rfl ?_
    refine zz ?_
    refine AW.ret ?_
    obtain rfl := Option.some.inj h
    obtain rfl := Option.some.inj h27
    replace h := q23
    rw [← Option.some.inj h]
    exact ⟨[C.int (-1)], _, Ghost.refl _, (.cons (.tmp rfl) .nil), [], _, _, rfl, ⟨rfl, rfl⟩⟩
   refine AW.cf hb15 rfl ?_
   refine zz ?_
   obtain rfl := Option.some.inj h
   exact ⟨k24, (r13, (IntKind.i64.wrap (x9 + 1))), hlt_k24, h27, Ghost.both (ns := []) rfl rfl⟩
  refine AW.cf hb10 rfl ?_
  refine AW.exit ?_
  obtain rfl := Option.some.inj h
  obtain rfl := Option.some.inj h27
  replace h := q23
  exact ⟨x8, h, Ghost.both (ns := []) rfl rfl⟩
 intro x16 h
 replace h : Za1 x16 = some r := h
 unfold Za1 at h
 refine zz ?_
 refine AW.ret ?_
 rw [← Option.some.inj h]
 exact ⟨[C.int x16], _, Ghost.refl _, (.cons (.tmp rfl) .nil), [], _, _, rfl, ⟨rfl, rfl⟩⟩

def Z7y (p0 : TGraph) (p1 : Int) : Option Int := (Z5o p0.events p1).bind fun r2 => cond (decide (r2 < 0)) (some (-1)) ((Z5o p0.parked r2).bind fun r5 => cond (decide (r5 < 0)) (some (-1)) (some r5))
theorem Zdd (p0 : TGraph) (p1 : Int) (r : Int) (h : Z7y p0 p1 = some r) : Ok Tryz.prog 9 [C.agg [C.int p0.room, C.im kEvent 9 p0.events, C.im kEvent 9 p0.parked], C.int p1] [] (fun c qs => c = C.int r ∧ qs = []) := by
 refine Ok.of_body (rs := [.tmp 4]) Tryz.func9 rfl rfl rfl rfl rfl fun X => ?_
 unfold Z7y at h
 refine zz ?_
 refine Ops.h (ns := []) rfl rfl (op_boxA rfl rfl) ?_
 rintro _ _ ⟨b1, rfl, rfl⟩
 refine zz ?_
 refine ob' h fun r2 g3 h => ?_
 refine Ops.hd (ns := []) rfl rfl (op_callE (Zc1 _ _ _ g3) rfl rfl) ?_
 refine zz ?_
 refine cnd h (fun hb4 h => ?_) fun hb4 h => ?_
 ·
  refine AW.ct hb4 rfl ?_
  refine zz ?_
  refine AW.ret ?_
  rw [← Option.some.inj h]
  exact ⟨[C.int (-1)], _, Ghost.refl _, (.cons (.tmp rfl) .nil), [], _, _, rfl, ⟨rfl, rfl⟩⟩
 refine AW.cf hb4 rfl ?_
 refine zz ?_
 refine ob' h fun r5 g6 h => ?_
 refine Ops.hd (ns := []) rfl rfl (op_callE (Zc1 _ _ _ g6) rfl rfl) ?_
 refine zz ?_
 refine cnd h (fun hb7 h => ?_) fun hb7 h => ?_
 ·
  refine AW.ct hb7 rfl ?_
  refine zz ?_
  refine AW.ret ?_
  rw [← Option.some.inj h]
  exact ⟨[C.int (-1)], _, Ghost.refl _, (.cons (.tmp rfl) .nil), [], _, _, rfl, ⟨rfl, rfl⟩⟩
 refine AW.cf hb7 rfl ?_
 refine zz ?_
 refine AW.ret ?_
 rw [← Option.some.inj h]
 exact ⟨[C.int r5], _, Ghost.refl _, (.cons (.tmp rfl) .nil), [], _, _, rfl, ⟨rfl, rfl⟩⟩

def Z83 (l16 : List Int) : Option (List Int) := some l16
def Z3l (p0 : List Int) (l9 : List Int) (x10 : Int) : Option ((List Int × Int) ⊕ ((List Int))) := cond (decide (x10 < (p0.length : Int))) ((getI p0 x10).bind fun e12 => (getI l9 x10).bind fun e14 => some (.inl ((List.set l9 (Int.toNat x10) e12), (IntKind.i64.wrap (x10 + 1))))) (some (.inr l9))
def Z82 (p0 : List Int) : Option (List Int) := (chk (decide (0 ≤ (p0.length : Int) ∧ (p0.length : Int) * 8 ≤ 140737488355328))).bind fun u2 => (iter (fun z18 => Z3l p0 z18.1 z18.2) big ((List.replicate (Int.toNat (p0.length : Int)) 0), 0)).bind fun y19 => Z83 y19
theorem Zdg (p0 : List Int) (r : List Int) (h : Z82 p0 = some r) : Ok Tryz.prog 165 [C.im kI64 1 p0] [] (fun c qs => ∃ (v17 : Value), c = C.val v17 ∧ qs = [Obj.arr v17 2 kI64 1 r]) := by
 refine Ok.of_body (rs := [.tmp 2]) Tryz.func165 rfl rfl rfl rfl rfl fun X => ?_
 unfold Z82 at h
 refine zz ?_
 refine ob' h fun u2 c1 h => ?_
 refine Ops.h (ns := []) rfl rfl (op_makeSlice (k := kI64) (z := 0) ar_26 ze_2 (cells_zero rfl rfl) rfl rfl (make_ok c1).1 (make_ok c1).2 (make_ok63 (by decide) c1) rfl) ?_
 rintro _ _ ⟨b3, rfl, rfl⟩
 refine Ops.v rfl (op_assign rfl rfl) ?_
 refine Ops.nil ?_
 refine AW.seq ?_
 refine AW.cut (τ := List Int) (fun l16 => ⟨[(3, C.val (.slice (some ⟨b3, 0, none⟩) (Int.toNat (p0.length : Int)) (Int.toNat (p0.length : Int))))], [Obj.arr (.slice (some ⟨b3, 0, none⟩) (Int.toNat (p0.length : Int)) (Int.toNat (p0.length : Int))) 2 kI64 1 l16]⟩) (fun l16 => Z83 l16 = some r) ?_ ?_
 ·
  refine zz ?_
  refine ob' h fun o20 g21 q22 => ?_
  refine AW.loop (τ := List Int × Int) (x := ((List.replicate (Int.toNat (p0.length : Int)) 0), 0)) (fun (l9, x10) => ⟨[(0, C.im kI64 1 p0), (3, C.val (.slice (some ⟨b3, 0, none⟩) (Int.toNat (p0.length : Int)) (Int.toNat (p0.length : Int)))), (4, C.int x10)], [Obj.arr (.slice (some ⟨b3, 0, none⟩) (Int.toNat (p0.length : Int)) (Int.toNat (p0.length : Int))) 2 kI64 1 l9]⟩) (fun k (l9, x10) => iter (fun z18 => Z3l p0 z18.1 z18.2) k (l9, x10) = some o20) g21 (Ghost.both (ns := [0]) rfl rfl) ?_
  rintro k ⟨l9, x10⟩ i24
  refine iter_succ' (show iter (fun z18 => Z3l p0 z18.1 z18.2) k (l9, x10) = some o20 from i24) fun k23 y25 hlt_k23 h h26 => ?_
  replace h : Z3l p0 l9 x10 = some y25 := h
  unfold Z3l at h
  refine zz ?_
  refine cnd h (fun hb11 h => ?_) fun hb11 h => ?_
  ·
   refine AW.ct hb11 rfl ?_
   refine zz ?_
   refine ob' h fun e12 g13 h => ?_
   refine Ops.v rfl (op_indexAddr_im sl_26.h rfl rfl g13 rfl) ?_
   refine Ops.v rfl (op_load_ip ld_2.h rfl rfl) ?_
   refine ob' h fun e14 g15 h => ?_
   refine Ops.v rfl (op_indexAddr_arr (p := 0) sl_26.h rfl rfl rfl g15 rfl) ?_
   refine Ops.hd (ns := [0]) rfl rfl (op_store_arr (e' := e12) ld_2.h rfl rfl (One.val rfl) (getI_lt g15).2.2 rfl rfl) ?_
   refine zz ?_
   obtain rfl := Option.some.inj h
   exact ⟨k23, ((List.set l9 (Int.toNat x10) e12), (IntKind.i64.wrap (x10 + 1))), hlt_k23, h26, Ghost.both (ns := [0]) rfl rfl⟩
  refine AW.cf hb11 rfl ?_
  refine AW.exit ?_
  obtain rfl := Option.some.inj h
  obtain rfl := Option.some.inj h26
  replace h := q22
  exact ⟨l9, h, Ghost.both (ns := [0]) rfl rfl⟩
 intro l16 h
 replace h : Z83 l16 = some r := h
 unfold Z83 at h
 refine zz ?_
 refine AW.ret ?_
 rw [← Option.some.inj h]
 exact ⟨[C.val (.slice (some ⟨b3, 0, none⟩) (Int.toNat (p0.length : Int)) (Int.toNat (p0.length : Int)))], _, Ghost.refl _, (.cons (.tmp rfl) .nil), [0], _, _, rfl, ⟨(.slice (some ⟨b3, 0, none⟩) (Int.toNat (p0.length : Int)) (Int.toNat (p0.length : Int))), rfl, rfl⟩⟩
def Z80 (p0 : TEvent) : Option TEvent := (Z82 p0.prev).bind fun r4 => some (TEvent.mk p0.id p0.room p0.author p0.kind p0.key p0.n p0.text r4 p0.time)
theorem Zdf (p0 : TEvent) (r : TEvent) (h : Z80 p0 = some r) : Ok Tryz.prog 110 [C.agg [C.int p0.id, C.int p0.room, C.int p0.author, C.int p0.kind, C.int p0.key, C.int p0.n, C.str p0.text, C.im kI64 1 p0.prev, C.int p0.time]] [] (fun c qs => ∃ (v8 : Value), c = C.agg [C.int r.id, C.int r.room, C.int r.author, C.int r.kind, C.int r.key, C.int r.n, C.str r.text, C.val v8, C.int r.time] ∧ qs = [Obj.arr v8 2 kI64 1 r.prev]) := by
 refine Ok.of_body (rs := [.cell 2 38]) Tryz.func110 rfl rfl rfl rfl rfl fun X => ?_
 unfold Z80 at h
 refine zz ?_
 refine Ops.h (ns := []) rfl rfl (op_boxA rfl rfl) ?_
 rintro _ _ ⟨b1, rfl, rfl⟩
 refine Ops.h (ns := []) rfl rfl (op_alloc (cs := [C.int 0, C.int 0, C.int 0, C.int 0, C.int 0, C.int 0, C.str ByteArray.empty, C.val (.slice none 0 0), C.int 0]) ze_38 (cells_zero rfl rfl) rfl) ?_
 rintro _ _ ⟨b2, rfl, rfl⟩
 refine zz ?_
 refine Ops.h (ns := []) rfl rfl (op_alloc (cs := [C.int 0, C.int 0, C.int 0, C.int 0, C.int 0, C.int 0, C.str ByteArray.empty, C.val (.slice none 0 0), C.int 0]) ze_38 (cells_zero rfl rfl) rfl) ?_
 rintro _ _ ⟨b3, rfl, rfl⟩
 refine zz ?_
 refine Ops.hd (ns := [0]) rfl rfl (op_store (gs := [C.int p0.id, C.int 0, C.int 0, C.int 0, C.int 0, C.int 0, C.str ByteArray.empty, C.val (.slice none 0 0), C.int 0]) ld_2.h rfl rfl (One.val rfl) rfl rfl) ?_
 refine zz ?_
 refine Ops.hd (ns := [0]) rfl rfl (op_store (gs := [C.int p0.id, C.int p0.room, C.int 0, C.int 0, C.int 0, C.int 0, C.str ByteArray.empty, C.val (.slice none 0 0), C.int 0]) ld_2.h rfl rfl (One.val rfl) rfl rfl) ?_
 refine zz ?_
 refine Ops.hd (ns := [0]) rfl rfl (op_store (gs := [C.int p0.id, C.int p0.room, C.int p0.author, C.int 0, C.int 0, C.int 0, C.str ByteArray.empty, C.val (.slice none 0 0), C.int 0]) ld_2.h rfl rfl (One.val rfl) rfl rfl) ?_
 refine zz ?_
 refine Ops.hd (ns := [0]) rfl rfl (op_store (gs := [C.int p0.id, C.int p0.room, C.int p0.author, C.int p0.kind, C.int 0, C.int 0, C.str ByteArray.empty, C.val (.slice none 0 0), C.int 0]) ld_2.h rfl rfl (One.val rfl) rfl rfl) ?_
 refine zz ?_
 refine Ops.hd (ns := [0]) rfl rfl (op_store (gs := [C.int p0.id, C.int p0.room, C.int p0.author, C.int p0.kind, C.int p0.key, C.int 0, C.str ByteArray.empty, C.val (.slice none 0 0), C.int 0]) ld_2.h rfl rfl (One.val rfl) rfl rfl) ?_
 refine zz ?_
 refine Ops.hd (ns := [0]) rfl rfl (op_store (gs := [C.int p0.id, C.int p0.room, C.int p0.author, C.int p0.kind, C.int p0.key, C.int p0.n, C.str ByteArray.empty, C.val (.slice none 0 0), C.int 0]) ld_2.h rfl rfl (One.val rfl) rfl rfl) ?_
 refine zz ?_
 refine Ops.hd (ns := [0]) rfl rfl (op_store (gs := [C.int p0.id, C.int p0.room, C.int p0.author, C.int p0.kind, C.int p0.key, C.int p0.n, C.str p0.text, C.val (.slice none 0 0), C.int 0]) ld_9.h rfl rfl (One.val rfl) rfl rfl) ?_
 refine zz ?_
 refine ob' h fun r4 g5 h => ?_
 refine Ops.h (ns := []) rfl rfl (op_call (Zdg _ _ g5) rfl rfl) ?_
 rintro _ _ ⟨_, ⟨v6, rfl, rfl⟩, rfl⟩
 refine Ops.v rfl (op_fieldAddr fo_38_7.h rfl rfl) ?_
 refine Ops.learn (Sim.arr_one (p := 0) rfl) fun n7 => ?_
 refine Ops.hd (ns := [1]) rfl rfl (op_store (gs := [C.int p0.id, C.int p0.room, C.int p0.author, C.int p0.kind, C.int p0.key, C.int p0.n, C.str p0.text, C.val v6, C.int 0]) ld_26.h rfl rfl (One.val n7) rfl rfl) ?_
 refine zz ?_
 refine Ops.v rfl (op_load (p := 3) ld_2.h rfl rfl rfl rfl) ?_
 refine zz ?_
 refine Ops.hd (ns := [0]) rfl rfl (op_store (gs := [C.int p0.id, C.int p0.room, C.int p0.author, C.int p0.kind, C.int p0.key, C.int p0.n, C.str p0.text, C.val v6, C.int p0.time]) ld_2.h rfl rfl (One.val rfl) rfl rfl) ?_
 refine zz ?_
 refine Ops.v rfl (op_loadA (p := 0) (ds := [C.int p0.id, C.int p0.room, C.int p0.author, C.int p0.kind, C.int p0.key, C.int p0.n, C.str p0.text, C.val v6, C.int p0.time]) ld_38.h rfl rfl rfl rfl rfl) ?_
 refine Ops.hd (ns := [2]) rfl rfl (op_storeA (gs := [C.int p0.id, C.int p0.room, C.int p0.author, C.int p0.kind, C.int p0.key, C.int p0.n, C.str p0.text, C.val v6, C.int p0.time]) ld_38.h rfl rfl rfl rfl rfl) ?_
 refine zz ?_
 refine AW.ret ?_
 rw [← Option.some.inj h]
 exact ⟨[C.agg [C.int p0.id, C.int p0.room, C.int p0.author, C.int p0.kind, C.int p0.key, C.int p0.n, C.str p0.text, C.val v6, C.int p0.time]], _, Ghost.refl _, (.cons (.cell (p := 0) rfl rfl ld_38.h rfl) .nil), [2], _, _, rfl, ⟨v6, rfl, rfl⟩⟩
def Z81 (l22 : List TEvent) : Option (List TEvent) := some l22
def Z3k (p0 : List TEvent) (l12 : List TEvent) (x13 : Int) : Option ((List TEvent × Int) ⊕ ((List TEvent))) := cond (decide (x13 < (p0.length : Int))) ((getI p0 x13).bind fun e15 => (Z80 e15).bind fun r17 => (getI l12 x13).bind fun e20 => some (.inl ((List.set l12 (Int.toNat x13) r17), (IntKind.i64.wrap (x13 + 1))))) (some (.inr l12))
def Z5p (p0 : List TEvent) : Option (List TEvent) := (chk (decide (0 ≤ (p0.length : Int) ∧ (p0.length : Int) * 96 ≤ 140737488355328))).bind fun u2 => (iter (fun z24 => Z3k p0 z24.1 z24.2) big ((List.replicate (Int.toNat (p0.length : Int)) (TEvent.mk 0 0 0 0 0 0 ByteArray.empty [] 0)), 0)).bind fun y25 => Z81 y25
theorem Zc2 (p0 : List TEvent) (r : List TEvent) (h : Z5p p0 = some r) : Ok Tryz.prog 59 [C.im kEvent 9 p0] [] (fun c qs => ∃ (v23 : Value), c = C.val v23 ∧ qs = [Obj.deep v23 38 kdEvent obEvent 9 r]) := by
 refine Ok.of_body (rs := [.tmp 2]) Tryz.func59 rfl rfl rfl rfl rfl fun X => ?_
 unfold Z5p at h
 refine zz ?_
 refine ob' h fun u2 c1 h => ?_
 refine Ops.h (ns := []) rfl rfl (op_makeSlice_deep (k := kdEvent) (ob := obEvent) (z := (TEvent.mk 0 0 0 0 0 0 ByteArray.empty [] 0)) (u0 := (.slice none 0 0)) ar_28 ze_38 (cells_zero rfl rfl) (fun _ _ => (Own.none_cons rep_nil_arr Own.none_nil)) rfl rfl (make_ok c1).1 (make_ok c1).2 (make_ok63 (by decide) c1) rfl) ?_
 rintro _ _ ⟨b3, rfl, rfl⟩
 refine Ops.v rfl (op_assign rfl rfl) ?_
 refine Ops.nil ?_
 refine AW.seq ?_
 refine AW.cut (τ := List TEvent) (fun l22 => ⟨[(3, C.val (.slice (some ⟨b3, 0, none⟩) (Int.toNat (p0.length : Int)) (Int.toNat (p0.length : Int))))], [Obj.deep (.slice (some ⟨b3, 0, none⟩) (Int.toNat (p0.length : Int)) (Int.toNat (p0.length : Int))) 38 kdEvent obEvent 9 l22]⟩) (fun l22 => Z81 l22 = some r) ?_ ?_
 ·
  refine zz ?_
  refine ob' h fun o26 g27 q28 => ?_
  refine AW.loop (τ := List TEvent × Int) (x := ((List.replicate (Int.toNat (p0.length : Int)) (TEvent.mk 0 0 0 0 0 0 ByteArray.empty [] 0)), 0)) (fun (l12, x13) => ⟨[(0, C.im kEvent 9 p0), (3, C.val (.slice (some ⟨b3, 0, none⟩) (Int.toNat (p0.length : Int)) (Int.toNat (p0.length : Int)))), (4, C.int x13)], [Obj.deep (.slice (some ⟨b3, 0, none⟩) (Int.toNat (p0.length : Int)) (Int.toNat (p0.length : Int))) 38 kdEvent obEvent 9 l12]⟩) (fun k (l12, x13) => iter (fun z24 => Z3k p0 z24.1 z24.2) k (l12, x13) = some o26) g27 (Ghost.both (ns := [0]) rfl rfl) ?_
  rintro k ⟨l12, x13⟩ i30
  refine iter_succ' (show iter (fun z24 => Z3k p0 z24.1 z24.2) k (l12, x13) = some o26 from i30) fun k29 y31 hlt_k29 h h32 => ?_
  replace h : Z3k p0 l12 x13 = some y31 := h
  unfold Z3k at h
  refine zz ?_
  refine cnd h (fun hb14 h => ?_) fun hb14 h => ?_
  ·
   refine AW.ct hb14 rfl ?_
   refine zz ?_
   refine ob' h fun e15 g16 h => ?_
   refine Ops.v rfl (op_indexAddr_im sl_22.h rfl rfl g16 rfl) ?_
   refine Ops.v rfl (op_load_ipA ld_112.h rfl rfl rfl rfl) ?_
   refine ob' h fun r17 g18 h => ?_
   refine Ops.h (ns := []) rfl rfl (op_call (Zdf _ _ g18) rfl rfl) ?_
   rintro _ _ ⟨_, ⟨v19, rfl, rfl⟩, rfl⟩
   refine ob' h fun e20 g21 h => ?_
   refine Ops.v rfl (op_indexAddr_deep (p := 1) sl_28.h rfl rfl rfl g21 rfl) ?_
   refine Ops.hd (ns := [1, 0]) rfl rfl (op_storeA_deep (e' := r17) (u' := v19) ld_38.h rfl rfl rfl (getI_lt g21).2.2 (fun _ => rfl) rfl rfl) ?_
   refine zz ?_
   obtain rfl := Option.some.inj h
   exact ⟨k29, ((List.set l12 (Int.toNat x13) r17), (IntKind.i64.wrap (x13 + 1))), hlt_k29, h32, Ghost.both (ns := [0]) rfl rfl⟩
  refine AW.cf hb14 rfl ?_
  refine AW.exit ?_
  obtain rfl := Option.some.inj h
  obtain rfl := Option.some.inj h32
  replace h := q28
  exact ⟨l12, h, Ghost.both (ns := [0]) rfl rfl⟩
 intro l22 h
 replace h : Z81 l22 = some r := h
 unfold Z81 at h
 refine zz ?_
 refine AW.ret ?_
 rw [← Option.some.inj h]
 exact ⟨[C.val (.slice (some ⟨b3, 0, none⟩) (Int.toNat (p0.length : Int)) (Int.toNat (p0.length : Int)))], _, Ghost.refl _, (.cons (.tmp rfl) .nil), [0], _, _, rfl, ⟨(.slice (some ⟨b3, 0, none⟩) (Int.toNat (p0.length : Int)) (Int.toNat (p0.length : Int))), rfl, rfl⟩⟩
def Z1w (p0 : TGraph) : Option TGraph' := (Z5p p0.events).bind fun r4 => (Z5p p0.parked).bind fun r8 => some (TGraph'.mk p0.room r4 r8)
theorem Z85 (p0 : TGraph) (r : TGraph') (h : Z1w p0 = some r) : Ok Tryz.prog 11 [C.agg [C.int p0.room, C.im kEvent 9 p0.events, C.im kEvent 9 p0.parked]] [] (fun c qs => ∃ (v12 : Value) (v13 : Value), c = C.agg [C.int r.room, C.val v12, C.val v13] ∧ qs = [Obj.deep v12 38 kdEvent obEvent 9 r.events, Obj.deep v13 38 kdEvent obEvent 9 r.parked]) := by
 refine Ok.of_body (rs := [.cell 2 30]) Tryz.func11 rfl rfl rfl rfl rfl fun X => ?_
 unfold Z1w at h
 refine zz ?_
 refine Ops.h (ns := []) rfl rfl (op_boxA rfl rfl) ?_
 rintro _ _ ⟨b1, rfl, rfl⟩
 refine Ops.h (ns := []) rfl rfl (op_alloc (cs := [C.int 0, C.val (.slice none 0 0), C.val (.slice none 0 0)]) ze_30 (cells_zero rfl rfl) rfl) ?_
 rintro _ _ ⟨b2, rfl, rfl⟩
 refine zz ?_
 refine Ops.h (ns := []) rfl rfl (op_alloc (cs := [C.int 0, C.val (.slice none 0 0), C.val (.slice none 0 0)]) ze_30 (cells_zero rfl rfl) rfl) ?_
 rintro _ _ ⟨b3, rfl, rfl⟩
 refine zz ?_
 refine Ops.hd (ns := [0]) rfl rfl (op_store (gs := [C.int p0.room, C.val (.slice none 0 0), C.val (.slice none 0 0)]) ld_2.h rfl rfl (One.val rfl) rfl rfl) ?_
 refine zz ?_
 refine ob' h fun r4 g5 h => ?_
 refine Ops.h (ns := []) rfl rfl (op_call (Zc2 _ _ g5) rfl rfl) ?_
 rintro _ _ ⟨_, ⟨v6, rfl, rfl⟩, rfl⟩
 refine Ops.v rfl (op_fieldAddr fo_30_1.h rfl rfl) ?_
 refine Ops.learn (Sim.deep_one (p := 0) rfl) fun n7 => ?_
 refine Ops.hd (ns := [1]) rfl rfl (op_store (gs := [C.int p0.room, C.val v6, C.val (.slice none 0 0)]) ld_28.h rfl rfl (One.val n7) rfl rfl) ?_
 refine zz ?_
 refine Ops.v rfl (op_load (p := 3) ld_22.h rfl rfl rfl rfl) ?_
 refine ob' h fun r8 g9 h => ?_
 refine Ops.h (ns := []) rfl rfl (op_call (Zc2 _ _ g9) rfl rfl) ?_
 rintro _ _ ⟨_, ⟨v10, rfl, rfl⟩, rfl⟩
 refine Ops.v rfl (op_fieldAddr fo_30_2.h rfl rfl) ?_
 refine Ops.learn (Sim.deep_one (p := 0) rfl) fun n11 => ?_
 refine Ops.hd (ns := [1]) rfl rfl (op_store (gs := [C.int p0.room, C.val v6, C.val v10]) ld_28.h rfl rfl (One.val n11) rfl rfl) ?_
 refine zz ?_
 refine Ops.v rfl (op_loadA (p := 0) (ds := [C.int p0.room, C.val v6, C.val v10]) ld_30.h rfl rfl rfl rfl rfl) ?_
 refine Ops.hd (ns := [3]) rfl rfl (op_storeA (gs := [C.int p0.room, C.val v6, C.val v10]) ld_30.h rfl rfl rfl rfl rfl) ?_
 refine zz ?_
 refine AW.ret ?_
 rw [← Option.some.inj h]
 exact ⟨[C.agg [C.int p0.room, C.val v6, C.val v10]], _, Ghost.refl _, (.cons (.cell (p := 0) rfl rfl ld_30.h rfl) .nil), [3, 2], _, _, rfl, ⟨v6, v10, rfl, rfl⟩⟩
theorem Z85' (p0 : TGraph) (r : TGraph') (h : Z1w p0 = some r) : Ok Tryz.prog 11 [C.agg [C.int p0.room, C.im kEvent 9 p0.events, C.im kEvent 9 p0.parked]] [] (fun c qs => c = C.agg [C.int r.room, C.im kEvent 9 r.events, C.im kEvent 9 r.parked] ∧ qs = []) :=
  Ok.freeze (Z85 p0 r h) (by rintro c qs ⟨v12, v13, rfl, rfl⟩; exact Frz.agg (FrzL.cons (os := []) (Frz.same _) (FrzL.cons (os := [_]) ((Frz.deep frz_kdEvent)) (FrzL.cons (os := [_]) ((Frz.deep frz_kdEvent)) (FrzL.nil)))))

def Z69 (x2 : Bool) : Option Bool := some x2
def Z8 (p0 : Int) (p1 : Int) (p2 : Int) : Option Bool := cond (decide (p0 ≥ p1)) (Z69 (decide (p0 ≤ p2))) (Z69 false)
theorem Zp (p0 : Int) (p1 : Int) (p2 : Int) (r : Bool) (h : Z8 p0 p1 p2 = some r) : Ok Tryz.prog 104 [C.int p0, C.int p1, C.int p2] [] (fun c qs => c = C.bool r ∧ qs = []) := by
 refine Ok.of_body (rs := [.tmp 6]) Tryz.func104 rfl rfl rfl rfl rfl fun X => ?_
 unfold Z8 at h
 refine AW.seq ?_
 refine AW.region ?_
 refine Ops.v rfl (op_assign rfl rfl) ?_
 refine Ops.nil ?_
 refine AW.seq ?_
 refine AW.cut (τ := Bool) (fun x2 => ⟨[(6, C.bool x2)], []⟩) (fun x2 => Z69 x2 = some r) ?_ ?_
 ·
  refine zz ?_
  refine cnd h (fun hb1 h => ?_) fun hb1 h => ?_
  ·
   refine zz ?_
   exact ⟨decide (p0 ≤ p2), h, Ghost.both (ns := []) rfl rfl⟩
  refine zz ?_
  exact ⟨false, h, Ghost.both (ns := []) rfl rfl⟩
 intro x2 h
 replace h : Z69 x2 = some r := h
 unfold Z69 at h
 refine AW.ret ?_
 rw [← Option.some.inj h]
 exact ⟨[C.bool x2], _, Ghost.refl _, (.cons (.tmp rfl) .nil), [], _, _, rfl, ⟨rfl, rfl⟩⟩

def Z48 (p0 : Int) : Option Bool := (Z8 p0 1 1000000).bind fun r1 => some r1
theorem Zbd (p0 : Int) (r : Bool) (h : Z48 p0 = some r) : Ok Tryz.prog 152 [C.int p0] [] (fun c qs => c = C.bool r ∧ qs = []) := by
 refine Ok.of_body (rs := [.tmp 2]) Tryz.func152 rfl rfl rfl rfl rfl fun X => ?_
 unfold Z48 at h
 refine zz ?_
 refine ob' h fun r1 g2 h => ?_
 refine Ops.hd (ns := []) rfl rfl (op_callE (Zp _ _ _ _ g2) rfl rfl) ?_
 refine zz ?_
 refine AW.ret ?_
 rw [← Option.some.inj h]
 exact ⟨[C.bool r1], _, Ghost.refl _, (.cons (.tmp rfl) .nil), [], _, _, rfl, ⟨rfl, rfl⟩⟩

def Z2b (p0 : Int) : Option Bool := (Z8 p0 1 6).bind fun r1 => some r1
theorem Za5 (p0 : Int) (r : Bool) (h : Z2b p0 = some r) : Ok Tryz.prog 55 [C.int p0] [] (fun c qs => c = C.bool r ∧ qs = []) := by
 refine Ok.of_body (rs := [.tmp 2]) Tryz.func55 rfl rfl rfl rfl rfl fun X => ?_
 unfold Z2b at h
 refine zz ?_
 refine ob' h fun r1 g2 h => ?_
 refine Ops.hd (ns := []) rfl rfl (op_callE (Zp _ _ _ _ g2) rfl rfl) ?_
 refine zz ?_
 refine AW.ret ?_
 rw [← Option.some.inj h]
 exact ⟨[C.bool r1], _, Ghost.refl _, (.cons (.tmp rfl) .nil), [], _, _, rfl, ⟨rfl, rfl⟩⟩

def Z8s (p0 : Int) : Option Bool := (Z8 p0 0 1000000).bind fun r1 => some r1
theorem Zea (p0 : Int) (r : Bool) (h : Z8s p0 = some r) : Ok Tryz.prog 153 [C.int p0] [] (fun c qs => c = C.bool r ∧ qs = []) := by
 refine Ok.of_body (rs := [.tmp 2]) Tryz.func153 rfl rfl rfl rfl rfl fun X => ?_
 unfold Z8s at h
 refine zz ?_
 refine ob' h fun r1 g2 h => ?_
 refine Ops.hd (ns := []) rfl rfl (op_callE (Zp _ _ _ _ g2) rfl rfl) ?_
 refine zz ?_
 refine AW.ret ?_
 rw [← Option.some.inj h]
 exact ⟨[C.bool r1], _, Ghost.refl _, (.cons (.tmp rfl) .nil), [], _, _, rfl, ⟨rfl, rfl⟩⟩

def Zaw : Option Bool := some true
def Z2a (x14 : Int) (x25 : Bool) : Option (Int ⊕ (Bool ⊕ Unit)) := cond x25 (some (.inr (.inl false))) (some (.inl (IntKind.i64.wrap (x14 + 1))))
def Z49 (p0 : List Int) (p1 : Int) (x14 : Int) : Option (Int ⊕ (Bool ⊕ Unit)) := cond (decide (x14 < (p0.length : Int))) ((getI p0 x14).bind fun e16 => (Z48 e16).bind fun r18 => cond r18 (cond (e16 == p1) (Z2a x14 true) (cond (decide (x14 > 0)) ((getI p0 (IntKind.i64.wrap (x14 - 1))).bind fun e23 => Z2a x14 (decide (e23 ≥ e16))) (Z2a x14 false))) (Z2a x14 true)) (some (.inr (.inr ())))
def Z8r (p0 : List Int) (p1 : Int) : Option Bool := cond (decide ((p0.length : Int) > 4)) (some false) ((iter (Z49 p0 p1) big 0).bind (fun z28 => match z28 with | .inl y27 => some y27 | .inr () => Zaw))
set_option maxHeartbeats 1000000 in
theorem Ze9 (p0 : List Int) (p1 : Int) (r : Bool) (h : Z8r p0 p1 = some r) : Ok Tryz.prog 154 [C.im kI64 1 p0, C.int p1] [] (fun c qs => c = C.bool r ∧ qs = []) := by
 refine Ok.of_body (rs := [.tmp 4]) Tryz.func154 rfl rfl rfl rfl rfl fun X => ?_
 unfold Z8r at h
 refine zz ?_
 refine cnd h (fun hb1 h => ?_) fun hb1 h => ?_
 ·
  refine AW.ct hb1 rfl ?_
  refine zz ?_
  refine AW.ret ?_
  rw [← Option.some.inj h]
  exact ⟨[C.bool false], _, Ghost.refl _, (.cons (.tmp rfl) .nil), [], _, _, rfl, ⟨rfl, rfl⟩⟩
 refine AW.cf hb1 rfl ?_
 refine AW.skip ?_
 refine AW.seq ?_
 refine AW.cut (τ := Unit) (fun (_ : Unit) => ⟨[], []⟩) (fun (_ : Unit) => Zaw = some r) ?_ ?_
 ·
  refine zz ?_
  refine ob' h fun o29 g30 q31 => ?_
  refine AW.loop (τ := Int) (x := 0) (fun x14 => ⟨[(0, C.im kI64 1 p0), (1, C.int p1), (5, C.int x14)], []⟩) (fun k x14 => iter (Z49 p0 p1) k x14 = some o29) g30 (Ghost.both (ns := []) rfl rfl) ?_
  intro k x14 i33
  refine iter_succ' (show iter (Z49 p0 p1) k x14 = some o29 from i33) fun k32 y34 hlt_k32 h h35 => ?_
  replace h : Z49 p0 p1 x14 = some y34 := h
  unfold Z49 at h
  refine zz ?_
  refine cnd h (fun hb15 h => ?_) fun hb15 h => ?_
  ·
   refine AW.ct hb15 rfl ?_
   refine AW.skip ?_
   refine AW.seq ?_
   refine AW.block ?_
   refine AW.seq ?_
   refine AW.cut (τ := Bool) (fun x25 => ⟨[(0, C.im kI64 1 p0), (1, C.int p1), (5, C.int x14), (44, C.bool x25)], []⟩) (fun x25 => Z2a x14 x25 = some y34) ?_ ?_
   ·
    refine AW.regionD (L := [3, 10, 22, 26]) (Lt := []) (k := .light 0 false (.light 1 false (.light 2 false (.light 3 true (.one 4 (.light 5 false (.light 6 false (.light 7 false (.light 8 false (.light 9 false (.light 10 true (.light 11 false (.light 12 false (.light 13 false (.light 14 false (.light 15 false (.light 16 false (.light 17 false (.light 18 false (.light 19 false (.light 20 false (.light 21 false (.light 22 true (.light 23 false (.light 24 false (.light 25 false (.light 26 true (.light 27 false (.light 28 false (.light 29 false .done)))))))))))))))))))))))))))))) (ns := []) (by kernel_rfl) (by kernel_rfl) (by kernel_rfl) (by kernel_rfl) rfl ?_
    refine zz ?_
    refine ob' h fun e16 g17 h => ?_
    refine OpsD.v rfl rfl (op_indexAddr_im sl_26.h rfl rfl g17 rfl) ?_
    refine OpsD.v rfl rfl (op_load_ip ld_2.h rfl rfl) ?_
    refine zz ?_
    refine ob' h fun r18 g19 h => ?_
    refine StepD.h (ns := []) rfl rfl rfl (op_callE (Zbd _ _ g19) rfl rfl) ?_
    rintro _ _ ⟨rfl, rfl⟩
    refine zz ?_
    refine cnd h (fun hb20 h => ?_) fun hb20 h => ?_
    ·
     iterate 2 refine OpsD.gv rfl rfl rfl rfl rfl (not_t hb20) (op_move rfl rfl) ?_
     refine OpsD.gv rfl rfl rfl rfl rfl (not_t hb20) (op_indexAddr_im sl_26.h rfl rfl g17 rfl) ?_
     refine OpsD.gv rfl rfl rfl rfl rfl (not_t hb20) (op_load_ip ld_2.h rfl rfl) ?_
     refine OpsD.gv rfl rfl rfl rfl rfl (not_t hb20) (op_move rfl rfl) ?_
     refine OpsD.gv rfl rfl rfl rfl rfl (not_t hb20) (op_bin rfl rfl rfl rfl) ?_
     refine OpsD.v rfl rfl (op_pick_f rfl (not_t hb20) rfl rfl) ?_
     refine zz ?_
     refine cnd h (fun hb21 h => ?_) fun hb21 h => ?_
     ·
      refine zz ?_
      exact ⟨true, h, Ghost.both (ns := []) rfl rfl⟩
     refine zz ?_
     refine cnd h (fun hb22 h => ?_) fun hb22 h => ?_
     ·
      refine zz ?_
      refine ob' h fun e23 g24 h => ?_
      refine OpsD.gv rfl rfl rfl rfl rfl hb22 (op_indexAddr_im sl_26.h rfl rfl g24 rfl) ?_
      refine OpsD.gv rfl rfl rfl rfl rfl hb22 (op_load_ip ld_2.h rfl rfl) ?_
      refine zz ?_
      refine OpsD.gv rfl rfl rfl rfl rfl hb22 (op_indexAddr_im sl_26.h rfl rfl g17 rfl) ?_
      refine OpsD.gv rfl rfl rfl rfl rfl hb22 (op_load_ip ld_2.h rfl rfl) ?_
      refine zz ?_
      exact ⟨decide (e23 ≥ e16), h, Ghost.both (ns := []) rfl rfl⟩
     refine zz ?_
     exact ⟨false, h, Ghost.both (ns := []) rfl rfl⟩
    iterate 6 refine OpsD.gs rfl rfl rfl rfl (.b rfl (not_f hb20)) rfl rfl ?_
    refine OpsD.v rfl rfl (op_pick_t rfl (not_f hb20) rfl rfl) ?_
    refine zz ?_
    exact ⟨true, h, Ghost.both (ns := []) rfl rfl⟩
   intro x25 h
   replace h : Z2a x14 x25 = some y34 := h
   unfold Z2a at h
   refine cnd h (fun hb26 h => ?_) fun hb26 h => ?_
   ·
    refine AW.ct hb26 rfl ?_
    refine zz ?_
    refine AW.ret ?_
    obtain rfl := Option.some.inj h
    obtain rfl := Option.some.inj h35
    replace h := q31
    rw [← Option.some.inj h]
    exact ⟨[C.bool false], _, Ghost.refl _, (.cons (.tmp rfl) .nil), [], _, _, rfl, ⟨rfl, rfl⟩⟩
   refine AW.cf hb26 rfl ?_
   refine zz ?_
   obtain rfl := Option.some.inj h
   exact ⟨k32, (IntKind.i64.wrap (x14 + 1)), hlt_k32, h35, Ghost.both (ns := []) rfl rfl⟩
  refine AW.cf hb15 rfl ?_
  refine AW.exit ?_
  obtain rfl := Option.some.inj h
  obtain rfl := Option.some.inj h35
  replace h := q31
  exact ⟨(), h, Ghost.both (ns := []) rfl rfl⟩
 rintro ⟨⟩ h
 replace h : Zaw = some r := h
 unfold Zaw at h
 refine zz ?_
 refine AW.ret ?_
 rw [← Option.some.inj h]
 exact ⟨[C.bool true], _, Ghost.refl _, (.cons (.tmp rfl) .nil), [], _, _, rfl, ⟨rfl, rfl⟩⟩

def Zu (x5 : Bool) : Option Bool := some x5
def Zv (x13 : Bool) : Option Bool := some x13
def Zw (x21 : Bool) : Option Bool := some x21
def Zx (x25 : Bool) : Option Bool := some x25
def Zy (x31 : Bool) : Option Bool := some x31
def Zz (x37 : Bool) : Option Bool := some x37
def Zi (x42 : Bool) : Option Bool := some x42
def Z10 (x48 : Bool) : Option Bool := some x48
def Z29 (p0 : TEvent) : Option Bool := cond (p0.kind == 1) (cond (p0.key == 0) (cond (p0.n == 0) (Zu (p0.text.toList == ByteArray.empty.toList)) (Zu false)) (Zu false)) (cond (p0.kind == 2) ((Z2b p0.key).bind fun r7 => cond r7 ((Z8 p0.n 1 4).bind fun r10 => cond r10 (Zv (p0.text.toList == ByteArray.empty.toList)) (Zv false)) (Zv false)) (cond (p0.kind == 3) ((Z2b p0.key).bind fun r15 => cond r15 ((Z8 p0.n 0 100).bind fun r18 => cond r18 (Zw (p0.text.toList == ByteArray.empty.toList)) (Zw false)) (Zw false)) (cond (p0.kind == 4) (cond (p0.key == 0) (cond (p0.n == 0) (Zx (decide ((p0.text.size : Int) ≤ 30))) (Zx false)) (Zx false)) (cond (p0.kind == 5) (cond (p0.key == 0) ((Z8 p0.n 1 2).bind fun r28 => cond r28 (Zy (p0.text.toList == ByteArray.empty.toList)) (Zy false)) (Zy false)) (cond (p0.kind == 6) (cond (p0.key == 0) ((Z8 p0.n 1 3).bind fun r34 => cond r34 (Zz (p0.text.toList == ByteArray.empty.toList)) (Zz false)) (Zz false)) (cond (p0.kind == 7) (cond (p0.key == 0) (cond (p0.n == 0) (cond (decide ((p0.text.size : Int) ≥ 1)) (Zi (decide ((p0.text.size : Int) ≤ 30))) (Zi false)) (Zi false)) (Zi false)) (cond (p0.kind == 8) ((Z48 p0.key).bind fun r44 => cond r44 (cond (p0.n == 0) (Z10 (p0.text.toList == ByteArray.empty.toList)) (Z10 false)) (Z10 false)) (some false))))))))
set_option maxHeartbeats 1000000 in
theorem Ze8 (p0 : TEvent) (r : Bool) (h : Z29 p0 = some r) : Ok Tryz.prog 155 [C.agg [C.int p0.id, C.int p0.room, C.int p0.author, C.int p0.kind, C.int p0.key, C.int p0.n, C.str p0.text, C.im kI64 1 p0.prev, C.int p0.time]] [] (fun c qs => c = C.bool r ∧ qs = []) := by
 refine Ok.of_body (rs := [.tmp 2]) Tryz.func155 rfl rfl rfl rfl rfl fun X => ?_
 unfold Z29 at h
 refine zz ?_
 refine Ops.h (ns := []) rfl rfl (op_boxA rfl rfl) ?_
 rintro _ _ ⟨b1, rfl, rfl⟩
 refine zz ?_
 refine AW.regionD (L := [1, 4, 7]) (Lt := []) (k := .light 0 false (.light 1 true (.light 2 false (.light 3 false (.light 4 true (.light 5 false (.light 6 false (.light 7 true (.light 8 false (.light 9 false (.light 10 false (.light 11 false .done)))))))))))) (ns := [0]) (by kernel_rfl) (by kernel_rfl) (by kernel_rfl) (by kernel_rfl) rfl ?_
 refine zz ?_
 refine cnd h (fun hb2 h => ?_) fun hb2 h => ?_
 ·
  refine AW.ct hb2 rfl ?_
  refine AW.seq ?_
  refine AW.cut (τ := Bool) (fun x5 => ⟨[(2, C.bool x5)], []⟩) (fun x5 => Zu x5 = some r) ?_ ?_
  ·
   refine zz ?_
   refine cnd h (fun hb3 h => ?_) fun hb3 h => ?_
   ·
    refine zz ?_
    refine cnd h (fun hb4 h => ?_) fun hb4 h => ?_
    ·
     refine zz ?_
     exact ⟨(p0.text.toList == ByteArray.empty.toList), h, Ghost.both (ns := []) rfl rfl⟩
    refine zz ?_
    exact ⟨false, h, Ghost.both (ns := []) rfl rfl⟩
   refine zz ?_
   exact ⟨false, h, Ghost.both (ns := []) rfl rfl⟩
  intro x5 h
  replace h : Zu x5 = some r := h
  unfold Zu at h
  refine AW.ret ?_
  rw [← Option.some.inj h]
  exact ⟨[C.bool x5], _, Ghost.refl _, (.cons (.tmp rfl) .nil), [], _, _, rfl, ⟨rfl, rfl⟩⟩
 refine AW.cf hb2 rfl ?_
 refine zz ?_
 refine cnd h (fun hb6 h => ?_) fun hb6 h => ?_
 ·
  refine AW.ct hb6 rfl ?_
  refine AW.seq ?_
  refine AW.cut (τ := Bool) (fun x13 => ⟨[(2, C.bool x13)], []⟩) (fun x13 => Zv x13 = some r) ?_ ?_
  ·
   refine zz ?_
   refine ob' h fun r7 g8 h => ?_
   refine Ops.hd (ns := []) rfl rfl (op_callE (Za5 _ _ g8) rfl rfl) ?_
   refine zz ?_
   refine cnd h (fun hb9 h => ?_) fun hb9 h => ?_
   ·
    refine zz ?_
    refine ob' h fun r10 g11 h => ?_
    refine Ops.ghd (ns := []) rfl rfl rfl rfl hb9 rfl (op_callE (Zp _ _ _ _ g11) rfl rfl) ?_
    refine zz ?_
    refine cnd h (fun hb12 h => ?_) fun hb12 h => ?_
    ·
     refine zz ?_
     exact ⟨(p0.text.toList == ByteArray.empty.toList), h, Ghost.both (ns := []) rfl rfl⟩
    refine zz ?_
    exact ⟨false, h, Ghost.both (ns := []) rfl rfl⟩
   refine zz ?_
   exact ⟨false, h, Ghost.both (ns := []) rfl rfl⟩
  intro x13 h
  replace h : Zv x13 = some r := h
  unfold Zv at h
  refine AW.ret ?_
  rw [← Option.some.inj h]
  exact ⟨[C.bool x13], _, Ghost.refl _, (.cons (.tmp rfl) .nil), [], _, _, rfl, ⟨rfl, rfl⟩⟩
 refine AW.cf hb6 rfl ?_
 refine zz ?_
 refine cnd h (fun hb14 h => ?_) fun hb14 h => ?_
 ·
  refine AW.ct hb14 rfl ?_
  refine AW.seq ?_
  refine AW.cut (τ := Bool) (fun x21 => ⟨[(2, C.bool x21)], []⟩) (fun x21 => Zw x21 = some r) ?_ ?_
  ·
   refine zz ?_
   refine ob' h fun r15 g16 h => ?_
   refine Ops.hd (ns := []) rfl rfl (op_callE (Za5 _ _ g16) rfl rfl) ?_
   refine zz ?_
   refine cnd h (fun hb17 h => ?_) fun hb17 h => ?_
   ·
    refine zz ?_
    refine ob' h fun r18 g19 h => ?_
    refine Ops.ghd (ns := []) rfl rfl rfl rfl hb17 rfl (op_callE (Zp _ _ _ _ g19) rfl rfl) ?_
    refine zz ?_
    refine cnd h (fun hb20 h => ?_) fun hb20 h => ?_
    ·
     refine zz ?_
     exact ⟨(p0.text.toList == ByteArray.empty.toList), h, Ghost.both (ns := []) rfl rfl⟩
    refine zz ?_
    exact ⟨false, h, Ghost.both (ns := []) rfl rfl⟩
   refine zz ?_
   exact ⟨false, h, Ghost.both (ns := []) rfl rfl⟩
  intro x21 h
  replace h : Zw x21 = some r := h
  unfold Zw at h
  refine AW.ret ?_
  rw [← Option.some.inj h]
  exact ⟨[C.bool x21], _, Ghost.refl _, (.cons (.tmp rfl) .nil), [], _, _, rfl, ⟨rfl, rfl⟩⟩
 refine AW.cf hb14 rfl ?_
 refine zz ?_
 refine cnd h (fun hb22 h => ?_) fun hb22 h => ?_
 ·
  refine AW.ct hb22 rfl ?_
  refine AW.seq ?_
  refine AW.cut (τ := Bool) (fun x25 => ⟨[(2, C.bool x25)], []⟩) (fun x25 => Zx x25 = some r) ?_ ?_
  ·
   refine zz ?_
   refine cnd h (fun hb23 h => ?_) fun hb23 h => ?_
   ·
    refine zz ?_
    refine cnd h (fun hb24 h => ?_) fun hb24 h => ?_
    ·
     refine zz ?_
     refine Ops.gv rfl rfl rfl rfl hb24 (op_len_str un_9 rfl rfl) ?_
     refine zz ?_
     exact ⟨decide ((p0.text.size : Int) ≤ 30), h, Ghost.both (ns := []) rfl rfl⟩
    refine zz ?_
    exact ⟨false, h, Ghost.both (ns := []) rfl rfl⟩
   refine zz ?_
   exact ⟨false, h, Ghost.both (ns := []) rfl rfl⟩
  intro x25 h
  replace h : Zx x25 = some r := h
  unfold Zx at h
  refine AW.ret ?_
  rw [← Option.some.inj h]
  exact ⟨[C.bool x25], _, Ghost.refl _, (.cons (.tmp rfl) .nil), [], _, _, rfl, ⟨rfl, rfl⟩⟩
 refine AW.cf hb22 rfl ?_
 refine zz ?_
 refine cnd h (fun hb26 h => ?_) fun hb26 h => ?_
 ·
  refine AW.ct hb26 rfl ?_
  refine AW.seq ?_
  refine AW.cut (τ := Bool) (fun x31 => ⟨[(2, C.bool x31)], []⟩) (fun x31 => Zy x31 = some r) ?_ ?_
  ·
   refine zz ?_
   refine cnd h (fun hb27 h => ?_) fun hb27 h => ?_
   ·
    refine zz ?_
    refine ob' h fun r28 g29 h => ?_
    refine Ops.ghd (ns := []) rfl rfl rfl rfl hb27 rfl (op_callE (Zp _ _ _ _ g29) rfl rfl) ?_
    refine zz ?_
    refine cnd h (fun hb30 h => ?_) fun hb30 h => ?_
    ·
     refine zz ?_
     exact ⟨(p0.text.toList == ByteArray.empty.toList), h, Ghost.both (ns := []) rfl rfl⟩
    refine zz ?_
    exact ⟨false, h, Ghost.both (ns := []) rfl rfl⟩
   refine zz ?_
   exact ⟨false, h, Ghost.both (ns := []) rfl rfl⟩
  intro x31 h
  replace h : Zy x31 = some r := h
  unfold Zy at h
  refine AW.ret ?_
  rw [← Option.some.inj h]
  exact ⟨[C.bool x31], _, Ghost.refl _, (.cons (.tmp rfl) .nil), [], _, _, rfl, ⟨rfl, rfl⟩⟩
 refine AW.cf hb26 rfl ?_
 refine zz ?_
 refine cnd h (fun hb32 h => ?_) fun hb32 h => ?_
 ·
  refine AW.ct hb32 rfl ?_
  refine AW.seq ?_
  refine AW.cut (τ := Bool) (fun x37 => ⟨[(2, C.bool x37)], []⟩) (fun x37 => Zz x37 = some r) ?_ ?_
  ·
   refine zz ?_
   refine cnd h (fun hb33 h => ?_) fun hb33 h => ?_
   ·
    refine zz ?_
    refine ob' h fun r34 g35 h => ?_
    refine Ops.ghd (ns := []) rfl rfl rfl rfl hb33 rfl (op_callE (Zp _ _ _ _ g35) rfl rfl) ?_
    refine zz ?_
    refine cnd h (fun hb36 h => ?_) fun hb36 h => ?_
    ·
     refine zz ?_
     exact ⟨(p0.text.toList == ByteArray.empty.toList), h, Ghost.both (ns := []) rfl rfl⟩
    refine zz ?_
    exact ⟨false, h, Ghost.both (ns := []) rfl rfl⟩
   refine zz ?_
   exact ⟨false, h, Ghost.both (ns := []) rfl rfl⟩
  intro x37 h
  replace h : Zz x37 = some r := h
  unfold Zz at h
  refine AW.ret ?_
  rw [← Option.some.inj h]
  exact ⟨[C.bool x37], _, Ghost.refl _, (.cons (.tmp rfl) .nil), [], _, _, rfl, ⟨rfl, rfl⟩⟩
 refine AW.cf hb32 rfl ?_
 refine zz ?_
 refine cnd h (fun hb38 h => ?_) fun hb38 h => ?_
 ·
  refine AW.ct hb38 rfl ?_
  refine AW.seq ?_
  refine AW.cut (τ := Bool) (fun x42 => ⟨[(2, C.bool x42)], []⟩) (fun x42 => Zi x42 = some r) ?_ ?_
  ·
   refine zz ?_
   refine cnd h (fun hb39 h => ?_) fun hb39 h => ?_
   ·
    refine zz ?_
    refine cnd h (fun hb40 h => ?_) fun hb40 h => ?_
    ·
     refine zz ?_
     refine Ops.gv rfl rfl rfl rfl hb40 (op_len_str un_9 rfl rfl) ?_
     refine zz ?_
     refine cnd h (fun hb41 h => ?_) fun hb41 h => ?_
     ·
      refine zz ?_
      refine Ops.gv rfl rfl rfl rfl hb41 (op_len_str un_9 rfl rfl) ?_
      refine zz ?_
      exact ⟨decide ((p0.text.size : Int) ≤ 30), h, Ghost.both (ns := []) rfl rfl⟩
     refine zz ?_
     exact ⟨false, h, Ghost.both (ns := []) rfl rfl⟩
    refine zz ?_
    exact ⟨false, h, Ghost.both (ns := []) rfl rfl⟩
   refine zz ?_
   exact ⟨false, h, Ghost.both (ns := []) rfl rfl⟩
  intro x42 h
  replace h : Zi x42 = some r := h
  unfold Zi at h
  refine AW.ret ?_
  rw [← Option.some.inj h]
  exact ⟨[C.bool x42], _, Ghost.refl _, (.cons (.tmp rfl) .nil), [], _, _, rfl, ⟨rfl, rfl⟩⟩
 refine AW.cf hb38 rfl ?_
 refine zz ?_
 refine cnd h (fun hb43 h => ?_) fun hb43 h => ?_
 ·
  refine AW.ct hb43 rfl ?_
  refine AW.seq ?_
  refine AW.cut (τ := Bool) (fun x48 => ⟨[(2, C.bool x48)], []⟩) (fun x48 => Z10 x48 = some r) ?_ ?_
  ·
   refine zz ?_
   refine ob' h fun r44 g45 h => ?_
   refine Ops.hd (ns := []) rfl rfl (op_callE (Zbd _ _ g45) rfl rfl) ?_
   refine zz ?_
   refine cnd h (fun hb46 h => ?_) fun hb46 h => ?_
   ·
    refine zz ?_
    refine cnd h (fun hb47 h => ?_) fun hb47 h => ?_
    ·
     refine zz ?_
     exact ⟨(p0.text.toList == ByteArray.empty.toList), h, Ghost.both (ns := []) rfl rfl⟩
    refine zz ?_
    exact ⟨false, h, Ghost.both (ns := []) rfl rfl⟩
   refine zz ?_
   exact ⟨false, h, Ghost.both (ns := []) rfl rfl⟩
  intro x48 h
  replace h : Z10 x48 = some r := h
  unfold Z10 at h
  refine AW.ret ?_
  rw [← Option.some.inj h]
  exact ⟨[C.bool x48], _, Ghost.refl _, (.cons (.tmp rfl) .nil), [], _, _, rfl, ⟨rfl, rfl⟩⟩
 refine AW.cf hb43 rfl ?_
 refine zz ?_
 refine AW.ret ?_
 rw [← Option.some.inj h]
 exact ⟨[C.bool false], _, Ghost.refl _, (.cons (.tmp rfl) .nil), [], _, _, rfl, ⟨rfl, rfl⟩⟩

def Ze (x20 : Bool) : Option Bool := some x20
def Z42 (p0 : TEvent) : Option Bool := (Z48 p0.id).bind fun r2 => cond r2 ((Z8 p0.room 1 3).bind fun r5 => cond r5 ((Z2b p0.author).bind fun r8 => cond r8 ((Z8s p0.time).bind fun r11 => cond r11 ((Z8r p0.prev p0.id).bind fun r14 => cond r14 (cond ((p0.kind == 1) == ((p0.prev.length : Int) == 0)) ((Z29 p0).bind fun r18 => Ze r18) (Ze false)) (Ze false)) (Ze false)) (Ze false)) (Ze false)) (Ze false)
set_option maxHeartbeats 1000000 in
theorem Ze6 (p0 : TEvent) (r : Bool) (h : Z42 p0 = some r) : Ok Tryz.prog 99 [C.agg [C.int p0.id, C.int p0.room, C.int p0.author, C.int p0.kind, C.int p0.key, C.int p0.n, C.str p0.text, C.im kI64 1 p0.prev, C.int p0.time]] [] (fun c qs => c = C.bool r ∧ qs = []) := by
 refine Ok.of_body (rs := [.tmp 2]) Tryz.func99 rfl rfl rfl rfl rfl fun X => ?_
 unfold Z42 at h
 refine zz ?_
 refine Ops.h (ns := []) rfl rfl (op_boxA rfl rfl) ?_
 rintro _ _ ⟨b1, rfl, rfl⟩
 refine Ops.v rfl (op_assign rfl rfl) ?_
 refine Ops.nil ?_
 refine AW.seq ?_
 refine AW.cut (τ := Bool) (fun x20 => ⟨[(2, C.bool x20)], []⟩) (fun x20 => Ze x20 = some r) ?_ ?_
 ·
  refine zz ?_
  refine ob' h fun r2 g3 h => ?_
  refine Ops.hd (ns := []) rfl rfl (op_callE (Zbd _ _ g3) rfl rfl) ?_
  refine zz ?_
  refine cnd h (fun hb4 h => ?_) fun hb4 h => ?_
  ·
   refine zz ?_
   refine ob' h fun r5 g6 h => ?_
   refine Ops.ghd (ns := []) rfl rfl rfl rfl hb4 rfl (op_callE (Zp _ _ _ _ g6) rfl rfl) ?_
   refine zz ?_
   refine cnd h (fun hb7 h => ?_) fun hb7 h => ?_
   ·
    refine zz ?_
    refine ob' h fun r8 g9 h => ?_
    refine Ops.ghd (ns := []) rfl rfl rfl rfl hb7 rfl (op_callE (Za5 _ _ g9) rfl rfl) ?_
    refine zz ?_
    refine cnd h (fun hb10 h => ?_) fun hb10 h => ?_
    ·
     refine zz ?_
     refine ob' h fun r11 g12 h => ?_
     refine Ops.ghd (ns := []) rfl rfl rfl rfl hb10 rfl (op_callE (Zea _ _ g12) rfl rfl) ?_
     refine zz ?_
     refine cnd h (fun hb13 h => ?_) fun hb13 h => ?_
     ·
      refine zz ?_
      refine ob' h fun r14 g15 h => ?_
      refine Ops.ghd (ns := []) rfl rfl rfl rfl hb13 rfl (op_callE (Ze9 _ _ _ g15) rfl rfl) ?_
      refine zz ?_
      refine cnd h (fun hb16 h => ?_) fun hb16 h => ?_
      ·
       refine zz ?_
       refine Ops.gv rfl rfl rfl rfl hb16 (op_bool_eql un_4 rfl rfl rfl) ?_
       refine zz ?_
       refine cnd h (fun hb17 h => ?_) fun hb17 h => ?_
       ·
        refine Ops.gv rfl rfl rfl rfl hb17 (op_loadA (p := 0) (ds := [C.int p0.id, C.int p0.room, C.int p0.author, C.int p0.kind, C.int p0.key, C.int p0.n, C.str p0.text, C.im kI64 1 p0.prev, C.int p0.time]) ld_38.h rfl rfl rfl rfl rfl) ?_
        refine ob' h fun r18 g19 h => ?_
        refine Ops.ghd (ns := []) rfl rfl rfl rfl hb17 rfl (op_callE (Ze8 _ _ g19) rfl rfl) ?_
        refine zz ?_
        exact ⟨r18, h, Ghost.both (ns := []) rfl rfl⟩
       refine zz ?_
       exact ⟨false, h, Ghost.both (ns := []) rfl rfl⟩
      refine zz ?_
      exact ⟨false, h, Ghost.both (ns := []) rfl rfl⟩
     refine zz ?_
     exact ⟨false, h, Ghost.both (ns := []) rfl rfl⟩
    refine zz ?_
    exact ⟨false, h, Ghost.both (ns := []) rfl rfl⟩
   refine zz ?_
   exact ⟨false, h, Ghost.both (ns := []) rfl rfl⟩
  refine zz ?_
  exact ⟨false, h, Ghost.both (ns := []) rfl rfl⟩
 intro x20 h
 replace h : Ze x20 = some r := h
 unfold Ze at h
 refine AW.ret ?_
 rw [← Option.some.inj h]
 exact ⟨[C.bool x20], _, Ghost.refl _, (.cons (.tmp rfl) .nil), [], _, _, rfl, ⟨rfl, rfl⟩⟩

def Zb1 : Option Bool := some true
def Z2h (x14 : Int) (x25 : Bool) : Option (Int ⊕ (Bool ⊕ Unit)) := cond x25 (some (.inr (.inl false))) (some (.inl (IntKind.i64.wrap (x14 + 1))))
def Z4c (p0 : List TEvent) (p1 : Int) (x14 : Int) : Option (Int ⊕ (Bool ⊕ Unit)) := cond (decide (x14 < (p0.length : Int))) ((getI p0 x14).bind fun e16 => (Z42 e16).bind fun r18 => cond r18 (cond (e16.room != p1) (Z2h x14 true) (cond (decide (x14 > 0)) ((getI p0 (IntKind.i64.wrap (x14 - 1))).bind fun e23 => Z2h x14 (decide (e23.id ≥ e16.id))) (Z2h x14 false))) (Z2h x14 true)) (some (.inr (.inr ())))
def Z6e (p0 : List TEvent) (p1 : Int) (p2 : Int) : Option Bool := cond (decide ((p0.length : Int) > p2)) (some false) ((iter (Z4c p0 p1) big 0).bind (fun z28 => match z28 with | .inl y27 => some y27 | .inr () => Zb1))
set_option maxHeartbeats 1000000 in
theorem Zc9 (p0 : List TEvent) (p1 : Int) (p2 : Int) (r : Bool) (h : Z6e p0 p1 p2 = some r) : Ok Tryz.prog 105 [C.im kEvent 9 p0, C.int p1, C.int p2] [] (fun c qs => c = C.bool r ∧ qs = []) := by
 refine Ok.of_body (rs := [.tmp 6]) Tryz.func105 rfl rfl rfl rfl rfl fun X => ?_
 unfold Z6e at h
 refine zz ?_
 refine cnd h (fun hb1 h => ?_) fun hb1 h => ?_
 ·
  refine AW.ct hb1 rfl ?_
  refine zz ?_
  refine AW.ret ?_
  rw [← Option.some.inj h]
  exact ⟨[C.bool false], _, Ghost.refl _, (.cons (.tmp rfl) .nil), [], _, _, rfl, ⟨rfl, rfl⟩⟩
 refine AW.cf hb1 rfl ?_
 refine AW.skip ?_
 refine AW.seq ?_
 refine AW.cut (τ := Unit) (fun (_ : Unit) => ⟨[], []⟩) (fun (_ : Unit) => Zb1 = some r) ?_ ?_
 ·
  refine zz ?_
  refine ob' h fun o29 g30 q31 => ?_
  refine AW.loop (τ := Int) (x := 0) (fun x14 => ⟨[(0, C.im kEvent 9 p0), (1, C.int p1), (7, C.int x14)], []⟩) (fun k x14 => iter (Z4c p0 p1) k x14 = some o29) g30 (Ghost.both (ns := []) rfl rfl) ?_
  intro k x14 i33
  refine iter_succ' (show iter (Z4c p0 p1) k x14 = some o29 from i33) fun k32 y34 hlt_k32 h h35 => ?_
  replace h : Z4c p0 p1 x14 = some y34 := h
  unfold Z4c at h
  refine zz ?_
  refine cnd h (fun hb15 h => ?_) fun hb15 h => ?_
  ·
   refine AW.ct hb15 rfl ?_
   refine AW.skip ?_
   refine AW.seq ?_
   refine AW.block ?_
   refine AW.seq ?_
   refine AW.cut (τ := Bool) (fun x25 => ⟨[(0, C.im kEvent 9 p0), (1, C.int p1), (7, C.int x14), (50, C.bool x25)], []⟩) (fun x25 => Z2h x14 x25 = some y34) ?_ ?_
   ·
    refine AW.regionD (L := [3, 11, 24, 29]) (Lt := []) (k := .light 0 false (.light 1 false (.light 2 false (.light 3 true (.one 4 (.light 5 false (.light 6 false (.light 7 false (.light 8 false (.light 9 false (.light 10 false (.light 11 true (.light 12 false (.light 13 false (.light 14 false (.light 15 false (.light 16 false (.light 17 false (.light 18 false (.light 19 false (.light 20 false (.light 21 false (.light 22 false (.light 23 false (.light 24 true (.light 25 false (.light 26 false (.light 27 false (.light 28 false (.light 29 true (.light 30 false (.light 31 false (.light 32 false .done))))))))))))))))))))))))))))))))) (ns := []) (by kernel_rfl) (by kernel_rfl) (by kernel_rfl) (by kernel_rfl) rfl ?_
    refine zz ?_
    refine ob' h fun e16 g17 h => ?_
    refine OpsD.v rfl rfl (op_indexAddr_im sl_28.h rfl rfl g17 rfl) ?_
    refine OpsD.v rfl rfl (op_load_ipA ld_38.h rfl rfl rfl rfl) ?_
    refine zz ?_
    refine ob' h fun r18 g19 h => ?_
    refine StepD.h (ns := []) rfl rfl rfl (op_callE (Ze6 _ _ g19) rfl rfl) ?_
    rintro _ _ ⟨rfl, rfl⟩
    refine zz ?_
    refine cnd h (fun hb20 h => ?_) fun hb20 h => ?_
    ·
     iterate 2 refine OpsD.gv rfl rfl rfl rfl rfl (not_t hb20) (op_move rfl rfl) ?_
     refine OpsD.gv rfl rfl rfl rfl rfl (not_t hb20) (op_indexAddr_im sl_28.h rfl rfl g17 rfl) ?_
     refine OpsD.gv rfl rfl rfl rfl rfl (not_t hb20) (op_fieldAddr_ip fo_38_1.h rfl rfl rfl) ?_
     refine OpsD.gv rfl rfl rfl rfl rfl (not_t hb20) (op_load_ip ld_2.h rfl rfl) ?_
     refine OpsD.gv rfl rfl rfl rfl rfl (not_t hb20) (op_move rfl rfl) ?_
     refine OpsD.gv rfl rfl rfl rfl rfl (not_t hb20) (op_bin rfl rfl rfl rfl) ?_
     refine OpsD.v rfl rfl (op_pick_f rfl (not_t hb20) rfl rfl) ?_
     refine zz ?_
     refine cnd h (fun hb21 h => ?_) fun hb21 h => ?_
     ·
      refine zz ?_
      exact ⟨true, h, Ghost.both (ns := []) rfl rfl⟩
     refine zz ?_
     refine cnd h (fun hb22 h => ?_) fun hb22 h => ?_
     ·
      refine zz ?_
      refine ob' h fun e23 g24 h => ?_
      refine OpsD.gv rfl rfl rfl rfl rfl hb22 (op_indexAddr_im sl_28.h rfl rfl g24 rfl) ?_
      refine OpsD.gv rfl rfl rfl rfl rfl hb22 (op_fieldAddr_ip fo_38_0.h rfl rfl rfl) ?_
      refine OpsD.gv rfl rfl rfl rfl rfl hb22 (op_load_ip ld_2.h rfl rfl) ?_
      refine zz ?_
      refine OpsD.gv rfl rfl rfl rfl rfl hb22 (op_indexAddr_im sl_28.h rfl rfl g17 rfl) ?_
      refine OpsD.gv rfl rfl rfl rfl rfl hb22 (op_fieldAddr_ip fo_38_0.h rfl rfl rfl) ?_
      refine OpsD.gv rfl rfl rfl rfl rfl hb22 (op_load_ip ld_2.h rfl rfl) ?_
      refine zz ?_
      exact ⟨decide (e23.id ≥ e16.id), h, Ghost.both (ns := []) rfl rfl⟩
     refine zz ?_
     exact ⟨false, h, Ghost.both (ns := []) rfl rfl⟩
    iterate 7 refine OpsD.gs rfl rfl rfl rfl (.b rfl (not_f hb20)) rfl rfl ?_
    refine OpsD.v rfl rfl (op_pick_t rfl (not_f hb20) rfl rfl) ?_
    refine zz ?_
    exact ⟨true, h, Ghost.both (ns := []) rfl rfl⟩
   intro x25 h
   replace h : Z2h x14 x25 = some y34 := h
   unfold Z2h at h
   refine cnd h (fun hb26 h => ?_) fun hb26 h => ?_
   ·
    refine AW.ct hb26 rfl ?_
    refine zz ?_
    refine AW.ret ?_
    obtain rfl := Option.some.inj h
    obtain rfl := Option.some.inj h35
    replace h := q31
    rw [← Option.some.inj h]
    exact ⟨[C.bool false], _, Ghost.refl _, (.cons (.tmp rfl) .nil), [], _, _, rfl, ⟨rfl, rfl⟩⟩
   refine AW.cf hb26 rfl ?_
   refine zz ?_
   obtain rfl := Option.some.inj h
   exact ⟨k32, (IntKind.i64.wrap (x14 + 1)), hlt_k32, h35, Ghost.both (ns := []) rfl rfl⟩
  refine AW.cf hb15 rfl ?_
  refine AW.exit ?_
  obtain rfl := Option.some.inj h
  obtain rfl := Option.some.inj h35
  replace h := q31
  exact ⟨(), h, Ghost.both (ns := []) rfl rfl⟩
 rintro ⟨⟩ h
 replace h : Zb1 = some r := h
 unfold Zb1 at h
 refine zz ?_
 refine AW.ret ?_
 rw [← Option.some.inj h]
 exact ⟨[C.bool true], _, Ghost.refl _, (.cons (.tmp rfl) .nil), [], _, _, rfl, ⟨rfl, rfl⟩⟩

def Zaz : Option Int := some (-1)
def Z2d (p0 : List TEvent) (p1 : Int) (x5 : Int) : Option (Int ⊕ (Int ⊕ Unit)) := cond (decide (x5 < (p0.length : Int))) ((getI p0 x5).bind fun e7 => cond (e7.id == p1) (some (.inr (.inl x5))) (some (.inl (IntKind.i64.wrap (x5 + 1))))) (some (.inr (.inr ())))
def Z4 (p0 : List TEvent) (p1 : Int) : Option Int := (iter (Z2d p0 p1) big 0).bind (fun z11 => match z11 with | .inl y10 => some y10 | .inr () => Zaz)
theorem Z6 (p0 : List TEvent) (p1 : Int) (r : Int) (h : Z4 p0 p1 = some r) : Ok Tryz.prog 58 [C.im kEvent 9 p0, C.int p1] [] (fun c qs => c = C.int r ∧ qs = []) := by
 refine Ok.of_body (rs := [.tmp 4]) Tryz.func58 rfl rfl rfl rfl rfl fun X => ?_
 unfold Z4 at h
 refine AW.seq ?_
 refine AW.region ?_
 refine Ops.v rfl (op_assign rfl rfl) ?_
 refine Ops.nil ?_
 refine AW.seq ?_
 refine AW.cut (τ := Unit) (fun (_ : Unit) => ⟨[], []⟩) (fun (_ : Unit) => Zaz = some r) ?_ ?_
 ·
  refine zz ?_
  refine ob' h fun o12 g13 q14 => ?_
  refine AW.loop (τ := Int) (x := 0) (fun x5 => ⟨[(0, C.im kEvent 9 p0), (1, C.int p1), (5, C.int x5)], []⟩) (fun k x5 => iter (Z2d p0 p1) k x5 = some o12) g13 (Ghost.both (ns := []) rfl rfl) ?_
  intro k x5 i16
  refine iter_succ' (show iter (Z2d p0 p1) k x5 = some o12 from i16) fun k15 y17 hlt_k15 h h18 => ?_
  replace h : Z2d p0 p1 x5 = some y17 := h
  unfold Z2d at h
  refine zz ?_
  refine cnd h (fun hb6 h => ?_) fun hb6 h => ?_
  ·
   refine AW.ct hb6 rfl ?_
   refine zz ?_
   refine ob' h fun e7 g8 h => ?_
   refine Ops.v rfl (op_indexAddr_im sl_28.h rfl rfl g8 rfl) ?_
   refine Ops.v rfl (op_fieldAddr_ip fo_38_0.h rfl rfl rfl) ?_
   refine Ops.v rfl (op_load_ip ld_2.h rfl rfl) ?_
   refine zz ?_
   refine cnd h (fun hb9 h => ?_) fun hb9 h => ?_
   ·
    refine AW.ct hb9 rfl ?_
    refine zz ?_
    refine AW.ret ?_
    obtain rfl := Option.some.inj h
    obtain rfl := Option.some.inj h18
    replace h := q14
    rw [← Option.some.inj h]
    exact ⟨[C.int x5], _, Ghost.refl _, (.cons (.tmp rfl) .nil), [], _, _, rfl, ⟨rfl, rfl⟩⟩
   refine AW.cf hb9 rfl ?_
   refine zz ?_
   obtain rfl := Option.some.inj h
   exact ⟨k15, (IntKind.i64.wrap (x5 + 1)), hlt_k15, h18, Ghost.both (ns := []) rfl rfl⟩
  refine AW.cf hb6 rfl ?_
  refine AW.exit ?_
  obtain rfl := Option.some.inj h
  obtain rfl := Option.some.inj h18
  replace h := q14
  exact ⟨(), h, Ghost.both (ns := []) rfl rfl⟩
 rintro ⟨⟩ h
 replace h : Zaz = some r := h
 unfold Zaz at h
 refine zz ?_
 refine AW.ret ?_
 rw [← Option.some.inj h]
 exact ⟨[C.int (-1)], _, Ghost.refl _, (.cons (.tmp rfl) .nil), [], _, _, rfl, ⟨rfl, rfl⟩⟩

def Zay : Option Bool := some true
def Z4b (p0 : List TEvent) (p1 : TEvent) (x8 : Int) : Option (Int ⊕ (Bool ⊕ Unit)) := cond (decide (x8 < (p1.prev.length : Int))) ((getI p1.prev x8).bind fun e10 => (Z4 p0 e10).bind fun r12 => cond (decide (r12 < 0)) (some (.inr (.inl false))) (some (.inl (IntKind.i64.wrap (x8 + 1))))) (some (.inr (.inr ())))
def Z6b (p0 : List TEvent) (p1 : TEvent) : Option Bool := (iter (Z4b p0 p1) big 0).bind (fun z16 => match z16 with | .inl y15 => some y15 | .inr () => Zay)
theorem Zc8 (p0 : List TEvent) (p1 : TEvent) (r : Bool) (h : Z6b p0 p1 = some r) : Ok Tryz.prog 106 [C.im kEvent 9 p0, C.agg [C.int p1.id, C.int p1.room, C.int p1.author, C.int p1.kind, C.int p1.key, C.int p1.n, C.str p1.text, C.im kI64 1 p1.prev, C.int p1.time]] [] (fun c qs => c = C.bool r ∧ qs = []) := by
 refine Ok.of_body (rs := [.tmp 4]) Tryz.func106 rfl rfl rfl rfl rfl fun X => ?_
 unfold Z6b at h
 refine zz ?_
 refine Ops.h (ns := []) rfl rfl (op_boxA rfl rfl) ?_
 rintro _ _ ⟨b1, rfl, rfl⟩
 refine Ops.v rfl (op_assign rfl rfl) ?_
 refine Ops.nil ?_
 refine AW.seq ?_
 refine AW.cut (τ := Unit) (fun (_ : Unit) => ⟨[], []⟩) (fun (_ : Unit) => Zay = some r) ?_ ?_
 ·
  refine zz ?_
  refine ob' h fun o17 g18 q19 => ?_
  refine AW.loop (τ := Int) (x := 0) (fun x8 => ⟨[(0, C.im kEvent 9 p0), (3, C.val (.pointer (some ⟨b1, 0, none⟩))), (5, C.int x8)], [Obj.box b1 38 [C.int p1.id, C.int p1.room, C.int p1.author, C.int p1.kind, C.int p1.key, C.int p1.n, C.str p1.text, C.im kI64 1 p1.prev, C.int p1.time]]⟩) (fun k x8 => iter (Z4b p0 p1) k x8 = some o17) g18 (Ghost.both (ns := [0]) rfl rfl) ?_
  intro k x8 i21
  refine iter_succ' (show iter (Z4b p0 p1) k x8 = some o17 from i21) fun k20 y22 hlt_k20 h h23 => ?_
  replace h : Z4b p0 p1 x8 = some y22 := h
  unfold Z4b at h
  refine zz ?_
  refine cnd h (fun hb9 h => ?_) fun hb9 h => ?_
  ·
   refine AW.ct hb9 rfl ?_
   refine zz ?_
   refine ob' h fun e10 g11 h => ?_
   refine Ops.v rfl (op_indexAddr_im sl_26.h rfl rfl g11 rfl) ?_
   refine Ops.v rfl (op_load_ip ld_2.h rfl rfl) ?_
   refine ob' h fun r12 g13 h => ?_
   refine Ops.hd (ns := []) rfl rfl (op_callE (Z6 _ _ _ g13) rfl rfl) ?_
   refine zz ?_
   refine cnd h (fun hb14 h => ?_) fun hb14 h => ?_
   ·
    refine AW.ct hb14 rfl ?_
    refine zz ?_
    refine AW.ret ?_
    obtain rfl := Option.some.inj h
    obtain rfl := Option.some.inj h23
    replace h := q19
    rw [← Option.some.inj h]
    exact ⟨[C.bool false], _, Ghost.refl _, (.cons (.tmp rfl) .nil), [], _, _, rfl, ⟨rfl, rfl⟩⟩
   refine AW.cf hb14 rfl ?_
   refine zz ?_
   obtain rfl := Option.some.inj h
   exact ⟨k20, (IntKind.i64.wrap (x8 + 1)), hlt_k20, h23, Ghost.both (ns := [0]) rfl rfl⟩
  refine AW.cf hb9 rfl ?_
  refine AW.exit ?_
  obtain rfl := Option.some.inj h
  obtain rfl := Option.some.inj h23
  replace h := q19
  exact ⟨(), h, Ghost.both (ns := []) rfl rfl⟩
 rintro ⟨⟩ h
 replace h : Zay = some r := h
 unfold Zay at h
 refine zz ?_
 refine AW.ret ?_
 rw [← Option.some.inj h]
 exact ⟨[C.bool true], _, Ghost.refl _, (.cons (.tmp rfl) .nil), [], _, _, rfl, ⟨rfl, rfl⟩⟩

def Zb0 (l161 : List Int) : Option (List Int) := some l161
def Z8t (x82 : Int) (l160 : List Int) : Option ((List Int × Int) ⊕ ((List Int))) := some (.inl (l160, (IntKind.i64.wrap (x82 + 1))))
def Z2f (x122 : Int) (l159 : List Int) : Option ((List Int × Int) ⊕ ((List Int))) := some (.inl (l159, (IntKind.i64.wrap (x122 + 1))))
def Z8u (l121 : List Int) (x122 : Int) (x156 : Int) (x157 : Bool) : Option ((List Int × Int) ⊕ ((List Int))) := cond x157 (Z2f x122 (List.set l121 (Int.toNat x122) (IntKind.i64.wrap (x156 + 1)))) (Z2f x122 l121)
def Z6c (x141 : Int) (x154 : Int) (x155 : Bool) : Option ((Int × Bool × Int) ⊕ ((Int × Bool))) := some (.inl (x154, x155, (IntKind.i64.wrap (x141 + 1))))
def Z6d (x139 : Int) (x141 : Int) (e149 : Int) (x152 : Bool) : Option ((Int × Bool × Int) ⊕ ((Int × Bool))) := cond (decide (e149 > x139)) (Z6c x141 e149 x152) (Z6c x141 x139 x152)
def Z11 (p0 : List TEvent) (l121 : List Int) (x122 : Int) (x139 : Int) (x140 : Bool) (x141 : Int) : Option ((Int × Bool × Int) ⊕ ((Int × Bool))) := (getI p0 x122).bind fun e142 => cond (decide (x141 < (e142.prev.length : Int))) ((getI e142.prev x141).bind fun e145 => (Z4 p0 e145).bind fun r147 => (getI l121 r147).bind fun e149 => cond x140 (Z6d x139 x141 e149 (decide (e149 > 0))) (Z6d x139 x141 e149 false)) (some (.inr (x139, x140)))
def Z12 (p0 : List TEvent) (l121 : List Int) (x122 : Int) : Option ((List Int × Int) ⊕ ((List Int))) := cond (decide (x122 < (p0.length : Int))) ((getI l121 x122).bind fun e124 => cond (decide (e124 > 0)) (Z2f x122 l121) ((iter (fun z163 => Z11 p0 l121 x122 z163.1 z163.2.1 z163.2.2) big (0, true, 0)).bind fun (y164, y165) => Z8u l121 x122 y164 y165)) (some (.inr l121))
def Z2g (p0 : List TEvent) (l81 : List Int) (x82 : Int) : Option ((List Int × Int) ⊕ ((List Int))) := cond (decide (x82 < (p0.length : Int))) ((iter (fun z166 => Z12 p0 z166.1 z166.2) big (l81, 0)).bind fun y167 => Z8t x82 y167) (some (.inr l81))
def Z2e (p0 : List TEvent) : Option (List Int) := (chk (decide (0 ≤ (p0.length : Int) ∧ (p0.length : Int) * 8 ≤ 140737488355328))).bind fun u2 => (iter (fun z168 => Z2g p0 z168.1 z168.2) big ((List.replicate (Int.toNat (p0.length : Int)) 0), 0)).bind fun y169 => Zb0 y169
set_option maxHeartbeats 1000000 in
theorem Z2 (p0 : List TEvent) (r : List Int) (h : Z2e p0 = some r) : Ok Tryz.prog 90 [C.im kEvent 9 p0] [] (fun c qs => ∃ (v162 : Value), c = C.val v162 ∧ qs = [Obj.arr v162 2 kI64 1 r]) := by
 refine Ok.of_body (rs := [.tmp 2]) Tryz.func90 rfl rfl rfl rfl rfl fun X => ?_
 unfold Z2e at h
 refine zz ?_
 refine ob' h fun u2 c1 h => ?_
 refine Ops.h (ns := []) rfl rfl (op_makeSlice (k := kI64) (z := 0) ar_26 ze_2 (cells_zero rfl rfl) rfl rfl (make_ok c1).1 (make_ok c1).2 (make_ok63 (by decide) c1) rfl) ?_
 rintro _ _ ⟨b3, rfl, rfl⟩
 refine Ops.v rfl (op_assign rfl rfl) ?_
 refine Ops.nil ?_
 refine AW.seq ?_
 refine AW.cut (τ := List Int) (fun l161 => ⟨[(3, C.val (.slice (some ⟨b3, 0, none⟩) (Int.toNat (p0.length : Int)) (Int.toNat (p0.length : Int))))], [Obj.arr (.slice (some ⟨b3, 0, none⟩) (Int.toNat (p0.length : Int)) (Int.toNat (p0.length : Int))) 2 kI64 1 l161]⟩) (fun l161 => Zb0 l161 = some r) ?_ ?_
 ·
  refine zz ?_
  refine ob' h fun o170 g171 q172 => ?_
  refine AW.loop (τ := List Int × Int) (x := ((List.replicate (Int.toNat (p0.length : Int)) 0), 0)) (fun (l81, x82) => ⟨[(0, C.im kEvent 9 p0), (3, C.val (.slice (some ⟨b3, 0, none⟩) (Int.toNat (p0.length : Int)) (Int.toNat (p0.length : Int)))), (4, C.int x82)], [Obj.arr (.slice (some ⟨b3, 0, none⟩) (Int.toNat (p0.length : Int)) (Int.toNat (p0.length : Int))) 2 kI64 1 l81]⟩) (fun k (l81, x82) => iter (fun z168 => Z2g p0 z168.1 z168.2) k (l81, x82) = some o170) g171 (Ghost.both (ns := [0]) rfl rfl) ?_
  rintro k ⟨l81, x82⟩ i174
  refine iter_succ' (show iter (fun z168 => Z2g p0 z168.1 z168.2) k (l81, x82) = some o170 from i174) fun k173 y175 hlt_k173 h h176 => ?_
  replace h : Z2g p0 l81 x82 = some y175 := h
  unfold Z2g at h
  refine zz ?_
  refine cnd h (fun hb83 h => ?_) fun hb83 h => ?_
  ·
   refine AW.ct hb83 rfl ?_
   refine AW.skip ?_
   refine AW.seq ?_
   refine AW.cut (τ := List Int) (fun l160 => ⟨[(0, C.im kEvent 9 p0), (3, C.val (.slice (some ⟨b3, 0, none⟩) (Int.toNat (p0.length : Int)) (Int.toNat (p0.length : Int)))), (4, C.int x82)], [Obj.arr (.slice (some ⟨b3, 0, none⟩) (Int.toNat (p0.length : Int)) (Int.toNat (p0.length : Int))) 2 kI64 1 l160]⟩) (fun l160 => Z8t x82 l160 = some y175) ?_ ?_
   ·
    refine zz ?_
    refine ob' h fun o177 g178 q179 => ?_
    refine AW.loop (τ := List Int × Int) (x := (l81, 0)) (fun (l121, x122) => ⟨[(0, C.im kEvent 9 p0), (3, C.val (.slice (some ⟨b3, 0, none⟩) (Int.toNat (p0.length : Int)) (Int.toNat (p0.length : Int)))), (4, C.int x82), (5, C.int x122)], [Obj.arr (.slice (some ⟨b3, 0, none⟩) (Int.toNat (p0.length : Int)) (Int.toNat (p0.length : Int))) 2 kI64 1 l121]⟩) (fun k (l121, x122) => iter (fun z166 => Z12 p0 z166.1 z166.2) k (l121, x122) = some o177) g178 (Ghost.both (ns := [0]) rfl rfl) ?_
    rintro k ⟨l121, x122⟩ i181
    refine iter_succ' (show iter (fun z166 => Z12 p0 z166.1 z166.2) k (l121, x122) = some o177 from i181) fun k180 y182 hlt_k180 h h183 => ?_
    replace h : Z12 p0 l121 x122 = some y182 := h
    unfold Z12 at h
    refine zz ?_
    refine cnd h (fun hb123 h => ?_) fun hb123 h => ?_
    ·
     refine AW.ct hb123 rfl ?_
     refine AW.skip ?_
     refine AW.seq ?_
     refine AW.cut (τ := List Int) (fun l159 => ⟨[(0, C.im kEvent 9 p0), (3, C.val (.slice (some ⟨b3, 0, none⟩) (Int.toNat (p0.length : Int)) (Int.toNat (p0.length : Int)))), (4, C.int x82), (5, C.int x122)], [Obj.arr (.slice (some ⟨b3, 0, none⟩) (Int.toNat (p0.length : Int)) (Int.toNat (p0.length : Int))) 2 kI64 1 l159]⟩) (fun l159 => Z2f x122 l159 = some y182) ?_ ?_
     ·
      refine zz ?_
      refine ob' h fun e124 g125 h => ?_
      refine Ops.v rfl (op_indexAddr_arr (p := 0) sl_26.h rfl rfl rfl g125 rfl) ?_
      refine Ops.v rfl (op_load_arr (p := 0) ld_2.h rfl rfl (getI_lt g125).2.2 rfl rfl) ?_
      refine zz ?_
      refine cnd h (fun hb126 h => ?_) fun hb126 h => ?_
      ·
       refine AW.ct hb126 rfl ?_
       refine AW.exit ?_
       exact ⟨l121, h, Ghost.both (ns := [0]) rfl rfl⟩
      refine AW.cf hb126 rfl ?_
      refine AW.skip ?_
      refine AW.seq ?_
      refine AW.region ?_
      refine Ops.v rfl (op_assign rfl rfl) ?_
      refine Ops.nil ?_
      refine AW.seq ?_
      refine AW.region ?_
      refine Ops.v rfl (op_assign rfl rfl) ?_
      refine Ops.nil ?_
      refine AW.seq ?_
      refine AW.cut (τ := Int × Bool) (fun (x156, x157) => ⟨[(0, C.im kEvent 9 p0), (3, C.val (.slice (some ⟨b3, 0, none⟩) (Int.toNat (p0.length : Int)) (Int.toNat (p0.length : Int)))), (4, C.int x82), (5, C.int x122), (6, C.int x156), (7, C.bool x157)], [Obj.arr (.slice (some ⟨b3, 0, none⟩) (Int.toNat (p0.length : Int)) (Int.toNat (p0.length : Int))) 2 kI64 1 l121]⟩) (fun (x156, x157) => Z8u l121 x122 x156 x157 = some y182) ?_ ?_
      ·
       refine zz ?_
       refine ob' h fun o184 g185 q186 => ?_
       refine AW.loop (τ := Int × Bool × Int) (x := (0, true, 0)) (fun (x139, x140, x141) => ⟨[(0, C.im kEvent 9 p0), (3, C.val (.slice (some ⟨b3, 0, none⟩) (Int.toNat (p0.length : Int)) (Int.toNat (p0.length : Int)))), (4, C.int x82), (5, C.int x122), (6, C.int x139), (7, C.bool x140), (8, C.int x141)], [Obj.arr (.slice (some ⟨b3, 0, none⟩) (Int.toNat (p0.length : Int)) (Int.toNat (p0.length : Int))) 2 kI64 1 l121]⟩) (fun k (x139, x140, x141) => iter (fun z163 => Z11 p0 l121 x122 z163.1 z163.2.1 z163.2.2) k (x139, x140, x141) = some o184) g185 (Ghost.both (ns := [0]) rfl rfl) ?_
       rintro k ⟨x139, x140, x141⟩ i188
       refine iter_succ' (show iter (fun z163 => Z11 p0 l121 x122 z163.1 z163.2.1 z163.2.2) k (x139, x140, x141) = some o184 from i188) fun k187 y189 hlt_k187 h h190 => ?_
       replace h : Z11 p0 l121 x122 x139 x140 x141 = some y189 := h
       unfold Z11 at h
       refine zz ?_
       refine ob' h fun e142 g143 h => ?_
       refine Ops.v rfl (op_indexAddr_im sl_28.h rfl rfl g143 rfl) ?_
       refine Ops.v rfl (op_fieldAddr_ip fo_38_7.h rfl rfl rfl) ?_
       refine Ops.v rfl (op_load_ip ld_26.h rfl rfl) ?_
       refine zz ?_
       refine cnd h (fun hb144 h => ?_) fun hb144 h => ?_
       ·
        refine AW.ct hb144 rfl ?_
        refine AW.skip ?_
        refine AW.seq ?_
        refine AW.cut (τ := Int × Bool) (fun (x154, x155) => ⟨[(0, C.im kEvent 9 p0), (3, C.val (.slice (some ⟨b3, 0, none⟩) (Int.toNat (p0.length : Int)) (Int.toNat (p0.length : Int)))), (4, C.int x82), (5, C.int x122), (6, C.int x154), (7, C.bool x155), (8, C.int x141)], [Obj.arr (.slice (some ⟨b3, 0, none⟩) (Int.toNat (p0.length : Int)) (Int.toNat (p0.length : Int))) 2 kI64 1 l121]⟩) (fun (x154, x155) => Z6c x141 x154 x155 = some y189) ?_ ?_
        ·
         refine zz ?_
         refine Ops.v rfl (op_indexAddr_im sl_28.h rfl rfl g143 rfl) ?_
         refine Ops.v rfl (op_fieldAddr_ip fo_38_7.h rfl rfl rfl) ?_
         refine Ops.v rfl (op_load_ip ld_26.h rfl rfl) ?_
         refine zz ?_
         refine ob' h fun e145 g146 h => ?_
         refine Ops.v rfl (op_indexAddr_im sl_26.h rfl rfl g146 rfl) ?_
         refine Ops.v rfl (op_load_ip ld_2.h rfl rfl) ?_
         refine ob' h fun r147 g148 h => ?_
         refine Ops.hd (ns := []) rfl rfl (op_callE (Z6 _ _ _ g148) rfl rfl) ?_
         refine ob' h fun e149 g150 h => ?_
         refine Ops.v rfl (op_indexAddr_arr (p := 0) sl_26.h rfl rfl rfl g150 rfl) ?_
         refine Ops.v rfl (op_load_arr (p := 0) ld_2.h rfl rfl (getI_lt g150).2.2 rfl rfl) ?_
         refine Ops.v rfl (op_assign rfl rfl) ?_
         refine Ops.nil ?_
         refine AW.seq ?_
         refine AW.cut (τ := Bool) (fun x152 => ⟨[(0, C.im kEvent 9 p0), (3, C.val (.slice (some ⟨b3, 0, none⟩) (Int.toNat (p0.length : Int)) (Int.toNat (p0.length : Int)))), (4, C.int x82), (5, C.int x122), (6, C.int x139), (7, C.bool x152), (8, C.int x141), (9, C.int e149)], [Obj.arr (.slice (some ⟨b3, 0, none⟩) (Int.toNat (p0.length : Int)) (Int.toNat (p0.length : Int))) 2 kI64 1 l121]⟩) (fun x152 => Z6d x139 x141 e149 x152 = some y189) ?_ ?_
         ·
          refine zz ?_
          refine cnd h (fun hb151 h => ?_) fun hb151 h => ?_
          ·
           refine zz ?_
           exact ⟨decide (e149 > 0), h, Ghost.both (ns := [0]) rfl rfl⟩
          refine zz ?_
          exact ⟨false, h, Ghost.both (ns := [0]) rfl rfl⟩
         intro x152 h
         replace h : Z6d x139 x141 e149 x152 = some y189 := h
         unfold Z6d at h
         refine zz ?_
         refine cnd h (fun hb153 h => ?_) fun hb153 h => ?_
         ·
          refine AW.ct hb153 rfl ?_
          refine zz ?_
          exact ⟨(e149, x152), h, Ghost.both (ns := [0]) rfl rfl⟩
         refine AW.cf hb153 rfl ?_
         refine zz ?_
         exact ⟨(x139, x152), h, Ghost.both (ns := [0]) rfl rfl⟩
        rintro ⟨x154, x155⟩ h
        replace h : Z6c x141 x154 x155 = some y189 := h
        unfold Z6c at h
        refine zz ?_
        obtain rfl := Option.some.inj h
        exact ⟨k187, (x154, x155, (IntKind.i64.wrap (x141 + 1))), hlt_k187, h190, Ghost.both (ns := [0]) rfl rfl⟩
       refine AW.cf hb144 rfl ?_
       refine AW.exit ?_
       obtain rfl := Option.some.inj h
       obtain rfl := Option.some.inj h190
       replace h := q186
       exact ⟨(x139, x140), h, Ghost.both (ns := [0]) rfl rfl⟩
      rintro ⟨x156, x157⟩ h
      replace h : Z8u l121 x122 x156 x157 = some y182 := h
      unfold Z8u at h
      refine zz ?_
      refine cnd h (fun hb158 h => ?_) fun hb158 h => ?_
      ·
       refine AW.ct hb158 rfl ?_
       refine zz ?_
       refine Ops.v rfl (op_indexAddr_arr (p := 0) sl_26.h rfl rfl rfl g125 rfl) ?_
       refine Ops.hd (ns := [0]) rfl rfl (op_store_arr (e' := (IntKind.i64.wrap (x156 + 1))) ld_2.h rfl rfl (One.val rfl) (getI_lt g125).2.2 rfl rfl) ?_
       refine zz ?_
       exact ⟨(List.set l121 (Int.toNat x122) (IntKind.i64.wrap (x156 + 1))), h, Ghost.both (ns := [0]) rfl rfl⟩
      refine AW.cf hb158 rfl ?_
      refine zz ?_
      exact ⟨l121, h, Ghost.both (ns := [0]) rfl rfl⟩
     intro l159 h
     replace h : Z2f x122 l159 = some y182 := h
     unfold Z2f at h
     refine zz ?_
     obtain rfl := Option.some.inj h
     exact ⟨k180, (l159, (IntKind.i64.wrap (x122 + 1))), hlt_k180, h183, Ghost.both (ns := [0]) rfl rfl⟩
    refine AW.cf hb123 rfl ?_
    refine AW.exit ?_
    obtain rfl := Option.some.inj h
    obtain rfl := Option.some.inj h183
    replace h := q179
    exact ⟨l121, h, Ghost.both (ns := [0]) rfl rfl⟩
   intro l160 h
   replace h : Z8t x82 l160 = some y175 := h
   unfold Z8t at h
   refine zz ?_
   obtain rfl := Option.some.inj h
   exact ⟨k173, (l160, (IntKind.i64.wrap (x82 + 1))), hlt_k173, h176, Ghost.both (ns := [0]) rfl rfl⟩
  refine AW.cf hb83 rfl ?_
  refine AW.exit ?_
  obtain rfl := Option.some.inj h
  obtain rfl := Option.some.inj h176
  replace h := q172
  exact ⟨l81, h, Ghost.both (ns := [0]) rfl rfl⟩
 intro l161 h
 replace h : Zb0 l161 = some r := h
 unfold Zb0 at h
 refine zz ?_
 refine AW.ret ?_
 rw [← Option.some.inj h]
 exact ⟨[C.val (.slice (some ⟨b3, 0, none⟩) (Int.toNat (p0.length : Int)) (Int.toNat (p0.length : Int)))], _, Ghost.refl _, (.cons (.tmp rfl) .nil), [0], _, _, rfl, ⟨(.slice (some ⟨b3, 0, none⟩) (Int.toNat (p0.length : Int)) (Int.toNat (p0.length : Int))), rfl, rfl⟩⟩
theorem Z2' (p0 : List TEvent) (r : List Int) (h : Z2e p0 = some r) : Ok Tryz.prog 90 [C.im kEvent 9 p0] [] (fun c qs => c = C.im kI64 1 r ∧ qs = []) :=
  Ok.freeze (Z2 p0 r h) (by rintro c qs ⟨v162, rfl, rfl⟩; exact Frz.arr)

def Zav : Option Bool := some true
def Z44 (r46 : List Int) (x52 : Int) : Option (Int ⊕ (Bool ⊕ Unit)) := cond (decide (x52 < (r46.length : Int))) ((getI r46 x52).bind fun e54 => cond (e54 == 0) (some (.inr (.inl false))) (some (.inl (IntKind.i64.wrap (x52 + 1))))) (some (.inr (.inr ())))
def Z8o (p0 : TGraph') : Option Bool := (Z2e p0.events).bind fun r46 => (iter (Z44 r46) big 0).bind (fun z58 => match z58 with | .inl y57 => some y57 | .inr () => Zav)
def Z45 (p0 : TGraph') (x39 : Int) : Option (Int ⊕ (Bool ⊕ Unit)) := cond (decide (x39 < (p0.parked.length : Int))) ((getI p0.parked x39).bind fun e41 => (Z6b p0.events e41).bind fun r43 => cond r43 (some (.inr (.inl false))) (some (.inl (IntKind.i64.wrap (x39 + 1))))) (some (.inr (.inr ())))
def Z8p (p0 : TGraph') : Option Bool := (iter (Z45 p0) big 0).bind (fun z60 => match z60 with | .inl y59 => some y59 | .inr () => Z8o p0)
def Z67 (x22 : Int) (x31 : Bool) : Option (Int ⊕ (Bool ⊕ Unit)) := cond x31 (some (.inr (.inl false))) (some (.inl (IntKind.i64.wrap (x22 + 1))))
def Z46 (p0 : TGraph') (x22 : Int) : Option (Int ⊕ (Bool ⊕ Unit)) := cond (decide (x22 < (p0.events.length : Int))) ((getI p0.events x22).bind fun e24 => (Z6b p0.events e24).bind fun r26 => cond r26 ((Z4 p0.parked e24.id).bind fun r29 => Z67 x22 (decide (r29 ≥ 0))) (Z67 x22 true)) (some (.inr (.inr ())))
def Zt (p0 : TGraph') (x10 : Bool) : Option Bool := cond x10 (some false) ((iter (Z46 p0) big 0).bind (fun z62 => match z62 with | .inl y61 => some y61 | .inr () => Z8p p0))
def Z43 (p0 : TGraph') : Option Bool := (Z8 p0.room 1 3).bind fun r2 => cond r2 ((Z6e p0.events p0.room 60).bind fun r5 => cond r5 ((Z6e p0.parked p0.room 20).bind fun r8 => Zt p0 (!r8)) (Zt p0 true)) (Zt p0 true)
set_option maxHeartbeats 1000000 in
theorem Zc7 (p0 : TGraph') (r : Bool) (h : Z43 p0 = some r) : Ok Tryz.prog 54 [C.agg [C.int p0.room, C.im kEvent 9 p0.events, C.im kEvent 9 p0.parked]] [] (fun c qs => c = C.bool r ∧ qs = []) := by
 refine Ok.of_body (rs := [.tmp 2]) Tryz.func54 rfl rfl rfl rfl rfl fun X => ?_
 unfold Z43 at h
 refine zz ?_
 refine Ops.h (ns := []) rfl rfl (op_boxA rfl rfl) ?_
 rintro _ _ ⟨b1, rfl, rfl⟩
 refine Ops.v rfl (op_assign rfl rfl) ?_
 refine Ops.nil ?_
 refine AW.seq ?_
 refine AW.seq ?_
 refine AW.cut (τ := Bool) (fun x10 => ⟨[(1, C.val (.pointer (some ⟨b1, 0, none⟩))), (26, C.bool x10)], [Obj.box b1 30 [C.int p0.room, C.im kEvent 9 p0.events, C.im kEvent 9 p0.parked]]⟩) (fun x10 => Zt p0 x10 = some r) ?_ ?_
 ·
  refine zz ?_
  refine ob' h fun r2 g3 h => ?_
  refine Ops.hd (ns := []) rfl rfl (op_callE (Zp _ _ _ _ g3) rfl rfl) ?_
  refine zz ?_
  refine cnd h (fun hb4 h => ?_) fun hb4 h => ?_
  ·
   refine Ops.gv rfl rfl rfl rfl (not_t hb4) (op_fieldAddr fo_30_1.h rfl rfl) ?_
   refine Ops.gv rfl rfl rfl rfl (not_t hb4) (op_load (p := 0) ld_28.h rfl rfl rfl rfl) ?_
   refine Ops.gv rfl rfl rfl rfl (not_t hb4) (op_fieldAddr fo_30_0.h rfl rfl) ?_
   refine Ops.gv rfl rfl rfl rfl (not_t hb4) (op_load (p := 0) ld_2.h rfl rfl rfl rfl) ?_
   refine ob' h fun r5 g6 h => ?_
   refine Ops.ghd (ns := []) rfl rfl rfl rfl (not_t hb4) rfl (op_callE (Zc9 _ _ _ _ g6) rfl rfl) ?_
   refine Ops.gv rfl rfl rfl rfl (not_t hb4) (op_not rfl rfl) ?_
   refine Ops.v rfl (op_pick_f rfl (not_t hb4) rfl rfl) ?_
   refine zz ?_
   refine cnd h (fun hb7 h => ?_) fun hb7 h => ?_
   ·
    refine Ops.gv rfl rfl rfl rfl (not_t hb7) (op_fieldAddr fo_30_2.h rfl rfl) ?_
    refine Ops.gv rfl rfl rfl rfl (not_t hb7) (op_load (p := 0) ld_28.h rfl rfl rfl rfl) ?_
    refine Ops.gv rfl rfl rfl rfl (not_t hb7) (op_fieldAddr fo_30_0.h rfl rfl) ?_
    refine Ops.gv rfl rfl rfl rfl (not_t hb7) (op_load (p := 0) ld_2.h rfl rfl rfl rfl) ?_
    refine ob' h fun r8 g9 h => ?_
    refine Ops.ghd (ns := []) rfl rfl rfl rfl (not_t hb7) rfl (op_callE (Zc9 _ _ _ _ g9) rfl rfl) ?_
    refine Ops.gv rfl rfl rfl rfl (not_t hb7) (op_not rfl rfl) ?_
    refine Ops.v rfl (op_pick_f rfl (not_t hb7) rfl rfl) ?_
    refine zz ?_
    exact ⟨(!r8), h, Ghost.both (ns := [0]) rfl rfl⟩
   iterate 6 refine Ops.gs rfl rfl rfl (.b rfl (not_f hb7)) rfl rfl ?_
   refine Ops.v rfl (op_pick_t rfl (not_f hb7) rfl rfl) ?_
   refine zz ?_
   exact ⟨true, h, Ghost.both (ns := [0]) rfl rfl⟩
  iterate 6 refine Ops.gs rfl rfl rfl (.b rfl (not_f hb4)) rfl rfl ?_
  refine Ops.v rfl (op_pick_t rfl (not_f hb4) rfl rfl) ?_
  refine zz ?_
  exact ⟨true, h, Ghost.both (ns := [0]) rfl rfl⟩
 intro x10 h
 replace h : Zt p0 x10 = some r := h
 unfold Zt at h
 refine cnd h (fun hb11 h => ?_) fun hb11 h => ?_
 ·
  refine AW.ct hb11 rfl ?_
  refine zz ?_
  refine AW.ret ?_
  rw [← Option.some.inj h]
  exact ⟨[C.bool false], _, Ghost.refl _, (.cons (.tmp rfl) .nil), [], _, _, rfl, ⟨rfl, rfl⟩⟩
 refine AW.cf hb11 rfl ?_
 refine AW.skip ?_
 refine AW.seq ?_
 refine AW.cut (τ := Unit) (fun (_ : Unit) => ⟨[(1, C.val (.pointer (some ⟨b1, 0, none⟩)))], [Obj.box b1 30 [C.int p0.room, C.im kEvent 9 p0.events, C.im kEvent 9 p0.parked]]⟩) (fun (_ : Unit) => Z8p p0 = some r) ?_ ?_
 ·
  refine zz ?_
  refine ob' h fun o77 g78 q79 => ?_
  refine AW.loop (τ := Int) (x := 0) (fun x22 => ⟨[(1, C.val (.pointer (some ⟨b1, 0, none⟩))), (3, C.int x22)], [Obj.box b1 30 [C.int p0.room, C.im kEvent 9 p0.events, C.im kEvent 9 p0.parked]]⟩) (fun k x22 => iter (Z46 p0) k x22 = some o77) g78 (Ghost.both (ns := [0]) rfl rfl) ?_
  intro k x22 i81
  refine iter_succ' (show iter (Z46 p0) k x22 = some o77 from i81) fun k80 y82 hlt_k80 h h83 => ?_
  replace h : Z46 p0 x22 = some y82 := h
  unfold Z46 at h
  refine zz ?_
  refine cnd h (fun hb23 h => ?_) fun hb23 h => ?_
  ·
   refine AW.ct hb23 rfl ?_
   refine AW.skip ?_
   refine AW.seq ?_
   refine AW.block ?_
   refine AW.seq ?_
   refine AW.cut (τ := Bool) (fun x31 => ⟨[(1, C.val (.pointer (some ⟨b1, 0, none⟩))), (3, C.int x22), (54, C.bool x31)], [Obj.box b1 30 [C.int p0.room, C.im kEvent 9 p0.events, C.im kEvent 9 p0.parked]]⟩) (fun x31 => Z67 x22 x31 = some y82) ?_ ?_
   ·
    refine AW.regionD (L := [1, 3, 6, 11, 13, 17]) (Lt := []) (k := .light 0 false (.light 1 true (.light 2 false (.light 3 true (.light 4 false (.light 5 false (.light 6 true (.one 7 (.light 8 false (.light 9 false (.light 10 false (.light 11 true (.light 12 false (.light 13 true (.light 14 false (.light 15 false (.light 16 false (.light 17 true (.one 18 (.light 19 false (.light 20 false .done))))))))))))))))))))) (ns := [0]) (by kernel_rfl) (by kernel_rfl) (by kernel_rfl) (by kernel_rfl) rfl ?_
    refine zz ?_
    refine ob' h fun e24 g25 h => ?_
    refine OpsD.v rfl rfl (op_indexAddr_im sl_28.h rfl rfl g25 rfl) ?_
    refine OpsD.v rfl rfl (op_load_ipA ld_38.h rfl rfl rfl rfl) ?_
    refine zz ?_
    refine ob' h fun r26 g27 h => ?_
    refine StepD.h (ns := []) rfl rfl rfl (op_callE (Zc8 _ _ _ g27) rfl rfl) ?_
    rintro _ _ ⟨rfl, rfl⟩
    refine zz ?_
    refine cnd h (fun hb28 h => ?_) fun hb28 h => ?_
    ·
     refine OpsD.gv rfl rfl rfl rfl rfl (not_t hb28) (op_fieldAddr fo_30_2.h rfl rfl) ?_
     refine OpsD.gv rfl rfl rfl rfl rfl (not_t hb28) (op_load (p := 0) ld_28.h rfl rfl rfl rfl) ?_
     refine OpsD.gv rfl rfl rfl rfl rfl (not_t hb28) (op_fieldAddr fo_30_1.h rfl rfl) ?_
     refine OpsD.gv rfl rfl rfl rfl rfl (not_t hb28) (op_load (p := 0) ld_28.h rfl rfl rfl rfl) ?_
     refine OpsD.gv rfl rfl rfl rfl rfl (not_t hb28) (op_move rfl rfl) ?_
     refine OpsD.gv rfl rfl rfl rfl rfl (not_t hb28) (op_indexAddr_im sl_28.h rfl rfl g25 rfl) ?_
     refine OpsD.gv rfl rfl rfl rfl rfl (not_t hb28) (op_fieldAddr_ip fo_38_0.h rfl rfl rfl) ?_
     refine OpsD.gv rfl rfl rfl rfl rfl (not_t hb28) (op_load_ip ld_2.h rfl rfl) ?_
     refine zz ?_
     refine ob' h fun r29 g30 h => ?_
     refine StepD.gh (ns := []) rfl rfl rfl rfl rfl (not_t hb28) rfl (op_callE (Z6 _ _ _ g30) rfl rfl) ?_
     rintro _ _ ⟨rfl, rfl⟩
     refine OpsD.gv rfl rfl rfl rfl rfl (not_t hb28) (op_bin rfl rfl rfl rfl) ?_
     refine OpsD.v rfl rfl (op_pick_f rfl (not_t hb28) rfl rfl) ?_
     refine zz ?_
     exact ⟨decide (r29 ≥ 0), h, Ghost.both (ns := [0]) rfl rfl⟩
    iterate 8 refine OpsD.gs rfl rfl rfl rfl (.b rfl (not_f hb28)) rfl rfl ?_
    refine OpsD.one ?_
    refine StepD.gs rfl rfl rfl rfl (.b rfl (not_f hb28)) rfl rfl ?_
    refine OpsD.gs rfl rfl rfl rfl (.b rfl (not_f hb28)) rfl rfl ?_
    refine OpsD.v rfl rfl (op_pick_t rfl (not_f hb28) rfl rfl) ?_
    refine zz ?_
    exact ⟨true, h, Ghost.both (ns := [0]) rfl rfl⟩
   intro x31 h
   replace h : Z67 x22 x31 = some y82 := h
   unfold Z67 at h
   refine cnd h (fun hb32 h => ?_) fun hb32 h => ?_
   ·
    refine AW.ct hb32 rfl ?_
    refine zz ?_
    refine AW.ret ?_
    obtain rfl := Option.some.inj h
    obtain rfl := Option.some.inj h83
    replace h := q79
    rw [← Option.some.inj h]
    exact ⟨[C.bool false], _, Ghost.refl _, (.cons (.tmp rfl) .nil), [], _, _, rfl, ⟨rfl, rfl⟩⟩
   refine AW.cf hb32 rfl ?_
   refine zz ?_
   obtain rfl := Option.some.inj h
   exact ⟨k80, (IntKind.i64.wrap (x22 + 1)), hlt_k80, h83, Ghost.both (ns := [0]) rfl rfl⟩
  refine AW.cf hb23 rfl ?_
  refine AW.exit ?_
  obtain rfl := Option.some.inj h
  obtain rfl := Option.some.inj h83
  replace h := q79
  exact ⟨(), h, Ghost.both (ns := [0]) rfl rfl⟩
 rintro ⟨⟩ h
 replace h : Z8p p0 = some r := h
 unfold Z8p at h
 refine AW.seq ?_
 refine AW.cut (τ := Unit) (fun (_ : Unit) => ⟨[(1, C.val (.pointer (some ⟨b1, 0, none⟩)))], [Obj.box b1 30 [C.int p0.room, C.im kEvent 9 p0.events, C.im kEvent 9 p0.parked]]⟩) (fun (_ : Unit) => Z8o p0 = some r) ?_ ?_
 ·
  refine zz ?_
  refine ob' h fun o70 g71 q72 => ?_
  refine AW.loop (τ := Int) (x := 0) (fun x39 => ⟨[(1, C.val (.pointer (some ⟨b1, 0, none⟩))), (4, C.int x39)], [Obj.box b1 30 [C.int p0.room, C.im kEvent 9 p0.events, C.im kEvent 9 p0.parked]]⟩) (fun k x39 => iter (Z45 p0) k x39 = some o70) g71 (Ghost.both (ns := [0]) rfl rfl) ?_
  intro k x39 i74
  refine iter_succ' (show iter (Z45 p0) k x39 = some o70 from i74) fun k73 y75 hlt_k73 h h76 => ?_
  replace h : Z45 p0 x39 = some y75 := h
  unfold Z45 at h
  refine zz ?_
  refine cnd h (fun hb40 h => ?_) fun hb40 h => ?_
  ·
   refine AW.ct hb40 rfl ?_
   refine zz ?_
   refine AW.regionD (L := [1, 3, 6]) (Lt := []) (k := .light 0 false (.light 1 true (.light 2 false (.light 3 true (.light 4 false (.light 5 false (.light 6 true (.one 7 (.done))))))))) (ns := [0]) (by kernel_rfl) (by kernel_rfl) (by kernel_rfl) (by kernel_rfl) rfl ?_
   refine zz ?_
   refine ob' h fun e41 g42 h => ?_
   refine OpsD.v rfl rfl (op_indexAddr_im sl_28.h rfl rfl g42 rfl) ?_
   refine OpsD.v rfl rfl (op_load_ipA ld_38.h rfl rfl rfl rfl) ?_
   refine zz ?_
   refine ob' h fun r43 g44 h => ?_
   refine StepD.h (ns := []) rfl rfl rfl (op_callE (Zc8 _ _ _ g44) rfl rfl) ?_
   rintro _ _ ⟨rfl, rfl⟩
   refine zz ?_
   refine cnd h (fun hb45 h => ?_) fun hb45 h => ?_
   ·
    refine AW.ct hb45 rfl ?_
    refine zz ?_
    refine AW.ret ?_
    obtain rfl := Option.some.inj h
    obtain rfl := Option.some.inj h76
    replace h := q72
    rw [← Option.some.inj h]
    exact ⟨[C.bool false], _, Ghost.refl _, (.cons (.tmp rfl) .nil), [], _, _, rfl, ⟨rfl, rfl⟩⟩
   refine AW.cf hb45 rfl ?_
   refine zz ?_
   obtain rfl := Option.some.inj h
   exact ⟨k73, (IntKind.i64.wrap (x39 + 1)), hlt_k73, h76, Ghost.both (ns := [0]) rfl rfl⟩
  refine AW.cf hb40 rfl ?_
  refine AW.exit ?_
  obtain rfl := Option.some.inj h
  obtain rfl := Option.some.inj h76
  replace h := q72
  exact ⟨(), h, Ghost.both (ns := [0]) rfl rfl⟩
 rintro ⟨⟩ h
 replace h : Z8o p0 = some r := h
 unfold Z8o at h
 refine zz ?_
 refine ob' h fun r46 g47 h => ?_
 refine Ops.hd (ns := []) rfl rfl (op_callE (Z2' _ _ g47) rfl rfl) ?_
 refine Ops.v rfl (op_assign rfl rfl) ?_
 refine Ops.nil ?_
 refine AW.seq ?_
 refine AW.cut (τ := Unit) (fun (_ : Unit) => ⟨[], []⟩) (fun (_ : Unit) => Zav = some r) ?_ ?_
 ·
  refine zz ?_
  refine ob' h fun o63 g64 q65 => ?_
  refine AW.loop (τ := Int) (x := 0) (fun x52 => ⟨[(5, C.im kI64 1 r46), (6, C.int x52)], []⟩) (fun k x52 => iter (Z44 r46) k x52 = some o63) g64 (Ghost.both (ns := []) rfl rfl) ?_
  intro k x52 i67
  refine iter_succ' (show iter (Z44 r46) k x52 = some o63 from i67) fun k66 y68 hlt_k66 h h69 => ?_
  replace h : Z44 r46 x52 = some y68 := h
  unfold Z44 at h
  refine zz ?_
  refine cnd h (fun hb53 h => ?_) fun hb53 h => ?_
  ·
   refine AW.ct hb53 rfl ?_
   refine zz ?_
   refine ob' h fun e54 g55 h => ?_
   refine Ops.v rfl (op_indexAddr_im sl_26.h rfl rfl g55 rfl) ?_
   refine Ops.v rfl (op_load_ip ld_2.h rfl rfl) ?_
   refine zz ?_
   refine cnd h (fun hb56 h => ?_) fun hb56 h => ?_
   ·
    refine AW.ct hb56 rfl ?_
    refine zz ?_
    refine AW.ret ?_
    obtain rfl := Option.some.inj h
    obtain rfl := Option.some.inj h69
    replace h := q65
    rw [← Option.some.inj h]
    exact ⟨[C.bool false], _, Ghost.refl _, (.cons (.tmp rfl) .nil), [], _, _, rfl, ⟨rfl, rfl⟩⟩
   refine AW.cf hb56 rfl ?_
   refine zz ?_
   obtain rfl := Option.some.inj h
   exact ⟨k66, (IntKind.i64.wrap (x52 + 1)), hlt_k66, h69, Ghost.both (ns := []) rfl rfl⟩
  refine AW.cf hb53 rfl ?_
  refine AW.exit ?_
  obtain rfl := Option.some.inj h
  obtain rfl := Option.some.inj h69
  replace h := q65
  exact ⟨(), h, Ghost.both (ns := []) rfl rfl⟩
 rintro ⟨⟩ h
 replace h : Zav = some r := h
 unfold Zav at h
 refine zz ?_
 refine AW.ret ?_
 rw [← Option.some.inj h]
 exact ⟨[C.bool true], _, Ghost.refl _, (.cons (.tmp rfl) .nil), [], _, _, rfl, ⟨rfl, rfl⟩⟩

def Zb2 (l69 : List Int) : Option (List Int) := some l69
def Z8y (x37 : Int) (l67 : List Int) : Option ((List Int × Int) ⊕ ((List Int))) := some (.inl (l67, (IntKind.i64.wrap (x37 + 1))))
def Z6h (x53 : Int) (l65 : List Int) : Option ((List Int × Int) ⊕ ((List Int))) := some (.inl (l65, (IntKind.i64.wrap (x53 + 1))))
def Z13 (p0 : TGraph') (r2 : List Int) (x37 : Int) (l52 : List Int) (x53 : Int) : Option ((List Int × Int) ⊕ ((List Int))) := cond (decide (x53 < (p0.events.length : Int))) ((getI r2 x53).bind fun e55 => cond (e55 == x37) ((getI p0.events x53).bind fun e58 => (chk (decide ((l52.length + [e58.id].length) * 8 ≤ 140737488355328))).bind fun u62 => Z6h x53 (l52 ++ [e58.id])) (Z6h x53 l52)) (some (.inr l52))
def Z4f (p0 : TGraph') (r2 : List Int) (l36 : List Int) (x37 : Int) : Option ((List Int × Int) ⊕ ((List Int))) := cond (decide ((l36.length : Int) < (p0.events.length : Int))) ((iter (fun z71 => Z13 p0 r2 x37 z71.1 z71.2) big (l36, 0)).bind fun y72 => Z8y x37 y72) (some (.inr l36))
def Z6g (p0 : TGraph') : Option (List Int) := (Z2e p0.events).bind fun r2 => (iter (fun z73 => Z4f p0 r2 z73.1 z73.2) big (([] : List Int), 1)).bind fun y74 => Zb2 y74
set_option maxHeartbeats 1000000 in
theorem Zbe (p0 : TGraph') (r : List Int) (h : Z6g p0 = some r) : Ok Tryz.prog 57 [C.agg [C.int p0.room, C.im kEvent 9 p0.events, C.im kEvent 9 p0.parked]] [] (fun c qs => ∃ (v70 : Value), c = C.val v70 ∧ qs = [Obj.arr v70 2 kI64 1 r]) := by
 refine Ok.of_body (rs := [.tmp 2]) Tryz.func57 rfl rfl rfl rfl rfl fun X => ?_
 unfold Z6g at h
 refine zz ?_
 refine Ops.h (ns := []) rfl rfl (op_boxA rfl rfl) ?_
 rintro _ _ ⟨b1, rfl, rfl⟩
 refine zz ?_
 refine ob' h fun r2 g3 h => ?_
 refine Ops.hd (ns := []) rfl rfl (op_callE (Z2' _ _ g3) rfl rfl) ?_
 refine zz ?_
 refine Ops.h (ns := []) rfl rfl (op_buildSlice (k := kI64) (ys := ([] : List Int)) ar_26 .nil rfl rfl rfl) ?_
 rintro _ _ ⟨b4, rfl, rfl⟩
 refine Ops.v rfl (op_assign rfl rfl) ?_
 refine Ops.nil ?_
 refine AW.seq ?_
 refine AW.cut (τ := List Int × Value) (fun (l69, v68) => ⟨[(4, C.val v68)], [Obj.arr v68 2 kI64 1 l69]⟩) (fun (l69, v68) => Zb2 l69 = some r) ?_ ?_
 ·
  refine zz ?_
  refine ob' h fun o75 g76 q77 => ?_
  refine AW.loop (τ := List Int × Int × Value) (x := (([] : List Int), 1, (.slice (some ⟨b4, 0, none⟩) 0 0))) (fun (l36, x37, v35) => ⟨[(1, C.val (.pointer (some ⟨b1, 0, none⟩))), (3, C.im kI64 1 r2), (4, C.val v35), (5, C.int x37)], [Obj.box b1 30 [C.int p0.room, C.im kEvent 9 p0.events, C.im kEvent 9 p0.parked], Obj.arr v35 2 kI64 1 l36]⟩) (fun k (l36, x37, v35) => iter (fun z73 => Z4f p0 r2 z73.1 z73.2) k (l36, x37) = some o75) g76 (Ghost.both (ns := [1, 0]) rfl rfl) ?_
  rintro k ⟨l36, x37, v35⟩ i79
  refine iter_succ' (show iter (fun z73 => Z4f p0 r2 z73.1 z73.2) k (l36, x37) = some o75 from i79) fun k78 y80 hlt_k78 h h81 => ?_
  replace h : Z4f p0 r2 l36 x37 = some y80 := h
  unfold Z4f at h
  refine zz ?_
  refine Ops.v rfl (op_len_arr (p := 1) sl_26.h rfl rfl rfl) ?_
  refine zz ?_
  refine cnd h (fun hb38 h => ?_) fun hb38 h => ?_
  ·
   refine AW.ct hb38 rfl ?_
   refine AW.skip ?_
   refine AW.seq ?_
   refine AW.cut (τ := List Int × Value) (fun (l67, v66) => ⟨[(1, C.val (.pointer (some ⟨b1, 0, none⟩))), (3, C.im kI64 1 r2), (4, C.val v66), (5, C.int x37)], [Obj.box b1 30 [C.int p0.room, C.im kEvent 9 p0.events, C.im kEvent 9 p0.parked], Obj.arr v66 2 kI64 1 l67]⟩) (fun (l67, v66) => Z8y x37 l67 = some y80) ?_ ?_
   ·
    refine zz ?_
    refine ob' h fun o82 g83 q84 => ?_
    refine AW.loop (τ := List Int × Int × Value) (x := (l36, 0, v35)) (fun (l52, x53, v51) => ⟨[(1, C.val (.pointer (some ⟨b1, 0, none⟩))), (3, C.im kI64 1 r2), (4, C.val v51), (5, C.int x37), (6, C.int x53)], [Obj.box b1 30 [C.int p0.room, C.im kEvent 9 p0.events, C.im kEvent 9 p0.parked], Obj.arr v51 2 kI64 1 l52]⟩) (fun k (l52, x53, v51) => iter (fun z71 => Z13 p0 r2 x37 z71.1 z71.2) k (l52, x53) = some o82) g83 (Ghost.both (ns := [0, 0]) rfl rfl) ?_
    rintro k ⟨l52, x53, v51⟩ i86
    refine iter_succ' (show iter (fun z71 => Z13 p0 r2 x37 z71.1 z71.2) k (l52, x53) = some o82 from i86) fun k85 y87 hlt_k85 h h88 => ?_
    replace h : Z13 p0 r2 x37 l52 x53 = some y87 := h
    unfold Z13 at h
    refine zz ?_
    refine cnd h (fun hb54 h => ?_) fun hb54 h => ?_
    ·
     refine AW.ct hb54 rfl ?_
     refine AW.skip ?_
     refine AW.seq ?_
     refine AW.cut (τ := List Int × Value) (fun (l65, v64) => ⟨[(1, C.val (.pointer (some ⟨b1, 0, none⟩))), (3, C.im kI64 1 r2), (4, C.val v64), (5, C.int x37), (6, C.int x53)], [Obj.box b1 30 [C.int p0.room, C.im kEvent 9 p0.events, C.im kEvent 9 p0.parked], Obj.arr v64 2 kI64 1 l65]⟩) (fun (l65, v64) => Z6h x53 l65 = some y87) ?_ ?_
     ·
      refine zz ?_
      refine ob' h fun e55 g56 h => ?_
      refine Ops.v rfl (op_indexAddr_im sl_26.h rfl rfl g56 rfl) ?_
      refine Ops.v rfl (op_load_ip ld_2.h rfl rfl) ?_
      refine zz ?_
      refine cnd h (fun hb57 h => ?_) fun hb57 h => ?_
      ·
       refine AW.ct hb57 rfl ?_
       refine zz ?_
       refine ob' h fun e58 g59 h => ?_
       refine Ops.v rfl (op_indexAddr_im sl_28.h rfl rfl g59 rfl) ?_
       refine Ops.v rfl (op_fieldAddr_ip fo_38_0.h rfl rfl rfl) ?_
       refine Ops.v rfl (op_load_ip ld_2.h rfl rfl) ?_
       refine Ops.h (ns := []) rfl rfl (op_buildSlice (k := kI64) (ys := [e58.id]) ar_26 (.one rfl (One.val rfl) rfl rfl .nil) rfl rfl rfl) ?_
       rintro _ _ ⟨b60, rfl, rfl⟩
       refine ob' h fun u62 c61 h => ?_
       refine Ops.h (ns := [2, 0]) rfl rfl (op_append ar_26 rfl rfl (of_decide_eq_true (chk_some c61)) (app63 (by decide) c61) rfl) ?_
       rintro _ _ ⟨v63, rfl, rfl⟩
       refine zz ?_
       exact ⟨((l52 ++ [e58.id]), v63), h, Ghost.both (ns := [1, 0]) rfl rfl⟩
      refine AW.cf hb57 rfl ?_
      refine zz ?_
      exact ⟨(l52, v51), h, Ghost.both (ns := [0, 0]) rfl rfl⟩
     rintro ⟨l65, v64⟩ h
     replace h : Z6h x53 l65 = some y87 := h
     unfold Z6h at h
     refine zz ?_
     obtain rfl := Option.some.inj h
     exact ⟨k85, (l65, (IntKind.i64.wrap (x53 + 1)), v64), hlt_k85, h88, Ghost.both (ns := [0, 0]) rfl rfl⟩
    refine AW.cf hb54 rfl ?_
    refine AW.exit ?_
    obtain rfl := Option.some.inj h
    obtain rfl := Option.some.inj h88
    replace h := q84
    exact ⟨(l52, v51), h, Ghost.both (ns := [0, 0]) rfl rfl⟩
   rintro ⟨l67, v66⟩ h
   replace h : Z8y x37 l67 = some y80 := h
   unfold Z8y at h
   refine zz ?_
   obtain rfl := Option.some.inj h
   exact ⟨k78, (l67, (IntKind.i64.wrap (x37 + 1)), v66), hlt_k78, h81, Ghost.both (ns := [0, 0]) rfl rfl⟩
  refine AW.cf hb38 rfl ?_
  refine AW.exit ?_
  obtain rfl := Option.some.inj h
  obtain rfl := Option.some.inj h81
  replace h := q77
  exact ⟨(l36, v35), h, Ghost.both (ns := [1]) rfl rfl⟩
 rintro ⟨l69, v68⟩ h
 replace h : Zb2 l69 = some r := h
 unfold Zb2 at h
 refine zz ?_
 refine AW.ret ?_
 rw [← Option.some.inj h]
 exact ⟨[C.val v68], _, Ghost.refl _, (.cons (.tmp rfl) .nil), [0], _, _, rfl, ⟨v68, rfl, rfl⟩⟩
theorem Zbe' (p0 : TGraph') (r : List Int) (h : Z6g p0 = some r) : Ok Tryz.prog 57 [C.agg [C.int p0.room, C.im kEvent 9 p0.events, C.im kEvent 9 p0.parked]] [] (fun c qs => c = C.im kI64 1 r ∧ qs = []) :=
  Ok.freeze (Zbe p0 r h) (by rintro c qs ⟨v70, rfl, rfl⟩; exact Frz.arr)

def Zb3 : Option Int := some 0
def Z6i (p0 : List TEntry) (x9 : Int) (x14 : Bool) : Option (Int ⊕ (Int ⊕ Unit)) := cond x14 ((getI p0 x9).bind fun e16 => some (.inr (.inl e16.id))) (some (.inl (IntKind.i64.wrap (x9 + 1))))
def Z2i (p0 : List TEntry) (p1 : Int) (p2 : Int) (x9 : Int) : Option (Int ⊕ (Int ⊕ Unit)) := cond (decide (x9 < (p0.length : Int))) ((getI p0 x9).bind fun e11 => cond (e11.kind == p1) (Z6i p0 x9 (e11.key == p2)) (Z6i p0 x9 false)) (some (.inr (.inr ())))
def Z14 (p0 : List TEntry) (p1 : Int) (p2 : Int) : Option Int := (iter (Z2i p0 p1 p2) big 0).bind (fun z19 => match z19 with | .inl y18 => some y18 | .inr () => Zb3)
theorem Z86 (p0 : List TEntry) (p1 : Int) (p2 : Int) (r : Int) (h : Z14 p0 p1 p2 = some r) : Ok Tryz.prog 72 [C.im kEntry 3 p0, C.int p1, C.int p2] [] (fun c qs => c = C.int r ∧ qs = []) := by
 refine Ok.of_body (rs := [.tmp 6]) Tryz.func72 rfl rfl rfl rfl rfl fun X => ?_
 unfold Z14 at h
 refine AW.seq ?_
 refine AW.region ?_
 refine Ops.v rfl (op_assign rfl rfl) ?_
 refine Ops.nil ?_
 refine AW.seq ?_
 refine AW.cut (τ := Unit) (fun (_ : Unit) => ⟨[], []⟩) (fun (_ : Unit) => Zb3 = some r) ?_ ?_
 ·
  refine zz ?_
  refine ob' h fun o20 g21 q22 => ?_
  refine AW.loop (τ := Int) (x := 0) (fun x9 => ⟨[(0, C.im kEntry 3 p0), (1, C.int p1), (2, C.int p2), (7, C.int x9)], []⟩) (fun k x9 => iter (Z2i p0 p1 p2) k x9 = some o20) g21 (Ghost.both (ns := []) rfl rfl) ?_
  intro k x9 i24
  refine iter_succ' (show iter (Z2i p0 p1 p2) k x9 = some o20 from i24) fun k23 y25 hlt_k23 h h26 => ?_
  replace h : Z2i p0 p1 p2 x9 = some y25 := h
  unfold Z2i at h
  refine zz ?_
  refine cnd h (fun hb10 h => ?_) fun hb10 h => ?_
  ·
   refine AW.ct hb10 rfl ?_
   refine AW.skip ?_
   refine AW.seq ?_
   refine AW.block ?_
   refine AW.seq ?_
   refine AW.cut (τ := Bool) (fun x14 => ⟨[(0, C.im kEntry 3 p0), (1, C.int p1), (2, C.int p2), (7, C.int x9), (29, C.bool x14)], []⟩) (fun x14 => Z6i p0 x9 x14 = some y25) ?_ ?_
   ·
    refine zz ?_
    refine ob' h fun e11 g12 h => ?_
    refine Ops.v rfl (op_indexAddr_im sl_49.h rfl rfl g12 rfl) ?_
    refine Ops.v rfl (op_fieldAddr_ip fo_99_0.h rfl rfl rfl) ?_
    refine Ops.v rfl (op_load_ip ld_2.h rfl rfl) ?_
    refine zz ?_
    refine cnd h (fun hb13 h => ?_) fun hb13 h => ?_
    ·
     refine zz ?_
     refine Ops.gv rfl rfl rfl rfl hb13 (op_indexAddr_im sl_49.h rfl rfl g12 rfl) ?_
     refine Ops.gv rfl rfl rfl rfl hb13 (op_fieldAddr_ip fo_99_1.h rfl rfl rfl) ?_
     refine Ops.gv rfl rfl rfl rfl hb13 (op_load_ip ld_2.h rfl rfl) ?_
     refine zz ?_
     exact ⟨(e11.key == p2), h, Ghost.both (ns := []) rfl rfl⟩
    refine zz ?_
    exact ⟨false, h, Ghost.both (ns := []) rfl rfl⟩
   intro x14 h
   replace h : Z6i p0 x9 x14 = some y25 := h
   unfold Z6i at h
   refine cnd h (fun hb15 h => ?_) fun hb15 h => ?_
   ·
    refine AW.ct hb15 rfl ?_
    refine zz ?_
    refine ob' h fun e16 g17 h => ?_
    refine Ops.v rfl (op_indexAddr_im sl_49.h rfl rfl g17 rfl) ?_
    refine Ops.v rfl (op_fieldAddr_ip fo_99_2.h rfl rfl rfl) ?_
    refine Ops.v rfl (op_load_ip ld_2.h rfl rfl) ?_
    refine zz ?_
    refine AW.ret ?_
    obtain rfl := Option.some.inj h
    obtain rfl := Option.some.inj h26
    replace h := q22
    rw [← Option.some.inj h]
    exact ⟨[C.int e16.id], _, Ghost.refl _, (.cons (.tmp rfl) .nil), [], _, _, rfl, ⟨rfl, rfl⟩⟩
   refine AW.cf hb15 rfl ?_
   refine zz ?_
   obtain rfl := Option.some.inj h
   exact ⟨k23, (IntKind.i64.wrap (x9 + 1)), hlt_k23, h26, Ghost.both (ns := []) rfl rfl⟩
  refine AW.cf hb10 rfl ?_
  refine AW.exit ?_
  obtain rfl := Option.some.inj h
  obtain rfl := Option.some.inj h26
  replace h := q22
  exact ⟨(), h, Ghost.both (ns := []) rfl rfl⟩
 rintro ⟨⟩ h
 replace h : Zb3 = some r := h
 unfold Zb3 at h
 refine zz ?_
 refine AW.ret ?_
 rw [← Option.some.inj h]
 exact ⟨[C.int 0], _, Ghost.refl _, (.cons (.tmp rfl) .nil), [], _, _, rfl, ⟨rfl, rfl⟩⟩

def Zb4 : Option Bool := some true
def Z4n (p0 : List (List TEntry)) (p1 : TEntry) (x8 : Int) : Option (Int ⊕ (Bool ⊕ Unit)) := cond (decide (x8 < (p0.length : Int))) ((getI p0 x8).bind fun e10 => (Z14 e10 p1.kind p1.key).bind fun r12 => cond (r12 != p1.id) (some (.inr (.inl false))) (some (.inl (IntKind.i64.wrap (x8 + 1))))) (some (.inr (.inr ())))
def Z94 (p0 : List (List TEntry)) (p1 : TEntry) : Option Bool := (iter (Z4n p0 p1) big 0).bind (fun z16 => match z16 with | .inl y15 => some y15 | .inr () => Zb4)
theorem Zeh (p0 : List (List TEntry)) (p1 : TEntry) (r : Bool) (h : Z94 p0 p1 = some r) : Ok Tryz.prog 145 [C.im kEntryS 1 p0, C.agg [C.int p1.kind, C.int p1.key, C.int p1.id]] [] (fun c qs => c = C.bool r ∧ qs = []) := by
 refine Ok.of_body (rs := [.tmp 4]) Tryz.func145 rfl rfl rfl rfl rfl fun X => ?_
 unfold Z94 at h
 refine zz ?_
 refine Ops.h (ns := []) rfl rfl (op_boxA rfl rfl) ?_
 rintro _ _ ⟨b1, rfl, rfl⟩
 refine Ops.v rfl (op_assign rfl rfl) ?_
 refine Ops.nil ?_
 refine AW.seq ?_
 refine AW.cut (τ := Unit) (fun (_ : Unit) => ⟨[], []⟩) (fun (_ : Unit) => Zb4 = some r) ?_ ?_
 ·
  refine zz ?_
  refine ob' h fun o17 g18 q19 => ?_
  refine AW.loop (τ := Int) (x := 0) (fun x8 => ⟨[(0, C.im kEntryS 1 p0), (3, C.val (.pointer (some ⟨b1, 0, none⟩))), (5, C.int x8)], [Obj.box b1 99 [C.int p1.kind, C.int p1.key, C.int p1.id]]⟩) (fun k x8 => iter (Z4n p0 p1) k x8 = some o17) g18 (Ghost.both (ns := [0]) rfl rfl) ?_
  intro k x8 i21
  refine iter_succ' (show iter (Z4n p0 p1) k x8 = some o17 from i21) fun k20 y22 hlt_k20 h h23 => ?_
  replace h : Z4n p0 p1 x8 = some y22 := h
  unfold Z4n at h
  refine zz ?_
  refine cnd h (fun hb9 h => ?_) fun hb9 h => ?_
  ·
   refine AW.ct hb9 rfl ?_
   refine zz ?_
   refine AW.regionD (L := [3, 5, 7, 10]) (Lt := []) (k := .light 0 false (.light 1 false (.light 2 false (.light 3 true (.light 4 false (.light 5 true (.light 6 false (.light 7 true (.light 9 false (.light 10 true (.one 8 (.light 11 false .done)))))))))))) (ns := [0]) (by kernel_rfl) (by kernel_rfl) (by kernel_rfl) (by kernel_rfl) rfl ?_
   refine zz ?_
   refine ob' h fun e10 g11 h => ?_
   refine OpsD.v rfl rfl (op_indexAddr_im sl_46.h rfl rfl g11 rfl) ?_
   refine OpsD.v rfl rfl (op_load_ip ld_49.h rfl rfl) ?_
   refine zz ?_
   refine ob' h fun r12 g13 h => ?_
   refine StepD.h (ns := []) rfl rfl rfl (op_callE (Z86 _ _ _ _ g13) rfl rfl) ?_
   rintro _ _ ⟨rfl, rfl⟩
   refine zz ?_
   refine cnd h (fun hb14 h => ?_) fun hb14 h => ?_
   ·
    refine AW.ct hb14 rfl ?_
    refine zz ?_
    refine AW.ret ?_
    obtain rfl := Option.some.inj h
    obtain rfl := Option.some.inj h23
    replace h := q19
    rw [← Option.some.inj h]
    exact ⟨[C.bool false], _, Ghost.refl _, (.cons (.tmp rfl) .nil), [], _, _, rfl, ⟨rfl, rfl⟩⟩
   refine AW.cf hb14 rfl ?_
   refine zz ?_
   obtain rfl := Option.some.inj h
   exact ⟨k20, (IntKind.i64.wrap (x8 + 1)), hlt_k20, h23, Ghost.both (ns := [0]) rfl rfl⟩
  refine AW.cf hb9 rfl ?_
  refine AW.exit ?_
  obtain rfl := Option.some.inj h
  obtain rfl := Option.some.inj h23
  replace h := q19
  exact ⟨(), h, Ghost.both (ns := []) rfl rfl⟩
 rintro ⟨⟩ h
 replace h : Zb4 = some r := h
 unfold Zb4 at h
 refine zz ?_
 refine AW.ret ?_
 rw [← Option.some.inj h]
 exact ⟨[C.bool true], _, Ghost.refl _, (.cons (.tmp rfl) .nil), [], _, _, rfl, ⟨rfl, rfl⟩⟩

def Z91 (l35 : List TEntry) : Option (List TEntry) := some l35
def Z6k (x19 : Int) (l33 : List TEntry) : Option ((List TEntry × Int) ⊕ ((List TEntry))) := some (.inl (l33, (IntKind.i64.wrap (x19 + 1))))
def Z6l (p0 : List TEntry) (l18 : List TEntry) (x19 : Int) (x24 : Bool) : Option ((List TEntry × Int) ⊕ ((List TEntry))) := cond x24 ((getI p0 x19).bind fun e26 => (chk (decide ((l18.length + [e26].length) * 24 ≤ 140737488355328))).bind fun u30 => Z6k x19 (l18 ++ [e26])) (Z6k x19 l18)
def Z2k (p0 : List TEntry) (p1 : TEntry) (l18 : List TEntry) (x19 : Int) : Option ((List TEntry × Int) ⊕ ((List TEntry))) := cond (decide (x19 < (p0.length : Int))) ((getI p0 x19).bind fun e21 => cond (e21.kind != p1.kind) (Z6l p0 l18 x19 true) (Z6l p0 l18 x19 (e21.key != p1.key))) (some (.inr l18))
def Z6j (p0 : List TEntry) (p1 : TEntry) : Option (List TEntry) := (iter (fun z37 => Z2k p0 p1 z37.1 z37.2) big (([] : List TEntry), 0)).bind fun y38 => Z91 y38
theorem Zbf (p0 : List TEntry) (p1 : TEntry) (r : List TEntry) (h : Z6j p0 p1 = some r) : Ok Tryz.prog 163 [C.im kEntry 3 p0, C.agg [C.int p1.kind, C.int p1.key, C.int p1.id]] [] (fun c qs => ∃ (v36 : Value), c = C.val v36 ∧ qs = [Obj.arr v36 99 kEntry 3 r]) := by
 refine Ok.of_body (rs := [.tmp 4]) Tryz.func163 rfl rfl rfl rfl rfl fun X => ?_
 unfold Z6j at h
 refine zz ?_
 refine Ops.h (ns := []) rfl rfl (op_boxA rfl rfl) ?_
 rintro _ _ ⟨b1, rfl, rfl⟩
 refine zz ?_
 refine Ops.h (ns := []) rfl rfl (op_buildSlice (k := kEntry) (ys := ([] : List TEntry)) ar_49 .nil rfl rfl rfl) ?_
 rintro _ _ ⟨b2, rfl, rfl⟩
 refine Ops.v rfl (op_assign rfl rfl) ?_
 refine Ops.nil ?_
 refine AW.seq ?_
 refine AW.cut (τ := List TEntry × Value) (fun (l35, v34) => ⟨[(5, C.val v34)], [Obj.arr v34 99 kEntry 3 l35]⟩) (fun (l35, v34) => Z91 l35 = some r) ?_ ?_
 ·
  refine zz ?_
  refine ob' h fun o39 g40 q41 => ?_
  refine AW.loop (τ := List TEntry × Int × Value) (x := (([] : List TEntry), 0, (.slice (some ⟨b2, 0, none⟩) 0 0))) (fun (l18, x19, v17) => ⟨[(0, C.im kEntry 3 p0), (3, C.val (.pointer (some ⟨b1, 0, none⟩))), (5, C.val v17), (6, C.int x19)], [Obj.box b1 99 [C.int p1.kind, C.int p1.key, C.int p1.id], Obj.arr v17 99 kEntry 3 l18]⟩) (fun k (l18, x19, v17) => iter (fun z37 => Z2k p0 p1 z37.1 z37.2) k (l18, x19) = some o39) g40 (Ghost.both (ns := [1, 0]) rfl rfl) ?_
  rintro k ⟨l18, x19, v17⟩ i43
  refine iter_succ' (show iter (fun z37 => Z2k p0 p1 z37.1 z37.2) k (l18, x19) = some o39 from i43) fun k42 y44 hlt_k42 h h45 => ?_
  replace h : Z2k p0 p1 l18 x19 = some y44 := h
  unfold Z2k at h
  refine zz ?_
  refine cnd h (fun hb20 h => ?_) fun hb20 h => ?_
  ·
   refine AW.ct hb20 rfl ?_
   refine AW.skip ?_
   refine AW.seq ?_
   refine AW.cut (τ := List TEntry × Value) (fun (l33, v32) => ⟨[(0, C.im kEntry 3 p0), (3, C.val (.pointer (some ⟨b1, 0, none⟩))), (5, C.val v32), (6, C.int x19)], [Obj.box b1 99 [C.int p1.kind, C.int p1.key, C.int p1.id], Obj.arr v32 99 kEntry 3 l33]⟩) (fun (l33, v32) => Z6k x19 l33 = some y44) ?_ ?_
   ·
    refine AW.block ?_
    refine AW.seq ?_
    refine AW.cut (τ := Bool) (fun x24 => ⟨[(0, C.im kEntry 3 p0), (3, C.val (.pointer (some ⟨b1, 0, none⟩))), (5, C.val v17), (6, C.int x19), (31, C.bool x24)], [Obj.box b1 99 [C.int p1.kind, C.int p1.key, C.int p1.id], Obj.arr v17 99 kEntry 3 l18]⟩) (fun x24 => Z6l p0 l18 x19 x24 = some y44) ?_ ?_
    ·
     refine AW.regionD (L := [4, 6, 13, 15]) (Lt := []) (k := .light 0 false (.light 1 false (.light 2 false (.light 3 false (.light 4 true (.light 5 false (.light 6 true (.light 7 false (.light 8 false (.light 9 false (.light 10 false (.light 11 false (.light 12 false (.light 13 true (.light 14 false (.light 15 true (.light 16 false (.light 17 false .done)))))))))))))))))) (ns := [0, 0]) (by kernel_rfl) (by kernel_rfl) (by kernel_rfl) (by kernel_rfl) rfl ?_
     refine zz ?_
     refine ob' h fun e21 g22 h => ?_
     refine OpsD.v rfl rfl (op_indexAddr_im sl_49.h rfl rfl g22 rfl) ?_
     refine OpsD.v rfl rfl (op_fieldAddr_ip fo_99_0.h rfl rfl rfl) ?_
     refine OpsD.v rfl rfl (op_load_ip ld_2.h rfl rfl) ?_
     refine zz ?_
     refine cnd h (fun hb23 h => ?_) fun hb23 h => ?_
     ·
      refine zz ?_
      exact ⟨true, h, Ghost.both (ns := [0, 0]) rfl rfl⟩
     refine zz ?_
     refine OpsD.gv rfl rfl rfl rfl rfl hb23 (op_indexAddr_im sl_49.h rfl rfl g22 rfl) ?_
     refine OpsD.gv rfl rfl rfl rfl rfl hb23 (op_fieldAddr_ip fo_99_1.h rfl rfl rfl) ?_
     refine OpsD.gv rfl rfl rfl rfl rfl hb23 (op_load_ip ld_2.h rfl rfl) ?_
     refine zz ?_
     exact ⟨(e21.key != p1.key), h, Ghost.both (ns := [0, 0]) rfl rfl⟩
    intro x24 h
    replace h : Z6l p0 l18 x19 x24 = some y44 := h
    unfold Z6l at h
    refine cnd h (fun hb25 h => ?_) fun hb25 h => ?_
    ·
     refine AW.ct hb25 rfl ?_
     refine zz ?_
     refine ob' h fun e26 g27 h => ?_
     refine Ops.v rfl (op_indexAddr_im sl_49.h rfl rfl g27 rfl) ?_
     refine Ops.v rfl (op_load_ipA ld_99.h rfl rfl rfl rfl) ?_
     refine Ops.h (ns := []) rfl rfl (op_buildSlice (k := kEntry) (ys := [e26]) ar_49 (.agg rfl rfl .nil) rfl rfl rfl) ?_
     rintro _ _ ⟨b28, rfl, rfl⟩
     refine ob' h fun u30 c29 h => ?_
     refine Ops.h (ns := [2, 0]) rfl rfl (op_append ar_49 rfl rfl (of_decide_eq_true (chk_some c29)) (app63 (by decide) c29) rfl) ?_
     rintro _ _ ⟨v31, rfl, rfl⟩
     refine zz ?_
     exact ⟨((l18 ++ [e26]), v31), h, Ghost.both (ns := [1, 0]) rfl rfl⟩
    refine AW.cf hb25 rfl ?_
    refine zz ?_
    exact ⟨(l18, v17), h, Ghost.both (ns := [0, 0]) rfl rfl⟩
   rintro ⟨l33, v32⟩ h
   replace h : Z6k x19 l33 = some y44 := h
   unfold Z6k at h
   refine zz ?_
   obtain rfl := Option.some.inj h
   exact ⟨k42, (l33, (IntKind.i64.wrap (x19 + 1)), v32), hlt_k42, h45, Ghost.both (ns := [0, 0]) rfl rfl⟩
  refine AW.cf hb20 rfl ?_
  refine AW.exit ?_
  obtain rfl := Option.some.inj h
  obtain rfl := Option.some.inj h45
  replace h := q41
  exact ⟨(l18, v17), h, Ghost.both (ns := [1]) rfl rfl⟩
 rintro ⟨l35, v34⟩ h
 replace h : Z91 l35 = some r := h
 unfold Z91 at h
 refine zz ?_
 refine AW.ret ?_
 rw [← Option.some.inj h]
 exact ⟨[C.val v34], _, Ghost.refl _, (.cons (.tmp rfl) .nil), [0], _, _, rfl, ⟨v34, rfl, rfl⟩⟩
theorem Zbf' (p0 : List TEntry) (p1 : TEntry) (r : List TEntry) (h : Z6j p0 p1 = some r) : Ok Tryz.prog 163 [C.im kEntry 3 p0, C.agg [C.int p1.kind, C.int p1.key, C.int p1.id]] [] (fun c qs => c = C.im kEntry 3 r ∧ qs = []) :=
  Ok.freeze (Zbf p0 p1 r h) (by rintro c qs ⟨v36, rfl, rfl⟩; exact Frz.arr)

def Z4g (x5 : Bool) : Option Bool := some x5
def Z8z (p0 : TEntry) (p1 : TEntry) : Option Bool := cond (decide (p0.kind < p1.kind)) (Z4g true) (cond (p0.kind == p1.kind) (Z4g (decide (p0.key < p1.key))) (Z4g false))
theorem Zee (p0 : TEntry) (p1 : TEntry) (r : Bool) (h : Z8z p0 p1 = some r) : Ok Tryz.prog 164 [C.agg [C.int p0.kind, C.int p0.key, C.int p0.id], C.agg [C.int p1.kind, C.int p1.key, C.int p1.id]] [] (fun c qs => c = C.bool r ∧ qs = []) := by
 refine Ok.of_body (rs := [.tmp 4]) Tryz.func164 rfl rfl rfl rfl rfl fun X => ?_
 unfold Z8z at h
 refine zz ?_
 refine Ops.h (ns := []) rfl rfl (op_boxA rfl rfl) ?_
 rintro _ _ ⟨b1, rfl, rfl⟩
 refine Ops.h (ns := []) rfl rfl (op_boxA rfl rfl) ?_
 rintro _ _ ⟨b2, rfl, rfl⟩
 refine Ops.v rfl (op_assign rfl rfl) ?_
 refine Ops.nil ?_
 refine AW.seq ?_
 refine AW.cut (τ := Bool) (fun x5 => ⟨[(4, C.bool x5)], []⟩) (fun x5 => Z4g x5 = some r) ?_ ?_
 ·
  refine zz ?_
  refine cnd h (fun hb3 h => ?_) fun hb3 h => ?_
  ·
   refine zz ?_
   exact ⟨true, h, Ghost.both (ns := []) rfl rfl⟩
  refine zz ?_
  refine cnd h (fun hb4 h => ?_) fun hb4 h => ?_
  ·
   refine zz ?_
   exact ⟨decide (p0.key < p1.key), h, Ghost.both (ns := []) rfl rfl⟩
  refine zz ?_
  exact ⟨false, h, Ghost.both (ns := []) rfl rfl⟩
 intro x5 h
 replace h : Z4g x5 = some r := h
 unfold Z4g at h
 refine AW.ret ?_
 rw [← Option.some.inj h]
 exact ⟨[C.bool x5], _, Ghost.refl _, (.cons (.tmp rfl) .nil), [], _, _, rfl, ⟨rfl, rfl⟩⟩

def Z90 (p1 : TEntry) (r2 : List TEntry) (x19 : Int) : Option (List TEntry) := (sliceI r2 0 x19).bind fun s21 => (chk (decide ((([] : List TEntry).length + s21.length) * 24 ≤ 140737488355328))).bind fun u24 => (chk (decide (((([] : List TEntry) ++ s21).length + [p1].length) * 24 ≤ 140737488355328))).bind fun u28 => (sliceI r2 x19 (r2.length : Int)).bind fun s30 => (chk (decide ((((([] : List TEntry) ++ s21) ++ [p1]).length + s30.length) * 24 ≤ 140737488355328))).bind fun u33 => some (((([] : List TEntry) ++ s21) ++ [p1]) ++ s30)
def Z4h (x11 : Int) (x17 : Bool) : Option (Int ⊕ (Int)) := cond x17 (some (.inl (IntKind.i64.wrap (x11 + 1)))) (some (.inr x11))
def Z4i (p1 : TEntry) (r2 : List TEntry) (x11 : Int) : Option (Int ⊕ (Int)) := cond (decide (x11 < (r2.length : Int))) ((getI r2 x11).bind fun e13 => (Z8z e13 p1).bind fun r15 => Z4h x11 r15) (Z4h x11 false)
def Z2j (p0 : List TEntry) (p1 : TEntry) : Option (List TEntry) := (Z6j p0 p1).bind fun r2 => (iter (Z4i p1 r2) big 0).bind fun y36 => Z90 p1 r2 y36
theorem Z87 (p0 : List TEntry) (p1 : TEntry) (r : List TEntry) (h : Z2j p0 p1 = some r) : Ok Tryz.prog 109 [C.im kEntry 3 p0, C.agg [C.int p1.kind, C.int p1.key, C.int p1.id]] [] (fun c qs => ∃ (v35 : Value), c = C.val v35 ∧ qs = [Obj.arr v35 99 kEntry 3 r]) := by
 refine Ok.of_body (rs := [.tmp 4]) Tryz.func109 rfl rfl rfl rfl rfl fun X => ?_
 unfold Z2j at h
 refine zz ?_
 refine Ops.h (ns := []) rfl rfl (op_boxA rfl rfl) ?_
 rintro _ _ ⟨b1, rfl, rfl⟩
 refine zz ?_
 refine Ops.v rfl (op_loadA (p := 0) (ds := [C.int p1.kind, C.int p1.key, C.int p1.id]) ld_99.h rfl rfl rfl rfl rfl) ?_
 refine ob' h fun r2 g3 h => ?_
 refine Ops.hd (ns := []) rfl rfl (op_callE (Zbf' _ _ _ g3) rfl rfl) ?_
 refine Ops.v rfl (op_assign rfl rfl) ?_
 refine Ops.nil ?_
 refine AW.seq ?_
 refine AW.region ?_
 refine Ops.v rfl (op_assign rfl rfl) ?_
 refine Ops.nil ?_
 refine AW.seq ?_
 refine AW.cut (τ := Int) (fun x19 => ⟨[(3, C.val (.pointer (some ⟨b1, 0, none⟩))), (5, C.im kEntry 3 r2), (6, C.int x19)], [Obj.box b1 99 [C.int p1.kind, C.int p1.key, C.int p1.id]]⟩) (fun x19 => Z90 p1 r2 x19 = some r) ?_ ?_
 ·
  refine zz ?_
  refine ob' h fun o37 g38 q39 => ?_
  refine AW.loop (τ := Int) (x := 0) (fun x11 => ⟨[(3, C.val (.pointer (some ⟨b1, 0, none⟩))), (5, C.im kEntry 3 r2), (6, C.int x11)], [Obj.box b1 99 [C.int p1.kind, C.int p1.key, C.int p1.id]]⟩) (fun k x11 => iter (Z4i p1 r2) k x11 = some o37) g38 (Ghost.both (ns := [0]) rfl rfl) ?_
  intro k x11 i41
  refine iter_succ' (show iter (Z4i p1 r2) k x11 = some o37 from i41) fun k40 y42 hlt_k40 h h43 => ?_
  replace h : Z4i p1 r2 x11 = some y42 := h
  unfold Z4i at h
  refine AW.seq ?_
  refine AW.seq ?_
  refine AW.cut (τ := Bool) (fun x17 => ⟨[(3, C.val (.pointer (some ⟨b1, 0, none⟩))), (5, C.im kEntry 3 r2), (6, C.int x11), (22, C.bool x17)], [Obj.box b1 99 [C.int p1.kind, C.int p1.key, C.int p1.id]]⟩) (fun x17 => Z4h x11 x17 = some y42) ?_ ?_
  ·
   refine AW.regionD (L := [8, 9]) (Lt := []) (k := .light 0 false (.light 1 false (.light 2 false (.light 3 false (.light 4 false (.light 5 false (.light 6 false (.light 7 false (.light 8 true (.light 9 true (.one 10 (.light 11 false .done)))))))))))) (ns := [0]) (by kernel_rfl) (by kernel_rfl) (by kernel_rfl) (by kernel_rfl) rfl ?_
   refine zz ?_
   refine cnd h (fun hb12 h => ?_) fun hb12 h => ?_
   ·
    refine zz ?_
    refine ob' h fun e13 g14 h => ?_
    refine OpsD.gv rfl rfl rfl rfl rfl hb12 (op_indexAddr_im sl_49.h rfl rfl g14 rfl) ?_
    refine OpsD.gv rfl rfl rfl rfl rfl hb12 (op_load_ipA ld_99.h rfl rfl rfl rfl) ?_
    refine OpsD.gv rfl rfl rfl rfl rfl hb12 (op_loadA (p := 0) (ds := [C.int p1.kind, C.int p1.key, C.int p1.id]) ld_99.h rfl rfl rfl rfl rfl) ?_
    refine zz ?_
    refine ob' h fun r15 g16 h => ?_
    refine StepD.gh (ns := []) rfl rfl rfl rfl rfl hb12 rfl (op_callE (Zee _ _ _ g16) rfl rfl) ?_
    rintro _ _ ⟨rfl, rfl⟩
    refine zz ?_
    exact ⟨r15, h, Ghost.both (ns := [0]) rfl rfl⟩
   refine OpsD.gs rfl rfl rfl rfl (.b rfl hb12) rfl rfl ?_
   refine OpsD.gs rfl rfl rfl rfl (.b rfl hb12) rfl rfl ?_
   refine OpsD.gs rfl rfl rfl rfl (.b rfl hb12) rfl rfl ?_
   refine OpsD.gs rfl rfl rfl rfl (.b rfl hb12) rfl rfl ?_
   refine OpsD.gs rfl rfl rfl rfl (.b rfl hb12) rfl rfl ?_
   refine OpsD.one ?_
   refine StepD.gs rfl rfl rfl rfl (.b rfl hb12) rfl rfl ?_
   refine zz ?_
   exact ⟨false, h, Ghost.both (ns := [0]) rfl rfl⟩
  intro x17 h
  replace h : Z4h x11 x17 = some y42 := h
  unfold Z4h at h
  refine cnd h (fun hb18 h => ?_) fun hb18 h => ?_
  ·
   refine AW.ct hb18 rfl ?_
   refine zz ?_
   obtain rfl := Option.some.inj h
   exact ⟨k40, (IntKind.i64.wrap (x11 + 1)), hlt_k40, h43, Ghost.both (ns := [0]) rfl rfl⟩
  refine AW.cf hb18 rfl ?_
  refine AW.exit ?_
  obtain rfl := Option.some.inj h
  obtain rfl := Option.some.inj h43
  replace h := q39
  exact ⟨x11, h, Ghost.both (ns := [0]) rfl rfl⟩
 intro x19 h
 replace h : Z90 p1 r2 x19 = some r := h
 unfold Z90 at h
 refine zz ?_
 refine Ops.h (ns := []) rfl rfl (op_buildSlice (k := kEntry) (ys := ([] : List TEntry)) ar_49 .nil rfl rfl rfl) ?_
 rintro _ _ ⟨b20, rfl, rfl⟩
 refine zz ?_
 refine ob' h fun s21 g22 h => ?_
 refine Ops.v rfl (op_slice_im_h sl_49.h rfl rfl g22 rfl) ?_
 refine ob' h fun u24 c23 h => ?_
 refine Ops.h (ns := [0]) rfl rfl (op_append_im ar_49 rfl rfl (of_decide_eq_true (chk_some c23)) (app63 (by decide) c23) rfl) ?_
 rintro _ _ ⟨v25, rfl, rfl⟩
 refine zz ?_
 refine Ops.v rfl (op_loadA (p := 1) (ds := [C.int p1.kind, C.int p1.key, C.int p1.id]) ld_99.h rfl rfl rfl rfl rfl) ?_
 refine Ops.h (ns := []) rfl rfl (op_buildSlice (k := kEntry) (ys := [p1]) ar_49 (.agg rfl rfl .nil) rfl rfl rfl) ?_
 rintro _ _ ⟨b26, rfl, rfl⟩
 refine ob' h fun u28 c27 h => ?_
 refine Ops.h (ns := [1, 0]) rfl rfl (op_append ar_49 rfl rfl (of_decide_eq_true (chk_some c27)) (app63 (by decide) c27) rfl) ?_
 rintro _ _ ⟨v29, rfl, rfl⟩
 refine zz ?_
 refine ob' h fun s30 g31 h => ?_
 refine Ops.v rfl (op_slice_im_l sl_49.h rfl rfl g31 rfl) ?_
 refine ob' h fun u33 c32 h => ?_
 refine Ops.h (ns := [0]) rfl rfl (op_append_im ar_49 rfl rfl (of_decide_eq_true (chk_some c32)) (app63 (by decide) c32) rfl) ?_
 rintro _ _ ⟨v34, rfl, rfl⟩
 refine zz ?_
 refine AW.ret ?_
 rw [← Option.some.inj h]
 exact ⟨[C.val v34], _, Ghost.refl _, (.cons (.tmp rfl) .nil), [0], _, _, rfl, ⟨v34, rfl, rfl⟩⟩
theorem Z87' (p0 : List TEntry) (p1 : TEntry) (r : List TEntry) (h : Z2j p0 p1 = some r) : Ok Tryz.prog 109 [C.im kEntry 3 p0, C.agg [C.int p1.kind, C.int p1.key, C.int p1.id]] [] (fun c qs => c = C.im kEntry 3 r ∧ qs = []) :=
  Ok.freeze (Z87 p0 p1 r h) (by rintro c qs ⟨v35, rfl, rfl⟩; exact Frz.arr)

def Z6f (p0 : List Int) (p1 : Int) (x12 : Int) (x16 : Bool) : Option (List Int) := cond x16 (some p0) ((sliceI p0 0 x12).bind fun s19 => (chk (decide ((([] : List Int).length + s19.length) * 8 ≤ 140737488355328))).bind fun u22 => (chk (decide (((([] : List Int) ++ s19).length + [p1].length) * 8 ≤ 140737488355328))).bind fun u26 => (sliceI p0 x12 (p0.length : Int)).bind fun s28 => (chk (decide ((((([] : List Int) ++ s19) ++ [p1]).length + s28.length) * 8 ≤ 140737488355328))).bind fun u31 => some (((([] : List Int) ++ s19) ++ [p1]) ++ s28))
def Z8x (p0 : List Int) (p1 : Int) (x12 : Int) : Option (List Int) := cond (decide (x12 < (p0.length : Int))) ((getI p0 x12).bind fun e14 => Z6f p0 p1 x12 (e14 == p1)) (Z6f p0 p1 x12 false)
def Z4d (x6 : Int) (x10 : Bool) : Option (Int ⊕ (Int)) := cond x10 (some (.inl (IntKind.i64.wrap (x6 + 1)))) (some (.inr x6))
def Z4e (p0 : List Int) (p1 : Int) (x6 : Int) : Option (Int ⊕ (Int)) := cond (decide (x6 < (p0.length : Int))) ((getI p0 x6).bind fun e8 => Z4d x6 (decide (e8 < p1))) (Z4d x6 false)
def Z8w (p0 : List Int) (p1 : Int) : Option (List Int) := (iter (Z4e p0 p1) big 0).bind fun y33 => Z8x p0 p1 y33
set_option maxHeartbeats 1000000 in
theorem Zed (p0 : List Int) (p1 : Int) (r : List Int) (h : Z8w p0 p1 = some r) : Ok Tryz.prog 146 [C.im kI64 1 p0, C.int p1] [] (fun c qs => c = C.im kI64 1 r ∧ qs = []) := by
 refine Ok.of_body (rs := [.tmp 4]) Tryz.func146 rfl rfl rfl rfl rfl fun X => ?_
 unfold Z8w at h
 refine AW.seq ?_
 refine AW.region ?_
 refine Ops.v rfl (op_assign rfl rfl) ?_
 refine Ops.nil ?_
 refine AW.seq ?_
 refine AW.region ?_
 refine Ops.v rfl (op_assign rfl rfl) ?_
 refine Ops.nil ?_
 refine AW.seq ?_
 refine AW.cut (τ := Int) (fun x12 => ⟨[(0, C.im kI64 1 p0), (1, C.int p1), (5, C.int x12)], []⟩) (fun x12 => Z8x p0 p1 x12 = some r) ?_ ?_
 ·
  refine zz ?_
  refine ob' h fun o34 g35 q36 => ?_
  refine AW.loop (τ := Int) (x := 0) (fun x6 => ⟨[(0, C.im kI64 1 p0), (1, C.int p1), (5, C.int x6)], []⟩) (fun k x6 => iter (Z4e p0 p1) k x6 = some o34) g35 (Ghost.both (ns := []) rfl rfl) ?_
  intro k x6 i38
  refine iter_succ' (show iter (Z4e p0 p1) k x6 = some o34 from i38) fun k37 y39 hlt_k37 h h40 => ?_
  replace h : Z4e p0 p1 x6 = some y39 := h
  unfold Z4e at h
  refine AW.seq ?_
  refine AW.seq ?_
  refine AW.cut (τ := Bool) (fun x10 => ⟨[(0, C.im kI64 1 p0), (1, C.int p1), (5, C.int x6), (18, C.bool x10)], []⟩) (fun x10 => Z4d x6 x10 = some y39) ?_ ?_
  ·
   refine zz ?_
   refine cnd h (fun hb7 h => ?_) fun hb7 h => ?_
   ·
    refine zz ?_
    refine ob' h fun e8 g9 h => ?_
    refine Ops.gv rfl rfl rfl rfl hb7 (op_indexAddr_im sl_26.h rfl rfl g9 rfl) ?_
    refine Ops.gv rfl rfl rfl rfl hb7 (op_load_ip ld_2.h rfl rfl) ?_
    refine zz ?_
    exact ⟨decide (e8 < p1), h, Ghost.both (ns := []) rfl rfl⟩
   refine zz ?_
   exact ⟨false, h, Ghost.both (ns := []) rfl rfl⟩
  intro x10 h
  replace h : Z4d x6 x10 = some y39 := h
  unfold Z4d at h
  refine cnd h (fun hb11 h => ?_) fun hb11 h => ?_
  ·
   refine AW.ct hb11 rfl ?_
   refine zz ?_
   obtain rfl := Option.some.inj h
   exact ⟨k37, (IntKind.i64.wrap (x6 + 1)), hlt_k37, h40, Ghost.both (ns := []) rfl rfl⟩
  refine AW.cf hb11 rfl ?_
  refine AW.exit ?_
  obtain rfl := Option.some.inj h
  obtain rfl := Option.some.inj h40
  replace h := q36
  exact ⟨x6, h, Ghost.both (ns := []) rfl rfl⟩
 intro x12 h
 replace h : Z8x p0 p1 x12 = some r := h
 unfold Z8x at h
 refine AW.seq ?_
 refine AW.seq ?_
 refine AW.cut (τ := Bool) (fun x16 => ⟨[(0, C.im kI64 1 p0), (1, C.int p1), (5, C.int x12), (32, C.bool x16)], []⟩) (fun x16 => Z6f p0 p1 x12 x16 = some r) ?_ ?_
 ·
  refine zz ?_
  refine cnd h (fun hb13 h => ?_) fun hb13 h => ?_
  ·
   refine zz ?_
   refine ob' h fun e14 g15 h => ?_
   refine Ops.gv rfl rfl rfl rfl hb13 (op_indexAddr_im sl_26.h rfl rfl g15 rfl) ?_
   refine Ops.gv rfl rfl rfl rfl hb13 (op_load_ip ld_2.h rfl rfl) ?_
   refine zz ?_
   exact ⟨(e14 == p1), h, Ghost.both (ns := []) rfl rfl⟩
  refine zz ?_
  exact ⟨false, h, Ghost.both (ns := []) rfl rfl⟩
 intro x16 h
 replace h : Z6f p0 p1 x12 x16 = some r := h
 unfold Z6f at h
 refine cnd h (fun hb17 h => ?_) fun hb17 h => ?_
 ·
  refine AW.ct hb17 rfl ?_
  refine zz ?_
  refine AW.ret ?_
  rw [← Option.some.inj h]
  exact ⟨[C.im kI64 1 p0], _, Ghost.refl _, (.cons (.tmp rfl) .nil), [], _, _, rfl, ⟨rfl, rfl⟩⟩
 refine AW.cf hb17 rfl ?_
 refine zz ?_
 refine Ops.h (ns := []) rfl rfl (op_buildSlice (k := kI64) (ys := ([] : List Int)) ar_26 .nil rfl rfl rfl) ?_
 rintro _ _ ⟨b18, rfl, rfl⟩
 refine zz ?_
 refine ob' h fun s19 g20 h => ?_
 refine Ops.v rfl (op_slice_im_h sl_26.h rfl rfl g20 rfl) ?_
 refine ob' h fun u22 c21 h => ?_
 refine Ops.h (ns := [0]) rfl rfl (op_append_im ar_26 rfl rfl (of_decide_eq_true (chk_some c21)) (app63 (by decide) c21) rfl) ?_
 rintro _ _ ⟨v23, rfl, rfl⟩
 refine zz ?_
 refine Ops.h (ns := []) rfl rfl (op_buildSlice (k := kI64) (ys := [p1]) ar_26 (.one rfl (One.val rfl) rfl rfl .nil) rfl rfl rfl) ?_
 rintro _ _ ⟨b24, rfl, rfl⟩
 refine ob' h fun u26 c25 h => ?_
 refine Ops.h (ns := [1, 0]) rfl rfl (op_append ar_26 rfl rfl (of_decide_eq_true (chk_some c25)) (app63 (by decide) c25) rfl) ?_
 rintro _ _ ⟨v27, rfl, rfl⟩
 refine zz ?_
 refine ob' h fun s28 g29 h => ?_
 refine Ops.v rfl (op_slice_im_l sl_26.h rfl rfl g29 rfl) ?_
 refine ob' h fun u31 c30 h => ?_
 refine Ops.h (ns := [0]) rfl rfl (op_append_im ar_26 rfl rfl (of_decide_eq_true (chk_some c30)) (app63 (by decide) c30) rfl) ?_
 rintro _ _ ⟨v32, rfl, rfl⟩
 refine zz ?_
 refine AW.ret ?_
 rw [← Option.some.inj h]
 exact ⟨[C.im kI64 1 (((([] : List Int) ++ s19) ++ [p1]) ++ s28)], _, Ghost.freeze (p := 0) (t := 4) rfl rfl, (.cons (.tmp rfl) .nil), [], _, _, rfl, ⟨rfl, rfl⟩⟩

def Z2r (x6 : Bool) : Option Bool := some x6
def Z70 (p0 : TEvent) : Option Bool := cond (p0.kind == 1) (Z2r true) (cond (p0.kind == 3) (Z2r true) (cond (p0.kind == 5) (Z2r true) (cond (p0.kind == 2) (Z2r (p0.key != p0.author)) (Z2r false))))
theorem Zbi (p0 : TEvent) (r : Bool) (h : Z70 p0 = some r) : Ok Tryz.prog 192 [C.agg [C.int p0.id, C.int p0.room, C.int p0.author, C.int p0.kind, C.int p0.key, C.int p0.n, C.str p0.text, C.im kI64 1 p0.prev, C.int p0.time]] [] (fun c qs => c = C.bool r ∧ qs = []) := by
 refine Ok.of_body (rs := [.tmp 2]) Tryz.func192 rfl rfl rfl rfl rfl fun X => ?_
 unfold Z70 at h
 refine zz ?_
 refine Ops.h (ns := []) rfl rfl (op_boxA rfl rfl) ?_
 rintro _ _ ⟨b1, rfl, rfl⟩
 refine Ops.v rfl (op_assign rfl rfl) ?_
 refine Ops.nil ?_
 refine AW.seq ?_
 refine AW.cut (τ := Bool) (fun x6 => ⟨[(2, C.bool x6)], []⟩) (fun x6 => Z2r x6 = some r) ?_ ?_
 ·
  refine zz ?_
  refine cnd h (fun hb2 h => ?_) fun hb2 h => ?_
  ·
   refine zz ?_
   exact ⟨true, h, Ghost.both (ns := []) rfl rfl⟩
  refine zz ?_
  refine cnd h (fun hb3 h => ?_) fun hb3 h => ?_
  ·
   refine zz ?_
   exact ⟨true, h, Ghost.both (ns := []) rfl rfl⟩
  refine zz ?_
  refine cnd h (fun hb4 h => ?_) fun hb4 h => ?_
  ·
   refine zz ?_
   exact ⟨true, h, Ghost.both (ns := []) rfl rfl⟩
  refine zz ?_
  refine cnd h (fun hb5 h => ?_) fun hb5 h => ?_
  ·
   refine zz ?_
   exact ⟨(p0.key != p0.author), h, Ghost.both (ns := []) rfl rfl⟩
  refine zz ?_
  exact ⟨false, h, Ghost.both (ns := []) rfl rfl⟩
 intro x6 h
 replace h : Z2r x6 = some r := h
 unfold Z2r at h
 refine AW.ret ?_
 rw [← Option.some.inj h]
 exact ⟨[C.bool x6], _, Ghost.refl _, (.cons (.tmp rfl) .nil), [], _, _, rfl, ⟨rfl, rfl⟩⟩

def Z9d (p1 : List Int) (r2 : Int) (r4 : Int) (x13 : Int) (x14 : Int) (x15 : Int) (x16 : Int) (x17 : Int) (x18 : Int) (x19 : ByteArray) (l20 : List Int) (x21 : Int) (x23 : Int) (x24 : Int) (x25 : Int) (x26 : Int) (x27 : Int) (x28 : Int) (x29 : ByteArray) (l30 : List Int) (x31 : Int) : Option Bool := (Z70 (TEvent.mk x13 x14 x15 x16 x17 x18 x19 l20 x21)).bind fun r32 => (Z70 (TEvent.mk x23 x24 x25 x26 x27 x28 x29 l30 x31)).bind fun r34 => cond (r32 == r34) ((getI p1 r2).bind fun e37 => (getI p1 r4).bind fun e39 => cond (e37 != e39) (some (decide (e37 < e39))) (cond (x21 != x31) (some (decide (x21 < x31))) (some (decide (x13 < x23))))) ((Z70 (TEvent.mk x13 x14 x15 x16 x17 x18 x19 l20 x21)).bind fun r43 => some r43)
def Z9c (p0 : TGraph') (p1 : List Int) (p2 : Int) (p3 : Int) : Option Bool := (Z4 p0.events p2).bind fun r2 => (Z4 p0.events p3).bind fun r4 => (getI p0.events r2).bind fun e6 => (getI p0.events r4).bind fun e8 => Z9d p1 r2 r4 e6.id e6.room e6.author e6.kind e6.key e6.n e6.text e6.prev e6.time e8.id e8.room e8.author e8.kind e8.key e8.n e8.text e8.prev e8.time
set_option maxHeartbeats 1000000 in
theorem Zek (p0 : TGraph') (p1 : List Int) (p2 : Int) (p3 : Int) (r : Bool) (h : Z9c p0 p1 p2 p3 = some r) : Ok Tryz.prog 147 [C.agg [C.int p0.room, C.im kEvent 9 p0.events, C.im kEvent 9 p0.parked], C.im kI64 1 p1, C.int p2, C.int p3] [] (fun c qs => c = C.bool r ∧ qs = []) := by
 refine Ok.of_body (rs := [.tmp 8]) Tryz.func147 rfl rfl rfl rfl rfl fun X => ?_
 unfold Z9c at h
 refine zz ?_
 refine Ops.h (ns := []) rfl rfl (op_boxA rfl rfl) ?_
 rintro _ _ ⟨b1, rfl, rfl⟩
 refine zz ?_
 refine AW.regionD (L := [1, 5]) (Lt := []) (k := .light 0 false (.light 1 true (.light 2 false (.light 4 false (.light 5 true (.light 6 false (.one 3 (.one 7 (.light 8 false (.light 9 false .done)))))))))) (ns := [0]) (by kernel_rfl) (by kernel_rfl) (by kernel_rfl) (by kernel_rfl) rfl ?_
 refine zz ?_
 refine ob' h fun r2 g3 h => ?_
 refine StepD.h (ns := []) rfl rfl rfl (op_callE (Z6 _ _ _ g3) rfl rfl) ?_
 rintro _ _ ⟨rfl, rfl⟩
 refine zz ?_
 refine ob' h fun r4 g5 h => ?_
 refine StepD.h (ns := []) rfl rfl rfl (op_callE (Z6 _ _ _ g5) rfl rfl) ?_
 rintro _ _ ⟨rfl, rfl⟩
 refine OpsD.v rfl rfl (op_assign rfl rfl) ?_
 refine OpsD.v rfl rfl (op_assign rfl rfl) ?_
 refine OpsD.done ?_
 refine AW.seq ?_
 refine AW.cut (τ := Int × Int × Int × Int × Int × Int × ByteArray × List Int × Int × Int × Int × Int × Int × Int × Int × ByteArray × List Int × Int × Nat × Nat) (fun (x13, x14, x15, x16, x17, x18, x19, l20, x21, x23, x24, x25, x26, x27, x28, x29, l30, x31, b12, b22) => ⟨[(1, C.im kI64 1 p1), (9, C.int r2), (10, C.int r4), (11, C.val (.pointer (some ⟨b12, 0, none⟩))), (12, C.val (.pointer (some ⟨b22, 0, none⟩)))], [Obj.box b12 38 [C.int x13, C.int x14, C.int x15, C.int x16, C.int x17, C.int x18, C.str x19, C.im kI64 1 l20, C.int x21], Obj.box b22 38 [C.int x23, C.int x24, C.int x25, C.int x26, C.int x27, C.int x28, C.str x29, C.im kI64 1 l30, C.int x31]]⟩) (fun (x13, x14, x15, x16, x17, x18, x19, l20, x21, x23, x24, x25, x26, x27, x28, x29, l30, x31, b12, b22) => Z9d p1 r2 r4 x13 x14 x15 x16 x17 x18 x19 l20 x21 x23 x24 x25 x26 x27 x28 x29 l30 x31 = some r) ?_ ?_
 ·
  refine AW.regionD (L := [1, 4, 6, 9]) (Lt := [13]) (k := .light 0 false (.light 1 true (.light 2 false (.light 3 false (.light 4 true (.light 5 false (.light 6 true (.light 7 false (.light 8 false (.light 9 true (.two 10 11 (.one 11 (.one 12 (.late 13 (.done)))) (.one 10 (.one 12 (.late 13 (.done))))))))))))))) (ns := [0]) (by kernel_rfl) (by kernel_rfl) (by kernel_rfl) (by kernel_rfl) rfl ?_
  refine zz ?_
  refine ob' h fun e6 g7 h => ?_
  refine OpsD.v rfl rfl (op_indexAddr_im sl_28.h rfl rfl g7 rfl) ?_
  refine OpsD.v rfl rfl (op_load_ipA ld_38.h rfl rfl rfl rfl) ?_
  refine zz ?_
  refine ob' h fun e8 g9 h => ?_
  refine OpsD.v rfl rfl (op_indexAddr_im sl_28.h rfl rfl g9 rfl) ?_
  refine OpsD.v rfl rfl (op_load_ipA ld_38.h rfl rfl rfl rfl) ?_
  refine OpsD.two ?_ ?_
  ·
   refine StepD.h (ns := []) rfl rfl rfl (op_alloc (cs := [C.int 0, C.int 0, C.int 0, C.int 0, C.int 0, C.int 0, C.str ByteArray.empty, C.val (.slice none 0 0), C.int 0]) ze_38 (cells_zero rfl rfl) rfl) ?_
   rintro _ _ ⟨b10, rfl, rfl⟩
   refine OpsD.one ?_
   refine StepD.h (ns := []) rfl rfl rfl (op_alloc (cs := [C.int 0, C.int 0, C.int 0, C.int 0, C.int 0, C.int 0, C.str ByteArray.empty, C.val (.slice none 0 0), C.int 0]) ze_38 (cells_zero rfl rfl) rfl) ?_
   rintro _ _ ⟨b11, rfl, rfl⟩
   refine OpsD.one ?_
   refine StepD.h (ns := [1]) rfl rfl rfl (op_storeA (gs := [C.int e6.id, C.int e6.room, C.int e6.author, C.int e6.kind, C.int e6.key, C.int e6.n, C.str e6.text, C.im kI64 1 e6.prev, C.int e6.time]) ld_38.h rfl rfl rfl rfl rfl) ?_
   rintro _ _ ⟨rfl, rfl⟩
   refine OpsD.late (ns := [2]) rfl rfl rfl (op_storeA (gs := [C.int e8.id, C.int e8.room, C.int e8.author, C.int e8.kind, C.int e8.key, C.int e8.n, C.str e8.text, C.im kI64 1 e8.prev, C.int e8.time]) ld_38.h rfl rfl rfl rfl rfl) ?_
   rintro _ _ ⟨rfl, rfl⟩
   refine zz ?_
   exact ⟨(e6.id, e6.room, e6.author, e6.kind, e6.key, e6.n, e6.text, e6.prev, e6.time, e8.id, e8.room, e8.author, e8.kind, e8.key, e8.n, e8.text, e8.prev, e8.time, b10, b11), h, Ghost.both (ns := [2, 0]) rfl rfl⟩
  refine StepD.h (ns := []) rfl rfl rfl (op_alloc (cs := [C.int 0, C.int 0, C.int 0, C.int 0, C.int 0, C.int 0, C.str ByteArray.empty, C.val (.slice none 0 0), C.int 0]) ze_38 (cells_zero rfl rfl) rfl) ?_
  rintro _ _ ⟨b11, rfl, rfl⟩
  refine OpsD.one ?_
  refine StepD.h (ns := []) rfl rfl rfl (op_alloc (cs := [C.int 0, C.int 0, C.int 0, C.int 0, C.int 0, C.int 0, C.str ByteArray.empty, C.val (.slice none 0 0), C.int 0]) ze_38 (cells_zero rfl rfl) rfl) ?_
  rintro _ _ ⟨b10, rfl, rfl⟩
  refine OpsD.one ?_
  refine StepD.h (ns := [0]) rfl rfl rfl (op_storeA (gs := [C.int e6.id, C.int e6.room, C.int e6.author, C.int e6.kind, C.int e6.key, C.int e6.n, C.str e6.text, C.im kI64 1 e6.prev, C.int e6.time]) ld_38.h rfl rfl rfl rfl rfl) ?_
  rintro _ _ ⟨rfl, rfl⟩
  refine OpsD.late (ns := [2]) rfl rfl rfl (op_storeA (gs := [C.int e8.id, C.int e8.room, C.int e8.author, C.int e8.kind, C.int e8.key, C.int e8.n, C.str e8.text, C.im kI64 1 e8.prev, C.int e8.time]) ld_38.h rfl rfl rfl rfl rfl) ?_
  rintro _ _ ⟨rfl, rfl⟩
  refine zz ?_
  exact ⟨(e6.id, e6.room, e6.author, e6.kind, e6.key, e6.n, e6.text, e6.prev, e6.time, e8.id, e8.room, e8.author, e8.kind, e8.key, e8.n, e8.text, e8.prev, e8.time, b10, b11), h, Ghost.both (ns := [2, 0]) rfl rfl⟩
 rintro ⟨x13, x14, x15, x16, x17, x18, x19, l20, x21, x23, x24, x25, x26, x27, x28, x29, l30, x31, b12, b22⟩ h
 replace h : Z9d p1 r2 r4 x13 x14 x15 x16 x17 x18 x19 l20 x21 x23 x24 x25 x26 x27 x28 x29 l30 x31 = some r := h
 unfold Z9d at h
 refine zz ?_
 refine AW.regionD (L := [0, 2]) (Lt := []) (k := .light 0 true (.light 2 true (.one 1 (.one 3 (.light 4 false (.light 5 false .done)))))) (ns := [0, 0]) (by kernel_rfl) (by kernel_rfl) (by kernel_rfl) (by kernel_rfl) rfl ?_
 refine OpsD.v rfl rfl (op_loadA (p := 0) (ds := [C.int x13, C.int x14, C.int x15, C.int x16, C.int x17, C.int x18, C.str x19, C.im kI64 1 l20, C.int x21]) ld_38.h rfl rfl rfl rfl rfl) ?_
 refine OpsD.v rfl rfl (op_loadA (p := 1) (ds := [C.int x23, C.int x24, C.int x25, C.int x26, C.int x27, C.int x28, C.str x29, C.im kI64 1 l30, C.int x31]) ld_38.h rfl rfl rfl rfl rfl) ?_
 refine zz ?_
 refine ob' h fun r32 g33 h => ?_
 refine StepD.h (ns := []) rfl rfl rfl (op_callE (Zbi _ _ g33) rfl rfl) ?_
 rintro _ _ ⟨rfl, rfl⟩
 refine zz ?_
 refine ob' h fun r34 g35 h => ?_
 refine StepD.h (ns := []) rfl rfl rfl (op_callE (Zbi _ _ g35) rfl rfl) ?_
 rintro _ _ ⟨rfl, rfl⟩
 refine OpsD.v rfl rfl (op_bool_neq un_4 rfl rfl rfl) ?_
 refine zz ?_
 refine cnd h (fun hb36 h => ?_) fun hb36 h => ?_
 ·
  refine AW.cond rfl (fun hn => absurd ((not_t hb36).symm.trans hn) (by decide)) (fun _ => ?_)
  refine zz ?_
  refine AW.regionD (L := [3, 7]) (Lt := []) (k := .light 0 false (.light 1 false (.light 2 false (.light 3 true (.light 4 false (.light 5 false (.light 6 false (.light 7 true (.light 8 false (.light 9 false .done)))))))))) (ns := [0, 0]) (by kernel_rfl) (by kernel_rfl) (by kernel_rfl) (by kernel_rfl) rfl ?_
  refine zz ?_
  refine ob' h fun e37 g38 h => ?_
  refine OpsD.v rfl rfl (op_indexAddr_im sl_26.h rfl rfl g38 rfl) ?_
  refine OpsD.v rfl rfl (op_load_ip ld_2.h rfl rfl) ?_
  refine zz ?_
  refine ob' h fun e39 g40 h => ?_
  refine OpsD.v rfl rfl (op_indexAddr_im sl_26.h rfl rfl g40 rfl) ?_
  refine OpsD.v rfl rfl (op_load_ip ld_2.h rfl rfl) ?_
  refine zz ?_
  refine cnd h (fun hb41 h => ?_) fun hb41 h => ?_
  ·
   refine AW.ct hb41 rfl ?_
   refine zz ?_
   refine AW.regionD (L := [3, 7]) (Lt := []) (k := .light 0 false (.light 1 false (.light 2 false (.light 3 true (.light 4 false (.light 5 false (.light 6 false (.light 7 true (.light 8 false (.light 9 false .done)))))))))) (ns := [0, 0]) (by kernel_rfl) (by kernel_rfl) (by kernel_rfl) (by kernel_rfl) rfl ?_
   refine zz ?_
   refine OpsD.v rfl rfl (op_indexAddr_im sl_26.h rfl rfl g38 rfl) ?_
   refine OpsD.v rfl rfl (op_load_ip ld_2.h rfl rfl) ?_
   refine zz ?_
   refine OpsD.v rfl rfl (op_indexAddr_im sl_26.h rfl rfl g40 rfl) ?_
   refine OpsD.v rfl rfl (op_load_ip ld_2.h rfl rfl) ?_
   refine zz ?_
   refine AW.ret ?_
   rw [← Option.some.inj h]
   exact ⟨[C.bool (decide (e37 < e39))], _, Ghost.refl _, (.cons (.tmp rfl) .nil), [], _, _, rfl, ⟨rfl, rfl⟩⟩
  refine AW.cf hb41 rfl ?_
  refine zz ?_
  refine cnd h (fun hb42 h => ?_) fun hb42 h => ?_
  ·
   refine AW.ct hb42 rfl ?_
   refine zz ?_
   refine AW.ret ?_
   rw [← Option.some.inj h]
   exact ⟨[C.bool (decide (x21 < x31))], _, Ghost.refl _, (.cons (.tmp rfl) .nil), [], _, _, rfl, ⟨rfl, rfl⟩⟩
  refine AW.cf hb42 rfl ?_
  refine zz ?_
  refine AW.ret ?_
  rw [← Option.some.inj h]
  exact ⟨[C.bool (decide (x13 < x23))], _, Ghost.refl _, (.cons (.tmp rfl) .nil), [], _, _, rfl, ⟨rfl, rfl⟩⟩
 refine AW.cond rfl (fun _ => ?_) (fun hn => absurd ((not_f hb36).symm.trans hn) (by decide))
 refine zz ?_
 refine Ops.v rfl (op_loadA (p := 0) (ds := [C.int x13, C.int x14, C.int x15, C.int x16, C.int x17, C.int x18, C.str x19, C.im kI64 1 l20, C.int x21]) ld_38.h rfl rfl rfl rfl rfl) ?_
 refine ob' h fun r43 g44 h => ?_
 refine Ops.hd (ns := []) rfl rfl (op_callE (Zbi _ _ g44) rfl rfl) ?_
 refine zz ?_
 refine AW.ret ?_
 rw [← Option.some.inj h]
 exact ⟨[C.bool r43], _, Ghost.refl _, (.cons (.tmp rfl) .nil), [], _, _, rfl, ⟨rfl, rfl⟩⟩

def Z15 (p0 : TGraph') (p1 : List TEntry) (p2 : Int) (p3 : Int) : Option TEvent := (Z14 p1 p2 p3).bind fun r3 => cond (r3 == 0) (some (TEvent.mk 0 0 0 0 0 0 ByteArray.empty [] 0)) ((Z4 p0.events r3).bind fun r6 => (getI p0.events r6).bind fun e8 => some e8)
theorem Z88 (p0 : TGraph') (p1 : List TEntry) (p2 : Int) (p3 : Int) (r : TEvent) (h : Z15 p0 p1 p2 p3 = some r) : Ok Tryz.prog 122 [C.agg [C.int p0.room, C.im kEvent 9 p0.events, C.im kEvent 9 p0.parked], C.im kEntry 3 p1, C.int p2, C.int p3] [] (fun c qs => c = C.agg [C.int r.id, C.int r.room, C.int r.author, C.int r.kind, C.int r.key, C.int r.n, C.str r.text, C.im kI64 1 r.prev, C.int r.time] ∧ qs = []) := by
 refine Ok.of_body (rs := [.cell 8 38]) Tryz.func122 rfl rfl rfl rfl rfl fun X => ?_
 unfold Z15 at h
 refine zz ?_
 refine Ops.h (ns := []) rfl rfl (op_boxA rfl rfl) ?_
 rintro _ _ ⟨b1, rfl, rfl⟩
 refine Ops.h (ns := []) rfl rfl (op_alloc (cs := [C.int 0, C.int 0, C.int 0, C.int 0, C.int 0, C.int 0, C.str ByteArray.empty, C.val (.slice none 0 0), C.int 0]) ze_38 (cells_zero rfl rfl) rfl) ?_
 rintro _ _ ⟨b2, rfl, rfl⟩
 refine zz ?_
 refine ob' h fun r3 g4 h => ?_
 refine Ops.hd (ns := []) rfl rfl (op_callE (Z86 _ _ _ _ g4) rfl rfl) ?_
 refine zz ?_
 refine cnd h (fun hb5 h => ?_) fun hb5 h => ?_
 ·
  refine AW.ct hb5 rfl ?_
  refine zz ?_
  refine Ops.v rfl (op_build (ds := [C.int 0, C.int 0, C.int 0, C.int 0, C.int 0, C.int 0, C.str ByteArray.empty, C.val (.slice none 0 0), C.int 0]) pl_38 ze_38 (cells_zero rfl rfl) .nil rfl) ?_
  refine Ops.hd (ns := [0]) rfl rfl (op_storeA (gs := [C.int 0, C.int 0, C.int 0, C.int 0, C.int 0, C.int 0, C.str ByteArray.empty, C.val (.slice none 0 0), C.int 0]) ld_38.h rfl rfl rfl rfl rfl) ?_
  refine zz ?_
  refine AW.ret ?_
  rw [← Option.some.inj h]
  exact ⟨[C.agg [C.int 0, C.int 0, C.int 0, C.int 0, C.int 0, C.int 0, C.str ByteArray.empty, C.im kI64 1 [], C.int 0]], _, Ghost.boxFrz (ns := [0]) rfl (FrzL.cons (os := []) (Frz.same _) (FrzL.cons (os := []) (Frz.same _) (FrzL.cons (os := []) (Frz.same _) (FrzL.cons (os := []) (Frz.same _) (FrzL.cons (os := []) (Frz.same _) (FrzL.cons (os := []) (Frz.same _) (FrzL.cons (os := []) (Frz.same _) (FrzL.cons (os := []) (Frz.imp (Imp.nil kI64 1)) (FrzL.cons (os := []) (Frz.same _) FrzL.nil))))))))), (.cons (.cell (p := 0) rfl rfl ld_38.h rfl) .nil), [], _, _, rfl, ⟨rfl, rfl⟩⟩
 refine AW.cf hb5 rfl ?_
 refine zz ?_
 refine AW.regionD (L := [1, 3, 7]) (Lt := [8]) (k := .light 0 false (.light 1 true (.light 2 false (.light 3 true (.light 4 false (.one 5 (.light 6 false (.light 7 true (.late 8 (.done)))))))))) (ns := [0, 0]) (by kernel_rfl) (by kernel_rfl) (by kernel_rfl) (by kernel_rfl) rfl ?_
 refine zz ?_
 refine ob' h fun r6 g7 h => ?_
 refine StepD.h (ns := []) rfl rfl rfl (op_callE (Z6 _ _ _ g7) rfl rfl) ?_
 rintro _ _ ⟨rfl, rfl⟩
 refine ob' h fun e8 g9 h => ?_
 refine OpsD.v rfl rfl (op_indexAddr_im sl_28.h rfl rfl g9 rfl) ?_
 refine OpsD.v rfl rfl (op_load_ipA ld_38.h rfl rfl rfl rfl) ?_
 refine OpsD.late (ns := [0]) rfl rfl rfl (op_storeA (gs := [C.int e8.id, C.int e8.room, C.int e8.author, C.int e8.kind, C.int e8.key, C.int e8.n, C.str e8.text, C.im kI64 1 e8.prev, C.int e8.time]) ld_38.h rfl rfl rfl rfl rfl) ?_
 rintro _ _ ⟨rfl, rfl⟩
 refine zz ?_
 refine AW.ret ?_
 rw [← Option.some.inj h]
 exact ⟨[C.agg [C.int e8.id, C.int e8.room, C.int e8.author, C.int e8.kind, C.int e8.key, C.int e8.n, C.str e8.text, C.im kI64 1 e8.prev, C.int e8.time]], _, Ghost.refl _, (.cons (.cell (p := 0) rfl rfl ld_38.h rfl) .nil), [], _, _, rfl, ⟨rfl, rfl⟩⟩

def Z6o (p0 : TGraph') (p1 : List TEntry) (p2 : Int) : Option Int := (Z15 p0 p1 2 p2).bind fun r2 => some r2.n
theorem Zcb (p0 : TGraph') (p1 : List TEntry) (p2 : Int) (r : Int) (h : Z6o p0 p1 p2 = some r) : Ok Tryz.prog 102 [C.agg [C.int p0.room, C.im kEvent 9 p0.events, C.im kEvent 9 p0.parked], C.im kEntry 3 p1, C.int p2] [] (fun c qs => c = C.int r ∧ qs = []) := by
 refine Ok.of_body (rs := [.tmp 6]) Tryz.func102 rfl rfl rfl rfl rfl fun X => ?_
 unfold Z6o at h
 refine zz ?_
 refine Ops.h (ns := []) rfl rfl (op_boxA rfl rfl) ?_
 rintro _ _ ⟨b1, rfl, rfl⟩
 refine zz ?_
 refine Ops.v rfl (op_loadA (p := 0) (ds := [C.int p0.room, C.im kEvent 9 p0.events, C.im kEvent 9 p0.parked]) ld_30.h rfl rfl rfl rfl rfl) ?_
 refine zz ?_
 refine ob' h fun r2 g3 h => ?_
 refine Ops.hd (ns := []) rfl rfl (op_callE (Z88 _ _ _ _ _ g3) rfl rfl) ?_
 refine Ops.v rfl (op_field fi_38_5 rfl rfl rfl) ?_
 refine zz ?_
 refine AW.ret ?_
 rw [← Option.some.inj h]
 exact ⟨[C.int r2.n], _, Ghost.refl _, (.cons (.tmp rfl) .nil), [], _, _, rfl, ⟨rfl, rfl⟩⟩

end Go.Proofs.YtnndihmamfomcaaGreat
