/- Printed by gen.py: plain functions for Go functions, and that the walks keep to them. -/
import Derived.Test.YtiajhengifcljaaN
import Derived.Test.YtiajhengifcljaaL
import Derived.Test.YtiajhengifcljaaChecked
set_option autoImplicit false
set_option maxRecDepth 100000
namespace Go.Proofs.Ytiajhengifcljaa
open Go Go.Abs
structure TLive where
  user : Int
  till : Int
structure TLiveOut where
  row : List TLive
  code : Int
structure TL01Src where
  b : List Int
  at_ : Int
  mix : Int
  size : Int
def kLive (x : TLive) : List C := [C.int x.user, C.int x.till]
def kI64 (x : Int) : List C := [C.int x]
def kU8 (x : Int) : List C := [C.val (.int .u8 x)]
theorem sl_22 : slInfo Try.prog 22 = some (56, 2, 16) := by kernel_rfl
theorem ze_54 : zeroOf Try.prog 54 = some [.int .i64 0, .int .i64 0] := by kernel_rfl
theorem fo_56_0 : fieldOff Try.prog 56 0 = some 0 := by kernel_rfl
theorem ld_2 : ldInfo Try.prog 2 = some (false, 1) := by kernel_rfl
theorem fo_54_0 : fieldOff Try.prog 54 0 = some 0 := by kernel_rfl
theorem fo_56_1 : fieldOff Try.prog 56 1 = some 1 := by kernel_rfl
theorem fo_54_1 : fieldOff Try.prog 54 1 = some 1 := by kernel_rfl
theorem ld_54 : ldInfo Try.prog 54 = some (true, 2) := by kernel_rfl
theorem ar_25 : arInfo Try.prog 25 = some (54, 2, 16) := by kernel_rfl
theorem ld_56 : ldInfo Try.prog 56 = some (true, 2) := by kernel_rfl
theorem sl_25 : slInfo Try.prog 25 = some (54, 2, 16) := by kernel_rfl
theorem un_4 : Try.prog.underlying 4 = some .bool := by kernel_rfl
theorem ar_31 : arInfo Try.prog 31 = some (2, 1, 8) := by kernel_rfl
theorem sl_31 : slInfo Try.prog 31 = some (2, 1, 8) := by kernel_rfl
theorem plain_kI64 : ∀ x, PlainCs (kI64 x) := fun x => (PlainCs.cons (PlainC.val _) (PlainCs.nil) : PlainCs [C.int x])
theorem pl_54 : places Try.prog 54 = some [(0, 1), (1, 1)] := by kernel_rfl
theorem ze_37 : zeroOf Try.prog 37 = some [.slice none 0 0, .int .i64 0] := by kernel_rfl
theorem pl_37 : places Try.prog 37 = some [(0, 1), (1, 1)] := by kernel_rfl
theorem ld_37 : ldInfo Try.prog 37 = some (true, 2) := by kernel_rfl
theorem un_3 : Try.prog.underlying 3 = some (.int .i64) := by kernel_rfl
theorem un_75 : Try.prog.underlying 75 = some (.int .u64) := by kernel_rfl
theorem fo_37_0 : fieldOff Try.prog 37 0 = some 0 := by kernel_rfl
theorem ld_25 : ldInfo Try.prog 25 = some (false, 1) := by kernel_rfl
theorem fo_37_1 : fieldOff Try.prog 37 1 = some 1 := by kernel_rfl
theorem plain_kLive : ∀ x, PlainCs (kLive x) := fun x => (PlainCs.cons (PlainC.val _) (PlainCs.cons (PlainC.val _) (PlainCs.nil)) : PlainCs [C.int x.user, C.int x.till])
theorem pl_74 : places Try.prog 74 = some [(0, 1), (1, 1), (2, 1), (3, 1)] := by kernel_rfl
theorem ze_74 : zeroOf Try.prog 74 = some [.slice none 0 0, .int .i64 0, .int .u64 0, .int .i64 0] := by kernel_rfl
theorem sl_44 : slInfo Try.prog 44 = some (5, 1, 1) := by kernel_rfl
theorem fo_74_2 : fieldOff Try.prog 74 2 = some 2 := by kernel_rfl
theorem ld_72 : ldInfo Try.prog 72 = some (false, 1) := by kernel_rfl
theorem ld_5 : ldInfo Try.prog 5 = some (false, 1) := by kernel_rfl
theorem un_5 : Try.prog.underlying 5 = some (.int .u8) := by kernel_rfl
theorem un_72 : Try.prog.underlying 72 = some (.int .u64) := by kernel_rfl
theorem fo_74_3 : fieldOff Try.prog 74 3 = some 3 := by kernel_rfl
theorem fo_74_1 : fieldOff Try.prog 74 1 = some 1 := by kernel_rfl
theorem ld_3 : ldInfo Try.prog 3 = some (false, 1) := by kernel_rfl
theorem fo_74_0 : fieldOff Try.prog 74 0 = some 0 := by kernel_rfl
theorem ld_44 : ldInfo Try.prog 44 = some (false, 1) := by kernel_rfl
theorem un_2 : Try.prog.underlying 2 = some (.int .i64) := by kernel_rfl
theorem eq_54 : eqKinds Try.prog 54 = some [0, 0] := by kernel_rfl

def laws_szLiveS (p0 : List TLive) (p1 : Int) : Option Int := cond (decide ((IntKind.i64.wrap (p1 - (p0.length : Int))) < 0)) (some (-1)) (some (IntKind.i64.wrap (p1 - (p0.length : Int))))
theorem ok_laws_szLiveS (p0 : List TLive) (p1 : Int) (r : Int) (h : laws_szLiveS p0 p1 = some r) : Ok Try.prog 9 [C.im kLive 2 p0, C.int p1] [] (fun c qs => c = C.int r ∧ qs = []) := by
  refine Ok.of_body (rs := [.tmp 4]) Try.func9 rfl rfl rfl rfl rfl fun X => ?_
  unfold laws_szLiveS at h
  refine AW.seq ?_
  refine AW.region ?_
  refine Ops.v rfl (op_assign rfl rfl) ?_
  refine Ops.nil ?_
  refine AW.seq ?_
  refine AW.region ?_
  refine Ops.v rfl (op_move rfl rfl) ?_
  refine Ops.v rfl (op_move rfl rfl) ?_
  refine Ops.v rfl (op_len_im sl_22 rfl rfl) ?_
  refine Ops.v rfl (op_bin rfl rfl rfl rfl) ?_
  refine Ops.v rfl (op_assign rfl rfl) ?_
  refine Ops.nil ?_
  refine AW.seq ?_
  refine AW.seq ?_
  refine AW.region ?_
  refine Ops.v rfl (op_move rfl rfl) ?_
  refine Ops.v rfl (op_bin rfl rfl rfl rfl) ?_
  refine Ops.nil ?_
  refine tf' (decide ((IntKind.i64.wrap (p1 - (p0.length : Int))) < 0)) (fun hb1 => ?_) (fun hb1 => ?_)
  · replace h := cond_t hb1 h
    refine AW.cond rfl (fun _ => ?_) (fun hn => absurd (hb1.symm.trans hn) (by decide))
    refine AW.seq ?_
    refine AW.region ?_
    refine Ops.v rfl (op_assign rfl rfl) ?_
    refine Ops.nil ?_
    refine AW.ret ?_
    rw [← Option.some.inj h]
    exact ⟨[C.int (-1)], _, Ghost.refl _, (.cons (.tmp rfl) .nil), [], _, _, rfl, ⟨rfl, rfl⟩⟩
  · replace h := cond_f hb1 h
    refine AW.cond rfl (fun hn => absurd (hb1.symm.trans hn) (by decide)) (fun _ => ?_)
    refine AW.skip ?_
    refine AW.seq ?_
    refine AW.region ?_
    refine Ops.v rfl (op_move rfl rfl) ?_
    refine Ops.v rfl (op_assign rfl rfl) ?_
    refine Ops.nil ?_
    refine AW.ret ?_
    rw [← Option.some.inj h]
    exact ⟨[C.int (IntKind.i64.wrap (p1 - (p0.length : Int)))], _, Ghost.refl _, (.cons (.tmp rfl) .nil), [], _, _, rfl, ⟨rfl, rfl⟩⟩

def laws_toLive (p0 : TLive) : Option TLive := some p0
theorem ok_laws_toLive (p0 : TLive) (r : TLive) (h : laws_toLive p0 = some r) : Ok Try.prog 36 [C.agg [C.int p0.user, C.int p0.till]] [] (fun c qs => c = C.agg [C.int r.user, C.int r.till] ∧ qs = []) := by
  refine Ok.of_body (rs := [.cell 2 54]) Try.func36 rfl rfl rfl rfl rfl fun X => ?_
  unfold laws_toLive at h
  refine AW.seq ?_
  refine AW.region ?_
  refine Ops.h (ns := []) rfl rfl (op_boxA rfl rfl) ?_
  rintro _ _ ⟨b1, rfl, rfl⟩
  refine Ops.h (ns := []) rfl rfl (op_alloc (cs := [C.int 0, C.int 0]) ze_54 (cells_zero rfl rfl) rfl) ?_
  rintro _ _ ⟨b2, rfl, rfl⟩
  refine Ops.nil ?_
  refine AW.seq ?_
  refine AW.region ?_
  refine Ops.h (ns := []) rfl rfl (op_alloc (cs := [C.int 0, C.int 0]) ze_54 (cells_zero rfl rfl) rfl) ?_
  rintro _ _ ⟨b3, rfl, rfl⟩
  refine Ops.nil ?_
  refine AW.seq ?_
  refine AW.region ?_
  refine Ops.v rfl (op_fieldAddr fo_56_0 rfl rfl) ?_
  refine Ops.v rfl (op_load (p := 2) ld_2 rfl rfl rfl rfl) ?_
  refine Ops.v rfl (op_fieldAddr fo_54_0 rfl rfl) ?_
  refine Ops.hd (ns := [0]) rfl rfl (op_store (gs := [C.int p0.user, C.int 0]) ld_2 rfl rfl (One.val rfl) rfl rfl) ?_
  refine Ops.nil ?_
  refine AW.seq ?_
  refine AW.region ?_
  refine Ops.v rfl (op_fieldAddr fo_56_1 rfl rfl) ?_
  refine Ops.v rfl (op_load (p := 2) ld_2 rfl rfl rfl rfl) ?_
  refine Ops.v rfl (op_fieldAddr fo_54_1 rfl rfl) ?_
  refine Ops.hd (ns := [0]) rfl rfl (op_store (gs := [C.int p0.user, C.int p0.till]) ld_2 rfl rfl (One.val rfl) rfl rfl) ?_
  refine Ops.nil ?_
  refine AW.seq ?_
  refine AW.region ?_
  refine Ops.v rfl (op_loadA (p := 0) (ds := [C.int p0.user, C.int p0.till]) ld_54 rfl rfl rfl rfl rfl) ?_
  refine Ops.hd (ns := [1]) rfl rfl (op_storeA (gs := [C.int p0.user, C.int p0.till]) ld_54 rfl rfl rfl rfl rfl) ?_
  refine Ops.nil ?_
  refine AW.ret ?_
  rw [← Option.some.inj h]
  exact ⟨[C.agg [C.int p0.user, C.int p0.till]], _, Ghost.refl _, (.cons (.cell (p := 0) rfl rfl ld_54 rfl) .nil), [], _, _, rfl, ⟨rfl, rfl⟩⟩

def laws_toLiveS_j1 (l20 : List TLive) : Option (List TLive) := some l20
def laws_toLiveS_s2 (p0 : List TLive) (l11 : List TLive) (x12 : Int) : Option ((List TLive × Int) ⊕ ((List TLive))) := cond (decide (x12 < (p0.length : Int))) ((getI p0 x12).bind fun e14 => (laws_toLive e14).bind fun r16 => (getI l11 x12).bind fun e18 => some (.inl ((List.set l11 (Int.toNat x12) r16), (IntKind.i64.wrap (x12 + 1))))) (some (.inr l11))
def laws_toLiveS (p0 : List TLive) : Option (List TLive) := (chk (decide (0 ≤ (p0.length : Int) ∧ (p0.length : Int) * 16 ≤ 140737488355328))).bind fun u2 => (iter (fun z22 => laws_toLiveS_s2 p0 z22.1 z22.2) big ((List.replicate (Int.toNat (p0.length : Int)) (TLive.mk 0 0)), 0)).bind fun y23 => laws_toLiveS_j1 y23
theorem ok_laws_toLiveS (p0 : List TLive) (r : List TLive) (h : laws_toLiveS p0 = some r) : Ok Try.prog 11 [C.im kLive 2 p0] [] (fun c qs => ∃ (v21 : Value), c = C.val v21 ∧ qs = [Obj.arr v21 54 kLive 2 r]) := by
  refine Ok.of_body (rs := [.tmp 2]) Try.func11 rfl rfl rfl rfl rfl fun X => ?_
  unfold laws_toLiveS at h
  refine AW.seq ?_
  refine AW.region ?_
  refine Ops.v rfl (op_assign rfl rfl) ?_
  refine Ops.nil ?_
  refine AW.seq ?_
  refine AW.region ?_
  refine Ops.v rfl (op_move rfl rfl) ?_
  refine Ops.v rfl (op_len_im sl_22 rfl rfl) ?_
  refine ob' h fun u2 c1 h => ?_
  refine Ops.h (ns := []) rfl rfl (op_makeSlice (k := kLive) (z := (TLive.mk 0 0)) ar_25 ze_54 (cells_zero rfl rfl) rfl rfl (make_ok c1).1 (make_ok c1).2 (make_ok63 (by decide) c1) rfl) ?_
  rintro _ _ ⟨b3, rfl, rfl⟩
  refine Ops.v rfl (op_assign rfl rfl) ?_
  refine Ops.nil ?_
  refine AW.seq ?_
  refine AW.cut (τ := List TLive) (fun l20 => ⟨[(3, C.val (.slice (some ⟨b3, 0, none⟩) (Int.toNat (p0.length : Int)) (Int.toNat (p0.length : Int))))], [Obj.arr (.slice (some ⟨b3, 0, none⟩) (Int.toNat (p0.length : Int)) (Int.toNat (p0.length : Int))) 54 kLive 2 l20]⟩) (fun l20 => laws_toLiveS_j1 l20 = some r) ?_ ?_
  · refine AW.seq ?_
    refine AW.region ?_
    refine Ops.v rfl (op_assign rfl rfl) ?_
    refine Ops.nil ?_
    refine AW.block ?_
    refine ob' h fun o24 g25 q26 => ?_
    refine AW.loop (τ := List TLive × Int) (x := ((List.replicate (Int.toNat (p0.length : Int)) (TLive.mk 0 0)), 0)) (fun (l11, x12) => ⟨[(0, C.im kLive 2 p0), (3, C.val (.slice (some ⟨b3, 0, none⟩) (Int.toNat (p0.length : Int)) (Int.toNat (p0.length : Int)))), (4, C.int x12)], [Obj.arr (.slice (some ⟨b3, 0, none⟩) (Int.toNat (p0.length : Int)) (Int.toNat (p0.length : Int))) 54 kLive 2 l11]⟩) (fun k (l11, x12) => iter (fun z22 => laws_toLiveS_s2 p0 z22.1 z22.2) k (l11, x12) = some o24) g25 (Ghost.both (ns := [0]) rfl rfl) ?_
    rintro k ⟨l11, x12⟩ i28
    refine iter_succ' (show iter (fun z22 => laws_toLiveS_s2 p0 z22.1 z22.2) k (l11, x12) = some o24 from i28) fun k27 y29 hlt_k27 h h30 => ?_
    replace h : laws_toLiveS_s2 p0 l11 x12 = some y29 := h
    unfold laws_toLiveS_s2 at h
    refine AW.seq ?_
    refine AW.seq ?_
    refine AW.region ?_
    refine Ops.v rfl (op_move rfl rfl) ?_
    refine Ops.v rfl (op_move rfl rfl) ?_
    refine Ops.v rfl (op_len_im sl_22 rfl rfl) ?_
    refine Ops.v rfl (op_bin rfl rfl rfl rfl) ?_
    refine Ops.nil ?_
    refine tf' (decide (x12 < (p0.length : Int))) (fun hb13 => ?_) (fun hb13 => ?_)
    · replace h := cond_t hb13 h
      refine AW.cond rfl (fun _ => ?_) (fun hn => absurd (hb13.symm.trans hn) (by decide))
      refine AW.skip ?_
      refine AW.seq ?_
      refine AW.block ?_
      refine AW.region ?_
      refine Ops.v rfl (op_move rfl rfl) ?_
      refine Ops.v rfl (op_move rfl rfl) ?_
      refine Ops.v rfl (op_move rfl rfl) ?_
      refine Ops.v rfl (op_move rfl rfl) ?_
      refine ob' h fun e14 g15 h => ?_
      refine Ops.v rfl (op_indexAddr_im sl_22 rfl rfl g15 rfl) ?_
      refine Ops.v rfl (op_load_ipA ld_56 rfl rfl rfl rfl) ?_
      refine ob' h fun r16 g17 h => ?_
      refine Ops.hd (ns := []) rfl rfl (op_callE (ok_laws_toLive _ _ g17) rfl rfl) ?_
      refine ob' h fun e18 g19 h => ?_
      refine Ops.v rfl (op_indexAddr_arr (p := 0) sl_25 rfl rfl rfl g19 rfl) ?_
      refine Ops.hd (ns := [0]) rfl rfl (op_storeA_arr (e' := r16) ld_54 rfl rfl rfl (getI_lt g19).2.2 rfl rfl) ?_
      refine Ops.nil ?_
      refine AW.region ?_
      refine Ops.v rfl (op_move rfl rfl) ?_
      refine Ops.v rfl (op_bin rfl rfl rfl rfl) ?_
      refine Ops.v rfl (op_assign rfl rfl) ?_
      refine Ops.nil ?_
      obtain rfl := Option.some.inj h
      exact ⟨k27, ((List.set l11 (Int.toNat x12) r16), (IntKind.i64.wrap (x12 + 1))), hlt_k27, h30, Ghost.both (ns := [0]) rfl rfl⟩
    · replace h := cond_f hb13 h
      refine AW.cond rfl (fun hn => absurd (hb13.symm.trans hn) (by decide)) (fun _ => ?_)
      refine AW.exit ?_
      obtain rfl := Option.some.inj h
      obtain rfl := Option.some.inj h30
      replace h := q26
      exact ⟨l11, h, Ghost.both (ns := [0]) rfl rfl⟩
  · intro l20 h
    replace h : laws_toLiveS_j1 l20 = some r := h
    unfold laws_toLiveS_j1 at h
    refine AW.seq ?_
    refine AW.region ?_
    refine Ops.v rfl (op_move rfl rfl) ?_
    refine Ops.v rfl (op_assign rfl rfl) ?_
    refine Ops.nil ?_
    refine AW.ret ?_
    rw [← Option.some.inj h]
    exact ⟨[C.val (.slice (some ⟨b3, 0, none⟩) (Int.toNat (p0.length : Int)) (Int.toNat (p0.length : Int)))], _, Ghost.refl _, (.cons (.tmp rfl) .nil), [0], _, _, rfl, ⟨(.slice (some ⟨b3, 0, none⟩) (Int.toNat (p0.length : Int)) (Int.toNat (p0.length : Int))), rfl, rfl⟩⟩
theorem ok_laws_toLiveS' (p0 : List TLive) (r : List TLive) (h : laws_toLiveS p0 = some r) : Ok Try.prog 11 [C.im kLive 2 p0] [] (fun c qs => c = C.im kLive 2 r ∧ qs = []) :=
  Ok.freeze (ok_laws_toLiveS p0 r h) (by rintro c qs ⟨v21, rfl, rfl⟩; exact Frz.arr)

def spec_l02Is_j1 (x2 : Bool) : Option Bool := some x2
def spec_l02Is (p0 : Int) (p1 : Int) (p2 : Int) : Option Bool := cond (decide (p0 ≥ p1)) (spec_l02Is_j1 (decide (p0 ≤ p2))) (spec_l02Is_j1 false)
theorem ok_spec_l02Is (p0 : Int) (p1 : Int) (p2 : Int) (r : Bool) (h : spec_l02Is p0 p1 p2 = some r) : Ok Try.prog 49 [C.int p0, C.int p1, C.int p2] [] (fun c qs => c = C.bool r ∧ qs = []) := by
  refine Ok.of_body (rs := [.tmp 6]) Try.func49 rfl rfl rfl rfl rfl fun X => ?_
  unfold spec_l02Is at h
  refine AW.seq ?_
  refine AW.region ?_
  refine Ops.v rfl (op_assign rfl rfl) ?_
  refine Ops.nil ?_
  refine AW.seq ?_
  refine AW.cut (τ := Bool) (fun x2 => ⟨[(6, C.bool x2)], []⟩) (fun x2 => spec_l02Is_j1 x2 = some r) ?_ ?_
  · refine AW.region ?_
    refine Ops.v rfl (op_move rfl rfl) ?_
    refine Ops.v rfl (op_move rfl rfl) ?_
    refine Ops.v rfl (op_bin rfl rfl rfl rfl) ?_
    refine Ops.v rfl (op_move rfl rfl) ?_
    refine tf' (decide (p0 ≥ p1)) (fun hb1 => ?_) (fun hb1 => ?_)
    · replace h := cond_t hb1 h
      refine Ops.gv rfl rfl rfl rfl hb1 (op_move rfl rfl) ?_
      refine Ops.gv rfl rfl rfl rfl hb1 (op_move rfl rfl) ?_
      refine Ops.gv rfl rfl rfl rfl hb1 (op_bin rfl rfl rfl rfl) ?_
      refine Ops.v rfl (op_pick_t rfl hb1 rfl rfl) ?_
      refine Ops.v rfl (op_assign rfl rfl) ?_
      refine Ops.nil ?_
      exact ⟨decide (p0 ≤ p2), h, Ghost.both (ns := []) rfl rfl⟩
    · replace h := cond_f hb1 h
      refine Ops.gs rfl rfl rfl (.b rfl hb1) rfl rfl ?_
      refine Ops.gs rfl rfl rfl (.b rfl hb1) rfl rfl ?_
      refine Ops.gs rfl rfl rfl (.b rfl hb1) rfl rfl ?_
      refine Ops.v rfl (op_pick_f rfl hb1 rfl rfl) ?_
      refine Ops.v rfl (op_assign rfl rfl) ?_
      refine Ops.nil ?_
      exact ⟨false, h, Ghost.both (ns := []) rfl rfl⟩
  · intro x2 h
    replace h : spec_l02Is_j1 x2 = some r := h
    unfold spec_l02Is_j1 at h
    refine AW.ret ?_
    rw [← Option.some.inj h]
    exact ⟨[C.bool x2], _, Ghost.refl _, (.cons (.tmp rfl) .nil), [], _, _, rfl, ⟨rfl, rfl⟩⟩

def spec_l02User (p0 : Int) : Option Bool := (spec_l02Is p0 1 6).bind fun r1 => some r1
theorem ok_spec_l02User (p0 : Int) (r : Bool) (h : spec_l02User p0 = some r) : Ok Try.prog 34 [C.int p0] [] (fun c qs => c = C.bool r ∧ qs = []) := by
  refine Ok.of_body (rs := [.tmp 2]) Try.func34 rfl rfl rfl rfl rfl fun X => ?_
  unfold spec_l02User at h
  refine AW.seq ?_
  refine AW.region ?_
  refine Ops.v rfl (op_assign rfl rfl) ?_
  refine Ops.nil ?_
  refine AW.seq ?_
  refine AW.region ?_
  refine Ops.v rfl (op_move rfl rfl) ?_
  refine ob' h fun r1 g2 h => ?_
  refine Ops.hd (ns := []) rfl rfl (op_callE (ok_spec_l02Is _ _ _ _ g2) rfl rfl) ?_
  refine Ops.v rfl (op_assign rfl rfl) ?_
  refine Ops.nil ?_
  refine AW.ret ?_
  rw [← Option.some.inj h]
  exact ⟨[C.bool r1], _, Ghost.refl _, (.cons (.tmp rfl) .nil), [], _, _, rfl, ⟨rfl, rfl⟩⟩

def spec_l02Time (p0 : Int) : Option Bool := (spec_l02Is p0 0 1000000).bind fun r1 => some r1
theorem ok_spec_l02Time (p0 : Int) (r : Bool) (h : spec_l02Time p0 = some r) : Ok Try.prog 35 [C.int p0] [] (fun c qs => c = C.bool r ∧ qs = []) := by
  refine Ok.of_body (rs := [.tmp 2]) Try.func35 rfl rfl rfl rfl rfl fun X => ?_
  unfold spec_l02Time at h
  refine AW.seq ?_
  refine AW.region ?_
  refine Ops.v rfl (op_assign rfl rfl) ?_
  refine Ops.nil ?_
  refine AW.seq ?_
  refine AW.region ?_
  refine Ops.v rfl (op_move rfl rfl) ?_
  refine ob' h fun r1 g2 h => ?_
  refine Ops.hd (ns := []) rfl rfl (op_callE (ok_spec_l02Is _ _ _ _ g2) rfl rfl) ?_
  refine Ops.v rfl (op_assign rfl rfl) ?_
  refine Ops.nil ?_
  refine AW.ret ?_
  rw [← Option.some.inj h]
  exact ⟨[C.bool r1], _, Ghost.refl _, (.cons (.tmp rfl) .nil), [], _, _, rfl, ⟨rfl, rfl⟩⟩

def spec_LiveRight_j1 : Option Bool := some true
def spec_LiveRight_j2 (x29 : Int) (x30 : Bool) : Option (Int ⊕ (Bool ⊕ Unit)) := cond x30 (some (.inr (.inl false))) (some (.inl (IntKind.i64.wrap (x29 + 1))))
def spec_LiveRight_s3 (p0 : List TLive) (x16 : Int) : Option (Int ⊕ (Bool ⊕ Unit)) := cond (decide (x16 < (p0.length : Int))) ((getI p0 x16).bind fun e18 => (spec_l02User e18.user).bind fun r20 => cond r20 ((spec_l02Time e18.till).bind fun r23 => cond r23 (cond (decide (x16 > 0)) ((getI p0 (IntKind.i64.wrap (x16 - 1))).bind fun e27 => spec_LiveRight_j2 x16 (decide (e27.user ≥ e18.user))) (spec_LiveRight_j2 x16 false)) (spec_LiveRight_j2 x16 true)) (spec_LiveRight_j2 x16 true)) (some (.inr (.inr ())))
def spec_LiveRight (p0 : List TLive) : Option Bool := (iter (spec_LiveRight_s3 p0) big 0).bind (fun z33 => match z33 with | .inl y32 => some y32 | .inr () => spec_LiveRight_j1)
theorem ok_spec_LiveRight (p0 : List TLive) (r : Bool) (h : spec_LiveRight p0 = some r) : Ok Try.prog 10 [C.im kLive 2 p0] [] (fun c qs => c = C.bool r ∧ qs = []) := by
  refine Ok.of_body (rs := [.tmp 2]) Try.func10 rfl rfl rfl rfl rfl fun X => ?_
  unfold spec_LiveRight at h
  refine AW.seq ?_
  refine AW.region ?_
  refine Ops.v rfl (op_assign rfl rfl) ?_
  refine Ops.nil ?_
  refine AW.seq ?_
  refine AW.cut (τ := Unit) (fun (_ : Unit) => ⟨[], []⟩) (fun (_ : Unit) => spec_LiveRight_j1 = some r) ?_ ?_
  · refine AW.seq ?_
    refine AW.region ?_
    refine Ops.v rfl (op_assign rfl rfl) ?_
    refine Ops.nil ?_
    refine AW.block ?_
    refine ob' h fun o34 g35 q36 => ?_
    refine AW.loop (τ := Int) (x := 0) (fun x16 => ⟨[(0, C.im kLive 2 p0), (3, C.int x16)], []⟩) (fun k x16 => iter (spec_LiveRight_s3 p0) k x16 = some o34) g35 (Ghost.both (ns := []) rfl rfl) ?_
    intro k x16 i38
    refine iter_succ' (show iter (spec_LiveRight_s3 p0) k x16 = some o34 from i38) fun k37 y39 hlt_k37 h h40 => ?_
    replace h : spec_LiveRight_s3 p0 x16 = some y39 := h
    unfold spec_LiveRight_s3 at h
    refine AW.seq ?_
    refine AW.seq ?_
    refine AW.region ?_
    refine Ops.v rfl (op_move rfl rfl) ?_
    refine Ops.v rfl (op_move rfl rfl) ?_
    refine Ops.v rfl (op_len_im sl_25 rfl rfl) ?_
    refine Ops.v rfl (op_bin rfl rfl rfl rfl) ?_
    refine Ops.nil ?_
    refine tf' (decide (x16 < (p0.length : Int))) (fun hb17 => ?_) (fun hb17 => ?_)
    · replace h := cond_t hb17 h
      refine AW.cond rfl (fun _ => ?_) (fun hn => absurd (hb17.symm.trans hn) (by decide))
      refine AW.skip ?_
      refine AW.seq ?_
      refine AW.block ?_
      refine AW.seq ?_
      refine AW.cut (τ := Int × Bool) (fun (x29, x30) => ⟨[(0, C.im kLive 2 p0), (3, C.int x29), (43, C.bool x30)], []⟩) (fun (x29, x30) => spec_LiveRight_j2 x29 x30 = some y39) ?_ ?_
      · refine AW.regionD (L := [4, 12, 25, 30]) (Lt := []) (k := .light 0 false (.light 1 false (.light 2 false (.light 3 false (.light 4 true (.one 5 (.light 6 false (.light 7 false (.light 8 false (.light 9 false (.light 10 false (.light 11 false (.light 12 true (.one 13 (.light 14 false (.light 15 false (.light 16 false (.light 17 false (.light 18 false (.light 19 false (.light 20 false (.light 21 false (.light 22 false (.light 23 false (.light 24 false (.light 25 true (.light 26 false (.light 27 false (.light 28 false (.light 29 false (.light 30 true (.light 31 false (.light 32 false (.light 33 false .done)))))))))))))))))))))))))))))))))) (ns := []) (by kernel_rfl) (by kernel_rfl) (by kernel_rfl) (by kernel_rfl) rfl ?_
        refine OpsD.v rfl rfl (op_move rfl rfl) ?_
        refine OpsD.v rfl rfl (op_move rfl rfl) ?_
        refine ob' h fun e18 g19 h => ?_
        refine OpsD.v rfl rfl (op_indexAddr_im sl_25 rfl rfl g19 rfl) ?_
        refine OpsD.v rfl rfl (op_fieldAddr_ip fo_54_0 rfl rfl rfl) ?_
        refine OpsD.v rfl rfl (op_load_ip ld_2 rfl rfl) ?_
        refine OpsD.one ?_
        refine ob' h fun r20 g21 h => ?_
        refine StepD.h (ns := []) rfl rfl rfl (op_callE (ok_spec_l02User _ _ g21) rfl rfl) ?_
        rintro _ _ ⟨rfl, rfl⟩
        refine OpsD.v rfl rfl (op_not rfl rfl) ?_
        refine OpsD.v rfl rfl (op_move rfl rfl) ?_
        refine tf' (r20) (fun hb22 => ?_) (fun hb22 => ?_)
        · replace h := cond_t hb22 h
          refine OpsD.gv rfl rfl rfl rfl rfl (not_t hb22) (op_move rfl rfl) ?_
          refine OpsD.gv rfl rfl rfl rfl rfl (not_t hb22) (op_move rfl rfl) ?_
          refine OpsD.gv rfl rfl rfl rfl rfl (not_t hb22) (op_indexAddr_im sl_25 rfl rfl g19 rfl) ?_
          refine OpsD.gv rfl rfl rfl rfl rfl (not_t hb22) (op_fieldAddr_ip fo_54_1 rfl rfl rfl) ?_
          refine OpsD.gv rfl rfl rfl rfl rfl (not_t hb22) (op_load_ip ld_2 rfl rfl) ?_
          refine OpsD.one ?_
          refine ob' h fun r23 g24 h => ?_
          refine StepD.gh (ns := []) rfl rfl rfl rfl rfl (not_t hb22) rfl (op_callE (ok_spec_l02Time _ _ g24) rfl rfl) ?_
          rintro _ _ ⟨rfl, rfl⟩
          refine OpsD.gv rfl rfl rfl rfl rfl (not_t hb22) (op_not rfl rfl) ?_
          refine OpsD.v rfl rfl (op_pick_f rfl (not_t hb22) rfl rfl) ?_
          refine OpsD.v rfl rfl (op_move rfl rfl) ?_
          refine tf' (r23) (fun hb25 => ?_) (fun hb25 => ?_)
          · replace h := cond_t hb25 h
            refine OpsD.gv rfl rfl rfl rfl rfl (not_t hb25) (op_move rfl rfl) ?_
            refine OpsD.gv rfl rfl rfl rfl rfl (not_t hb25) (op_bin rfl rfl rfl rfl) ?_
            refine OpsD.gv rfl rfl rfl rfl rfl (not_t hb25) (op_move rfl rfl) ?_
            refine tf' (decide (x16 > 0)) (fun hb26 => ?_) (fun hb26 => ?_)
            · replace h := cond_t hb26 h
              refine OpsD.gv rfl rfl rfl rfl rfl hb26 (op_move rfl rfl) ?_
              refine OpsD.gv rfl rfl rfl rfl rfl hb26 (op_move rfl rfl) ?_
              refine OpsD.gv rfl rfl rfl rfl rfl hb26 (op_bin rfl rfl rfl rfl) ?_
              refine ob' h fun e27 g28 h => ?_
              refine OpsD.gv rfl rfl rfl rfl rfl hb26 (op_indexAddr_im sl_25 rfl rfl g28 rfl) ?_
              refine OpsD.gv rfl rfl rfl rfl rfl hb26 (op_fieldAddr_ip fo_54_0 rfl rfl rfl) ?_
              refine OpsD.gv rfl rfl rfl rfl rfl hb26 (op_load_ip ld_2 rfl rfl) ?_
              refine OpsD.gv rfl rfl rfl rfl rfl hb26 (op_move rfl rfl) ?_
              refine OpsD.gv rfl rfl rfl rfl rfl hb26 (op_move rfl rfl) ?_
              refine OpsD.gv rfl rfl rfl rfl rfl hb26 (op_indexAddr_im sl_25 rfl rfl g19 rfl) ?_
              refine OpsD.gv rfl rfl rfl rfl rfl hb26 (op_fieldAddr_ip fo_54_0 rfl rfl rfl) ?_
              refine OpsD.gv rfl rfl rfl rfl rfl hb26 (op_load_ip ld_2 rfl rfl) ?_
              refine OpsD.gv rfl rfl rfl rfl rfl hb26 (op_bin rfl rfl rfl rfl) ?_
              refine OpsD.gv rfl rfl rfl rfl rfl (not_t hb25) (op_pick_t rfl hb26 rfl rfl) ?_
              refine OpsD.v rfl rfl (op_pick_f rfl (not_t hb25) rfl rfl) ?_
              refine OpsD.done ?_
              exact ⟨(x16, decide (e27.user ≥ e18.user)), h, Ghost.both (ns := []) rfl rfl⟩
            · replace h := cond_f hb26 h
              refine OpsD.gs rfl rfl rfl rfl (.b rfl hb26) rfl rfl ?_
              refine OpsD.gs rfl rfl rfl rfl (.b rfl hb26) rfl rfl ?_
              refine OpsD.gs rfl rfl rfl rfl (.b rfl hb26) rfl rfl ?_
              refine OpsD.gs rfl rfl rfl rfl (.b rfl hb26) rfl rfl ?_
              refine OpsD.gs rfl rfl rfl rfl (.b rfl hb26) rfl rfl ?_
              refine OpsD.gs rfl rfl rfl rfl (.b rfl hb26) rfl rfl ?_
              refine OpsD.gs rfl rfl rfl rfl (.b rfl hb26) rfl rfl ?_
              refine OpsD.gs rfl rfl rfl rfl (.b rfl hb26) rfl rfl ?_
              refine OpsD.gs rfl rfl rfl rfl (.b rfl hb26) rfl rfl ?_
              refine OpsD.gs rfl rfl rfl rfl (.b rfl hb26) rfl rfl ?_
              refine OpsD.gs rfl rfl rfl rfl (.b rfl hb26) rfl rfl ?_
              refine OpsD.gs rfl rfl rfl rfl (.b rfl hb26) rfl rfl ?_
              refine OpsD.gv rfl rfl rfl rfl rfl (not_t hb25) (op_pick_f rfl hb26 rfl rfl) ?_
              refine OpsD.v rfl rfl (op_pick_f rfl (not_t hb25) rfl rfl) ?_
              refine OpsD.done ?_
              exact ⟨(x16, false), h, Ghost.both (ns := []) rfl rfl⟩
          · replace h := cond_f hb25 h
            refine OpsD.gs rfl rfl rfl rfl (.b rfl (not_f hb25)) rfl rfl ?_
            refine OpsD.gs rfl rfl rfl rfl (.b rfl (not_f hb25)) rfl rfl ?_
            refine OpsD.gs rfl rfl rfl rfl (.b rfl (not_f hb25)) rfl rfl ?_
            refine OpsD.gs rfl rfl rfl rfl (.u rfl) rfl rfl ?_
            refine OpsD.gs rfl rfl rfl rfl (.u rfl) rfl rfl ?_
            refine OpsD.gs rfl rfl rfl rfl (.u rfl) rfl rfl ?_
            refine OpsD.gs rfl rfl rfl rfl (.u rfl) rfl rfl ?_
            refine OpsD.gs rfl rfl rfl rfl (.u rfl) rfl rfl ?_
            refine OpsD.gs rfl rfl rfl rfl (.u rfl) rfl rfl ?_
            refine OpsD.gs rfl rfl rfl rfl (.u rfl) rfl rfl ?_
            refine OpsD.gs rfl rfl rfl rfl (.u rfl) rfl rfl ?_
            refine OpsD.gs rfl rfl rfl rfl (.u rfl) rfl rfl ?_
            refine OpsD.gs rfl rfl rfl rfl (.u rfl) rfl rfl ?_
            refine OpsD.gs rfl rfl rfl rfl (.u rfl) rfl rfl ?_
            refine OpsD.gs rfl rfl rfl rfl (.u rfl) rfl rfl ?_
            refine OpsD.gs rfl rfl rfl rfl (.b rfl (not_f hb25)) rfl rfl ?_
            refine OpsD.v rfl rfl (op_pick_t rfl (not_f hb25) rfl rfl) ?_
            refine OpsD.done ?_
            exact ⟨(x16, true), h, Ghost.both (ns := []) rfl rfl⟩
        · replace h := cond_f hb22 h
          refine OpsD.gs rfl rfl rfl rfl (.b rfl (not_f hb22)) rfl rfl ?_
          refine OpsD.gs rfl rfl rfl rfl (.b rfl (not_f hb22)) rfl rfl ?_
          refine OpsD.gs rfl rfl rfl rfl (.b rfl (not_f hb22)) rfl rfl ?_
          refine OpsD.gs rfl rfl rfl rfl (.b rfl (not_f hb22)) rfl rfl ?_
          refine OpsD.gs rfl rfl rfl rfl (.b rfl (not_f hb22)) rfl rfl ?_
          refine OpsD.one ?_
          refine StepD.gs rfl rfl rfl rfl (.b rfl (not_f hb22)) rfl rfl ?_
          refine OpsD.gs rfl rfl rfl rfl (.b rfl (not_f hb22)) rfl rfl ?_
          refine OpsD.v rfl rfl (op_pick_t rfl (not_f hb22) rfl rfl) ?_
          refine OpsD.v rfl rfl (op_move rfl rfl) ?_
          refine OpsD.gs rfl rfl rfl rfl (.b rfl rfl) rfl rfl ?_
          refine OpsD.gs rfl rfl rfl rfl (.b rfl rfl) rfl rfl ?_
          refine OpsD.gs rfl rfl rfl rfl (.b rfl rfl) rfl rfl ?_
          refine OpsD.gs rfl rfl rfl rfl (.u rfl) rfl rfl ?_
          refine OpsD.gs rfl rfl rfl rfl (.u rfl) rfl rfl ?_
          refine OpsD.gs rfl rfl rfl rfl (.u rfl) rfl rfl ?_
          refine OpsD.gs rfl rfl rfl rfl (.u rfl) rfl rfl ?_
          refine OpsD.gs rfl rfl rfl rfl (.u rfl) rfl rfl ?_
          refine OpsD.gs rfl rfl rfl rfl (.u rfl) rfl rfl ?_
          refine OpsD.gs rfl rfl rfl rfl (.u rfl) rfl rfl ?_
          refine OpsD.gs rfl rfl rfl rfl (.u rfl) rfl rfl ?_
          refine OpsD.gs rfl rfl rfl rfl (.u rfl) rfl rfl ?_
          refine OpsD.gs rfl rfl rfl rfl (.u rfl) rfl rfl ?_
          refine OpsD.gs rfl rfl rfl rfl (.u rfl) rfl rfl ?_
          refine OpsD.gs rfl rfl rfl rfl (.u rfl) rfl rfl ?_
          refine OpsD.gs rfl rfl rfl rfl (.b rfl rfl) rfl rfl ?_
          refine OpsD.v rfl rfl (op_pick_t rfl rfl rfl rfl) ?_
          refine OpsD.done ?_
          exact ⟨(x16, true), h, Ghost.both (ns := []) rfl rfl⟩
      · rintro ⟨x29, x30⟩ h
        replace h : spec_LiveRight_j2 x29 x30 = some y39 := h
        unfold spec_LiveRight_j2 at h
        refine tf' (x30) (fun hb31 => ?_) (fun hb31 => ?_)
        · replace h := cond_t hb31 h
          refine AW.cond rfl (fun _ => ?_) (fun hn => absurd (hb31.symm.trans hn) (by decide))
          refine AW.seq ?_
          refine AW.region ?_
          refine Ops.v rfl (op_assign rfl rfl) ?_
          refine Ops.nil ?_
          refine AW.ret ?_
          obtain rfl := Option.some.inj h
          obtain rfl := Option.some.inj h40
          replace h := q36
          rw [← Option.some.inj h]
          exact ⟨[C.bool false], _, Ghost.refl _, (.cons (.tmp rfl) .nil), [], _, _, rfl, ⟨rfl, rfl⟩⟩
        · replace h := cond_f hb31 h
          refine AW.cond rfl (fun hn => absurd (hb31.symm.trans hn) (by decide)) (fun _ => ?_)
          refine AW.skip ?_
          refine AW.region ?_
          refine Ops.v rfl (op_move rfl rfl) ?_
          refine Ops.v rfl (op_bin rfl rfl rfl rfl) ?_
          refine Ops.v rfl (op_assign rfl rfl) ?_
          refine Ops.nil ?_
          obtain rfl := Option.some.inj h
          exact ⟨k37, (IntKind.i64.wrap (x29 + 1)), hlt_k37, h40, Ghost.both (ns := []) rfl rfl⟩
    · replace h := cond_f hb17 h
      refine AW.cond rfl (fun hn => absurd (hb17.symm.trans hn) (by decide)) (fun _ => ?_)
      refine AW.exit ?_
      obtain rfl := Option.some.inj h
      obtain rfl := Option.some.inj h40
      replace h := q36
      exact ⟨(), h, Ghost.both (ns := []) rfl rfl⟩
  · rintro ⟨⟩ h
    replace h : spec_LiveRight_j1 = some r := h
    unfold spec_LiveRight_j1 at h
    refine AW.seq ?_
    refine AW.region ?_
    refine Ops.v rfl (op_assign rfl rfl) ?_
    refine Ops.nil ?_
    refine AW.ret ?_
    rw [← Option.some.inj h]
    exact ⟨[C.bool true], _, Ghost.refl _, (.cons (.tmp rfl) .nil), [], _, _, rfl, ⟨rfl, rfl⟩⟩

def impl_in_j1 (x2 : Bool) : Option Bool := some x2
def impl_in (p0 : Int) (p1 : Int) (p2 : Int) : Option Bool := cond (decide (p1 ≤ p0)) (impl_in_j1 (decide (p0 ≤ p2))) (impl_in_j1 false)
theorem ok_impl_in (p0 : Int) (p1 : Int) (p2 : Int) (r : Bool) (h : impl_in p0 p1 p2 = some r) : Ok Try.prog 50 [C.int p0, C.int p1, C.int p2] [] (fun c qs => c = C.bool r ∧ qs = []) := by
  refine Ok.of_body (rs := [.tmp 6]) Try.func50 rfl rfl rfl rfl rfl fun X => ?_
  unfold impl_in at h
  refine AW.seq ?_
  refine AW.region ?_
  refine Ops.v rfl (op_assign rfl rfl) ?_
  refine Ops.nil ?_
  refine AW.seq ?_
  refine AW.cut (τ := Bool) (fun x2 => ⟨[(6, C.bool x2)], []⟩) (fun x2 => impl_in_j1 x2 = some r) ?_ ?_
  · refine AW.region ?_
    refine Ops.v rfl (op_move rfl rfl) ?_
    refine Ops.v rfl (op_move rfl rfl) ?_
    refine Ops.v rfl (op_bin rfl rfl rfl rfl) ?_
    refine Ops.v rfl (op_move rfl rfl) ?_
    refine tf' (decide (p1 ≤ p0)) (fun hb1 => ?_) (fun hb1 => ?_)
    · replace h := cond_t hb1 h
      refine Ops.gv rfl rfl rfl rfl hb1 (op_move rfl rfl) ?_
      refine Ops.gv rfl rfl rfl rfl hb1 (op_move rfl rfl) ?_
      refine Ops.gv rfl rfl rfl rfl hb1 (op_bin rfl rfl rfl rfl) ?_
      refine Ops.v rfl (op_pick_t rfl hb1 rfl rfl) ?_
      refine Ops.v rfl (op_assign rfl rfl) ?_
      refine Ops.nil ?_
      exact ⟨decide (p0 ≤ p2), h, Ghost.both (ns := []) rfl rfl⟩
    · replace h := cond_f hb1 h
      refine Ops.gs rfl rfl rfl (.b rfl hb1) rfl rfl ?_
      refine Ops.gs rfl rfl rfl (.b rfl hb1) rfl rfl ?_
      refine Ops.gs rfl rfl rfl (.b rfl hb1) rfl rfl ?_
      refine Ops.v rfl (op_pick_f rfl hb1 rfl rfl) ?_
      refine Ops.v rfl (op_assign rfl rfl) ?_
      refine Ops.nil ?_
      exact ⟨false, h, Ghost.both (ns := []) rfl rfl⟩
  · intro x2 h
    replace h : impl_in_j1 x2 = some r := h
    unfold impl_in_j1 at h
    refine AW.ret ?_
    rw [← Option.some.inj h]
    exact ⟨[C.bool x2], _, Ghost.refl _, (.cons (.tmp rfl) .nil), [], _, _, rfl, ⟨rfl, rfl⟩⟩

def impl_isUser (p0 : Int) : Option Bool := (impl_in p0 1 6).bind fun r1 => some r1
theorem ok_impl_isUser (p0 : Int) (r : Bool) (h : impl_isUser p0 = some r) : Ok Try.prog 37 [C.int p0] [] (fun c qs => c = C.bool r ∧ qs = []) := by
  refine Ok.of_body (rs := [.tmp 2]) Try.func37 rfl rfl rfl rfl rfl fun X => ?_
  unfold impl_isUser at h
  refine AW.seq ?_
  refine AW.region ?_
  refine Ops.v rfl (op_assign rfl rfl) ?_
  refine Ops.nil ?_
  refine AW.seq ?_
  refine AW.region ?_
  refine Ops.v rfl (op_move rfl rfl) ?_
  refine ob' h fun r1 g2 h => ?_
  refine Ops.hd (ns := []) rfl rfl (op_callE (ok_impl_in _ _ _ _ g2) rfl rfl) ?_
  refine Ops.v rfl (op_assign rfl rfl) ?_
  refine Ops.nil ?_
  refine AW.ret ?_
  rw [← Option.some.inj h]
  exact ⟨[C.bool r1], _, Ghost.refl _, (.cons (.tmp rfl) .nil), [], _, _, rfl, ⟨rfl, rfl⟩⟩

def impl_isTime (p0 : Int) : Option Bool := (impl_in p0 0 1000000).bind fun r1 => some r1
theorem ok_impl_isTime (p0 : Int) (r : Bool) (h : impl_isTime p0 = some r) : Ok Try.prog 38 [C.int p0] [] (fun c qs => c = C.bool r ∧ qs = []) := by
  refine Ok.of_body (rs := [.tmp 2]) Try.func38 rfl rfl rfl rfl rfl fun X => ?_
  unfold impl_isTime at h
  refine AW.seq ?_
  refine AW.region ?_
  refine Ops.v rfl (op_assign rfl rfl) ?_
  refine Ops.nil ?_
  refine AW.seq ?_
  refine AW.region ?_
  refine Ops.v rfl (op_move rfl rfl) ?_
  refine ob' h fun r1 g2 h => ?_
  refine Ops.hd (ns := []) rfl rfl (op_callE (ok_impl_in _ _ _ _ g2) rfl rfl) ?_
  refine Ops.v rfl (op_assign rfl rfl) ?_
  refine Ops.nil ?_
  refine AW.ret ?_
  rw [← Option.some.inj h]
  exact ⟨[C.bool r1], _, Ghost.refl _, (.cons (.tmp rfl) .nil), [], _, _, rfl, ⟨rfl, rfl⟩⟩

def impl_LiveRight_j1 : Option Bool := some true
def impl_LiveRight_j2 (x33 : Int) (x34 : Int) (x35 : Bool) : Option ((Int × Int) ⊕ (Bool ⊕ Unit)) := cond x35 (some (.inr (.inl false))) (some (.inl (x33, (IntKind.i64.wrap (x34 + 1)))))
def impl_LiveRight_s3 (p0 : List TLive) (x18 : Int) (x19 : Int) : Option ((Int × Int) ⊕ (Bool ⊕ Unit)) := cond (decide (x19 < x18)) ((getI p0 x19).bind fun e21 => (impl_isUser e21.user).bind fun r24 => cond r24 ((impl_isTime e21.till).bind fun r27 => cond r27 (cond (decide (x19 > 0)) ((getI p0 (IntKind.i64.wrap (x19 - 1))).bind fun e31 => impl_LiveRight_j2 x18 x19 (decide (e31.user ≥ e21.user))) (impl_LiveRight_j2 x18 x19 false)) (impl_LiveRight_j2 x18 x19 true)) (impl_LiveRight_j2 x18 x19 true)) (some (.inr (.inr ())))
def impl_LiveRight (p0 : List TLive) : Option Bool := (iter (fun z37 => impl_LiveRight_s3 p0 z37.1 z37.2) big ((p0.length : Int), 0)).bind (fun z39 => match z39 with | .inl y38 => some y38 | .inr () => impl_LiveRight_j1)
theorem ok_impl_LiveRight (p0 : List TLive) (r : Bool) (h : impl_LiveRight p0 = some r) : Ok Try.prog 12 [C.im kLive 2 p0] [] (fun c qs => c = C.bool r ∧ qs = []) := by
  refine Ok.of_body (rs := [.tmp 2]) Try.func12 rfl rfl rfl rfl rfl fun X => ?_
  unfold impl_LiveRight at h
  refine AW.seq ?_
  refine AW.region ?_
  refine Ops.v rfl (op_assign rfl rfl) ?_
  refine Ops.nil ?_
  refine AW.seq ?_
  refine AW.cut (τ := Unit) (fun (_ : Unit) => ⟨[], []⟩) (fun (_ : Unit) => impl_LiveRight_j1 = some r) ?_ ?_
  · refine AW.seq ?_
    refine AW.region ?_
    refine Ops.v rfl (op_move rfl rfl) ?_
    refine Ops.v rfl (op_len_im sl_25 rfl rfl) ?_
    refine Ops.v rfl (op_move rfl rfl) ?_
    refine Ops.nil ?_
    refine AW.block ?_
    refine ob' h fun o40 g41 q42 => ?_
    refine AW.loop (τ := Int × Int) (x := ((p0.length : Int), 0)) (fun (x18, x19) => ⟨[(0, C.im kLive 2 p0), (5, C.im kLive 2 p0), (6, C.int x18), (7, C.int x19)], []⟩) (fun k (x18, x19) => iter (fun z37 => impl_LiveRight_s3 p0 z37.1 z37.2) k (x18, x19) = some o40) g41 (Ghost.both (ns := []) rfl rfl) ?_
    rintro k ⟨x18, x19⟩ i44
    refine iter_succ' (show iter (fun z37 => impl_LiveRight_s3 p0 z37.1 z37.2) k (x18, x19) = some o40 from i44) fun k43 y45 hlt_k43 h h46 => ?_
    replace h : impl_LiveRight_s3 p0 x18 x19 = some y45 := h
    unfold impl_LiveRight_s3 at h
    refine AW.seq ?_
    refine AW.region ?_
    refine Ops.v rfl (op_bin rfl rfl rfl rfl) ?_
    refine Ops.nil ?_
    refine AW.seq ?_
    refine tf' (decide (x19 < x18)) (fun hb20 => ?_) (fun hb20 => ?_)
    · replace h := cond_t hb20 h
      refine AW.cond rfl (fun _ => ?_) (fun hn => absurd (hb20.symm.trans hn) (by decide))
      refine AW.skip ?_
      refine AW.seq ?_
      refine AW.block ?_
      refine AW.seq ?_
      refine AW.region ?_
      refine Ops.v rfl (op_move rfl rfl) ?_
      refine ob' h fun e21 g22 h => ?_
      refine Ops.v rfl (op_indexAddr_im sl_25 rfl rfl g22 rfl) ?_
      refine Ops.v rfl (op_load_ipA ld_54 rfl rfl rfl rfl) ?_
      refine Ops.h (ns := []) rfl rfl (op_alloc (cs := [C.int 0, C.int 0]) ze_54 (cells_zero rfl rfl) rfl) ?_
      rintro _ _ ⟨b23, rfl, rfl⟩
      refine Ops.v rfl (op_assign rfl rfl) ?_
      refine Ops.hd (ns := [0]) rfl rfl (op_storeA (gs := [C.int e21.user, C.int e21.till]) ld_54 rfl rfl rfl rfl rfl) ?_
      refine Ops.nil ?_
      refine AW.seq ?_
      refine AW.cut (τ := Int × Int × Bool) (fun (x33, x34, x35) => ⟨[(0, C.im kLive 2 p0), (5, C.im kLive 2 p0), (6, C.int x33), (7, C.int x34), (36, C.bool x35)], []⟩) (fun (x33, x34, x35) => impl_LiveRight_j2 x33 x34 x35 = some y45) ?_ ?_
      · refine AW.regionD (L := [1, 6, 19, 21]) (Lt := []) (k := .light 0 false (.light 1 true (.one 2 (.light 3 false (.light 4 false (.light 5 false (.light 6 true (.one 7 (.light 8 false (.light 9 false (.light 10 false (.light 11 false (.light 12 false (.light 13 false (.light 14 false (.light 15 false (.light 16 false (.light 17 false (.light 18 false (.light 19 true (.light 20 false (.light 21 true (.light 22 false (.light 23 false (.light 24 false .done))))))))))))))))))))))))) (ns := [0]) (by kernel_rfl) (by kernel_rfl) (by kernel_rfl) (by kernel_rfl) rfl ?_
        refine OpsD.v rfl rfl (op_fieldAddr fo_54_0 rfl rfl) ?_
        refine OpsD.v rfl rfl (op_load (p := 0) ld_2 rfl rfl rfl rfl) ?_
        refine OpsD.one ?_
        refine ob' h fun r24 g25 h => ?_
        refine StepD.h (ns := []) rfl rfl rfl (op_callE (ok_impl_isUser _ _ g25) rfl rfl) ?_
        rintro _ _ ⟨rfl, rfl⟩
        refine OpsD.v rfl rfl (op_not rfl rfl) ?_
        refine OpsD.v rfl rfl (op_move rfl rfl) ?_
        refine tf' (r24) (fun hb26 => ?_) (fun hb26 => ?_)
        · replace h := cond_t hb26 h
          refine OpsD.gv rfl rfl rfl rfl rfl (not_t hb26) (op_fieldAddr fo_54_1 rfl rfl) ?_
          refine OpsD.gv rfl rfl rfl rfl rfl (not_t hb26) (op_load (p := 0) ld_2 rfl rfl rfl rfl) ?_
          refine OpsD.one ?_
          refine ob' h fun r27 g28 h => ?_
          refine StepD.gh (ns := []) rfl rfl rfl rfl rfl (not_t hb26) rfl (op_callE (ok_impl_isTime _ _ g28) rfl rfl) ?_
          rintro _ _ ⟨rfl, rfl⟩
          refine OpsD.gv rfl rfl rfl rfl rfl (not_t hb26) (op_not rfl rfl) ?_
          refine OpsD.v rfl rfl (op_pick_f rfl (not_t hb26) rfl rfl) ?_
          refine OpsD.v rfl rfl (op_move rfl rfl) ?_
          refine tf' (r27) (fun hb29 => ?_) (fun hb29 => ?_)
          · replace h := cond_t hb29 h
            refine OpsD.gv rfl rfl rfl rfl rfl (not_t hb29) (op_move rfl rfl) ?_
            refine OpsD.gv rfl rfl rfl rfl rfl (not_t hb29) (op_bin rfl rfl rfl rfl) ?_
            refine OpsD.gv rfl rfl rfl rfl rfl (not_t hb29) (op_move rfl rfl) ?_
            refine tf' (decide (x19 > 0)) (fun hb30 => ?_) (fun hb30 => ?_)
            · replace h := cond_t hb30 h
              refine OpsD.gv rfl rfl rfl rfl rfl hb30 (op_move rfl rfl) ?_
              refine OpsD.gv rfl rfl rfl rfl rfl hb30 (op_move rfl rfl) ?_
              refine OpsD.gv rfl rfl rfl rfl rfl hb30 (op_bin rfl rfl rfl rfl) ?_
              refine ob' h fun e31 g32 h => ?_
              refine OpsD.gv rfl rfl rfl rfl rfl hb30 (op_indexAddr_im sl_25 rfl rfl g32 rfl) ?_
              refine OpsD.gv rfl rfl rfl rfl rfl hb30 (op_fieldAddr_ip fo_54_0 rfl rfl rfl) ?_
              refine OpsD.gv rfl rfl rfl rfl rfl hb30 (op_load_ip ld_2 rfl rfl) ?_
              refine OpsD.gv rfl rfl rfl rfl rfl hb30 (op_fieldAddr fo_54_0 rfl rfl) ?_
              refine OpsD.gv rfl rfl rfl rfl rfl hb30 (op_load (p := 0) ld_2 rfl rfl rfl rfl) ?_
              refine OpsD.gv rfl rfl rfl rfl rfl hb30 (op_bin rfl rfl rfl rfl) ?_
              refine OpsD.gv rfl rfl rfl rfl rfl (not_t hb29) (op_pick_t rfl hb30 rfl rfl) ?_
              refine OpsD.v rfl rfl (op_pick_f rfl (not_t hb29) rfl rfl) ?_
              refine OpsD.done ?_
              exact ⟨(x18, x19, decide (e31.user ≥ e21.user)), h, Ghost.both (ns := []) rfl rfl⟩
            · replace h := cond_f hb30 h
              refine OpsD.gs rfl rfl rfl rfl (.b rfl hb30) rfl rfl ?_
              refine OpsD.gs rfl rfl rfl rfl (.b rfl hb30) rfl rfl ?_
              refine OpsD.gs rfl rfl rfl rfl (.b rfl hb30) rfl rfl ?_
              refine OpsD.gs rfl rfl rfl rfl (.b rfl hb30) rfl rfl ?_
              refine OpsD.gs rfl rfl rfl rfl (.b rfl hb30) rfl rfl ?_
              refine OpsD.gs rfl rfl rfl rfl (.b rfl hb30) rfl rfl ?_
              refine OpsD.gs rfl rfl rfl rfl (.b rfl hb30) rfl rfl ?_
              refine OpsD.gs rfl rfl rfl rfl (.b rfl hb30) rfl rfl ?_
              refine OpsD.gs rfl rfl rfl rfl (.b rfl hb30) rfl rfl ?_
              refine OpsD.gv rfl rfl rfl rfl rfl (not_t hb29) (op_pick_f rfl hb30 rfl rfl) ?_
              refine OpsD.v rfl rfl (op_pick_f rfl (not_t hb29) rfl rfl) ?_
              refine OpsD.done ?_
              exact ⟨(x18, x19, false), h, Ghost.both (ns := []) rfl rfl⟩
          · replace h := cond_f hb29 h
            refine OpsD.gs rfl rfl rfl rfl (.b rfl (not_f hb29)) rfl rfl ?_
            refine OpsD.gs rfl rfl rfl rfl (.b rfl (not_f hb29)) rfl rfl ?_
            refine OpsD.gs rfl rfl rfl rfl (.b rfl (not_f hb29)) rfl rfl ?_
            refine OpsD.gs rfl rfl rfl rfl (.u rfl) rfl rfl ?_
            refine OpsD.gs rfl rfl rfl rfl (.u rfl) rfl rfl ?_
            refine OpsD.gs rfl rfl rfl rfl (.u rfl) rfl rfl ?_
            refine OpsD.gs rfl rfl rfl rfl (.u rfl) rfl rfl ?_
            refine OpsD.gs rfl rfl rfl rfl (.u rfl) rfl rfl ?_
            refine OpsD.gs rfl rfl rfl rfl (.u rfl) rfl rfl ?_
            refine OpsD.gs rfl rfl rfl rfl (.u rfl) rfl rfl ?_
            refine OpsD.gs rfl rfl rfl rfl (.u rfl) rfl rfl ?_
            refine OpsD.gs rfl rfl rfl rfl (.u rfl) rfl rfl ?_
            refine OpsD.gs rfl rfl rfl rfl (.b rfl (not_f hb29)) rfl rfl ?_
            refine OpsD.v rfl rfl (op_pick_t rfl (not_f hb29) rfl rfl) ?_
            refine OpsD.done ?_
            exact ⟨(x18, x19, true), h, Ghost.both (ns := []) rfl rfl⟩
        · replace h := cond_f hb26 h
          refine OpsD.gs rfl rfl rfl rfl (.b rfl (not_f hb26)) rfl rfl ?_
          refine OpsD.gs rfl rfl rfl rfl (.b rfl (not_f hb26)) rfl rfl ?_
          refine OpsD.one ?_
          refine StepD.gs rfl rfl rfl rfl (.b rfl (not_f hb26)) rfl rfl ?_
          refine OpsD.gs rfl rfl rfl rfl (.b rfl (not_f hb26)) rfl rfl ?_
          refine OpsD.v rfl rfl (op_pick_t rfl (not_f hb26) rfl rfl) ?_
          refine OpsD.v rfl rfl (op_move rfl rfl) ?_
          refine OpsD.gs rfl rfl rfl rfl (.b rfl rfl) rfl rfl ?_
          refine OpsD.gs rfl rfl rfl rfl (.b rfl rfl) rfl rfl ?_
          refine OpsD.gs rfl rfl rfl rfl (.b rfl rfl) rfl rfl ?_
          refine OpsD.gs rfl rfl rfl rfl (.u rfl) rfl rfl ?_
          refine OpsD.gs rfl rfl rfl rfl (.u rfl) rfl rfl ?_
          refine OpsD.gs rfl rfl rfl rfl (.u rfl) rfl rfl ?_
          refine OpsD.gs rfl rfl rfl rfl (.u rfl) rfl rfl ?_
          refine OpsD.gs rfl rfl rfl rfl (.u rfl) rfl rfl ?_
          refine OpsD.gs rfl rfl rfl rfl (.u rfl) rfl rfl ?_
          refine OpsD.gs rfl rfl rfl rfl (.u rfl) rfl rfl ?_
          refine OpsD.gs rfl rfl rfl rfl (.u rfl) rfl rfl ?_
          refine OpsD.gs rfl rfl rfl rfl (.u rfl) rfl rfl ?_
          refine OpsD.gs rfl rfl rfl rfl (.b rfl rfl) rfl rfl ?_
          refine OpsD.v rfl rfl (op_pick_t rfl rfl rfl rfl) ?_
          refine OpsD.done ?_
          exact ⟨(x18, x19, true), h, Ghost.both (ns := []) rfl rfl⟩
      · rintro ⟨x33, x34, x35⟩ h
        replace h : impl_LiveRight_j2 x33 x34 x35 = some y45 := h
        unfold impl_LiveRight_j2 at h
        refine tf' (x35) (fun hb36 => ?_) (fun hb36 => ?_)
        · replace h := cond_t hb36 h
          refine AW.cond rfl (fun _ => ?_) (fun hn => absurd (hb36.symm.trans hn) (by decide))
          refine AW.seq ?_
          refine AW.region ?_
          refine Ops.v rfl (op_assign rfl rfl) ?_
          refine Ops.nil ?_
          refine AW.ret ?_
          obtain rfl := Option.some.inj h
          obtain rfl := Option.some.inj h46
          replace h := q42
          rw [← Option.some.inj h]
          exact ⟨[C.bool false], _, Ghost.refl _, (.cons (.tmp rfl) .nil), [], _, _, rfl, ⟨rfl, rfl⟩⟩
        · replace h := cond_f hb36 h
          refine AW.cond rfl (fun hn => absurd (hb36.symm.trans hn) (by decide)) (fun _ => ?_)
          refine AW.skip ?_
          refine AW.region ?_
          refine Ops.v rfl (op_bin rfl rfl rfl rfl) ?_
          refine Ops.v rfl (op_move rfl rfl) ?_
          refine Ops.nil ?_
          obtain rfl := Option.some.inj h
          exact ⟨k43, (x33, (IntKind.i64.wrap (x34 + 1))), hlt_k43, h46, Ghost.both (ns := []) rfl rfl⟩
    · replace h := cond_f hb20 h
      refine AW.cond rfl (fun hn => absurd (hb20.symm.trans hn) (by decide)) (fun _ => ?_)
      refine AW.exit ?_
      obtain rfl := Option.some.inj h
      obtain rfl := Option.some.inj h46
      replace h := q42
      exact ⟨(), h, Ghost.both (ns := []) rfl rfl⟩
  · rintro ⟨⟩ h
    replace h : impl_LiveRight_j1 = some r := h
    unfold impl_LiveRight_j1 at h
    refine AW.seq ?_
    refine AW.region ?_
    refine Ops.v rfl (op_assign rfl rfl) ?_
    refine Ops.nil ?_
    refine AW.ret ?_
    rw [← Option.some.inj h]
    exact ⟨[C.bool true], _, Ghost.refl _, (.cons (.tmp rfl) .nil), [], _, _, rfl, ⟨rfl, rfl⟩⟩

def laws_eqLive (p0 : TLive) (p1 : TLive) : Option Bool := cond (p0.user != p1.user) (some false) (cond (p0.till != p1.till) (some false) (some true))
theorem ok_laws_eqLive (p0 : TLive) (p1 : TLive) (r : Bool) (h : laws_eqLive p0 p1 = some r) : Ok Try.prog 39 [C.agg [C.int p0.user, C.int p0.till], C.agg [C.int p1.user, C.int p1.till]] [] (fun c qs => c = C.bool r ∧ qs = []) := by
  refine Ok.of_body (rs := [.tmp 4]) Try.func39 rfl rfl rfl rfl rfl fun X => ?_
  unfold laws_eqLive at h
  refine AW.seq ?_
  refine AW.region ?_
  refine Ops.h (ns := []) rfl rfl (op_boxA rfl rfl) ?_
  rintro _ _ ⟨b1, rfl, rfl⟩
  refine Ops.h (ns := []) rfl rfl (op_boxA rfl rfl) ?_
  rintro _ _ ⟨b2, rfl, rfl⟩
  refine Ops.v rfl (op_assign rfl rfl) ?_
  refine Ops.nil ?_
  refine AW.seq ?_
  refine AW.seq ?_
  refine AW.region ?_
  refine Ops.v rfl (op_fieldAddr fo_54_0 rfl rfl) ?_
  refine Ops.v rfl (op_load (p := 1) ld_2 rfl rfl rfl rfl) ?_
  refine Ops.v rfl (op_fieldAddr fo_54_0 rfl rfl) ?_
  refine Ops.v rfl (op_load (p := 0) ld_2 rfl rfl rfl rfl) ?_
  refine Ops.v rfl (op_bin rfl rfl rfl rfl) ?_
  refine Ops.nil ?_
  refine tf' ((p0.user != p1.user)) (fun hb3 => ?_) (fun hb3 => ?_)
  · replace h := cond_t hb3 h
    refine AW.cond rfl (fun _ => ?_) (fun hn => absurd (hb3.symm.trans hn) (by decide))
    refine AW.seq ?_
    refine AW.region ?_
    refine Ops.v rfl (op_assign rfl rfl) ?_
    refine Ops.nil ?_
    refine AW.ret ?_
    rw [← Option.some.inj h]
    exact ⟨[C.bool false], _, Ghost.refl _, (.cons (.tmp rfl) .nil), [], _, _, rfl, ⟨rfl, rfl⟩⟩
  · replace h := cond_f hb3 h
    refine AW.cond rfl (fun hn => absurd (hb3.symm.trans hn) (by decide)) (fun _ => ?_)
    refine AW.skip ?_
    refine AW.seq ?_
    refine AW.seq ?_
    refine AW.region ?_
    refine Ops.v rfl (op_fieldAddr fo_54_1 rfl rfl) ?_
    refine Ops.v rfl (op_load (p := 1) ld_2 rfl rfl rfl rfl) ?_
    refine Ops.v rfl (op_fieldAddr fo_54_1 rfl rfl) ?_
    refine Ops.v rfl (op_load (p := 0) ld_2 rfl rfl rfl rfl) ?_
    refine Ops.v rfl (op_bin rfl rfl rfl rfl) ?_
    refine Ops.nil ?_
    refine tf' ((p0.till != p1.till)) (fun hb4 => ?_) (fun hb4 => ?_)
    · replace h := cond_t hb4 h
      refine AW.cond rfl (fun _ => ?_) (fun hn => absurd (hb4.symm.trans hn) (by decide))
      refine AW.seq ?_
      refine AW.region ?_
      refine Ops.v rfl (op_assign rfl rfl) ?_
      refine Ops.nil ?_
      refine AW.ret ?_
      rw [← Option.some.inj h]
      exact ⟨[C.bool false], _, Ghost.refl _, (.cons (.tmp rfl) .nil), [], _, _, rfl, ⟨rfl, rfl⟩⟩
    · replace h := cond_f hb4 h
      refine AW.cond rfl (fun hn => absurd (hb4.symm.trans hn) (by decide)) (fun _ => ?_)
      refine AW.skip ?_
      refine AW.seq ?_
      refine AW.region ?_
      refine Ops.v rfl (op_assign rfl rfl) ?_
      refine Ops.nil ?_
      refine AW.ret ?_
      rw [← Option.some.inj h]
      exact ⟨[C.bool true], _, Ghost.refl _, (.cons (.tmp rfl) .nil), [], _, _, rfl, ⟨rfl, rfl⟩⟩

def laws_eqLiveS_j1 : Option Bool := some true
def laws_eqLiveS_s2 (p0 : List TLive) (p1 : List TLive) (x10 : Int) : Option (Int ⊕ (Bool ⊕ Unit)) := cond (decide (x10 < (p0.length : Int))) ((getI p0 x10).bind fun e12 => (getI p1 x10).bind fun e14 => (laws_eqLive e12 e14).bind fun r16 => cond r16 (some (.inl (IntKind.i64.wrap (x10 + 1)))) (some (.inr (.inl false)))) (some (.inr (.inr ())))
def laws_eqLiveS (p0 : List TLive) (p1 : List TLive) : Option Bool := cond ((p0.length : Int) != (p1.length : Int)) (some false) ((iter (laws_eqLiveS_s2 p0 p1) big 0).bind (fun z20 => match z20 with | .inl y19 => some y19 | .inr () => laws_eqLiveS_j1))
theorem ok_laws_eqLiveS (p0 : List TLive) (p1 : List TLive) (r : Bool) (h : laws_eqLiveS p0 p1 = some r) : Ok Try.prog 13 [C.im kLive 2 p0, C.im kLive 2 p1] [] (fun c qs => c = C.bool r ∧ qs = []) := by
  refine Ok.of_body (rs := [.tmp 4]) Try.func13 rfl rfl rfl rfl rfl fun X => ?_
  unfold laws_eqLiveS at h
  refine AW.seq ?_
  refine AW.region ?_
  refine Ops.v rfl (op_assign rfl rfl) ?_
  refine Ops.nil ?_
  refine AW.seq ?_
  refine AW.seq ?_
  refine AW.region ?_
  refine Ops.v rfl (op_move rfl rfl) ?_
  refine Ops.v rfl (op_len_im sl_25 rfl rfl) ?_
  refine Ops.v rfl (op_move rfl rfl) ?_
  refine Ops.v rfl (op_len_im sl_25 rfl rfl) ?_
  refine Ops.v rfl (op_bin rfl rfl rfl rfl) ?_
  refine Ops.nil ?_
  refine tf' (((p0.length : Int) != (p1.length : Int))) (fun hb1 => ?_) (fun hb1 => ?_)
  · replace h := cond_t hb1 h
    refine AW.cond rfl (fun _ => ?_) (fun hn => absurd (hb1.symm.trans hn) (by decide))
    refine AW.seq ?_
    refine AW.region ?_
    refine Ops.v rfl (op_assign rfl rfl) ?_
    refine Ops.nil ?_
    refine AW.ret ?_
    rw [← Option.some.inj h]
    exact ⟨[C.bool false], _, Ghost.refl _, (.cons (.tmp rfl) .nil), [], _, _, rfl, ⟨rfl, rfl⟩⟩
  · replace h := cond_f hb1 h
    refine AW.cond rfl (fun hn => absurd (hb1.symm.trans hn) (by decide)) (fun _ => ?_)
    refine AW.skip ?_
    refine AW.seq ?_
    refine AW.cut (τ := Unit) (fun (_ : Unit) => ⟨[], []⟩) (fun (_ : Unit) => laws_eqLiveS_j1 = some r) ?_ ?_
    · refine AW.seq ?_
      refine AW.region ?_
      refine Ops.v rfl (op_assign rfl rfl) ?_
      refine Ops.nil ?_
      refine AW.block ?_
      refine ob' h fun o21 g22 q23 => ?_
      refine AW.loop (τ := Int) (x := 0) (fun x10 => ⟨[(0, C.im kLive 2 p0), (1, C.im kLive 2 p1), (5, C.int x10)], []⟩) (fun k x10 => iter (laws_eqLiveS_s2 p0 p1) k x10 = some o21) g22 (Ghost.both (ns := []) rfl rfl) ?_
      intro k x10 i25
      refine iter_succ' (show iter (laws_eqLiveS_s2 p0 p1) k x10 = some o21 from i25) fun k24 y26 hlt_k24 h h27 => ?_
      replace h : laws_eqLiveS_s2 p0 p1 x10 = some y26 := h
      unfold laws_eqLiveS_s2 at h
      refine AW.seq ?_
      refine AW.seq ?_
      refine AW.region ?_
      refine Ops.v rfl (op_move rfl rfl) ?_
      refine Ops.v rfl (op_move rfl rfl) ?_
      refine Ops.v rfl (op_len_im sl_25 rfl rfl) ?_
      refine Ops.v rfl (op_bin rfl rfl rfl rfl) ?_
      refine Ops.nil ?_
      refine tf' (decide (x10 < (p0.length : Int))) (fun hb11 => ?_) (fun hb11 => ?_)
      · replace h := cond_t hb11 h
        refine AW.cond rfl (fun _ => ?_) (fun hn => absurd (hb11.symm.trans hn) (by decide))
        refine AW.skip ?_
        refine AW.seq ?_
        refine AW.block ?_
        refine AW.seq ?_
        refine AW.regionD (L := [3, 7]) (Lt := []) (k := .light 0 false (.light 1 false (.light 2 false (.light 3 true (.light 4 false (.light 5 false (.light 6 false (.light 7 true (.one 8 (.light 9 false .done)))))))))) (ns := []) (by kernel_rfl) (by kernel_rfl) (by kernel_rfl) (by kernel_rfl) rfl ?_
        refine OpsD.v rfl rfl (op_move rfl rfl) ?_
        refine OpsD.v rfl rfl (op_move rfl rfl) ?_
        refine ob' h fun e12 g13 h => ?_
        refine OpsD.v rfl rfl (op_indexAddr_im sl_25 rfl rfl g13 rfl) ?_
        refine OpsD.v rfl rfl (op_load_ipA ld_54 rfl rfl rfl rfl) ?_
        refine OpsD.v rfl rfl (op_move rfl rfl) ?_
        refine OpsD.v rfl rfl (op_move rfl rfl) ?_
        refine ob' h fun e14 g15 h => ?_
        refine OpsD.v rfl rfl (op_indexAddr_im sl_25 rfl rfl g15 rfl) ?_
        refine OpsD.v rfl rfl (op_load_ipA ld_54 rfl rfl rfl rfl) ?_
        refine OpsD.one ?_
        refine ob' h fun r16 g17 h => ?_
        refine StepD.h (ns := []) rfl rfl rfl (op_callE (ok_laws_eqLive _ _ _ g17) rfl rfl) ?_
        rintro _ _ ⟨rfl, rfl⟩
        refine OpsD.v rfl rfl (op_not rfl rfl) ?_
        refine OpsD.done ?_
        refine tf' (r16) (fun hb18 => ?_) (fun hb18 => ?_)
        · replace h := cond_t hb18 h
          refine AW.cond rfl (fun hn => absurd ((not_t hb18).symm.trans hn) (by decide)) (fun _ => ?_)
          refine AW.skip ?_
          refine AW.region ?_
          refine Ops.v rfl (op_move rfl rfl) ?_
          refine Ops.v rfl (op_bin rfl rfl rfl rfl) ?_
          refine Ops.v rfl (op_assign rfl rfl) ?_
          refine Ops.nil ?_
          obtain rfl := Option.some.inj h
          exact ⟨k24, (IntKind.i64.wrap (x10 + 1)), hlt_k24, h27, Ghost.both (ns := []) rfl rfl⟩
        · replace h := cond_f hb18 h
          refine AW.cond rfl (fun _ => ?_) (fun hn => absurd ((not_f hb18).symm.trans hn) (by decide))
          refine AW.seq ?_
          refine AW.region ?_
          refine Ops.v rfl (op_assign rfl rfl) ?_
          refine Ops.nil ?_
          refine AW.ret ?_
          obtain rfl := Option.some.inj h
          obtain rfl := Option.some.inj h27
          replace h := q23
          rw [← Option.some.inj h]
          exact ⟨[C.bool false], _, Ghost.refl _, (.cons (.tmp rfl) .nil), [], _, _, rfl, ⟨rfl, rfl⟩⟩
      · replace h := cond_f hb11 h
        refine AW.cond rfl (fun hn => absurd (hb11.symm.trans hn) (by decide)) (fun _ => ?_)
        refine AW.exit ?_
        obtain rfl := Option.some.inj h
        obtain rfl := Option.some.inj h27
        replace h := q23
        exact ⟨(), h, Ghost.both (ns := []) rfl rfl⟩
    · rintro ⟨⟩ h
      replace h : laws_eqLiveS_j1 = some r := h
      unfold laws_eqLiveS_j1 at h
      refine AW.seq ?_
      refine AW.region ?_
      refine Ops.v rfl (op_assign rfl rfl) ?_
      refine Ops.nil ?_
      refine AW.ret ?_
      rw [← Option.some.inj h]
      exact ⟨[C.bool true], _, Ghost.refl _, (.cons (.tmp rfl) .nil), [], _, _, rfl, ⟨rfl, rfl⟩⟩

def laws_FnExactLiveRight (p0 : List TLive) : Option Bool := (laws_szLiveS p0 1048576).bind fun r1 => cond (decide (r1 < 0)) (some true) ((laws_toLiveS p0).bind fun r4 => (spec_LiveRight r4).bind fun r6 => (laws_toLiveS p0).bind fun r8 => (impl_LiveRight r8).bind fun r10 => cond (r10 == r6) ((laws_toLiveS p0).bind fun r13 => (laws_eqLiveS r8 r13).bind fun r15 => cond r15 (some true) (some false)) (some false))
theorem ok_laws_FnExactLiveRight (p0 : List TLive) (r : Bool) (h : laws_FnExactLiveRight p0 = some r) : Ok Try.prog 3 [C.im kLive 2 p0] [] (fun c qs => c = C.bool r ∧ qs = []) := by
  refine Ok.of_body (rs := [.tmp 2]) Try.func3 rfl rfl rfl rfl rfl fun X => ?_
  unfold laws_FnExactLiveRight at h
  refine AW.seq ?_
  refine AW.region ?_
  refine Ops.v rfl (op_assign rfl rfl) ?_
  refine Ops.nil ?_
  refine AW.seq ?_
  refine AW.region ?_
  refine Ops.v rfl (op_assign rfl rfl) ?_
  refine Ops.nil ?_
  refine AW.seq ?_
  refine AW.region ?_
  refine Ops.v rfl (op_move rfl rfl) ?_
  refine Ops.v rfl (op_move rfl rfl) ?_
  refine ob' h fun r1 g2 h => ?_
  refine Ops.hd (ns := []) rfl rfl (op_callE (ok_laws_szLiveS _ _ _ g2) rfl rfl) ?_
  refine Ops.v rfl (op_assign rfl rfl) ?_
  refine Ops.nil ?_
  refine AW.seq ?_
  refine AW.seq ?_
  refine AW.region ?_
  refine Ops.v rfl (op_move rfl rfl) ?_
  refine Ops.v rfl (op_bin rfl rfl rfl rfl) ?_
  refine Ops.nil ?_
  refine tf' (decide (r1 < 0)) (fun hb3 => ?_) (fun hb3 => ?_)
  · replace h := cond_t hb3 h
    refine AW.cond rfl (fun _ => ?_) (fun hn => absurd (hb3.symm.trans hn) (by decide))
    refine AW.seq ?_
    refine AW.region ?_
    refine Ops.v rfl (op_assign rfl rfl) ?_
    refine Ops.nil ?_
    refine AW.ret ?_
    rw [← Option.some.inj h]
    exact ⟨[C.bool true], _, Ghost.refl _, (.cons (.tmp rfl) .nil), [], _, _, rfl, ⟨rfl, rfl⟩⟩
  · replace h := cond_f hb3 h
    refine AW.cond rfl (fun hn => absurd (hb3.symm.trans hn) (by decide)) (fun _ => ?_)
    refine AW.skip ?_
    refine AW.seq ?_
    refine AW.region ?_
    refine Ops.v rfl (op_move rfl rfl) ?_
    refine ob' h fun r4 g5 h => ?_
    refine Ops.hd (ns := []) rfl rfl (op_callE (ok_laws_toLiveS' _ _ g5) rfl rfl) ?_
    refine ob' h fun r6 g7 h => ?_
    refine Ops.hd (ns := []) rfl rfl (op_callE (ok_spec_LiveRight _ _ g7) rfl rfl) ?_
    refine Ops.v rfl (op_assign rfl rfl) ?_
    refine Ops.nil ?_
    refine AW.seq ?_
    refine AW.region ?_
    refine Ops.v rfl (op_move rfl rfl) ?_
    refine ob' h fun r8 g9 h => ?_
    refine Ops.hd (ns := []) rfl rfl (op_callE (ok_laws_toLiveS' _ _ g9) rfl rfl) ?_
    refine Ops.v rfl (op_assign rfl rfl) ?_
    refine Ops.nil ?_
    refine AW.seq ?_
    refine AW.region ?_
    refine Ops.v rfl (op_move rfl rfl) ?_
    refine ob' h fun r10 g11 h => ?_
    refine Ops.hd (ns := []) rfl rfl (op_callE (ok_impl_LiveRight _ _ g11) rfl rfl) ?_
    refine Ops.v rfl (op_assign rfl rfl) ?_
    refine Ops.nil ?_
    refine AW.seq ?_
    refine AW.seq ?_
    refine AW.region ?_
    refine Ops.v rfl (op_move rfl rfl) ?_
    refine Ops.v rfl (op_move rfl rfl) ?_
    refine Ops.v rfl (op_bool_neq un_4 rfl rfl rfl) ?_
    refine Ops.nil ?_
    refine tf' ((r10 == r6)) (fun hb12 => ?_) (fun hb12 => ?_)
    · replace h := cond_t hb12 h
      refine AW.cond rfl (fun hn => absurd ((not_t hb12).symm.trans hn) (by decide)) (fun _ => ?_)
      refine AW.skip ?_
      refine AW.seq ?_
      refine AW.seq ?_
      refine AW.region ?_
      refine Ops.v rfl (op_move rfl rfl) ?_
      refine Ops.v rfl (op_move rfl rfl) ?_
      refine ob' h fun r13 g14 h => ?_
      refine Ops.hd (ns := []) rfl rfl (op_callE (ok_laws_toLiveS' _ _ g14) rfl rfl) ?_
      refine ob' h fun r15 g16 h => ?_
      refine Ops.hd (ns := []) rfl rfl (op_callE (ok_laws_eqLiveS _ _ _ g16) rfl rfl) ?_
      refine Ops.v rfl (op_not rfl rfl) ?_
      refine Ops.nil ?_
      refine tf' (r15) (fun hb17 => ?_) (fun hb17 => ?_)
      · replace h := cond_t hb17 h
        refine AW.cond rfl (fun hn => absurd ((not_t hb17).symm.trans hn) (by decide)) (fun _ => ?_)
        refine AW.skip ?_
        refine AW.seq ?_
        refine AW.region ?_
        refine Ops.v rfl (op_assign rfl rfl) ?_
        refine Ops.nil ?_
        refine AW.ret ?_
        rw [← Option.some.inj h]
        exact ⟨[C.bool true], _, Ghost.refl _, (.cons (.tmp rfl) .nil), [], _, _, rfl, ⟨rfl, rfl⟩⟩
      · replace h := cond_f hb17 h
        refine AW.cond rfl (fun _ => ?_) (fun hn => absurd ((not_f hb17).symm.trans hn) (by decide))
        refine AW.seq ?_
        refine AW.region ?_
        refine Ops.v rfl (op_assign rfl rfl) ?_
        refine Ops.nil ?_
        refine AW.ret ?_
        rw [← Option.some.inj h]
        exact ⟨[C.bool false], _, Ghost.refl _, (.cons (.tmp rfl) .nil), [], _, _, rfl, ⟨rfl, rfl⟩⟩
    · replace h := cond_f hb12 h
      refine AW.cond rfl (fun _ => ?_) (fun hn => absurd ((not_f hb12).symm.trans hn) (by decide))
      refine AW.seq ?_
      refine AW.region ?_
      refine Ops.v rfl (op_assign rfl rfl) ?_
      refine Ops.nil ?_
      refine AW.ret ?_
      rw [← Option.some.inj h]
      exact ⟨[C.bool false], _, Ghost.refl _, (.cons (.tmp rfl) .nil), [], _, _, rfl, ⟨rfl, rfl⟩⟩

def spec_LiveNext_j1 (x48 : Int) : Option Int := some x48
def spec_LiveNext_j2 (x45 : Int) (x46 : Int) (x47 : Int) : Option ((Int × Int × Int) ⊕ (Int)) := some (.inl (x45, x46, (IntKind.i64.wrap (x47 + 1))))
def spec_LiveNext_j3 (p0 : List TLive) (x38 : Int) (x39 : Int) (x40 : Int) (x41 : Bool) : Option ((Int × Int × Int) ⊕ (Int)) := cond x41 ((getI p0 x40).bind fun e43 => spec_LiveNext_j2 x38 e43.till x40) (spec_LiveNext_j2 x38 x39 x40)
def spec_LiveNext_j4 (p0 : List TLive) (x29 : Int) (x30 : Int) (x31 : Int) (x32 : Bool) : Option ((Int × Int × Int) ⊕ (Int)) := cond x32 ((getI p0 x31).bind fun e34 => cond (decide (e34.till > x29)) (cond (decide (x30 < 0)) (spec_LiveNext_j3 p0 x29 x30 x31 true) (spec_LiveNext_j3 p0 x29 x30 x31 (decide (e34.till < x30)))) (spec_LiveNext_j3 p0 x29 x30 x31 false)) (some (.inr x30))
def spec_LiveNext_s5 (p0 : List TLive) (x23 : Int) (x24 : Int) (x25 : Int) : Option ((Int × Int × Int) ⊕ (Int)) := cond (decide (x25 < (p0.length : Int))) ((spec_LiveRight p0).bind fun r27 => spec_LiveNext_j4 p0 x23 x24 x25 r27) (spec_LiveNext_j4 p0 x23 x24 x25 false)
def spec_LiveNext (p0 : List TLive) (p1 : Int) : Option Int := (iter (fun z49 => spec_LiveNext_s5 p0 z49.1 z49.2.1 z49.2.2) big (p1, (-1), 0)).bind fun y50 => spec_LiveNext_j1 y50
theorem ok_spec_LiveNext (p0 : List TLive) (p1 : Int) (r : Int) (h : spec_LiveNext p0 p1 = some r) : Ok Try.prog 14 [C.im kLive 2 p0, C.int p1] [] (fun c qs => c = C.int r ∧ qs = []) := by
  refine Ok.of_body (rs := [.tmp 4]) Try.func14 rfl rfl rfl rfl rfl fun X => ?_
  unfold spec_LiveNext at h
  refine AW.seq ?_
  refine AW.region ?_
  refine Ops.v rfl (op_assign rfl rfl) ?_
  refine Ops.nil ?_
  refine AW.seq ?_
  refine AW.region ?_
  refine Ops.v rfl (op_assign rfl rfl) ?_
  refine Ops.nil ?_
  refine AW.seq ?_
  refine AW.cut (τ := Int) (fun x48 => ⟨[(5, C.int x48)], []⟩) (fun x48 => spec_LiveNext_j1 x48 = some r) ?_ ?_
  · refine AW.seq ?_
    refine AW.region ?_
    refine Ops.v rfl (op_assign rfl rfl) ?_
    refine Ops.nil ?_
    refine AW.block ?_
    refine ob' h fun o51 g52 q53 => ?_
    refine AW.loop (τ := Int × Int × Int) (x := (p1, (-1), 0)) (fun (x23, x24, x25) => ⟨[(0, C.im kLive 2 p0), (1, C.int x23), (5, C.int x24), (6, C.int x25)], []⟩) (fun k (x23, x24, x25) => iter (fun z49 => spec_LiveNext_s5 p0 z49.1 z49.2.1 z49.2.2) k (x23, x24, x25) = some o51) g52 (Ghost.both (ns := []) rfl rfl) ?_
    rintro k ⟨x23, x24, x25⟩ i55
    refine iter_succ' (show iter (fun z49 => spec_LiveNext_s5 p0 z49.1 z49.2.1 z49.2.2) k (x23, x24, x25) = some o51 from i55) fun k54 y56 hlt_k54 h h57 => ?_
    replace h : spec_LiveNext_s5 p0 x23 x24 x25 = some y56 := h
    unfold spec_LiveNext_s5 at h
    refine AW.seq ?_
    refine AW.seq ?_
    refine AW.cut (τ := Int × Int × Int × Bool) (fun (x29, x30, x31, x32) => ⟨[(0, C.im kLive 2 p0), (1, C.int x29), (5, C.int x30), (6, C.int x31), (14, C.bool x32)], []⟩) (fun (x29, x30, x31, x32) => spec_LiveNext_j4 p0 x29 x30 x31 x32 = some y56) ?_ ?_
    · refine AW.region ?_
      refine Ops.v rfl (op_move rfl rfl) ?_
      refine Ops.v rfl (op_move rfl rfl) ?_
      refine Ops.v rfl (op_len_im sl_25 rfl rfl) ?_
      refine Ops.v rfl (op_bin rfl rfl rfl rfl) ?_
      refine Ops.v rfl (op_move rfl rfl) ?_
      refine tf' (decide (x25 < (p0.length : Int))) (fun hb26 => ?_) (fun hb26 => ?_)
      · replace h := cond_t hb26 h
        refine Ops.gv rfl rfl rfl rfl hb26 (op_move rfl rfl) ?_
        refine ob' h fun r27 g28 h => ?_
        refine Ops.ghd (ns := []) rfl rfl rfl rfl hb26 rfl (op_callE (ok_spec_LiveRight _ _ g28) rfl rfl) ?_
        refine Ops.v rfl (op_pick_t rfl hb26 rfl rfl) ?_
        refine Ops.nil ?_
        exact ⟨(x23, x24, x25, r27), h, Ghost.both (ns := []) rfl rfl⟩
      · replace h := cond_f hb26 h
        refine Ops.gs rfl rfl rfl (.b rfl hb26) rfl rfl ?_
        refine Ops.gs rfl rfl rfl (.b rfl hb26) rfl rfl ?_
        refine Ops.v rfl (op_pick_f rfl hb26 rfl rfl) ?_
        refine Ops.nil ?_
        exact ⟨(x23, x24, x25, false), h, Ghost.both (ns := []) rfl rfl⟩
    · rintro ⟨x29, x30, x31, x32⟩ h
      replace h : spec_LiveNext_j4 p0 x29 x30 x31 x32 = some y56 := h
      unfold spec_LiveNext_j4 at h
      refine tf' (x32) (fun hb33 => ?_) (fun hb33 => ?_)
      · replace h := cond_t hb33 h
        refine AW.cond rfl (fun _ => ?_) (fun hn => absurd (hb33.symm.trans hn) (by decide))
        refine AW.skip ?_
        refine AW.seq ?_
        refine AW.cut (τ := Int × Int × Int) (fun (x45, x46, x47) => ⟨[(0, C.im kLive 2 p0), (1, C.int x45), (5, C.int x46), (6, C.int x47)], []⟩) (fun (x45, x46, x47) => spec_LiveNext_j2 x45 x46 x47 = some y56) ?_ ?_
        · refine AW.block ?_
          refine AW.seq ?_
          refine AW.cut (τ := Int × Int × Int × Bool) (fun (x38, x39, x40, x41) => ⟨[(0, C.im kLive 2 p0), (1, C.int x38), (5, C.int x39), (6, C.int x40), (36, C.bool x41)], []⟩) (fun (x38, x39, x40, x41) => spec_LiveNext_j3 p0 x38 x39 x40 x41 = some y56) ?_ ?_
          · refine AW.region ?_
            refine Ops.v rfl (op_move rfl rfl) ?_
            refine Ops.v rfl (op_move rfl rfl) ?_
            refine ob' h fun e34 g35 h => ?_
            refine Ops.v rfl (op_indexAddr_im sl_25 rfl rfl g35 rfl) ?_
            refine Ops.v rfl (op_fieldAddr_ip fo_54_1 rfl rfl rfl) ?_
            refine Ops.v rfl (op_load_ip ld_2 rfl rfl) ?_
            refine Ops.v rfl (op_move rfl rfl) ?_
            refine Ops.v rfl (op_bin rfl rfl rfl rfl) ?_
            refine Ops.v rfl (op_move rfl rfl) ?_
            refine tf' (decide (e34.till > x29)) (fun hb36 => ?_) (fun hb36 => ?_)
            · replace h := cond_t hb36 h
              refine Ops.gv rfl rfl rfl rfl hb36 (op_move rfl rfl) ?_
              refine Ops.gv rfl rfl rfl rfl hb36 (op_bin rfl rfl rfl rfl) ?_
              refine Ops.gv rfl rfl rfl rfl hb36 (op_move rfl rfl) ?_
              refine tf' (decide (x30 < 0)) (fun hb37 => ?_) (fun hb37 => ?_)
              · replace h := cond_t hb37 h
                refine Ops.gs rfl rfl rfl (.b rfl hb37) rfl rfl ?_
                refine Ops.gs rfl rfl rfl (.b rfl hb37) rfl rfl ?_
                refine Ops.gs rfl rfl rfl (.b rfl hb37) rfl rfl ?_
                refine Ops.gs rfl rfl rfl (.b rfl hb37) rfl rfl ?_
                refine Ops.gs rfl rfl rfl (.b rfl hb37) rfl rfl ?_
                refine Ops.gs rfl rfl rfl (.b rfl hb37) rfl rfl ?_
                refine Ops.gs rfl rfl rfl (.b rfl hb37) rfl rfl ?_
                refine Ops.gv rfl rfl rfl rfl hb36 (op_pick_t rfl hb37 rfl rfl) ?_
                refine Ops.v rfl (op_pick_t rfl hb36 rfl rfl) ?_
                refine Ops.nil ?_
                exact ⟨(x29, x30, x31, true), h, Ghost.both (ns := []) rfl rfl⟩
              · replace h := cond_f hb37 h
                refine Ops.gv rfl rfl rfl rfl hb37 (op_move rfl rfl) ?_
                refine Ops.gv rfl rfl rfl rfl hb37 (op_move rfl rfl) ?_
                refine Ops.gv rfl rfl rfl rfl hb37 (op_indexAddr_im sl_25 rfl rfl g35 rfl) ?_
                refine Ops.gv rfl rfl rfl rfl hb37 (op_fieldAddr_ip fo_54_1 rfl rfl rfl) ?_
                refine Ops.gv rfl rfl rfl rfl hb37 (op_load_ip ld_2 rfl rfl) ?_
                refine Ops.gv rfl rfl rfl rfl hb37 (op_move rfl rfl) ?_
                refine Ops.gv rfl rfl rfl rfl hb37 (op_bin rfl rfl rfl rfl) ?_
                refine Ops.gv rfl rfl rfl rfl hb36 (op_pick_f rfl hb37 rfl rfl) ?_
                refine Ops.v rfl (op_pick_t rfl hb36 rfl rfl) ?_
                refine Ops.nil ?_
                exact ⟨(x29, x30, x31, decide (e34.till < x30)), h, Ghost.both (ns := []) rfl rfl⟩
            · replace h := cond_f hb36 h
              refine Ops.gs rfl rfl rfl (.b rfl hb36) rfl rfl ?_
              refine Ops.gs rfl rfl rfl (.b rfl hb36) rfl rfl ?_
              refine Ops.gs rfl rfl rfl (.b rfl hb36) rfl rfl ?_
              refine Ops.gs rfl rfl rfl (.u rfl) rfl rfl ?_
              refine Ops.gs rfl rfl rfl (.u rfl) rfl rfl ?_
              refine Ops.gs rfl rfl rfl (.u rfl) rfl rfl ?_
              refine Ops.gs rfl rfl rfl (.u rfl) rfl rfl ?_
              refine Ops.gs rfl rfl rfl (.u rfl) rfl rfl ?_
              refine Ops.gs rfl rfl rfl (.u rfl) rfl rfl ?_
              refine Ops.gs rfl rfl rfl (.u rfl) rfl rfl ?_
              refine Ops.gs rfl rfl rfl (.b rfl hb36) rfl rfl ?_
              refine Ops.v rfl (op_pick_f rfl hb36 rfl rfl) ?_
              refine Ops.nil ?_
              exact ⟨(x29, x30, x31, false), h, Ghost.both (ns := []) rfl rfl⟩
          · rintro ⟨x38, x39, x40, x41⟩ h
            replace h : spec_LiveNext_j3 p0 x38 x39 x40 x41 = some y56 := h
            unfold spec_LiveNext_j3 at h
            refine tf' (x41) (fun hb42 => ?_) (fun hb42 => ?_)
            · replace h := cond_t hb42 h
              refine AW.cond rfl (fun _ => ?_) (fun hn => absurd (hb42.symm.trans hn) (by decide))
              refine AW.region ?_
              refine Ops.v rfl (op_move rfl rfl) ?_
              refine Ops.v rfl (op_move rfl rfl) ?_
              refine ob' h fun e43 g44 h => ?_
              refine Ops.v rfl (op_indexAddr_im sl_25 rfl rfl g44 rfl) ?_
              refine Ops.v rfl (op_fieldAddr_ip fo_54_1 rfl rfl rfl) ?_
              refine Ops.v rfl (op_load_ip ld_2 rfl rfl) ?_
              refine Ops.v rfl (op_assign rfl rfl) ?_
              refine Ops.nil ?_
              exact ⟨(x38, e43.till, x40), h, Ghost.both (ns := []) rfl rfl⟩
            · replace h := cond_f hb42 h
              refine AW.cond rfl (fun hn => absurd (hb42.symm.trans hn) (by decide)) (fun _ => ?_)
              refine AW.skip ?_
              exact ⟨(x38, x39, x40), h, Ghost.both (ns := []) rfl rfl⟩
        · rintro ⟨x45, x46, x47⟩ h
          replace h : spec_LiveNext_j2 x45 x46 x47 = some y56 := h
          unfold spec_LiveNext_j2 at h
          refine AW.region ?_
          refine Ops.v rfl (op_move rfl rfl) ?_
          refine Ops.v rfl (op_bin rfl rfl rfl rfl) ?_
          refine Ops.v rfl (op_assign rfl rfl) ?_
          refine Ops.nil ?_
          obtain rfl := Option.some.inj h
          exact ⟨k54, (x45, x46, (IntKind.i64.wrap (x47 + 1))), hlt_k54, h57, Ghost.both (ns := []) rfl rfl⟩
      · replace h := cond_f hb33 h
        refine AW.cond rfl (fun hn => absurd (hb33.symm.trans hn) (by decide)) (fun _ => ?_)
        refine AW.exit ?_
        obtain rfl := Option.some.inj h
        obtain rfl := Option.some.inj h57
        replace h := q53
        exact ⟨x30, h, Ghost.both (ns := []) rfl rfl⟩
  · intro x48 h
    replace h : spec_LiveNext_j1 x48 = some r := h
    unfold spec_LiveNext_j1 at h
    refine AW.seq ?_
    refine AW.region ?_
    refine Ops.v rfl (op_move rfl rfl) ?_
    refine Ops.v rfl (op_assign rfl rfl) ?_
    refine Ops.nil ?_
    refine AW.ret ?_
    rw [← Option.some.inj h]
    exact ⟨[C.int x48], _, Ghost.refl _, (.cons (.tmp rfl) .nil), [], _, _, rfl, ⟨rfl, rfl⟩⟩

def impl_LiveNext_j1 (x44 : Int) : Option Int := some x44
def impl_LiveNext_j2 (x40 : Int) (x41 : Int) (x42 : Int) (x43 : Int) : Option ((Int × Int × Int × Int) ⊕ (Int)) := some (.inl (x40, x41, x42, (IntKind.i64.wrap (x43 + 1))))
def impl_LiveNext_j3 (x32 : Int) (x33 : Int) (x34 : Int) (x35 : Int) (x36 : Int) (x37 : Int) (x38 : Bool) : Option ((Int × Int × Int × Int) ⊕ (Int)) := cond x38 (impl_LiveNext_j2 x32 x35 x36 x37) (impl_LiveNext_j2 x32 x33 x36 x37)
def impl_LiveNext_s4 (p0 : List TLive) (x22 : Int) (x23 : Int) (x24 : Int) (x25 : Int) : Option ((Int × Int × Int × Int) ⊕ (Int)) := cond (decide (x25 < x24)) ((getI p0 x25).bind fun e27 => cond (decide (e27.till > x22)) (cond (decide (x23 < 0)) (impl_LiveNext_j3 x22 x23 e27.user e27.till x24 x25 true) (impl_LiveNext_j3 x22 x23 e27.user e27.till x24 x25 (decide (e27.till < x23)))) (impl_LiveNext_j3 x22 x23 e27.user e27.till x24 x25 false)) (some (.inr x23))
def impl_LiveNext (p0 : List TLive) (p1 : Int) : Option Int := (impl_LiveRight p0).bind fun r1 => cond r1 ((iter (fun z45 => impl_LiveNext_s4 p0 z45.1 z45.2.1 z45.2.2.1 z45.2.2.2) big (p1, (-1), (p0.length : Int), 0)).bind fun y46 => impl_LiveNext_j1 y46) (some (-1))
theorem ok_impl_LiveNext (p0 : List TLive) (p1 : Int) (r : Int) (h : impl_LiveNext p0 p1 = some r) : Ok Try.prog 15 [C.im kLive 2 p0, C.int p1] [] (fun c qs => c = C.int r ∧ qs = []) := by
  refine Ok.of_body (rs := [.tmp 4]) Try.func15 rfl rfl rfl rfl rfl fun X => ?_
  unfold impl_LiveNext at h
  refine AW.seq ?_
  refine AW.region ?_
  refine Ops.v rfl (op_assign rfl rfl) ?_
  refine Ops.nil ?_
  refine AW.seq ?_
  refine AW.region ?_
  refine Ops.v rfl (op_assign rfl rfl) ?_
  refine Ops.nil ?_
  refine AW.seq ?_
  refine AW.seq ?_
  refine AW.region ?_
  refine Ops.v rfl (op_move rfl rfl) ?_
  refine ob' h fun r1 g2 h => ?_
  refine Ops.hd (ns := []) rfl rfl (op_callE (ok_impl_LiveRight _ _ g2) rfl rfl) ?_
  refine Ops.v rfl (op_not rfl rfl) ?_
  refine Ops.nil ?_
  refine tf' (r1) (fun hb3 => ?_) (fun hb3 => ?_)
  · replace h := cond_t hb3 h
    refine AW.cond rfl (fun hn => absurd ((not_t hb3).symm.trans hn) (by decide)) (fun _ => ?_)
    refine AW.skip ?_
    refine AW.seq ?_
    refine AW.cut (τ := Int) (fun x44 => ⟨[(5, C.int x44)], []⟩) (fun x44 => impl_LiveNext_j1 x44 = some r) ?_ ?_
    · refine AW.seq ?_
      refine AW.region ?_
      refine Ops.v rfl (op_move rfl rfl) ?_
      refine Ops.v rfl (op_len_im sl_25 rfl rfl) ?_
      refine Ops.v rfl (op_move rfl rfl) ?_
      refine Ops.nil ?_
      refine AW.block ?_
      refine ob' h fun o47 g48 q49 => ?_
      refine AW.loop (τ := Int × Int × Int × Int) (x := (p1, (-1), (p0.length : Int), 0)) (fun (x22, x23, x24, x25) => ⟨[(1, C.int x22), (5, C.int x23), (12, C.im kLive 2 p0), (13, C.int x24), (14, C.int x25)], []⟩) (fun k (x22, x23, x24, x25) => iter (fun z45 => impl_LiveNext_s4 p0 z45.1 z45.2.1 z45.2.2.1 z45.2.2.2) k (x22, x23, x24, x25) = some o47) g48 (Ghost.both (ns := []) rfl rfl) ?_
      rintro k ⟨x22, x23, x24, x25⟩ i51
      refine iter_succ' (show iter (fun z45 => impl_LiveNext_s4 p0 z45.1 z45.2.1 z45.2.2.1 z45.2.2.2) k (x22, x23, x24, x25) = some o47 from i51) fun k50 y52 hlt_k50 h h53 => ?_
      replace h : impl_LiveNext_s4 p0 x22 x23 x24 x25 = some y52 := h
      unfold impl_LiveNext_s4 at h
      refine AW.seq ?_
      refine AW.region ?_
      refine Ops.v rfl (op_bin rfl rfl rfl rfl) ?_
      refine Ops.nil ?_
      refine AW.seq ?_
      refine tf' (decide (x25 < x24)) (fun hb26 => ?_) (fun hb26 => ?_)
      · replace h := cond_t hb26 h
        refine AW.cond rfl (fun _ => ?_) (fun hn => absurd (hb26.symm.trans hn) (by decide))
        refine AW.skip ?_
        refine AW.seq ?_
        refine AW.cut (τ := Int × Int × Int × Int) (fun (x40, x41, x42, x43) => ⟨[(1, C.int x40), (5, C.int x41), (12, C.im kLive 2 p0), (13, C.int x42), (14, C.int x43)], []⟩) (fun (x40, x41, x42, x43) => impl_LiveNext_j2 x40 x41 x42 x43 = some y52) ?_ ?_
        · refine AW.block ?_
          refine AW.seq ?_
          refine AW.region ?_
          refine ob' h fun e27 g28 h => ?_
          refine Ops.v rfl (op_indexAddr_im sl_25 rfl rfl g28 rfl) ?_
          refine Ops.v rfl (op_load_ipA ld_54 rfl rfl rfl rfl) ?_
          refine Ops.h (ns := []) rfl rfl (op_alloc (cs := [C.int 0, C.int 0]) ze_54 (cells_zero rfl rfl) rfl) ?_
          rintro _ _ ⟨b29, rfl, rfl⟩
          refine Ops.hd (ns := [0]) rfl rfl (op_storeA (gs := [C.int e27.user, C.int e27.till]) ld_54 rfl rfl rfl rfl rfl) ?_
          refine Ops.nil ?_
          refine AW.seq ?_
          refine AW.cut (τ := Int × Int × Int × Int × Int × Int × Bool) (fun (x32, x33, x34, x35, x36, x37, x38) => ⟨[(1, C.int x32), (5, C.int x33), (7, C.val (.pointer (some ⟨b29, 0, none⟩))), (12, C.im kLive 2 p0), (13, C.int x36), (14, C.int x37), (31, C.bool x38)], [Obj.box b29 54 [C.int x34, C.int x35]]⟩) (fun (x32, x33, x34, x35, x36, x37, x38) => impl_LiveNext_j3 x32 x33 x34 x35 x36 x37 x38 = some y52) ?_ ?_
          · refine AW.region ?_
            refine Ops.v rfl (op_fieldAddr fo_54_1 rfl rfl) ?_
            refine Ops.v rfl (op_load (p := 0) ld_2 rfl rfl rfl rfl) ?_
            refine Ops.v rfl (op_move rfl rfl) ?_
            refine Ops.v rfl (op_bin rfl rfl rfl rfl) ?_
            refine Ops.v rfl (op_move rfl rfl) ?_
            refine tf' (decide (e27.till > x22)) (fun hb30 => ?_) (fun hb30 => ?_)
            · replace h := cond_t hb30 h
              refine Ops.gv rfl rfl rfl rfl hb30 (op_move rfl rfl) ?_
              refine Ops.gv rfl rfl rfl rfl hb30 (op_bin rfl rfl rfl rfl) ?_
              refine Ops.gv rfl rfl rfl rfl hb30 (op_move rfl rfl) ?_
              refine tf' (decide (x23 < 0)) (fun hb31 => ?_) (fun hb31 => ?_)
              · replace h := cond_t hb31 h
                refine Ops.gs rfl rfl rfl (.b rfl hb31) rfl rfl ?_
                refine Ops.gs rfl rfl rfl (.b rfl hb31) rfl rfl ?_
                refine Ops.gs rfl rfl rfl (.b rfl hb31) rfl rfl ?_
                refine Ops.gs rfl rfl rfl (.b rfl hb31) rfl rfl ?_
                refine Ops.gv rfl rfl rfl rfl hb30 (op_pick_t rfl hb31 rfl rfl) ?_
                refine Ops.v rfl (op_pick_t rfl hb30 rfl rfl) ?_
                refine Ops.nil ?_
                exact ⟨(x22, x23, e27.user, e27.till, x24, x25, true), h, Ghost.both (ns := [0]) rfl rfl⟩
              · replace h := cond_f hb31 h
                refine Ops.gv rfl rfl rfl rfl hb31 (op_fieldAddr fo_54_1 rfl rfl) ?_
                refine Ops.gv rfl rfl rfl rfl hb31 (op_load (p := 0) ld_2 rfl rfl rfl rfl) ?_
                refine Ops.gv rfl rfl rfl rfl hb31 (op_move rfl rfl) ?_
                refine Ops.gv rfl rfl rfl rfl hb31 (op_bin rfl rfl rfl rfl) ?_
                refine Ops.gv rfl rfl rfl rfl hb30 (op_pick_f rfl hb31 rfl rfl) ?_
                refine Ops.v rfl (op_pick_t rfl hb30 rfl rfl) ?_
                refine Ops.nil ?_
                exact ⟨(x22, x23, e27.user, e27.till, x24, x25, decide (e27.till < x23)), h, Ghost.both (ns := [0]) rfl rfl⟩
            · replace h := cond_f hb30 h
              refine Ops.gs rfl rfl rfl (.b rfl hb30) rfl rfl ?_
              refine Ops.gs rfl rfl rfl (.b rfl hb30) rfl rfl ?_
              refine Ops.gs rfl rfl rfl (.b rfl hb30) rfl rfl ?_
              refine Ops.gs rfl rfl rfl (.u rfl) rfl rfl ?_
              refine Ops.gs rfl rfl rfl (.u rfl) rfl rfl ?_
              refine Ops.gs rfl rfl rfl (.u rfl) rfl rfl ?_
              refine Ops.gs rfl rfl rfl (.u rfl) rfl rfl ?_
              refine Ops.gs rfl rfl rfl (.b rfl hb30) rfl rfl ?_
              refine Ops.v rfl (op_pick_f rfl hb30 rfl rfl) ?_
              refine Ops.nil ?_
              exact ⟨(x22, x23, e27.user, e27.till, x24, x25, false), h, Ghost.both (ns := [0]) rfl rfl⟩
          · rintro ⟨x32, x33, x34, x35, x36, x37, x38⟩ h
            replace h : impl_LiveNext_j3 x32 x33 x34 x35 x36 x37 x38 = some y52 := h
            unfold impl_LiveNext_j3 at h
            refine tf' (x38) (fun hb39 => ?_) (fun hb39 => ?_)
            · replace h := cond_t hb39 h
              refine AW.cond rfl (fun _ => ?_) (fun hn => absurd (hb39.symm.trans hn) (by decide))
              refine AW.region ?_
              refine Ops.v rfl (op_fieldAddr fo_54_1 rfl rfl) ?_
              refine Ops.v rfl (op_load (p := 0) ld_2 rfl rfl rfl rfl) ?_
              refine Ops.v rfl (op_assign rfl rfl) ?_
              refine Ops.nil ?_
              exact ⟨(x32, x35, x36, x37), h, Ghost.both (ns := []) rfl rfl⟩
            · replace h := cond_f hb39 h
              refine AW.cond rfl (fun hn => absurd (hb39.symm.trans hn) (by decide)) (fun _ => ?_)
              refine AW.skip ?_
              exact ⟨(x32, x33, x36, x37), h, Ghost.both (ns := []) rfl rfl⟩
        · rintro ⟨x40, x41, x42, x43⟩ h
          replace h : impl_LiveNext_j2 x40 x41 x42 x43 = some y52 := h
          unfold impl_LiveNext_j2 at h
          refine AW.region ?_
          refine Ops.v rfl (op_bin rfl rfl rfl rfl) ?_
          refine Ops.v rfl (op_move rfl rfl) ?_
          refine Ops.nil ?_
          obtain rfl := Option.some.inj h
          exact ⟨k50, (x40, x41, x42, (IntKind.i64.wrap (x43 + 1))), hlt_k50, h53, Ghost.both (ns := []) rfl rfl⟩
      · replace h := cond_f hb26 h
        refine AW.cond rfl (fun hn => absurd (hb26.symm.trans hn) (by decide)) (fun _ => ?_)
        refine AW.exit ?_
        obtain rfl := Option.some.inj h
        obtain rfl := Option.some.inj h53
        replace h := q49
        exact ⟨x23, h, Ghost.both (ns := []) rfl rfl⟩
    · intro x44 h
      replace h : impl_LiveNext_j1 x44 = some r := h
      unfold impl_LiveNext_j1 at h
      refine AW.seq ?_
      refine AW.region ?_
      refine Ops.v rfl (op_move rfl rfl) ?_
      refine Ops.v rfl (op_assign rfl rfl) ?_
      refine Ops.nil ?_
      refine AW.ret ?_
      rw [← Option.some.inj h]
      exact ⟨[C.int x44], _, Ghost.refl _, (.cons (.tmp rfl) .nil), [], _, _, rfl, ⟨rfl, rfl⟩⟩
  · replace h := cond_f hb3 h
    refine AW.cond rfl (fun _ => ?_) (fun hn => absurd ((not_f hb3).symm.trans hn) (by decide))
    refine AW.seq ?_
    refine AW.region ?_
    refine Ops.v rfl (op_move rfl rfl) ?_
    refine Ops.v rfl (op_assign rfl rfl) ?_
    refine Ops.nil ?_
    refine AW.ret ?_
    rw [← Option.some.inj h]
    exact ⟨[C.int (-1)], _, Ghost.refl _, (.cons (.tmp rfl) .nil), [], _, _, rfl, ⟨rfl, rfl⟩⟩

def laws_FnExactLiveNext (p0 : List TLive) (p1 : Int) : Option Bool := (laws_szLiveS p0 1048576).bind fun r1 => cond (decide (r1 < 0)) (some true) ((laws_toLiveS p0).bind fun r4 => (spec_LiveNext r4 p1).bind fun r6 => (laws_toLiveS p0).bind fun r8 => (impl_LiveNext r8 p1).bind fun r10 => cond (r10 != r6) (some false) ((laws_toLiveS p0).bind fun r13 => (laws_eqLiveS r8 r13).bind fun r15 => cond r15 (some true) (some false)))
theorem ok_laws_FnExactLiveNext (p0 : List TLive) (p1 : Int) (r : Bool) (h : laws_FnExactLiveNext p0 p1 = some r) : Ok Try.prog 4 [C.im kLive 2 p0, C.int p1] [] (fun c qs => c = C.bool r ∧ qs = []) := by
  refine Ok.of_body (rs := [.tmp 4]) Try.func4 rfl rfl rfl rfl rfl fun X => ?_
  unfold laws_FnExactLiveNext at h
  refine AW.seq ?_
  refine AW.region ?_
  refine Ops.v rfl (op_assign rfl rfl) ?_
  refine Ops.nil ?_
  refine AW.seq ?_
  refine AW.region ?_
  refine Ops.v rfl (op_assign rfl rfl) ?_
  refine Ops.nil ?_
  refine AW.seq ?_
  refine AW.region ?_
  refine Ops.v rfl (op_move rfl rfl) ?_
  refine Ops.v rfl (op_move rfl rfl) ?_
  refine ob' h fun r1 g2 h => ?_
  refine Ops.hd (ns := []) rfl rfl (op_callE (ok_laws_szLiveS _ _ _ g2) rfl rfl) ?_
  refine Ops.v rfl (op_assign rfl rfl) ?_
  refine Ops.nil ?_
  refine AW.seq ?_
  refine AW.seq ?_
  refine AW.region ?_
  refine Ops.v rfl (op_move rfl rfl) ?_
  refine Ops.v rfl (op_bin rfl rfl rfl rfl) ?_
  refine Ops.nil ?_
  refine tf' (decide (r1 < 0)) (fun hb3 => ?_) (fun hb3 => ?_)
  · replace h := cond_t hb3 h
    refine AW.cond rfl (fun _ => ?_) (fun hn => absurd (hb3.symm.trans hn) (by decide))
    refine AW.seq ?_
    refine AW.region ?_
    refine Ops.v rfl (op_assign rfl rfl) ?_
    refine Ops.nil ?_
    refine AW.ret ?_
    rw [← Option.some.inj h]
    exact ⟨[C.bool true], _, Ghost.refl _, (.cons (.tmp rfl) .nil), [], _, _, rfl, ⟨rfl, rfl⟩⟩
  · replace h := cond_f hb3 h
    refine AW.cond rfl (fun hn => absurd (hb3.symm.trans hn) (by decide)) (fun _ => ?_)
    refine AW.skip ?_
    refine AW.seq ?_
    refine AW.region ?_
    refine Ops.v rfl (op_move rfl rfl) ?_
    refine ob' h fun r4 g5 h => ?_
    refine Ops.hd (ns := []) rfl rfl (op_callE (ok_laws_toLiveS' _ _ g5) rfl rfl) ?_
    refine Ops.v rfl (op_move rfl rfl) ?_
    refine ob' h fun r6 g7 h => ?_
    refine Ops.hd (ns := []) rfl rfl (op_callE (ok_spec_LiveNext _ _ _ g7) rfl rfl) ?_
    refine Ops.v rfl (op_assign rfl rfl) ?_
    refine Ops.nil ?_
    refine AW.seq ?_
    refine AW.region ?_
    refine Ops.v rfl (op_move rfl rfl) ?_
    refine ob' h fun r8 g9 h => ?_
    refine Ops.hd (ns := []) rfl rfl (op_callE (ok_laws_toLiveS' _ _ g9) rfl rfl) ?_
    refine Ops.v rfl (op_assign rfl rfl) ?_
    refine Ops.nil ?_
    refine AW.seq ?_
    refine AW.region ?_
    refine Ops.v rfl (op_move rfl rfl) ?_
    refine Ops.v rfl (op_move rfl rfl) ?_
    refine ob' h fun r10 g11 h => ?_
    refine Ops.hd (ns := []) rfl rfl (op_callE (ok_impl_LiveNext _ _ _ g11) rfl rfl) ?_
    refine Ops.v rfl (op_assign rfl rfl) ?_
    refine Ops.nil ?_
    refine AW.seq ?_
    refine AW.seq ?_
    refine AW.region ?_
    refine Ops.v rfl (op_move rfl rfl) ?_
    refine Ops.v rfl (op_move rfl rfl) ?_
    refine Ops.v rfl (op_bin rfl rfl rfl rfl) ?_
    refine Ops.nil ?_
    refine tf' ((r10 != r6)) (fun hb12 => ?_) (fun hb12 => ?_)
    · replace h := cond_t hb12 h
      refine AW.cond rfl (fun _ => ?_) (fun hn => absurd (hb12.symm.trans hn) (by decide))
      refine AW.seq ?_
      refine AW.region ?_
      refine Ops.v rfl (op_assign rfl rfl) ?_
      refine Ops.nil ?_
      refine AW.ret ?_
      rw [← Option.some.inj h]
      exact ⟨[C.bool false], _, Ghost.refl _, (.cons (.tmp rfl) .nil), [], _, _, rfl, ⟨rfl, rfl⟩⟩
    · replace h := cond_f hb12 h
      refine AW.cond rfl (fun hn => absurd (hb12.symm.trans hn) (by decide)) (fun _ => ?_)
      refine AW.skip ?_
      refine AW.seq ?_
      refine AW.seq ?_
      refine AW.region ?_
      refine Ops.v rfl (op_move rfl rfl) ?_
      refine Ops.v rfl (op_move rfl rfl) ?_
      refine ob' h fun r13 g14 h => ?_
      refine Ops.hd (ns := []) rfl rfl (op_callE (ok_laws_toLiveS' _ _ g14) rfl rfl) ?_
      refine ob' h fun r15 g16 h => ?_
      refine Ops.hd (ns := []) rfl rfl (op_callE (ok_laws_eqLiveS _ _ _ g16) rfl rfl) ?_
      refine Ops.v rfl (op_not rfl rfl) ?_
      refine Ops.nil ?_
      refine tf' (r15) (fun hb17 => ?_) (fun hb17 => ?_)
      · replace h := cond_t hb17 h
        refine AW.cond rfl (fun hn => absurd ((not_t hb17).symm.trans hn) (by decide)) (fun _ => ?_)
        refine AW.skip ?_
        refine AW.seq ?_
        refine AW.region ?_
        refine Ops.v rfl (op_assign rfl rfl) ?_
        refine Ops.nil ?_
        refine AW.ret ?_
        rw [← Option.some.inj h]
        exact ⟨[C.bool true], _, Ghost.refl _, (.cons (.tmp rfl) .nil), [], _, _, rfl, ⟨rfl, rfl⟩⟩
      · replace h := cond_f hb17 h
        refine AW.cond rfl (fun _ => ?_) (fun hn => absurd ((not_f hb17).symm.trans hn) (by decide))
        refine AW.seq ?_
        refine AW.region ?_
        refine Ops.v rfl (op_assign rfl rfl) ?_
        refine Ops.nil ?_
        refine AW.ret ?_
        rw [← Option.some.inj h]
        exact ⟨[C.bool false], _, Ghost.refl _, (.cons (.tmp rfl) .nil), [], _, _, rfl, ⟨rfl, rfl⟩⟩

def spec_LiveAt_j1 (l43 : List Int) : Option (List Int) := some l43
def spec_LiveAt_j2 (x38 : Int) (l40 : List Int) (x41 : Int) : Option ((Int × List Int × Int) ⊕ ((List Int))) := some (.inl (x38, l40, (IntKind.i64.wrap (x41 + 1))))
def spec_LiveAt_j3 (p0 : List TLive) (l22 : List Int) (x27 : Int) (x28 : Int) (x29 : Bool) : Option ((Int × List Int × Int) ⊕ ((List Int))) := cond x29 ((getI p0 x28).bind fun e31 => cond (decide (e31.till > x27)) ((chk (decide ((l22.length + [e31.user].length) * 8 ≤ 140737488355328))).bind fun u36 => spec_LiveAt_j2 x27 (l22 ++ [e31.user]) x28) (spec_LiveAt_j2 x27 l22 x28)) (some (.inr l22))
def spec_LiveAt_s4 (p0 : List TLive) (x20 : Int) (l22 : List Int) (x23 : Int) : Option ((Int × List Int × Int) ⊕ ((List Int))) := cond (decide (x23 < (p0.length : Int))) ((spec_LiveRight p0).bind fun r25 => spec_LiveAt_j3 p0 l22 x20 x23 r25) (spec_LiveAt_j3 p0 l22 x20 x23 false)
def spec_LiveAt (p0 : List TLive) (p1 : Int) : Option (List Int) := (iter (fun z45 => spec_LiveAt_s4 p0 z45.1 z45.2.1 z45.2.2) big (p1, ([] : List Int), 0)).bind fun y46 => spec_LiveAt_j1 y46
theorem ok_spec_LiveAt (p0 : List TLive) (p1 : Int) (r : List Int) (h : spec_LiveAt p0 p1 = some r) : Ok Try.prog 16 [C.im kLive 2 p0, C.int p1] [] (fun c qs => ∃ (v44 : Value), c = C.val v44 ∧ qs = [Obj.arr v44 2 kI64 1 r]) := by
  refine Ok.of_body (rs := [.tmp 4]) Try.func16 rfl rfl rfl rfl rfl fun X => ?_
  unfold spec_LiveAt at h
  refine AW.seq ?_
  refine AW.region ?_
  refine Ops.v rfl (op_assign rfl rfl) ?_
  refine Ops.nil ?_
  refine AW.seq ?_
  refine AW.region ?_
  refine Ops.h (ns := []) rfl rfl (op_buildSlice (k := kI64) (ys := ([] : List Int)) ar_31 .nil rfl rfl rfl) ?_
  rintro _ _ ⟨b1, rfl, rfl⟩
  refine Ops.v rfl (op_assign rfl rfl) ?_
  refine Ops.nil ?_
  refine AW.seq ?_
  refine AW.cut (τ := List Int × Value) (fun (l43, v42) => ⟨[(5, C.val v42)], [Obj.arr v42 2 kI64 1 l43]⟩) (fun (l43, v42) => spec_LiveAt_j1 l43 = some r) ?_ ?_
  · refine AW.seq ?_
    refine AW.region ?_
    refine Ops.v rfl (op_assign rfl rfl) ?_
    refine Ops.nil ?_
    refine AW.block ?_
    refine ob' h fun o47 g48 q49 => ?_
    refine AW.loop (τ := Int × List Int × Int × Value) (x := (p1, ([] : List Int), 0, (.slice (some ⟨b1, 0, none⟩) 0 0))) (fun (x20, l22, x23, v21) => ⟨[(0, C.im kLive 2 p0), (1, C.int x20), (5, C.val v21), (6, C.int x23)], [Obj.arr v21 2 kI64 1 l22]⟩) (fun k (x20, l22, x23, v21) => iter (fun z45 => spec_LiveAt_s4 p0 z45.1 z45.2.1 z45.2.2) k (x20, l22, x23) = some o47) g48 (Ghost.both (ns := [0]) rfl rfl) ?_
    rintro k ⟨x20, l22, x23, v21⟩ i51
    refine iter_succ' (show iter (fun z45 => spec_LiveAt_s4 p0 z45.1 z45.2.1 z45.2.2) k (x20, l22, x23) = some o47 from i51) fun k50 y52 hlt_k50 h h53 => ?_
    replace h : spec_LiveAt_s4 p0 x20 l22 x23 = some y52 := h
    unfold spec_LiveAt_s4 at h
    refine AW.seq ?_
    refine AW.seq ?_
    refine AW.cut (τ := Int × Int × Bool) (fun (x27, x28, x29) => ⟨[(0, C.im kLive 2 p0), (1, C.int x27), (5, C.val v21), (6, C.int x28), (15, C.bool x29)], [Obj.arr v21 2 kI64 1 l22]⟩) (fun (x27, x28, x29) => spec_LiveAt_j3 p0 l22 x27 x28 x29 = some y52) ?_ ?_
    · refine AW.region ?_
      refine Ops.v rfl (op_move rfl rfl) ?_
      refine Ops.v rfl (op_move rfl rfl) ?_
      refine Ops.v rfl (op_len_im sl_25 rfl rfl) ?_
      refine Ops.v rfl (op_bin rfl rfl rfl rfl) ?_
      refine Ops.v rfl (op_move rfl rfl) ?_
      refine tf' (decide (x23 < (p0.length : Int))) (fun hb24 => ?_) (fun hb24 => ?_)
      · replace h := cond_t hb24 h
        refine Ops.gv rfl rfl rfl rfl hb24 (op_move rfl rfl) ?_
        refine ob' h fun r25 g26 h => ?_
        refine Ops.ghd (ns := []) rfl rfl rfl rfl hb24 rfl (op_callE (ok_spec_LiveRight _ _ g26) rfl rfl) ?_
        refine Ops.v rfl (op_pick_t rfl hb24 rfl rfl) ?_
        refine Ops.nil ?_
        exact ⟨(x20, x23, r25), h, Ghost.both (ns := [0]) rfl rfl⟩
      · replace h := cond_f hb24 h
        refine Ops.gs rfl rfl rfl (.b rfl hb24) rfl rfl ?_
        refine Ops.gs rfl rfl rfl (.b rfl hb24) rfl rfl ?_
        refine Ops.v rfl (op_pick_f rfl hb24 rfl rfl) ?_
        refine Ops.nil ?_
        exact ⟨(x20, x23, false), h, Ghost.both (ns := [0]) rfl rfl⟩
    · rintro ⟨x27, x28, x29⟩ h
      replace h : spec_LiveAt_j3 p0 l22 x27 x28 x29 = some y52 := h
      unfold spec_LiveAt_j3 at h
      refine tf' (x29) (fun hb30 => ?_) (fun hb30 => ?_)
      · replace h := cond_t hb30 h
        refine AW.cond rfl (fun _ => ?_) (fun hn => absurd (hb30.symm.trans hn) (by decide))
        refine AW.skip ?_
        refine AW.seq ?_
        refine AW.cut (τ := Int × List Int × Int × Value) (fun (x38, l40, x41, v39) => ⟨[(0, C.im kLive 2 p0), (1, C.int x38), (5, C.val v39), (6, C.int x41)], [Obj.arr v39 2 kI64 1 l40]⟩) (fun (x38, l40, x41, v39) => spec_LiveAt_j2 x38 l40 x41 = some y52) ?_ ?_
        · refine AW.block ?_
          refine AW.seq ?_
          refine AW.region ?_
          refine Ops.v rfl (op_move rfl rfl) ?_
          refine Ops.v rfl (op_move rfl rfl) ?_
          refine ob' h fun e31 g32 h => ?_
          refine Ops.v rfl (op_indexAddr_im sl_25 rfl rfl g32 rfl) ?_
          refine Ops.v rfl (op_fieldAddr_ip fo_54_1 rfl rfl rfl) ?_
          refine Ops.v rfl (op_load_ip ld_2 rfl rfl) ?_
          refine Ops.v rfl (op_move rfl rfl) ?_
          refine Ops.v rfl (op_bin rfl rfl rfl rfl) ?_
          refine Ops.nil ?_
          refine tf' (decide (e31.till > x27)) (fun hb33 => ?_) (fun hb33 => ?_)
          · replace h := cond_t hb33 h
            refine AW.cond rfl (fun _ => ?_) (fun hn => absurd (hb33.symm.trans hn) (by decide))
            refine AW.region ?_
            refine Ops.v rfl (op_move rfl rfl) ?_
            refine Ops.v rfl (op_move rfl rfl) ?_
            refine Ops.v rfl (op_move rfl rfl) ?_
            refine Ops.v rfl (op_indexAddr_im sl_25 rfl rfl g32 rfl) ?_
            refine Ops.v rfl (op_fieldAddr_ip fo_54_0 rfl rfl rfl) ?_
            refine Ops.v rfl (op_load_ip ld_2 rfl rfl) ?_
            refine Ops.h (ns := []) rfl rfl (op_buildSlice (k := kI64) (ys := [e31.user]) ar_31 (.one rfl (One.val rfl) rfl rfl .nil) rfl rfl rfl) ?_
            rintro _ _ ⟨b34, rfl, rfl⟩
            refine ob' h fun u36 c35 h => ?_
            refine Ops.h (ns := [1, 0]) rfl rfl (op_append ar_31 rfl rfl (of_decide_eq_true (chk_some c35)) (app63 (by decide) c35) rfl) ?_
            rintro _ _ ⟨v37, rfl, rfl⟩
            refine Ops.v rfl (op_assign rfl rfl) ?_
            refine Ops.nil ?_
            exact ⟨(x27, (l22 ++ [e31.user]), x28, v37), h, Ghost.both (ns := [0]) rfl rfl⟩
          · replace h := cond_f hb33 h
            refine AW.cond rfl (fun hn => absurd (hb33.symm.trans hn) (by decide)) (fun _ => ?_)
            refine AW.skip ?_
            exact ⟨(x27, l22, x28, v21), h, Ghost.both (ns := [0]) rfl rfl⟩
        · rintro ⟨x38, l40, x41, v39⟩ h
          replace h : spec_LiveAt_j2 x38 l40 x41 = some y52 := h
          unfold spec_LiveAt_j2 at h
          refine AW.region ?_
          refine Ops.v rfl (op_move rfl rfl) ?_
          refine Ops.v rfl (op_bin rfl rfl rfl rfl) ?_
          refine Ops.v rfl (op_assign rfl rfl) ?_
          refine Ops.nil ?_
          obtain rfl := Option.some.inj h
          exact ⟨k50, (x38, l40, (IntKind.i64.wrap (x41 + 1)), v39), hlt_k50, h53, Ghost.both (ns := [0]) rfl rfl⟩
      · replace h := cond_f hb30 h
        refine AW.cond rfl (fun hn => absurd (hb30.symm.trans hn) (by decide)) (fun _ => ?_)
        refine AW.exit ?_
        obtain rfl := Option.some.inj h
        obtain rfl := Option.some.inj h53
        replace h := q49
        exact ⟨(l22, v21), h, Ghost.both (ns := [0]) rfl rfl⟩
  · rintro ⟨l43, v42⟩ h
    replace h : spec_LiveAt_j1 l43 = some r := h
    unfold spec_LiveAt_j1 at h
    refine AW.seq ?_
    refine AW.region ?_
    refine Ops.v rfl (op_move rfl rfl) ?_
    refine Ops.v rfl (op_assign rfl rfl) ?_
    refine Ops.nil ?_
    refine AW.ret ?_
    rw [← Option.some.inj h]
    exact ⟨[C.val v42], _, Ghost.refl _, (.cons (.tmp rfl) .nil), [0], _, _, rfl, ⟨v42, rfl, rfl⟩⟩
theorem ok_spec_LiveAt' (p0 : List TLive) (p1 : Int) (r : List Int) (h : spec_LiveAt p0 p1 = some r) : Ok Try.prog 16 [C.im kLive 2 p0, C.int p1] [] (fun c qs => c = C.im kI64 1 r ∧ qs = []) :=
  Ok.freeze (ok_spec_LiveAt p0 p1 r h) (by rintro c qs ⟨v44, rfl, rfl⟩; exact Frz.arr)

def impl_LiveAt_j1 (l39 : List Int) : Option (List Int) := some l39
def impl_LiveAt_j2 (x33 : Int) (l35 : List Int) (x36 : Int) (x37 : Int) : Option ((Int × List Int × Int × Int) ⊕ ((List Int))) := some (.inl (x33, l35, x36, (IntKind.i64.wrap (x37 + 1))))
def impl_LiveAt_s3 (p0 : List TLive) (x19 : Int) (l21 : List Int) (x22 : Int) (x23 : Int) : Option ((Int × List Int × Int × Int) ⊕ ((List Int))) := cond (decide (x23 < x22)) ((getI p0 x23).bind fun e25 => cond (decide (e25.till > x19)) ((chk (decide ((l21.length + [e25.user].length) * 8 ≤ 140737488355328))).bind fun u31 => impl_LiveAt_j2 x19 (l21 ++ [e25.user]) x22 x23) (impl_LiveAt_j2 x19 l21 x22 x23)) (some (.inr l21))
def impl_LiveAt (p0 : List TLive) (p1 : Int) : Option (List Int) := (impl_LiveRight p0).bind fun r1 => cond r1 ((iter (fun z41 => impl_LiveAt_s3 p0 z41.1 z41.2.1 z41.2.2.1 z41.2.2.2) big (p1, ([] : List Int), (p0.length : Int), 0)).bind fun y42 => impl_LiveAt_j1 y42) (some [])
theorem ok_impl_LiveAt (p0 : List TLive) (p1 : Int) (r : List Int) (h : impl_LiveAt p0 p1 = some r) : Ok Try.prog 17 [C.im kLive 2 p0, C.int p1] [] (fun c qs => ∃ (v40 : Value), c = C.val v40 ∧ qs = [Obj.arr v40 2 kI64 1 r]) := by
  refine Ok.of_body (rs := [.tmp 4]) Try.func17 rfl rfl rfl rfl rfl fun X => ?_
  unfold impl_LiveAt at h
  refine AW.seq ?_
  refine AW.region ?_
  refine Ops.v rfl (op_assign rfl rfl) ?_
  refine Ops.nil ?_
  refine AW.seq ?_
  refine AW.seq ?_
  refine AW.region ?_
  refine Ops.v rfl (op_move rfl rfl) ?_
  refine ob' h fun r1 g2 h => ?_
  refine Ops.hd (ns := []) rfl rfl (op_callE (ok_impl_LiveRight _ _ g2) rfl rfl) ?_
  refine Ops.v rfl (op_not rfl rfl) ?_
  refine Ops.nil ?_
  refine tf' (r1) (fun hb3 => ?_) (fun hb3 => ?_)
  · replace h := cond_t hb3 h
    refine AW.cond rfl (fun hn => absurd ((not_t hb3).symm.trans hn) (by decide)) (fun _ => ?_)
    refine AW.skip ?_
    refine AW.seq ?_
    refine AW.region ?_
    refine Ops.h (ns := []) rfl rfl (op_buildSlice (k := kI64) (ys := ([] : List Int)) ar_31 .nil rfl rfl rfl) ?_
    rintro _ _ ⟨b4, rfl, rfl⟩
    refine Ops.v rfl (op_assign rfl rfl) ?_
    refine Ops.nil ?_
    refine AW.seq ?_
    refine AW.cut (τ := List Int × Value) (fun (l39, v38) => ⟨[(5, C.val v38)], [Obj.arr v38 2 kI64 1 l39]⟩) (fun (l39, v38) => impl_LiveAt_j1 l39 = some r) ?_ ?_
    · refine AW.seq ?_
      refine AW.region ?_
      refine Ops.v rfl (op_move rfl rfl) ?_
      refine Ops.v rfl (op_len_im sl_25 rfl rfl) ?_
      refine Ops.v rfl (op_move rfl rfl) ?_
      refine Ops.nil ?_
      refine AW.block ?_
      refine ob' h fun o43 g44 q45 => ?_
      refine AW.loop (τ := Int × List Int × Int × Int × Value) (x := (p1, ([] : List Int), (p0.length : Int), 0, (.slice (some ⟨b4, 0, none⟩) 0 0))) (fun (x19, l21, x22, x23, v20) => ⟨[(1, C.int x19), (5, C.val v20), (12, C.im kLive 2 p0), (13, C.int x22), (14, C.int x23)], [Obj.arr v20 2 kI64 1 l21]⟩) (fun k (x19, l21, x22, x23, v20) => iter (fun z41 => impl_LiveAt_s3 p0 z41.1 z41.2.1 z41.2.2.1 z41.2.2.2) k (x19, l21, x22, x23) = some o43) g44 (Ghost.both (ns := [0]) rfl rfl) ?_
      rintro k ⟨x19, l21, x22, x23, v20⟩ i47
      refine iter_succ' (show iter (fun z41 => impl_LiveAt_s3 p0 z41.1 z41.2.1 z41.2.2.1 z41.2.2.2) k (x19, l21, x22, x23) = some o43 from i47) fun k46 y48 hlt_k46 h h49 => ?_
      replace h : impl_LiveAt_s3 p0 x19 l21 x22 x23 = some y48 := h
      unfold impl_LiveAt_s3 at h
      refine AW.seq ?_
      refine AW.region ?_
      refine Ops.v rfl (op_bin rfl rfl rfl rfl) ?_
      refine Ops.nil ?_
      refine AW.seq ?_
      refine tf' (decide (x23 < x22)) (fun hb24 => ?_) (fun hb24 => ?_)
      · replace h := cond_t hb24 h
        refine AW.cond rfl (fun _ => ?_) (fun hn => absurd (hb24.symm.trans hn) (by decide))
        refine AW.skip ?_
        refine AW.seq ?_
        refine AW.cut (τ := Int × List Int × Int × Int × Value) (fun (x33, l35, x36, x37, v34) => ⟨[(1, C.int x33), (5, C.val v34), (12, C.im kLive 2 p0), (13, C.int x36), (14, C.int x37)], [Obj.arr v34 2 kI64 1 l35]⟩) (fun (x33, l35, x36, x37, v34) => impl_LiveAt_j2 x33 l35 x36 x37 = some y48) ?_ ?_
        · refine AW.block ?_
          refine AW.seq ?_
          refine AW.region ?_
          refine ob' h fun e25 g26 h => ?_
          refine Ops.v rfl (op_indexAddr_im sl_25 rfl rfl g26 rfl) ?_
          refine Ops.v rfl (op_load_ipA ld_54 rfl rfl rfl rfl) ?_
          refine Ops.h (ns := []) rfl rfl (op_alloc (cs := [C.int 0, C.int 0]) ze_54 (cells_zero rfl rfl) rfl) ?_
          rintro _ _ ⟨b27, rfl, rfl⟩
          refine Ops.hd (ns := [0]) rfl rfl (op_storeA (gs := [C.int e25.user, C.int e25.till]) ld_54 rfl rfl rfl rfl rfl) ?_
          refine Ops.nil ?_
          refine AW.seq ?_
          refine AW.region ?_
          refine Ops.v rfl (op_fieldAddr fo_54_1 rfl rfl) ?_
          refine Ops.v rfl (op_load (p := 0) ld_2 rfl rfl rfl rfl) ?_
          refine Ops.v rfl (op_move rfl rfl) ?_
          refine Ops.v rfl (op_bin rfl rfl rfl rfl) ?_
          refine Ops.nil ?_
          refine tf' (decide (e25.till > x19)) (fun hb28 => ?_) (fun hb28 => ?_)
          · replace h := cond_t hb28 h
            refine AW.cond rfl (fun _ => ?_) (fun hn => absurd (hb28.symm.trans hn) (by decide))
            refine AW.region ?_
            refine Ops.v rfl (op_move rfl rfl) ?_
            refine Ops.v rfl (op_fieldAddr fo_54_0 rfl rfl) ?_
            refine Ops.v rfl (op_load (p := 0) ld_2 rfl rfl rfl rfl) ?_
            refine Ops.h (ns := []) rfl rfl (op_buildSlice (k := kI64) (ys := [e25.user]) ar_31 (.one rfl (One.val rfl) rfl rfl .nil) rfl rfl rfl) ?_
            rintro _ _ ⟨b29, rfl, rfl⟩
            refine ob' h fun u31 c30 h => ?_
            refine Ops.h (ns := [2, 0]) rfl rfl (op_append ar_31 rfl rfl (of_decide_eq_true (chk_some c30)) (app63 (by decide) c30) rfl) ?_
            rintro _ _ ⟨v32, rfl, rfl⟩
            refine Ops.v rfl (op_assign rfl rfl) ?_
            refine Ops.nil ?_
            exact ⟨(x19, (l21 ++ [e25.user]), x22, x23, v32), h, Ghost.both (ns := [0]) rfl rfl⟩
          · replace h := cond_f hb28 h
            refine AW.cond rfl (fun hn => absurd (hb28.symm.trans hn) (by decide)) (fun _ => ?_)
            refine AW.skip ?_
            exact ⟨(x19, l21, x22, x23, v20), h, Ghost.both (ns := [1]) rfl rfl⟩
        · rintro ⟨x33, l35, x36, x37, v34⟩ h
          replace h : impl_LiveAt_j2 x33 l35 x36 x37 = some y48 := h
          unfold impl_LiveAt_j2 at h
          refine AW.region ?_
          refine Ops.v rfl (op_bin rfl rfl rfl rfl) ?_
          refine Ops.v rfl (op_move rfl rfl) ?_
          refine Ops.nil ?_
          obtain rfl := Option.some.inj h
          exact ⟨k46, (x33, l35, x36, (IntKind.i64.wrap (x37 + 1)), v34), hlt_k46, h49, Ghost.both (ns := [0]) rfl rfl⟩
      · replace h := cond_f hb24 h
        refine AW.cond rfl (fun hn => absurd (hb24.symm.trans hn) (by decide)) (fun _ => ?_)
        refine AW.exit ?_
        obtain rfl := Option.some.inj h
        obtain rfl := Option.some.inj h49
        replace h := q45
        exact ⟨(l21, v20), h, Ghost.both (ns := [0]) rfl rfl⟩
    · rintro ⟨l39, v38⟩ h
      replace h : impl_LiveAt_j1 l39 = some r := h
      unfold impl_LiveAt_j1 at h
      refine AW.seq ?_
      refine AW.region ?_
      refine Ops.v rfl (op_move rfl rfl) ?_
      refine Ops.v rfl (op_assign rfl rfl) ?_
      refine Ops.nil ?_
      refine AW.ret ?_
      rw [← Option.some.inj h]
      exact ⟨[C.val v38], _, Ghost.refl _, (.cons (.tmp rfl) .nil), [0], _, _, rfl, ⟨v38, rfl, rfl⟩⟩
  · replace h := cond_f hb3 h
    refine AW.cond rfl (fun _ => ?_) (fun hn => absurd ((not_f hb3).symm.trans hn) (by decide))
    refine AW.seq ?_
    refine AW.region ?_
    refine Ops.v rfl (op_assign rfl rfl) ?_
    refine Ops.nil ?_
    refine AW.ret ?_
    rw [← Option.some.inj h]
    exact ⟨[C.val (.slice none 0 0)], _, Ghost.nil 2 kI64 1, (.cons (.tmp rfl) .nil), [0], _, _, rfl, ⟨(.slice none 0 0), rfl, rfl⟩⟩
theorem ok_impl_LiveAt' (p0 : List TLive) (p1 : Int) (r : List Int) (h : impl_LiveAt p0 p1 = some r) : Ok Try.prog 17 [C.im kLive 2 p0, C.int p1] [] (fun c qs => c = C.im kI64 1 r ∧ qs = []) :=
  Ok.freeze (ok_impl_LiveAt p0 p1 r h) (by rintro c qs ⟨v40, rfl, rfl⟩; exact Frz.arr)

def laws_eqInt64S_j1 : Option Bool := some true
def laws_eqInt64S_s2 (p0 : List Int) (p1 : List Int) (x8 : Int) : Option (Int ⊕ (Bool ⊕ Unit)) := cond (decide (x8 < (p0.length : Int))) ((getI p0 x8).bind fun e10 => (getI p1 x8).bind fun e12 => cond (e10 != e12) (some (.inr (.inl false))) (some (.inl (IntKind.i64.wrap (x8 + 1))))) (some (.inr (.inr ())))
def laws_eqInt64S (p0 : List Int) (p1 : List Int) : Option Bool := cond ((p0.length : Int) != (p1.length : Int)) (some false) ((iter (laws_eqInt64S_s2 p0 p1) big 0).bind (fun z16 => match z16 with | .inl y15 => some y15 | .inr () => laws_eqInt64S_j1))
theorem ok_laws_eqInt64S (p0 : List Int) (p1 : List Int) (r : Bool) (h : laws_eqInt64S p0 p1 = some r) : Ok Try.prog 18 [C.im kI64 1 p0, C.im kI64 1 p1] [] (fun c qs => c = C.bool r ∧ qs = []) := by
  refine Ok.of_body (rs := [.tmp 4]) Try.func18 rfl rfl rfl rfl rfl fun X => ?_
  unfold laws_eqInt64S at h
  refine AW.seq ?_
  refine AW.region ?_
  refine Ops.v rfl (op_assign rfl rfl) ?_
  refine Ops.nil ?_
  refine AW.seq ?_
  refine AW.seq ?_
  refine AW.region ?_
  refine Ops.v rfl (op_move rfl rfl) ?_
  refine Ops.v rfl (op_len_im sl_31 rfl rfl) ?_
  refine Ops.v rfl (op_move rfl rfl) ?_
  refine Ops.v rfl (op_len_im sl_31 rfl rfl) ?_
  refine Ops.v rfl (op_bin rfl rfl rfl rfl) ?_
  refine Ops.nil ?_
  refine tf' (((p0.length : Int) != (p1.length : Int))) (fun hb1 => ?_) (fun hb1 => ?_)
  · replace h := cond_t hb1 h
    refine AW.cond rfl (fun _ => ?_) (fun hn => absurd (hb1.symm.trans hn) (by decide))
    refine AW.seq ?_
    refine AW.region ?_
    refine Ops.v rfl (op_assign rfl rfl) ?_
    refine Ops.nil ?_
    refine AW.ret ?_
    rw [← Option.some.inj h]
    exact ⟨[C.bool false], _, Ghost.refl _, (.cons (.tmp rfl) .nil), [], _, _, rfl, ⟨rfl, rfl⟩⟩
  · replace h := cond_f hb1 h
    refine AW.cond rfl (fun hn => absurd (hb1.symm.trans hn) (by decide)) (fun _ => ?_)
    refine AW.skip ?_
    refine AW.seq ?_
    refine AW.cut (τ := Unit) (fun (_ : Unit) => ⟨[], []⟩) (fun (_ : Unit) => laws_eqInt64S_j1 = some r) ?_ ?_
    · refine AW.seq ?_
      refine AW.region ?_
      refine Ops.v rfl (op_assign rfl rfl) ?_
      refine Ops.nil ?_
      refine AW.block ?_
      refine ob' h fun o17 g18 q19 => ?_
      refine AW.loop (τ := Int) (x := 0) (fun x8 => ⟨[(0, C.im kI64 1 p0), (1, C.im kI64 1 p1), (5, C.int x8)], []⟩) (fun k x8 => iter (laws_eqInt64S_s2 p0 p1) k x8 = some o17) g18 (Ghost.both (ns := []) rfl rfl) ?_
      intro k x8 i21
      refine iter_succ' (show iter (laws_eqInt64S_s2 p0 p1) k x8 = some o17 from i21) fun k20 y22 hlt_k20 h h23 => ?_
      replace h : laws_eqInt64S_s2 p0 p1 x8 = some y22 := h
      unfold laws_eqInt64S_s2 at h
      refine AW.seq ?_
      refine AW.seq ?_
      refine AW.region ?_
      refine Ops.v rfl (op_move rfl rfl) ?_
      refine Ops.v rfl (op_move rfl rfl) ?_
      refine Ops.v rfl (op_len_im sl_31 rfl rfl) ?_
      refine Ops.v rfl (op_bin rfl rfl rfl rfl) ?_
      refine Ops.nil ?_
      refine tf' (decide (x8 < (p0.length : Int))) (fun hb9 => ?_) (fun hb9 => ?_)
      · replace h := cond_t hb9 h
        refine AW.cond rfl (fun _ => ?_) (fun hn => absurd (hb9.symm.trans hn) (by decide))
        refine AW.skip ?_
        refine AW.seq ?_
        refine AW.block ?_
        refine AW.seq ?_
        refine AW.regionD (L := [3, 7]) (Lt := []) (k := .light 0 false (.light 1 false (.light 2 false (.light 3 true (.light 4 false (.light 5 false (.light 6 false (.light 7 true (.light 8 false .done))))))))) (ns := []) (by kernel_rfl) (by kernel_rfl) (by kernel_rfl) (by kernel_rfl) rfl ?_
        refine OpsD.v rfl rfl (op_move rfl rfl) ?_
        refine OpsD.v rfl rfl (op_move rfl rfl) ?_
        refine ob' h fun e10 g11 h => ?_
        refine OpsD.v rfl rfl (op_indexAddr_im sl_31 rfl rfl g11 rfl) ?_
        refine OpsD.v rfl rfl (op_load_ip ld_2 rfl rfl) ?_
        refine OpsD.v rfl rfl (op_move rfl rfl) ?_
        refine OpsD.v rfl rfl (op_move rfl rfl) ?_
        refine ob' h fun e12 g13 h => ?_
        refine OpsD.v rfl rfl (op_indexAddr_im sl_31 rfl rfl g13 rfl) ?_
        refine OpsD.v rfl rfl (op_load_ip ld_2 rfl rfl) ?_
        refine OpsD.v rfl rfl (op_bin rfl rfl rfl rfl) ?_
        refine OpsD.done ?_
        refine tf' ((e10 != e12)) (fun hb14 => ?_) (fun hb14 => ?_)
        · replace h := cond_t hb14 h
          refine AW.cond rfl (fun _ => ?_) (fun hn => absurd (hb14.symm.trans hn) (by decide))
          refine AW.seq ?_
          refine AW.region ?_
          refine Ops.v rfl (op_assign rfl rfl) ?_
          refine Ops.nil ?_
          refine AW.ret ?_
          obtain rfl := Option.some.inj h
          obtain rfl := Option.some.inj h23
          replace h := q19
          rw [← Option.some.inj h]
          exact ⟨[C.bool false], _, Ghost.refl _, (.cons (.tmp rfl) .nil), [], _, _, rfl, ⟨rfl, rfl⟩⟩
        · replace h := cond_f hb14 h
          refine AW.cond rfl (fun hn => absurd (hb14.symm.trans hn) (by decide)) (fun _ => ?_)
          refine AW.skip ?_
          refine AW.region ?_
          refine Ops.v rfl (op_move rfl rfl) ?_
          refine Ops.v rfl (op_bin rfl rfl rfl rfl) ?_
          refine Ops.v rfl (op_assign rfl rfl) ?_
          refine Ops.nil ?_
          obtain rfl := Option.some.inj h
          exact ⟨k20, (IntKind.i64.wrap (x8 + 1)), hlt_k20, h23, Ghost.both (ns := []) rfl rfl⟩
      · replace h := cond_f hb9 h
        refine AW.cond rfl (fun hn => absurd (hb9.symm.trans hn) (by decide)) (fun _ => ?_)
        refine AW.exit ?_
        obtain rfl := Option.some.inj h
        obtain rfl := Option.some.inj h23
        replace h := q19
        exact ⟨(), h, Ghost.both (ns := []) rfl rfl⟩
    · rintro ⟨⟩ h
      replace h : laws_eqInt64S_j1 = some r := h
      unfold laws_eqInt64S_j1 at h
      refine AW.seq ?_
      refine AW.region ?_
      refine Ops.v rfl (op_assign rfl rfl) ?_
      refine Ops.nil ?_
      refine AW.ret ?_
      rw [← Option.some.inj h]
      exact ⟨[C.bool true], _, Ghost.refl _, (.cons (.tmp rfl) .nil), [], _, _, rfl, ⟨rfl, rfl⟩⟩

def laws_markLiveS_j1 (x14 : Int) (l15 : List TLive) : Option (Int × List TLive) := some (x14, l15)
def laws_markLiveS_s2 (l6 : List TLive) (x7 : Int) (x8 : Int) : Option ((List TLive × Int × Int) ⊕ ((Int × List TLive))) := cond (decide (x8 < (l6.length : Int))) ((getI l6 x8).bind fun e10 => (getI (List.set l6 (Int.toNat x8) (TLive.mk x7 e10.till)) x8).bind fun e12 => some (.inl ((List.set (List.set l6 (Int.toNat x8) (TLive.mk x7 e10.till)) (Int.toNat x8) (TLive.mk e12.user (IntKind.i64.wrap (x7 + 1)))), (IntKind.i64.wrap ((IntKind.i64.wrap (x7 + 1)) + 1)), (IntKind.i64.wrap (x8 + 1))))) (some (.inr (x7, l6)))
def laws_markLiveS (p0 : List TLive) (p1 : Int) : Option (Int × List TLive) := (iter (fun z16 => laws_markLiveS_s2 z16.1 z16.2.1 z16.2.2) big (p0, p1, 0)).bind fun (y17, y18) => laws_markLiveS_j1 y17 y18
theorem ok_laws_markLiveS {w00 : Value} (p0 : List TLive) (p1 : Int) (r : Int × List TLive) (h : laws_markLiveS p0 p1 = some r) : Ok Try.prog 19 [C.val w00, C.int p1] [Obj.arr w00 54 kLive 2 p0] (fun c qs => c = C.int r.1 ∧ qs = [Obj.arr w00 54 kLive 2 r.2]) := by
  refine Ok.of_body (rs := [.tmp 4]) Try.func19 rfl rfl rfl rfl rfl fun X => ?_
  unfold laws_markLiveS at h
  refine AW.seq ?_
  refine AW.region ?_
  refine Ops.v rfl (op_assign rfl rfl) ?_
  refine Ops.nil ?_
  refine AW.seq ?_
  refine AW.cut (τ := Int × List TLive) (fun (x14, l15) => ⟨[(1, C.int x14)], [Obj.arr w00 54 kLive 2 l15]⟩) (fun (x14, l15) => laws_markLiveS_j1 x14 l15 = some r) ?_ ?_
  · refine AW.seq ?_
    refine AW.region ?_
    refine Ops.v rfl (op_assign rfl rfl) ?_
    refine Ops.nil ?_
    refine AW.block ?_
    refine ob' h fun o19 g20 q21 => ?_
    refine AW.loop (τ := List TLive × Int × Int) (x := (p0, p1, 0)) (fun (l6, x7, x8) => ⟨[(0, C.val w00), (1, C.int x7), (5, C.int x8)], [Obj.arr w00 54 kLive 2 l6]⟩) (fun k (l6, x7, x8) => iter (fun z16 => laws_markLiveS_s2 z16.1 z16.2.1 z16.2.2) k (l6, x7, x8) = some o19) g20 (Ghost.both (ns := [0]) rfl rfl) ?_
    rintro k ⟨l6, x7, x8⟩ i23
    refine iter_succ' (show iter (fun z16 => laws_markLiveS_s2 z16.1 z16.2.1 z16.2.2) k (l6, x7, x8) = some o19 from i23) fun k22 y24 hlt_k22 h h25 => ?_
    replace h : laws_markLiveS_s2 l6 x7 x8 = some y24 := h
    unfold laws_markLiveS_s2 at h
    refine AW.seq ?_
    refine AW.seq ?_
    refine AW.region ?_
    refine Ops.v rfl (op_move rfl rfl) ?_
    refine Ops.v rfl (op_move rfl rfl) ?_
    refine Ops.v rfl (op_len_arr (p := 0) sl_25 rfl rfl rfl) ?_
    refine Ops.v rfl (op_bin rfl rfl rfl rfl) ?_
    refine Ops.nil ?_
    refine tf' (decide (x8 < (l6.length : Int))) (fun hb9 => ?_) (fun hb9 => ?_)
    · replace h := cond_t hb9 h
      refine AW.cond rfl (fun _ => ?_) (fun hn => absurd (hb9.symm.trans hn) (by decide))
      refine AW.skip ?_
      refine AW.seq ?_
      refine AW.block ?_
      refine AW.seq ?_
      refine AW.region ?_
      refine Ops.v rfl (op_move rfl rfl) ?_
      refine Ops.v rfl (op_move rfl rfl) ?_
      refine Ops.v rfl (op_move rfl rfl) ?_
      refine ob' h fun e10 g11 h => ?_
      refine Ops.v rfl (op_indexAddr_arr (p := 0) sl_25 rfl rfl rfl g11 rfl) ?_
      refine Ops.v rfl (op_fieldAddr_arr (p := 0) fo_54_0 rfl rfl (getI_lt g11).2.2 rfl) ?_
      refine Ops.hd (ns := [0]) rfl rfl (op_store_arr (e' := (TLive.mk x7 e10.till)) ld_2 rfl rfl (One.val rfl) (getI_lt g11).2.2 rfl rfl) ?_
      refine Ops.nil ?_
      refine AW.seq ?_
      refine AW.region ?_
      refine Ops.v rfl (op_move rfl rfl) ?_
      refine Ops.v rfl (op_bin rfl rfl rfl rfl) ?_
      refine Ops.v rfl (op_assign rfl rfl) ?_
      refine Ops.nil ?_
      refine AW.seq ?_
      refine AW.region ?_
      refine Ops.v rfl (op_move rfl rfl) ?_
      refine Ops.v rfl (op_move rfl rfl) ?_
      refine Ops.v rfl (op_move rfl rfl) ?_
      refine ob' h fun e12 g13 h => ?_
      refine Ops.v rfl (op_indexAddr_arr (p := 0) sl_25 rfl rfl rfl g13 rfl) ?_
      refine Ops.v rfl (op_fieldAddr_arr (p := 0) fo_54_1 rfl rfl (getI_lt g13).2.2 rfl) ?_
      refine Ops.hd (ns := [0]) rfl rfl (op_store_arr (e' := (TLive.mk e12.user (IntKind.i64.wrap (x7 + 1)))) ld_2 rfl rfl (One.val rfl) (getI_lt g13).2.2 rfl rfl) ?_
      refine Ops.nil ?_
      refine AW.region ?_
      refine Ops.v rfl (op_move rfl rfl) ?_
      refine Ops.v rfl (op_bin rfl rfl rfl rfl) ?_
      refine Ops.v rfl (op_assign rfl rfl) ?_
      refine Ops.nil ?_
      refine AW.region ?_
      refine Ops.v rfl (op_move rfl rfl) ?_
      refine Ops.v rfl (op_bin rfl rfl rfl rfl) ?_
      refine Ops.v rfl (op_assign rfl rfl) ?_
      refine Ops.nil ?_
      obtain rfl := Option.some.inj h
      exact ⟨k22, ((List.set (List.set l6 (Int.toNat x8) (TLive.mk x7 e10.till)) (Int.toNat x8) (TLive.mk e12.user (IntKind.i64.wrap (x7 + 1)))), (IntKind.i64.wrap ((IntKind.i64.wrap (x7 + 1)) + 1)), (IntKind.i64.wrap (x8 + 1))), hlt_k22, h25, Ghost.both (ns := [0]) rfl rfl⟩
    · replace h := cond_f hb9 h
      refine AW.cond rfl (fun hn => absurd (hb9.symm.trans hn) (by decide)) (fun _ => ?_)
      refine AW.exit ?_
      obtain rfl := Option.some.inj h
      obtain rfl := Option.some.inj h25
      replace h := q21
      exact ⟨(x7, l6), h, Ghost.both (ns := [0]) rfl rfl⟩
  · rintro ⟨x14, l15⟩ h
    replace h : laws_markLiveS_j1 x14 l15 = some r := h
    unfold laws_markLiveS_j1 at h
    refine AW.seq ?_
    refine AW.region ?_
    refine Ops.v rfl (op_move rfl rfl) ?_
    refine Ops.v rfl (op_assign rfl rfl) ?_
    refine Ops.nil ?_
    refine AW.ret ?_
    rw [← Option.some.inj h]
    exact ⟨[C.int x14], _, Ghost.refl _, (.cons (.tmp rfl) .nil), [0], _, _, rfl, ⟨rfl, rfl⟩⟩

def laws_markInt64S_j1 (x10 : Int) (l11 : List Int) : Option (Int × List Int) := some (x10, l11)
def laws_markInt64S_s2 (l4 : List Int) (x5 : Int) (x6 : Int) : Option ((List Int × Int × Int) ⊕ ((Int × List Int))) := cond (decide (x6 < (l4.length : Int))) ((getI l4 x6).bind fun e8 => some (.inl ((List.set l4 (Int.toNat x6) x5), (IntKind.i64.wrap (x5 + 1)), (IntKind.i64.wrap (x6 + 1))))) (some (.inr (x5, l4)))
def laws_markInt64S (p0 : List Int) (p1 : Int) : Option (Int × List Int) := (iter (fun z12 => laws_markInt64S_s2 z12.1 z12.2.1 z12.2.2) big (p0, p1, 0)).bind fun (y13, y14) => laws_markInt64S_j1 y13 y14
theorem ok_laws_markInt64S {w00 : Value} (p0 : List Int) (p1 : Int) (r : Int × List Int) (h : laws_markInt64S p0 p1 = some r) : Ok Try.prog 20 [C.val w00, C.int p1] [Obj.arr w00 2 kI64 1 p0] (fun c qs => c = C.int r.1 ∧ qs = [Obj.arr w00 2 kI64 1 r.2]) := by
  refine Ok.of_body (rs := [.tmp 4]) Try.func20 rfl rfl rfl rfl rfl fun X => ?_
  unfold laws_markInt64S at h
  refine AW.seq ?_
  refine AW.region ?_
  refine Ops.v rfl (op_assign rfl rfl) ?_
  refine Ops.nil ?_
  refine AW.seq ?_
  refine AW.cut (τ := Int × List Int) (fun (x10, l11) => ⟨[(1, C.int x10)], [Obj.arr w00 2 kI64 1 l11]⟩) (fun (x10, l11) => laws_markInt64S_j1 x10 l11 = some r) ?_ ?_
  · refine AW.seq ?_
    refine AW.region ?_
    refine Ops.v rfl (op_assign rfl rfl) ?_
    refine Ops.nil ?_
    refine AW.block ?_
    refine ob' h fun o15 g16 q17 => ?_
    refine AW.loop (τ := List Int × Int × Int) (x := (p0, p1, 0)) (fun (l4, x5, x6) => ⟨[(0, C.val w00), (1, C.int x5), (5, C.int x6)], [Obj.arr w00 2 kI64 1 l4]⟩) (fun k (l4, x5, x6) => iter (fun z12 => laws_markInt64S_s2 z12.1 z12.2.1 z12.2.2) k (l4, x5, x6) = some o15) g16 (Ghost.both (ns := [0]) rfl rfl) ?_
    rintro k ⟨l4, x5, x6⟩ i19
    refine iter_succ' (show iter (fun z12 => laws_markInt64S_s2 z12.1 z12.2.1 z12.2.2) k (l4, x5, x6) = some o15 from i19) fun k18 y20 hlt_k18 h h21 => ?_
    replace h : laws_markInt64S_s2 l4 x5 x6 = some y20 := h
    unfold laws_markInt64S_s2 at h
    refine AW.seq ?_
    refine AW.seq ?_
    refine AW.region ?_
    refine Ops.v rfl (op_move rfl rfl) ?_
    refine Ops.v rfl (op_move rfl rfl) ?_
    refine Ops.v rfl (op_len_arr (p := 0) sl_31 rfl rfl rfl) ?_
    refine Ops.v rfl (op_bin rfl rfl rfl rfl) ?_
    refine Ops.nil ?_
    refine tf' (decide (x6 < (l4.length : Int))) (fun hb7 => ?_) (fun hb7 => ?_)
    · replace h := cond_t hb7 h
      refine AW.cond rfl (fun _ => ?_) (fun hn => absurd (hb7.symm.trans hn) (by decide))
      refine AW.skip ?_
      refine AW.seq ?_
      refine AW.block ?_
      refine AW.seq ?_
      refine AW.region ?_
      refine Ops.v rfl (op_move rfl rfl) ?_
      refine Ops.v rfl (op_move rfl rfl) ?_
      refine Ops.v rfl (op_move rfl rfl) ?_
      refine ob' h fun e8 g9 h => ?_
      refine Ops.v rfl (op_indexAddr_arr (p := 0) sl_31 rfl rfl rfl g9 rfl) ?_
      refine Ops.hd (ns := [0]) rfl rfl (op_store_arr (e' := x5) ld_2 rfl rfl (One.val rfl) (getI_lt g9).2.2 rfl rfl) ?_
      refine Ops.nil ?_
      refine AW.region ?_
      refine Ops.v rfl (op_move rfl rfl) ?_
      refine Ops.v rfl (op_bin rfl rfl rfl rfl) ?_
      refine Ops.v rfl (op_assign rfl rfl) ?_
      refine Ops.nil ?_
      refine AW.region ?_
      refine Ops.v rfl (op_move rfl rfl) ?_
      refine Ops.v rfl (op_bin rfl rfl rfl rfl) ?_
      refine Ops.v rfl (op_assign rfl rfl) ?_
      refine Ops.nil ?_
      obtain rfl := Option.some.inj h
      exact ⟨k18, ((List.set l4 (Int.toNat x6) x5), (IntKind.i64.wrap (x5 + 1)), (IntKind.i64.wrap (x6 + 1))), hlt_k18, h21, Ghost.both (ns := [0]) rfl rfl⟩
    · replace h := cond_f hb7 h
      refine AW.cond rfl (fun hn => absurd (hb7.symm.trans hn) (by decide)) (fun _ => ?_)
      refine AW.exit ?_
      obtain rfl := Option.some.inj h
      obtain rfl := Option.some.inj h21
      replace h := q17
      exact ⟨(x5, l4), h, Ghost.both (ns := [0]) rfl rfl⟩
  · rintro ⟨x10, l11⟩ h
    replace h : laws_markInt64S_j1 x10 l11 = some r := h
    unfold laws_markInt64S_j1 at h
    refine AW.seq ?_
    refine AW.region ?_
    refine Ops.v rfl (op_move rfl rfl) ?_
    refine Ops.v rfl (op_assign rfl rfl) ?_
    refine Ops.nil ?_
    refine AW.ret ?_
    rw [← Option.some.inj h]
    exact ⟨[C.int x10], _, Ghost.refl _, (.cons (.tmp rfl) .nil), [0], _, _, rfl, ⟨rfl, rfl⟩⟩

def laws_heldInt64S_j1 (x11 : Int) : Option Int := some x11
def laws_heldInt64S_s2 (p0 : List Int) (x5 : Int) (x6 : Int) : Option ((Int × Int) ⊕ (Int ⊕ Int)) := cond (decide (x6 < (p0.length : Int))) ((getI p0 x6).bind fun e8 => cond (e8 != x5) (some (.inr (.inl (-1)))) (some (.inl ((IntKind.i64.wrap (x5 + 1)), (IntKind.i64.wrap (x6 + 1)))))) (some (.inr (.inr x5)))
def laws_heldInt64S (p0 : List Int) (p1 : Int) : Option Int := (iter (fun z12 => laws_heldInt64S_s2 p0 z12.1 z12.2) big (p1, 0)).bind (fun z15 => match z15 with | .inl y13 => some y13 | .inr y14 => laws_heldInt64S_j1 y14)
theorem ok_laws_heldInt64S (p0 : List Int) (p1 : Int) (r : Int) (h : laws_heldInt64S p0 p1 = some r) : Ok Try.prog 21 [C.im kI64 1 p0, C.int p1] [] (fun c qs => c = C.int r ∧ qs = []) := by
  refine Ok.of_body (rs := [.tmp 4]) Try.func21 rfl rfl rfl rfl rfl fun X => ?_
  unfold laws_heldInt64S at h
  refine AW.seq ?_
  refine AW.region ?_
  refine Ops.v rfl (op_assign rfl rfl) ?_
  refine Ops.nil ?_
  refine AW.seq ?_
  refine AW.cut (τ := Int) (fun x11 => ⟨[(1, C.int x11)], []⟩) (fun x11 => laws_heldInt64S_j1 x11 = some r) ?_ ?_
  · refine AW.seq ?_
    refine AW.region ?_
    refine Ops.v rfl (op_assign rfl rfl) ?_
    refine Ops.nil ?_
    refine AW.block ?_
    refine ob' h fun o16 g17 q18 => ?_
    refine AW.loop (τ := Int × Int) (x := (p1, 0)) (fun (x5, x6) => ⟨[(0, C.im kI64 1 p0), (1, C.int x5), (5, C.int x6)], []⟩) (fun k (x5, x6) => iter (fun z12 => laws_heldInt64S_s2 p0 z12.1 z12.2) k (x5, x6) = some o16) g17 (Ghost.both (ns := []) rfl rfl) ?_
    rintro k ⟨x5, x6⟩ i20
    refine iter_succ' (show iter (fun z12 => laws_heldInt64S_s2 p0 z12.1 z12.2) k (x5, x6) = some o16 from i20) fun k19 y21 hlt_k19 h h22 => ?_
    replace h : laws_heldInt64S_s2 p0 x5 x6 = some y21 := h
    unfold laws_heldInt64S_s2 at h
    refine AW.seq ?_
    refine AW.seq ?_
    refine AW.region ?_
    refine Ops.v rfl (op_move rfl rfl) ?_
    refine Ops.v rfl (op_move rfl rfl) ?_
    refine Ops.v rfl (op_len_im sl_31 rfl rfl) ?_
    refine Ops.v rfl (op_bin rfl rfl rfl rfl) ?_
    refine Ops.nil ?_
    refine tf' (decide (x6 < (p0.length : Int))) (fun hb7 => ?_) (fun hb7 => ?_)
    · replace h := cond_t hb7 h
      refine AW.cond rfl (fun _ => ?_) (fun hn => absurd (hb7.symm.trans hn) (by decide))
      refine AW.skip ?_
      refine AW.seq ?_
      refine AW.block ?_
      refine AW.seq ?_
      refine AW.seq ?_
      refine AW.region ?_
      refine Ops.v rfl (op_move rfl rfl) ?_
      refine Ops.v rfl (op_move rfl rfl) ?_
      refine ob' h fun e8 g9 h => ?_
      refine Ops.v rfl (op_indexAddr_im sl_31 rfl rfl g9 rfl) ?_
      refine Ops.v rfl (op_load_ip ld_2 rfl rfl) ?_
      refine Ops.v rfl (op_move rfl rfl) ?_
      refine Ops.v rfl (op_bin rfl rfl rfl rfl) ?_
      refine Ops.nil ?_
      refine tf' ((e8 != x5)) (fun hb10 => ?_) (fun hb10 => ?_)
      · replace h := cond_t hb10 h
        refine AW.cond rfl (fun _ => ?_) (fun hn => absurd (hb10.symm.trans hn) (by decide))
        refine AW.seq ?_
        refine AW.region ?_
        refine Ops.v rfl (op_assign rfl rfl) ?_
        refine Ops.nil ?_
        refine AW.ret ?_
        obtain rfl := Option.some.inj h
        obtain rfl := Option.some.inj h22
        replace h := q18
        rw [← Option.some.inj h]
        exact ⟨[C.int (-1)], _, Ghost.refl _, (.cons (.tmp rfl) .nil), [], _, _, rfl, ⟨rfl, rfl⟩⟩
      · replace h := cond_f hb10 h
        refine AW.cond rfl (fun hn => absurd (hb10.symm.trans hn) (by decide)) (fun _ => ?_)
        refine AW.skip ?_
        refine AW.region ?_
        refine Ops.v rfl (op_move rfl rfl) ?_
        refine Ops.v rfl (op_bin rfl rfl rfl rfl) ?_
        refine Ops.v rfl (op_assign rfl rfl) ?_
        refine Ops.nil ?_
        refine AW.region ?_
        refine Ops.v rfl (op_move rfl rfl) ?_
        refine Ops.v rfl (op_bin rfl rfl rfl rfl) ?_
        refine Ops.v rfl (op_assign rfl rfl) ?_
        refine Ops.nil ?_
        obtain rfl := Option.some.inj h
        exact ⟨k19, ((IntKind.i64.wrap (x5 + 1)), (IntKind.i64.wrap (x6 + 1))), hlt_k19, h22, Ghost.both (ns := []) rfl rfl⟩
    · replace h := cond_f hb7 h
      refine AW.cond rfl (fun hn => absurd (hb7.symm.trans hn) (by decide)) (fun _ => ?_)
      refine AW.exit ?_
      obtain rfl := Option.some.inj h
      obtain rfl := Option.some.inj h22
      replace h := q18
      exact ⟨x5, h, Ghost.both (ns := []) rfl rfl⟩
  · intro x11 h
    replace h : laws_heldInt64S_j1 x11 = some r := h
    unfold laws_heldInt64S_j1 at h
    refine AW.seq ?_
    refine AW.region ?_
    refine Ops.v rfl (op_move rfl rfl) ?_
    refine Ops.v rfl (op_assign rfl rfl) ?_
    refine Ops.nil ?_
    refine AW.ret ?_
    rw [← Option.some.inj h]
    exact ⟨[C.int x11], _, Ghost.refl _, (.cons (.tmp rfl) .nil), [], _, _, rfl, ⟨rfl, rfl⟩⟩

def laws_FnExactLiveAt_j1 (p0 : List TLive) (r6 : List Int) (r11 : List Int) (x27 : Int) (x28 : Bool) : Option Bool := cond x28 (some false) ((laws_markInt64S r11 1).bind fun r30 => (laws_heldInt64S r30.2 1).bind fun r32 => cond (decide (r32 < 0)) (some false) (cond (r32 != r30.1) (some false) ((laws_toLiveS p0).bind fun r36 => (impl_LiveAt r36 x27).bind fun r38 => (laws_eqInt64S r38 r6).bind fun r40 => cond r40 ((laws_heldInt64S r30.2 1).bind fun r43 => cond (decide (r43 < 0)) (some false) (cond (r43 != r30.1) (some false) (some true))) (some false))))
def laws_FnExactLiveAt (p0 : List TLive) (p1 : Int) : Option Bool := (laws_szLiveS p0 1048576).bind fun r1 => cond (decide (r1 < 0)) (some true) ((laws_toLiveS p0).bind fun r4 => (spec_LiveAt r4 p1).bind fun r6 => (laws_toLiveS p0).bind fun r8 => (impl_LiveAt r8 p1).bind fun r11 => (laws_eqInt64S r11 r6).bind fun r14 => cond r14 ((laws_toLiveS p0).bind fun r17 => (laws_eqLiveS r8 r17).bind fun r19 => cond r19 ((laws_markLiveS r8 1).bind fun r22 => cond (decide (r22.1 < 0)) (laws_FnExactLiveAt_j1 p0 r6 r11 p1 true) ((laws_eqInt64S r11 r6).bind fun r25 => laws_FnExactLiveAt_j1 p0 r6 r11 p1 (!r25))) (some false)) (some false))
theorem ok_laws_FnExactLiveAt (p0 : List TLive) (p1 : Int) (r : Bool) (h : laws_FnExactLiveAt p0 p1 = some r) : Ok Try.prog 5 [C.im kLive 2 p0, C.int p1] [] (fun c qs => c = C.bool r ∧ qs = []) := by
  refine Ok.of_body (rs := [.tmp 4]) Try.func5 rfl rfl rfl rfl rfl fun X => ?_
  unfold laws_FnExactLiveAt at h
  refine AW.seq ?_
  refine AW.region ?_
  refine Ops.v rfl (op_assign rfl rfl) ?_
  refine Ops.nil ?_
  refine AW.seq ?_
  refine AW.region ?_
  refine Ops.v rfl (op_assign rfl rfl) ?_
  refine Ops.nil ?_
  refine AW.seq ?_
  refine AW.region ?_
  refine Ops.v rfl (op_move rfl rfl) ?_
  refine Ops.v rfl (op_move rfl rfl) ?_
  refine ob' h fun r1 g2 h => ?_
  refine Ops.hd (ns := []) rfl rfl (op_callE (ok_laws_szLiveS _ _ _ g2) rfl rfl) ?_
  refine Ops.v rfl (op_assign rfl rfl) ?_
  refine Ops.nil ?_
  refine AW.seq ?_
  refine AW.seq ?_
  refine AW.region ?_
  refine Ops.v rfl (op_move rfl rfl) ?_
  refine Ops.v rfl (op_bin rfl rfl rfl rfl) ?_
  refine Ops.nil ?_
  refine tf' (decide (r1 < 0)) (fun hb3 => ?_) (fun hb3 => ?_)
  · replace h := cond_t hb3 h
    refine AW.cond rfl (fun _ => ?_) (fun hn => absurd (hb3.symm.trans hn) (by decide))
    refine AW.seq ?_
    refine AW.region ?_
    refine Ops.v rfl (op_assign rfl rfl) ?_
    refine Ops.nil ?_
    refine AW.ret ?_
    rw [← Option.some.inj h]
    exact ⟨[C.bool true], _, Ghost.refl _, (.cons (.tmp rfl) .nil), [], _, _, rfl, ⟨rfl, rfl⟩⟩
  · replace h := cond_f hb3 h
    refine AW.cond rfl (fun hn => absurd (hb3.symm.trans hn) (by decide)) (fun _ => ?_)
    refine AW.skip ?_
    refine AW.seq ?_
    refine AW.region ?_
    refine Ops.v rfl (op_move rfl rfl) ?_
    refine ob' h fun r4 g5 h => ?_
    refine Ops.hd (ns := []) rfl rfl (op_callE (ok_laws_toLiveS' _ _ g5) rfl rfl) ?_
    refine Ops.v rfl (op_move rfl rfl) ?_
    refine ob' h fun r6 g7 h => ?_
    refine Ops.hd (ns := []) rfl rfl (op_callE (ok_spec_LiveAt' _ _ _ g7) rfl rfl) ?_
    refine Ops.v rfl (op_assign rfl rfl) ?_
    refine Ops.nil ?_
    refine AW.seq ?_
    refine AW.region ?_
    refine Ops.v rfl (op_move rfl rfl) ?_
    refine ob' h fun r8 g9 h => ?_
    refine Ops.h (ns := []) rfl rfl (op_call (ok_laws_toLiveS _ _ g9) rfl rfl) ?_
    rintro _ _ ⟨_, ⟨v10, rfl, rfl⟩, rfl⟩
    refine Ops.v rfl (op_assign rfl rfl) ?_
    refine Ops.nil ?_
    refine AW.seq ?_
    refine AW.region ?_
    refine Ops.v rfl (op_move rfl rfl) ?_
    refine Ops.v rfl (op_move rfl rfl) ?_
    refine ob' h fun r11 g12 h => ?_
    refine Ops.h (ns := [0]) rfl rfl (op_call (Ok.lend (ok_impl_LiveAt _ _ _ g12) (FrzT.cons (os := [_]) Frz.arr (FrzT.cons (os := []) (Frz.same _) (FrzT.nil))) (by rintro _ _ ⟨_, rfl, rfl⟩; exact ⟨(PlainC.val _), plainO_cons (PlainO.arr plain_kI64) (plainO_nil)⟩)) rfl rfl) ?_
    rintro _ _ ⟨_, ⟨_, ⟨v13, rfl, rfl⟩, rfl⟩, rfl⟩
    refine Ops.v rfl (op_assign rfl rfl) ?_
    refine Ops.nil ?_
    refine AW.seq ?_
    refine AW.seq ?_
    refine AW.region ?_
    refine Ops.v rfl (op_move rfl rfl) ?_
    refine Ops.v rfl (op_move rfl rfl) ?_
    refine ob' h fun r14 g15 h => ?_
    refine Ops.hd (ns := [0]) rfl rfl (op_callE (Ok.lendE (ok_laws_eqInt64S _ _ _ g15) (FrzT.cons (os := [_]) Frz.arr (FrzT.cons (os := []) (Frz.same _) (FrzT.nil))) (PlainC.val _)) rfl rfl) ?_
    refine Ops.v rfl (op_not rfl rfl) ?_
    refine Ops.nil ?_
    refine tf' (r14) (fun hb16 => ?_) (fun hb16 => ?_)
    · replace h := cond_t hb16 h
      refine AW.cond rfl (fun hn => absurd ((not_t hb16).symm.trans hn) (by decide)) (fun _ => ?_)
      refine AW.skip ?_
      refine AW.seq ?_
      refine AW.seq ?_
      refine AW.region ?_
      refine Ops.v rfl (op_move rfl rfl) ?_
      refine Ops.v rfl (op_move rfl rfl) ?_
      refine ob' h fun r17 g18 h => ?_
      refine Ops.hd (ns := []) rfl rfl (op_callE (ok_laws_toLiveS' _ _ g18) rfl rfl) ?_
      refine ob' h fun r19 g20 h => ?_
      refine Ops.hd (ns := [1]) rfl rfl (op_callE (Ok.lendE (ok_laws_eqLiveS _ _ _ g20) (FrzT.cons (os := [_]) Frz.arr (FrzT.cons (os := []) (Frz.same _) (FrzT.nil))) (PlainC.val _)) rfl rfl) ?_
      refine Ops.v rfl (op_not rfl rfl) ?_
      refine Ops.nil ?_
      refine tf' (r19) (fun hb21 => ?_) (fun hb21 => ?_)
      · replace h := cond_t hb21 h
        refine AW.cond rfl (fun hn => absurd ((not_t hb21).symm.trans hn) (by decide)) (fun _ => ?_)
        refine AW.skip ?_
        refine AW.seq ?_
        refine AW.region ?_
        refine Ops.v rfl (op_assign rfl rfl) ?_
        refine Ops.nil ?_
        refine AW.seq ?_
        refine AW.region ?_
        refine Ops.v rfl (op_move rfl rfl) ?_
        refine Ops.v rfl (op_move rfl rfl) ?_
        refine ob' h fun r22 g23 h => ?_
        refine Ops.hd (ns := [0]) rfl rfl (op_callE (ok_laws_markLiveS _ _ _ g23) rfl rfl) ?_
        refine Ops.v rfl (op_assign rfl rfl) ?_
        refine Ops.nil ?_
        refine AW.seq ?_
        refine AW.seq ?_
        refine AW.cut (τ := Int × Bool) (fun (x27, x28) => ⟨[(0, C.im kLive 2 p0), (1, C.int x27), (6, C.im kI64 1 r6), (8, C.val v13), (46, C.bool x28)], [Obj.arr v13 2 kI64 1 r11]⟩) (fun (x27, x28) => laws_FnExactLiveAt_j1 p0 r6 r11 x27 x28 = some r) ?_ ?_
        · refine AW.region ?_
          refine Ops.v rfl (op_move rfl rfl) ?_
          refine Ops.v rfl (op_bin rfl rfl rfl rfl) ?_
          refine Ops.v rfl (op_move rfl rfl) ?_
          refine tf' (decide (r22.1 < 0)) (fun hb24 => ?_) (fun hb24 => ?_)
          · replace h := cond_t hb24 h
            refine Ops.gs rfl rfl rfl (.b rfl hb24) rfl rfl ?_
            refine Ops.gs rfl rfl rfl (.b rfl hb24) rfl rfl ?_
            refine Ops.gs rfl rfl rfl (.b rfl hb24) rfl rfl ?_
            refine Ops.gs rfl rfl rfl (.b rfl hb24) rfl rfl ?_
            refine Ops.v rfl (op_pick_t rfl hb24 rfl rfl) ?_
            refine Ops.nil ?_
            exact ⟨(p1, true), h, Ghost.both (ns := [1]) rfl rfl⟩
          · replace h := cond_f hb24 h
            refine Ops.gv rfl rfl rfl rfl hb24 (op_move rfl rfl) ?_
            refine Ops.gv rfl rfl rfl rfl hb24 (op_move rfl rfl) ?_
            refine ob' h fun r25 g26 h => ?_
            refine Ops.ghd (ns := [1]) rfl rfl rfl rfl hb24 rfl (op_callE (Ok.lendE (ok_laws_eqInt64S _ _ _ g26) (FrzT.cons (os := [_]) Frz.arr (FrzT.cons (os := []) (Frz.same _) (FrzT.nil))) (PlainC.val _)) rfl rfl) ?_
            refine Ops.gv rfl rfl rfl rfl hb24 (op_not rfl rfl) ?_
            refine Ops.v rfl (op_pick_f rfl hb24 rfl rfl) ?_
            refine Ops.nil ?_
            exact ⟨(p1, (!r25)), h, Ghost.both (ns := [0]) rfl rfl⟩
        · rintro ⟨x27, x28⟩ h
          replace h : laws_FnExactLiveAt_j1 p0 r6 r11 x27 x28 = some r := h
          unfold laws_FnExactLiveAt_j1 at h
          refine tf' (x28) (fun hb29 => ?_) (fun hb29 => ?_)
          · replace h := cond_t hb29 h
            refine AW.cond rfl (fun _ => ?_) (fun hn => absurd (hb29.symm.trans hn) (by decide))
            refine AW.seq ?_
            refine AW.region ?_
            refine Ops.v rfl (op_assign rfl rfl) ?_
            refine Ops.nil ?_
            refine AW.ret ?_
            rw [← Option.some.inj h]
            exact ⟨[C.bool false], _, Ghost.refl _, (.cons (.tmp rfl) .nil), [], _, _, rfl, ⟨rfl, rfl⟩⟩
          · replace h := cond_f hb29 h
            refine AW.cond rfl (fun hn => absurd (hb29.symm.trans hn) (by decide)) (fun _ => ?_)
            refine AW.skip ?_
            refine AW.seq ?_
            refine AW.region ?_
            refine Ops.v rfl (op_assign rfl rfl) ?_
            refine Ops.nil ?_
            refine AW.seq ?_
            refine AW.region ?_
            refine Ops.v rfl (op_move rfl rfl) ?_
            refine Ops.v rfl (op_move rfl rfl) ?_
            refine ob' h fun r30 g31 h => ?_
            refine Ops.hd (ns := [0]) rfl rfl (op_callE (ok_laws_markInt64S _ _ _ g31) rfl rfl) ?_
            refine Ops.v rfl (op_assign rfl rfl) ?_
            refine Ops.nil ?_
            refine AW.seq ?_
            refine AW.region ?_
            refine Ops.v rfl (op_assign rfl rfl) ?_
            refine Ops.nil ?_
            refine AW.seq ?_
            refine AW.region ?_
            refine Ops.v rfl (op_move rfl rfl) ?_
            refine Ops.v rfl (op_move rfl rfl) ?_
            refine ob' h fun r32 g33 h => ?_
            refine Ops.hd (ns := [0]) rfl rfl (op_callE (Ok.lendE (ok_laws_heldInt64S _ _ _ g33) (FrzT.cons (os := [_]) Frz.arr (FrzT.cons (os := []) (Frz.same _) (FrzT.nil))) (PlainC.val _)) rfl rfl) ?_
            refine Ops.v rfl (op_assign rfl rfl) ?_
            refine Ops.nil ?_
            refine AW.seq ?_
            refine AW.seq ?_
            refine AW.region ?_
            refine Ops.v rfl (op_move rfl rfl) ?_
            refine Ops.v rfl (op_bin rfl rfl rfl rfl) ?_
            refine Ops.nil ?_
            refine tf' (decide (r32 < 0)) (fun hb34 => ?_) (fun hb34 => ?_)
            · replace h := cond_t hb34 h
              refine AW.cond rfl (fun _ => ?_) (fun hn => absurd (hb34.symm.trans hn) (by decide))
              refine AW.seq ?_
              refine AW.region ?_
              refine Ops.v rfl (op_assign rfl rfl) ?_
              refine Ops.nil ?_
              refine AW.ret ?_
              rw [← Option.some.inj h]
              exact ⟨[C.bool false], _, Ghost.refl _, (.cons (.tmp rfl) .nil), [], _, _, rfl, ⟨rfl, rfl⟩⟩
            · replace h := cond_f hb34 h
              refine AW.cond rfl (fun hn => absurd (hb34.symm.trans hn) (by decide)) (fun _ => ?_)
              refine AW.skip ?_
              refine AW.seq ?_
              refine AW.seq ?_
              refine AW.region ?_
              refine Ops.v rfl (op_move rfl rfl) ?_
              refine Ops.v rfl (op_move rfl rfl) ?_
              refine Ops.v rfl (op_bin rfl rfl rfl rfl) ?_
              refine Ops.nil ?_
              refine tf' ((r32 != r30.1)) (fun hb35 => ?_) (fun hb35 => ?_)
              · replace h := cond_t hb35 h
                refine AW.cond rfl (fun _ => ?_) (fun hn => absurd (hb35.symm.trans hn) (by decide))
                refine AW.seq ?_
                refine AW.region ?_
                refine Ops.v rfl (op_assign rfl rfl) ?_
                refine Ops.nil ?_
                refine AW.ret ?_
                rw [← Option.some.inj h]
                exact ⟨[C.bool false], _, Ghost.refl _, (.cons (.tmp rfl) .nil), [], _, _, rfl, ⟨rfl, rfl⟩⟩
              · replace h := cond_f hb35 h
                refine AW.cond rfl (fun hn => absurd (hb35.symm.trans hn) (by decide)) (fun _ => ?_)
                refine AW.skip ?_
                refine AW.seq ?_
                refine AW.region ?_
                refine Ops.v rfl (op_move rfl rfl) ?_
                refine ob' h fun r36 g37 h => ?_
                refine Ops.hd (ns := []) rfl rfl (op_callE (ok_laws_toLiveS' _ _ g37) rfl rfl) ?_
                refine Ops.v rfl (op_move rfl rfl) ?_
                refine ob' h fun r38 g39 h => ?_
                refine Ops.hd (ns := []) rfl rfl (op_callE (ok_impl_LiveAt' _ _ _ g39) rfl rfl) ?_
                refine Ops.v rfl (op_assign rfl rfl) ?_
                refine Ops.nil ?_
                refine AW.seq ?_
                refine AW.seq ?_
                refine AW.region ?_
                refine Ops.v rfl (op_move rfl rfl) ?_
                refine Ops.v rfl (op_move rfl rfl) ?_
                refine ob' h fun r40 g41 h => ?_
                refine Ops.hd (ns := []) rfl rfl (op_callE (ok_laws_eqInt64S _ _ _ g41) rfl rfl) ?_
                refine Ops.v rfl (op_not rfl rfl) ?_
                refine Ops.nil ?_
                refine tf' (r40) (fun hb42 => ?_) (fun hb42 => ?_)
                · replace h := cond_t hb42 h
                  refine AW.cond rfl (fun hn => absurd ((not_t hb42).symm.trans hn) (by decide)) (fun _ => ?_)
                  refine AW.skip ?_
                  refine AW.seq ?_
                  refine AW.region ?_
                  refine Ops.v rfl (op_assign rfl rfl) ?_
                  refine Ops.nil ?_
                  refine AW.seq ?_
                  refine AW.region ?_
                  refine Ops.v rfl (op_move rfl rfl) ?_
                  refine Ops.v rfl (op_move rfl rfl) ?_
                  refine ob' h fun r43 g44 h => ?_
                  refine Ops.hd (ns := [0]) rfl rfl (op_callE (Ok.lendE (ok_laws_heldInt64S _ _ _ g44) (FrzT.cons (os := [_]) Frz.arr (FrzT.cons (os := []) (Frz.same _) (FrzT.nil))) (PlainC.val _)) rfl rfl) ?_
                  refine Ops.v rfl (op_assign rfl rfl) ?_
                  refine Ops.nil ?_
                  refine AW.seq ?_
                  refine AW.seq ?_
                  refine AW.region ?_
                  refine Ops.v rfl (op_move rfl rfl) ?_
                  refine Ops.v rfl (op_bin rfl rfl rfl rfl) ?_
                  refine Ops.nil ?_
                  refine tf' (decide (r43 < 0)) (fun hb45 => ?_) (fun hb45 => ?_)
                  · replace h := cond_t hb45 h
                    refine AW.cond rfl (fun _ => ?_) (fun hn => absurd (hb45.symm.trans hn) (by decide))
                    refine AW.seq ?_
                    refine AW.region ?_
                    refine Ops.v rfl (op_assign rfl rfl) ?_
                    refine Ops.nil ?_
                    refine AW.ret ?_
                    rw [← Option.some.inj h]
                    exact ⟨[C.bool false], _, Ghost.refl _, (.cons (.tmp rfl) .nil), [], _, _, rfl, ⟨rfl, rfl⟩⟩
                  · replace h := cond_f hb45 h
                    refine AW.cond rfl (fun hn => absurd (hb45.symm.trans hn) (by decide)) (fun _ => ?_)
                    refine AW.skip ?_
                    refine AW.seq ?_
                    refine AW.seq ?_
                    refine AW.region ?_
                    refine Ops.v rfl (op_move rfl rfl) ?_
                    refine Ops.v rfl (op_move rfl rfl) ?_
                    refine Ops.v rfl (op_bin rfl rfl rfl rfl) ?_
                    refine Ops.nil ?_
                    refine tf' ((r43 != r30.1)) (fun hb46 => ?_) (fun hb46 => ?_)
                    · replace h := cond_t hb46 h
                      refine AW.cond rfl (fun _ => ?_) (fun hn => absurd (hb46.symm.trans hn) (by decide))
                      refine AW.seq ?_
                      refine AW.region ?_
                      refine Ops.v rfl (op_assign rfl rfl) ?_
                      refine Ops.nil ?_
                      refine AW.ret ?_
                      rw [← Option.some.inj h]
                      exact ⟨[C.bool false], _, Ghost.refl _, (.cons (.tmp rfl) .nil), [], _, _, rfl, ⟨rfl, rfl⟩⟩
                    · replace h := cond_f hb46 h
                      refine AW.cond rfl (fun hn => absurd (hb46.symm.trans hn) (by decide)) (fun _ => ?_)
                      refine AW.skip ?_
                      refine AW.seq ?_
                      refine AW.region ?_
                      refine Ops.v rfl (op_assign rfl rfl) ?_
                      refine Ops.nil ?_
                      refine AW.ret ?_
                      rw [← Option.some.inj h]
                      exact ⟨[C.bool true], _, Ghost.refl _, (.cons (.tmp rfl) .nil), [], _, _, rfl, ⟨rfl, rfl⟩⟩
                · replace h := cond_f hb42 h
                  refine AW.cond rfl (fun _ => ?_) (fun hn => absurd ((not_f hb42).symm.trans hn) (by decide))
                  refine AW.seq ?_
                  refine AW.region ?_
                  refine Ops.v rfl (op_assign rfl rfl) ?_
                  refine Ops.nil ?_
                  refine AW.ret ?_
                  rw [← Option.some.inj h]
                  exact ⟨[C.bool false], _, Ghost.refl _, (.cons (.tmp rfl) .nil), [], _, _, rfl, ⟨rfl, rfl⟩⟩
      · replace h := cond_f hb21 h
        refine AW.cond rfl (fun _ => ?_) (fun hn => absurd ((not_f hb21).symm.trans hn) (by decide))
        refine AW.seq ?_
        refine AW.region ?_
        refine Ops.v rfl (op_assign rfl rfl) ?_
        refine Ops.nil ?_
        refine AW.ret ?_
        rw [← Option.some.inj h]
        exact ⟨[C.bool false], _, Ghost.refl _, (.cons (.tmp rfl) .nil), [], _, _, rfl, ⟨rfl, rfl⟩⟩
    · replace h := cond_f hb16 h
      refine AW.cond rfl (fun _ => ?_) (fun hn => absurd ((not_f hb16).symm.trans hn) (by decide))
      refine AW.seq ?_
      refine AW.region ?_
      refine Ops.v rfl (op_assign rfl rfl) ?_
      refine Ops.nil ?_
      refine AW.ret ?_
      rw [← Option.some.inj h]
      exact ⟨[C.bool false], _, Ghost.refl _, (.cons (.tmp rfl) .nil), [], _, _, rfl, ⟨rfl, rfl⟩⟩

def spec_l20Set_j1 (p0 : List TLive) (s24 : List TLive) (x43 : Int) (x44 : Int) (x45 : Int) : Option (List TLive) := (chk (decide (((([] : List TLive) ++ s24).length + [(TLive.mk x43 x44)].length) * 16 ≤ 140737488355328))).bind fun u48 => (sliceI p0 x45 (p0.length : Int)).bind fun s50 => (chk (decide ((((([] : List TLive) ++ s24) ++ [(TLive.mk x43 x44)]).length + s50.length) * 16 ≤ 140737488355328))).bind fun u53 => some (((([] : List TLive) ++ s24) ++ [(TLive.mk x43 x44)]) ++ s50)
def spec_l20Set_j2 (p0 : List TLive) (s24 : List TLive) (x40 : Int) (x41 : Int) (x42 : Int) : Option (List TLive) := spec_l20Set_j1 p0 s24 x40 x41 (IntKind.i64.wrap (x42 + 1))
def spec_l20Set_j3 (p0 : List TLive) (s24 : List TLive) (x32 : Int) (x33 : Int) (x34 : Int) (x35 : Bool) : Option (List TLive) := cond x35 ((getI p0 x34).bind fun e37 => cond (decide (e37.till > x33)) (spec_l20Set_j2 p0 s24 x32 e37.till x34) (spec_l20Set_j2 p0 s24 x32 x33 x34)) (spec_l20Set_j1 p0 s24 x32 x33 x34)
def spec_l20Set_j4 (p0 : List TLive) (x20 : Int) (x21 : Int) (x22 : Int) : Option (List TLive) := (sliceI p0 0 x22).bind fun s24 => (chk (decide ((([] : List TLive).length + s24.length) * 16 ≤ 140737488355328))).bind fun u27 => cond (decide (x22 < (p0.length : Int))) ((getI p0 x22).bind fun e30 => spec_l20Set_j3 p0 s24 x20 x21 x22 (e30.user == x20)) (spec_l20Set_j3 p0 s24 x20 x21 x22 false)
def spec_l20Set_j5 (x15 : Int) (x16 : Int) (x17 : Int) (x18 : Bool) : Option ((Int × Int × Int) ⊕ ((Int × Int × Int))) := cond x18 (some (.inl (x15, x16, (IntKind.i64.wrap (x17 + 1))))) (some (.inr (x15, x16, x17)))
def spec_l20Set_s6 (p0 : List TLive) (x9 : Int) (x10 : Int) (x11 : Int) : Option ((Int × Int × Int) ⊕ ((Int × Int × Int))) := cond (decide (x11 < (p0.length : Int))) ((getI p0 x11).bind fun e13 => spec_l20Set_j5 x9 x10 x11 (decide (e13.user < x9))) (spec_l20Set_j5 x9 x10 x11 false)
def spec_l20Set (p0 : List TLive) (p1 : Int) (p2 : Int) : Option (List TLive) := (iter (fun z56 => spec_l20Set_s6 p0 z56.1 z56.2.1 z56.2.2) big (p1, p2, 0)).bind fun (y57, y58, y59) => spec_l20Set_j4 p0 y57 y58 y59
theorem ok_spec_l20Set (p0 : List TLive) (p1 : Int) (p2 : Int) (r : List TLive) (h : spec_l20Set p0 p1 p2 = some r) : Ok Try.prog 40 [C.im kLive 2 p0, C.int p1, C.int p2] [] (fun c qs => ∃ (v55 : Value), c = C.val v55 ∧ qs = [Obj.arr v55 54 kLive 2 r]) := by
  refine Ok.of_body (rs := [.tmp 6]) Try.func40 rfl rfl rfl rfl rfl fun X => ?_
  unfold spec_l20Set at h
  refine AW.seq ?_
  refine AW.region ?_
  refine Ops.v rfl (op_assign rfl rfl) ?_
  refine Ops.nil ?_
  refine AW.seq ?_
  refine AW.region ?_
  refine Ops.v rfl (op_assign rfl rfl) ?_
  refine Ops.nil ?_
  refine AW.seq ?_
  refine AW.cut (τ := Int × Int × Int) (fun (x20, x21, x22) => ⟨[(0, C.im kLive 2 p0), (1, C.int x20), (2, C.int x21), (7, C.int x22)], []⟩) (fun (x20, x21, x22) => spec_l20Set_j4 p0 x20 x21 x22 = some r) ?_ ?_
  · refine AW.block ?_
    refine ob' h fun o60 g61 q62 => ?_
    refine AW.loop (τ := Int × Int × Int) (x := (p1, p2, 0)) (fun (x9, x10, x11) => ⟨[(0, C.im kLive 2 p0), (1, C.int x9), (2, C.int x10), (7, C.int x11)], []⟩) (fun k (x9, x10, x11) => iter (fun z56 => spec_l20Set_s6 p0 z56.1 z56.2.1 z56.2.2) k (x9, x10, x11) = some o60) g61 (Ghost.both (ns := []) rfl rfl) ?_
    rintro k ⟨x9, x10, x11⟩ i64
    refine iter_succ' (show iter (fun z56 => spec_l20Set_s6 p0 z56.1 z56.2.1 z56.2.2) k (x9, x10, x11) = some o60 from i64) fun k63 y65 hlt_k63 h h66 => ?_
    replace h : spec_l20Set_s6 p0 x9 x10 x11 = some y65 := h
    unfold spec_l20Set_s6 at h
    refine AW.seq ?_
    refine AW.seq ?_
    refine AW.cut (τ := Int × Int × Int × Bool) (fun (x15, x16, x17, x18) => ⟨[(0, C.im kLive 2 p0), (1, C.int x15), (2, C.int x16), (7, C.int x17), (21, C.bool x18)], []⟩) (fun (x15, x16, x17, x18) => spec_l20Set_j5 x15 x16 x17 x18 = some y65) ?_ ?_
    · refine AW.region ?_
      refine Ops.v rfl (op_move rfl rfl) ?_
      refine Ops.v rfl (op_move rfl rfl) ?_
      refine Ops.v rfl (op_len_im sl_25 rfl rfl) ?_
      refine Ops.v rfl (op_bin rfl rfl rfl rfl) ?_
      refine Ops.v rfl (op_move rfl rfl) ?_
      refine tf' (decide (x11 < (p0.length : Int))) (fun hb12 => ?_) (fun hb12 => ?_)
      · replace h := cond_t hb12 h
        refine Ops.gv rfl rfl rfl rfl hb12 (op_move rfl rfl) ?_
        refine Ops.gv rfl rfl rfl rfl hb12 (op_move rfl rfl) ?_
        refine ob' h fun e13 g14 h => ?_
        refine Ops.gv rfl rfl rfl rfl hb12 (op_indexAddr_im sl_25 rfl rfl g14 rfl) ?_
        refine Ops.gv rfl rfl rfl rfl hb12 (op_fieldAddr_ip fo_54_0 rfl rfl rfl) ?_
        refine Ops.gv rfl rfl rfl rfl hb12 (op_load_ip ld_2 rfl rfl) ?_
        refine Ops.gv rfl rfl rfl rfl hb12 (op_move rfl rfl) ?_
        refine Ops.gv rfl rfl rfl rfl hb12 (op_bin rfl rfl rfl rfl) ?_
        refine Ops.v rfl (op_pick_t rfl hb12 rfl rfl) ?_
        refine Ops.nil ?_
        exact ⟨(x9, x10, x11, decide (e13.user < x9)), h, Ghost.both (ns := []) rfl rfl⟩
      · replace h := cond_f hb12 h
        refine Ops.gs rfl rfl rfl (.b rfl hb12) rfl rfl ?_
        refine Ops.gs rfl rfl rfl (.b rfl hb12) rfl rfl ?_
        refine Ops.gs rfl rfl rfl (.b rfl hb12) rfl rfl ?_
        refine Ops.gs rfl rfl rfl (.b rfl hb12) rfl rfl ?_
        refine Ops.gs rfl rfl rfl (.b rfl hb12) rfl rfl ?_
        refine Ops.gs rfl rfl rfl (.b rfl hb12) rfl rfl ?_
        refine Ops.gs rfl rfl rfl (.b rfl hb12) rfl rfl ?_
        refine Ops.v rfl (op_pick_f rfl hb12 rfl rfl) ?_
        refine Ops.nil ?_
        exact ⟨(x9, x10, x11, false), h, Ghost.both (ns := []) rfl rfl⟩
    · rintro ⟨x15, x16, x17, x18⟩ h
      replace h : spec_l20Set_j5 x15 x16 x17 x18 = some y65 := h
      unfold spec_l20Set_j5 at h
      refine tf' (x18) (fun hb19 => ?_) (fun hb19 => ?_)
      · replace h := cond_t hb19 h
        refine AW.cond rfl (fun _ => ?_) (fun hn => absurd (hb19.symm.trans hn) (by decide))
        refine AW.skip ?_
        refine AW.block ?_
        refine AW.region ?_
        refine Ops.v rfl (op_move rfl rfl) ?_
        refine Ops.v rfl (op_bin rfl rfl rfl rfl) ?_
        refine Ops.v rfl (op_assign rfl rfl) ?_
        refine Ops.nil ?_
        obtain rfl := Option.some.inj h
        exact ⟨k63, (x15, x16, (IntKind.i64.wrap (x17 + 1))), hlt_k63, h66, Ghost.both (ns := []) rfl rfl⟩
      · replace h := cond_f hb19 h
        refine AW.cond rfl (fun hn => absurd (hb19.symm.trans hn) (by decide)) (fun _ => ?_)
        refine AW.exit ?_
        obtain rfl := Option.some.inj h
        obtain rfl := Option.some.inj h66
        replace h := q62
        exact ⟨(x15, x16, x17), h, Ghost.both (ns := []) rfl rfl⟩
  · rintro ⟨x20, x21, x22⟩ h
    replace h : spec_l20Set_j4 p0 x20 x21 x22 = some r := h
    unfold spec_l20Set_j4 at h
    refine AW.seq ?_
    refine AW.region ?_
    refine Ops.h (ns := []) rfl rfl (op_buildSlice (k := kLive) (ys := ([] : List TLive)) ar_25 .nil rfl rfl rfl) ?_
    rintro _ _ ⟨b23, rfl, rfl⟩
    refine Ops.v rfl (op_move rfl rfl) ?_
    refine Ops.v rfl (op_move rfl rfl) ?_
    refine ob' h fun s24 g25 h => ?_
    refine Ops.v rfl (op_slice_im_h sl_25 rfl rfl g25 rfl) ?_
    refine ob' h fun u27 c26 h => ?_
    refine Ops.h (ns := [0]) rfl rfl (op_append_im ar_25 rfl rfl (of_decide_eq_true (chk_some c26)) (app63 (by decide) c26) rfl) ?_
    rintro _ _ ⟨v28, rfl, rfl⟩
    refine Ops.v rfl (op_assign rfl rfl) ?_
    refine Ops.nil ?_
    refine AW.seq ?_
    refine AW.cut (τ := Int × Int × Int) (fun (x43, x44, x45) => ⟨[(0, C.im kLive 2 p0), (1, C.int x43), (2, C.int x44), (7, C.int x45), (8, C.val v28)], [Obj.arr v28 54 kLive 2 (([] : List TLive) ++ s24)]⟩) (fun (x43, x44, x45) => spec_l20Set_j1 p0 s24 x43 x44 x45 = some r) ?_ ?_
    · refine AW.seq ?_
      refine AW.cut (τ := Int × Int × Int × Bool) (fun (x32, x33, x34, x35) => ⟨[(0, C.im kLive 2 p0), (1, C.int x32), (2, C.int x33), (7, C.int x34), (8, C.val v28), (41, C.bool x35)], [Obj.arr v28 54 kLive 2 (([] : List TLive) ++ s24)]⟩) (fun (x32, x33, x34, x35) => spec_l20Set_j3 p0 s24 x32 x33 x34 x35 = some r) ?_ ?_
      · refine AW.region ?_
        refine Ops.v rfl (op_move rfl rfl) ?_
        refine Ops.v rfl (op_move rfl rfl) ?_
        refine Ops.v rfl (op_len_im sl_25 rfl rfl) ?_
        refine Ops.v rfl (op_bin rfl rfl rfl rfl) ?_
        refine Ops.v rfl (op_move rfl rfl) ?_
        refine tf' (decide (x22 < (p0.length : Int))) (fun hb29 => ?_) (fun hb29 => ?_)
        · replace h := cond_t hb29 h
          refine Ops.gv rfl rfl rfl rfl hb29 (op_move rfl rfl) ?_
          refine Ops.gv rfl rfl rfl rfl hb29 (op_move rfl rfl) ?_
          refine ob' h fun e30 g31 h => ?_
          refine Ops.gv rfl rfl rfl rfl hb29 (op_indexAddr_im sl_25 rfl rfl g31 rfl) ?_
          refine Ops.gv rfl rfl rfl rfl hb29 (op_fieldAddr_ip fo_54_0 rfl rfl rfl) ?_
          refine Ops.gv rfl rfl rfl rfl hb29 (op_load_ip ld_2 rfl rfl) ?_
          refine Ops.gv rfl rfl rfl rfl hb29 (op_move rfl rfl) ?_
          refine Ops.gv rfl rfl rfl rfl hb29 (op_bin rfl rfl rfl rfl) ?_
          refine Ops.v rfl (op_pick_t rfl hb29 rfl rfl) ?_
          refine Ops.nil ?_
          exact ⟨(x20, x21, x22, (e30.user == x20)), h, Ghost.both (ns := [0]) rfl rfl⟩
        · replace h := cond_f hb29 h
          refine Ops.gs rfl rfl rfl (.b rfl hb29) rfl rfl ?_
          refine Ops.gs rfl rfl rfl (.b rfl hb29) rfl rfl ?_
          refine Ops.gs rfl rfl rfl (.b rfl hb29) rfl rfl ?_
          refine Ops.gs rfl rfl rfl (.b rfl hb29) rfl rfl ?_
          refine Ops.gs rfl rfl rfl (.b rfl hb29) rfl rfl ?_
          refine Ops.gs rfl rfl rfl (.b rfl hb29) rfl rfl ?_
          refine Ops.gs rfl rfl rfl (.b rfl hb29) rfl rfl ?_
          refine Ops.v rfl (op_pick_f rfl hb29 rfl rfl) ?_
          refine Ops.nil ?_
          exact ⟨(x20, x21, x22, false), h, Ghost.both (ns := [0]) rfl rfl⟩
      · rintro ⟨x32, x33, x34, x35⟩ h
        replace h : spec_l20Set_j3 p0 s24 x32 x33 x34 x35 = some r := h
        unfold spec_l20Set_j3 at h
        refine tf' (x35) (fun hb36 => ?_) (fun hb36 => ?_)
        · replace h := cond_t hb36 h
          refine AW.cond rfl (fun _ => ?_) (fun hn => absurd (hb36.symm.trans hn) (by decide))
          refine AW.seq ?_
          refine AW.cut (τ := Int × Int × Int) (fun (x40, x41, x42) => ⟨[(0, C.im kLive 2 p0), (1, C.int x40), (2, C.int x41), (7, C.int x42), (8, C.val v28)], [Obj.arr v28 54 kLive 2 (([] : List TLive) ++ s24)]⟩) (fun (x40, x41, x42) => spec_l20Set_j2 p0 s24 x40 x41 x42 = some r) ?_ ?_
          · refine AW.seq ?_
            refine AW.region ?_
            refine Ops.v rfl (op_move rfl rfl) ?_
            refine Ops.v rfl (op_move rfl rfl) ?_
            refine ob' h fun e37 g38 h => ?_
            refine Ops.v rfl (op_indexAddr_im sl_25 rfl rfl g38 rfl) ?_
            refine Ops.v rfl (op_fieldAddr_ip fo_54_1 rfl rfl rfl) ?_
            refine Ops.v rfl (op_load_ip ld_2 rfl rfl) ?_
            refine Ops.v rfl (op_move rfl rfl) ?_
            refine Ops.v rfl (op_bin rfl rfl rfl rfl) ?_
            refine Ops.nil ?_
            refine tf' (decide (e37.till > x33)) (fun hb39 => ?_) (fun hb39 => ?_)
            · replace h := cond_t hb39 h
              refine AW.cond rfl (fun _ => ?_) (fun hn => absurd (hb39.symm.trans hn) (by decide))
              refine AW.region ?_
              refine Ops.v rfl (op_move rfl rfl) ?_
              refine Ops.v rfl (op_move rfl rfl) ?_
              refine Ops.v rfl (op_indexAddr_im sl_25 rfl rfl g38 rfl) ?_
              refine Ops.v rfl (op_fieldAddr_ip fo_54_1 rfl rfl rfl) ?_
              refine Ops.v rfl (op_load_ip ld_2 rfl rfl) ?_
              refine Ops.v rfl (op_assign rfl rfl) ?_
              refine Ops.nil ?_
              exact ⟨(x32, e37.till, x34), h, Ghost.both (ns := [0]) rfl rfl⟩
            · replace h := cond_f hb39 h
              refine AW.cond rfl (fun hn => absurd (hb39.symm.trans hn) (by decide)) (fun _ => ?_)
              refine AW.skip ?_
              exact ⟨(x32, x33, x34), h, Ghost.both (ns := [0]) rfl rfl⟩
          · rintro ⟨x40, x41, x42⟩ h
            replace h : spec_l20Set_j2 p0 s24 x40 x41 x42 = some r := h
            unfold spec_l20Set_j2 at h
            refine AW.region ?_
            refine Ops.v rfl (op_move rfl rfl) ?_
            refine Ops.v rfl (op_bin rfl rfl rfl rfl) ?_
            refine Ops.v rfl (op_assign rfl rfl) ?_
            refine Ops.nil ?_
            exact ⟨(x40, x41, (IntKind.i64.wrap (x42 + 1))), h, Ghost.both (ns := [0]) rfl rfl⟩
        · replace h := cond_f hb36 h
          refine AW.cond rfl (fun hn => absurd (hb36.symm.trans hn) (by decide)) (fun _ => ?_)
          refine AW.skip ?_
          exact ⟨(x32, x33, x34), h, Ghost.both (ns := [0]) rfl rfl⟩
    · rintro ⟨x43, x44, x45⟩ h
      replace h : spec_l20Set_j1 p0 s24 x43 x44 x45 = some r := h
      unfold spec_l20Set_j1 at h
      refine AW.seq ?_
      refine AW.region ?_
      refine Ops.v rfl (op_move rfl rfl) ?_
      refine Ops.v rfl (op_move rfl rfl) ?_
      refine Ops.v rfl (op_move rfl rfl) ?_
      refine Ops.v rfl (op_build (ds := [C.int x43, C.int x44]) pl_54 ze_54 (cells_zero rfl rfl) (.one rfl (One.val rfl) rfl rfl (.one rfl (One.val rfl) rfl rfl .nil)) rfl) ?_
      refine Ops.h (ns := []) rfl rfl (op_buildSlice (k := kLive) (ys := [(TLive.mk x43 x44)]) ar_25 (.agg rfl rfl .nil) rfl rfl rfl) ?_
      rintro _ _ ⟨b46, rfl, rfl⟩
      refine ob' h fun u48 c47 h => ?_
      refine Ops.h (ns := [1, 0]) rfl rfl (op_append ar_25 rfl rfl (of_decide_eq_true (chk_some c47)) (app63 (by decide) c47) rfl) ?_
      rintro _ _ ⟨v49, rfl, rfl⟩
      refine Ops.v rfl (op_assign rfl rfl) ?_
      refine Ops.nil ?_
      refine AW.seq ?_
      refine AW.region ?_
      refine Ops.v rfl (op_move rfl rfl) ?_
      refine Ops.v rfl (op_move rfl rfl) ?_
      refine Ops.v rfl (op_move rfl rfl) ?_
      refine ob' h fun s50 g51 h => ?_
      refine Ops.v rfl (op_slice_im_l sl_25 rfl rfl g51 rfl) ?_
      refine ob' h fun u53 c52 h => ?_
      refine Ops.h (ns := [0]) rfl rfl (op_append_im ar_25 rfl rfl (of_decide_eq_true (chk_some c52)) (app63 (by decide) c52) rfl) ?_
      rintro _ _ ⟨v54, rfl, rfl⟩
      refine Ops.v rfl (op_assign rfl rfl) ?_
      refine Ops.nil ?_
      refine AW.ret ?_
      rw [← Option.some.inj h]
      exact ⟨[C.val v54], _, Ghost.refl _, (.cons (.tmp rfl) .nil), [0], _, _, rfl, ⟨v54, rfl, rfl⟩⟩
theorem ok_spec_l20Set' (p0 : List TLive) (p1 : Int) (p2 : Int) (r : List TLive) (h : spec_l20Set p0 p1 p2 = some r) : Ok Try.prog 40 [C.im kLive 2 p0, C.int p1, C.int p2] [] (fun c qs => c = C.im kLive 2 r ∧ qs = []) :=
  Ok.freeze (ok_spec_l20Set p0 p1 p2 r h) (by rintro c qs ⟨v55, rfl, rfl⟩; exact Frz.arr)

def spec_LiveSet_j1 (p0 : List TLive) (x11 : Int) (x12 : Int) (x13 : Int) (x14 : Bool) : Option TLiveOut := cond x14 (some (TLiveOut.mk [] 1)) ((spec_l20Set p0 x11 x12).bind fun r16 => some (TLiveOut.mk r16 0))
def spec_LiveSet (p0 : List TLive) (p1 : Int) (p2 : Int) : Option TLiveOut := cond (decide ((p0.length : Int) > 400)) (some (TLiveOut.mk [] 2)) ((spec_LiveRight p0).bind fun r3 => cond r3 ((spec_l02User p1).bind fun r6 => cond r6 ((spec_l02Time p2).bind fun r9 => spec_LiveSet_j1 p0 p1 p2 0 (!r9)) (spec_LiveSet_j1 p0 p1 p2 0 true)) (spec_LiveSet_j1 p0 p1 p2 0 true))
theorem ok_spec_LiveSet (p0 : List TLive) (p1 : Int) (p2 : Int) (r : TLiveOut) (h : spec_LiveSet p0 p1 p2 = some r) : Ok Try.prog 22 [C.im kLive 2 p0, C.int p1, C.int p2] [] (fun c qs => ∃ (v20 : Value), c = C.agg [C.val v20, C.int r.code] ∧ qs = [Obj.arr v20 54 kLive 2 r.row]) := by
  refine Ok.of_body (rs := [.cell 6 37]) Try.func22 rfl rfl rfl rfl rfl fun X => ?_
  unfold spec_LiveSet at h
  refine AW.seq ?_
  refine AW.region ?_
  refine Ops.h (ns := []) rfl rfl (op_alloc (cs := [C.val (.slice none 0 0), C.int 0]) ze_37 (cells_zero rfl rfl) rfl) ?_
  rintro _ _ ⟨b1, rfl, rfl⟩
  refine Ops.nil ?_
  refine AW.seq ?_
  refine AW.seq ?_
  refine AW.region ?_
  refine Ops.v rfl (op_move rfl rfl) ?_
  refine Ops.v rfl (op_len_im sl_25 rfl rfl) ?_
  refine Ops.v rfl (op_bin rfl rfl rfl rfl) ?_
  refine Ops.nil ?_
  refine tf' (decide ((p0.length : Int) > 400)) (fun hb2 => ?_) (fun hb2 => ?_)
  · replace h := cond_t hb2 h
    refine AW.cond rfl (fun _ => ?_) (fun hn => absurd (hb2.symm.trans hn) (by decide))
    refine AW.seq ?_
    refine AW.region ?_
    refine Ops.v rfl (op_build (ds := [C.val (.slice none 0 0), C.int 2]) pl_37 ze_37 (cells_zero rfl rfl) (.one rfl (One.val rfl) rfl rfl .nil) rfl) ?_
    refine Ops.hd (ns := [0]) rfl rfl (op_storeA (gs := [C.val (.slice none 0 0), C.int 2]) ld_37 rfl rfl rfl rfl rfl) ?_
    refine Ops.nil ?_
    refine AW.ret ?_
    rw [← Option.some.inj h]
    exact ⟨[C.agg [C.val (.slice none 0 0), C.int 2]], _, Ghost.nil 54 kLive 2, (.cons (.cell (p := 1) rfl rfl ld_37 rfl) .nil), [0], _, _, rfl, ⟨(.slice none 0 0), rfl, rfl⟩⟩
  · replace h := cond_f hb2 h
    refine AW.cond rfl (fun hn => absurd (hb2.symm.trans hn) (by decide)) (fun _ => ?_)
    refine AW.skip ?_
    refine AW.seq ?_
    refine AW.seq ?_
    refine AW.cut (τ := Int × Int × Int × Bool) (fun (x11, x12, x13, x14) => ⟨[(0, C.im kLive 2 p0), (1, C.int x11), (2, C.int x12), (6, C.val (.pointer (some ⟨b1, 0, none⟩))), (23, C.bool x14)], [Obj.box b1 37 [C.val (.slice none 0 0), C.int x13]]⟩) (fun (x11, x12, x13, x14) => spec_LiveSet_j1 p0 x11 x12 x13 x14 = some r) ?_ ?_
    · refine AW.region ?_
      refine Ops.v rfl (op_move rfl rfl) ?_
      refine ob' h fun r3 g4 h => ?_
      refine Ops.hd (ns := []) rfl rfl (op_callE (ok_spec_LiveRight _ _ g4) rfl rfl) ?_
      refine Ops.v rfl (op_not rfl rfl) ?_
      refine Ops.v rfl (op_move rfl rfl) ?_
      refine tf' (r3) (fun hb5 => ?_) (fun hb5 => ?_)
      · replace h := cond_t hb5 h
        refine Ops.gv rfl rfl rfl rfl (not_t hb5) (op_move rfl rfl) ?_
        refine ob' h fun r6 g7 h => ?_
        refine Ops.ghd (ns := []) rfl rfl rfl rfl (not_t hb5) rfl (op_callE (ok_spec_l02User _ _ g7) rfl rfl) ?_
        refine Ops.gv rfl rfl rfl rfl (not_t hb5) (op_not rfl rfl) ?_
        refine Ops.v rfl (op_pick_f rfl (not_t hb5) rfl rfl) ?_
        refine Ops.v rfl (op_move rfl rfl) ?_
        refine tf' (r6) (fun hb8 => ?_) (fun hb8 => ?_)
        · replace h := cond_t hb8 h
          refine Ops.gv rfl rfl rfl rfl (not_t hb8) (op_move rfl rfl) ?_
          refine ob' h fun r9 g10 h => ?_
          refine Ops.ghd (ns := []) rfl rfl rfl rfl (not_t hb8) rfl (op_callE (ok_spec_l02Time _ _ g10) rfl rfl) ?_
          refine Ops.gv rfl rfl rfl rfl (not_t hb8) (op_not rfl rfl) ?_
          refine Ops.v rfl (op_pick_f rfl (not_t hb8) rfl rfl) ?_
          refine Ops.nil ?_
          exact ⟨(p1, p2, 0, (!r9)), h, Ghost.both (ns := [0]) rfl rfl⟩
        · replace h := cond_f hb8 h
          refine Ops.gs rfl rfl rfl (.b rfl (not_f hb8)) rfl rfl ?_
          refine Ops.gs rfl rfl rfl (.b rfl (not_f hb8)) rfl rfl ?_
          refine Ops.gs rfl rfl rfl (.b rfl (not_f hb8)) rfl rfl ?_
          refine Ops.v rfl (op_pick_t rfl (not_f hb8) rfl rfl) ?_
          refine Ops.nil ?_
          exact ⟨(p1, p2, 0, true), h, Ghost.both (ns := [0]) rfl rfl⟩
      · replace h := cond_f hb5 h
        refine Ops.gs rfl rfl rfl (.b rfl (not_f hb5)) rfl rfl ?_
        refine Ops.gs rfl rfl rfl (.b rfl (not_f hb5)) rfl rfl ?_
        refine Ops.gs rfl rfl rfl (.b rfl (not_f hb5)) rfl rfl ?_
        refine Ops.v rfl (op_pick_t rfl (not_f hb5) rfl rfl) ?_
        refine Ops.v rfl (op_move rfl rfl) ?_
        refine Ops.gs rfl rfl rfl (.b rfl rfl) rfl rfl ?_
        refine Ops.gs rfl rfl rfl (.b rfl rfl) rfl rfl ?_
        refine Ops.gs rfl rfl rfl (.b rfl rfl) rfl rfl ?_
        refine Ops.v rfl (op_pick_t rfl rfl rfl rfl) ?_
        refine Ops.nil ?_
        exact ⟨(p1, p2, 0, true), h, Ghost.both (ns := [0]) rfl rfl⟩
    · rintro ⟨x11, x12, x13, x14⟩ h
      replace h : spec_LiveSet_j1 p0 x11 x12 x13 x14 = some r := h
      unfold spec_LiveSet_j1 at h
      refine tf' (x14) (fun hb15 => ?_) (fun hb15 => ?_)
      · replace h := cond_t hb15 h
        refine AW.cond rfl (fun _ => ?_) (fun hn => absurd (hb15.symm.trans hn) (by decide))
        refine AW.seq ?_
        refine AW.region ?_
        refine Ops.v rfl (op_build (ds := [C.val (.slice none 0 0), C.int 1]) pl_37 ze_37 (cells_zero rfl rfl) (.one rfl (One.val rfl) rfl rfl .nil) rfl) ?_
        refine Ops.hd (ns := [0]) rfl rfl (op_storeA (gs := [C.val (.slice none 0 0), C.int 1]) ld_37 rfl rfl rfl rfl rfl) ?_
        refine Ops.nil ?_
        refine AW.ret ?_
        rw [← Option.some.inj h]
        exact ⟨[C.agg [C.val (.slice none 0 0), C.int 1]], _, Ghost.nil 54 kLive 2, (.cons (.cell (p := 1) rfl rfl ld_37 rfl) .nil), [0], _, _, rfl, ⟨(.slice none 0 0), rfl, rfl⟩⟩
      · replace h := cond_f hb15 h
        refine AW.cond rfl (fun hn => absurd (hb15.symm.trans hn) (by decide)) (fun _ => ?_)
        refine AW.skip ?_
        refine AW.seq ?_
        refine AW.region ?_
        refine Ops.v rfl (op_move rfl rfl) ?_
        refine Ops.v rfl (op_move rfl rfl) ?_
        refine Ops.v rfl (op_move rfl rfl) ?_
        refine ob' h fun r16 g17 h => ?_
        refine Ops.h (ns := []) rfl rfl (op_call (ok_spec_l20Set _ _ _ _ g17) rfl rfl) ?_
        rintro _ _ ⟨_, ⟨v18, rfl, rfl⟩, rfl⟩
        refine Ops.learn (Sim.arr_one (p := 0) rfl) fun n19 => ?_
        refine Ops.v rfl (op_build (ds := [C.val v18, C.int 0]) pl_37 ze_37 (cells_zero rfl rfl) (.one rfl (One.val n19) rfl rfl .nil) rfl) ?_
        refine Ops.hd (ns := [1]) rfl rfl (op_storeA (gs := [C.val v18, C.int 0]) ld_37 rfl rfl rfl rfl rfl) ?_
        refine Ops.nil ?_
        refine AW.ret ?_
        rw [← Option.some.inj h]
        exact ⟨[C.agg [C.val v18, C.int 0]], _, Ghost.refl _, (.cons (.cell (p := 0) rfl rfl ld_37 rfl) .nil), [1], _, _, rfl, ⟨v18, rfl, rfl⟩⟩
theorem ok_spec_LiveSet' (p0 : List TLive) (p1 : Int) (p2 : Int) (r : TLiveOut) (h : spec_LiveSet p0 p1 p2 = some r) : Ok Try.prog 22 [C.im kLive 2 p0, C.int p1, C.int p2] [] (fun c qs => c = C.agg [C.im kLive 2 r.row, C.int r.code] ∧ qs = []) :=
  Ok.freeze (ok_spec_LiveSet p0 p1 p2 r h) (by rintro c qs ⟨v20, rfl, rfl⟩; exact Frz.agg (FrzL.cons (os := [_]) (Frz.arr) (FrzL.cons (os := []) (Frz.same _) (FrzL.nil))))

def slices_Clone_impl_Live (p0 : List TLive) : Option (List TLive) := (chk (decide (p0.length * 16 ≤ 140737488355328))).bind fun _ => some p0
theorem ok_slices_Clone_impl_Live (p0 : List TLive) (r : List TLive) (h : slices_Clone_impl_Live p0 = some r) : Ok Try.prog 42 [C.im kLive 2 p0] [] (fun c qs => ∃ (v : Value), c = C.val v ∧ qs = [Obj.arr v 54 kLive 2 r]) := by
  refine ob' h fun u hc h => ?_
  obtain rfl := Option.some.inj h
  have hc := of_decide_eq_true (chk_some hc)
  refine Ok.of_body (rs := [.tmp 2]) Try.func42 rfl rfl rfl rfl rfl fun X => ?_
  refine AW.seq ?_
  refine AW.region ?_
  refine Ops.v rfl (op_assign rfl rfl) ?_
  refine Ops.nil ?_
  refine AW.seq ?_
  refine AW.seq ?_
  refine AW.region ?_
  refine Ops.v rfl (op_move rfl rfl) ?_
  refine Ops.h (ns := []) rfl rfl (op_nil_im sl_25 rfl rfl) ?_
  rintro _ _ ⟨b, hb, rfl, rfl⟩
  refine Ops.nil ?_
  refine tf' b (fun hq => ?_) (fun hq => ?_)
  · refine AW.cond rfl (fun _ => ?_) (fun hn => absurd (hq.symm.trans hn) (by decide))
    refine AW.seq ?_
    refine AW.region ?_
    refine Ops.v rfl (op_assign rfl rfl) ?_
    refine Ops.nil ?_
    refine AW.ret ?_
    obtain rfl := hb hq
    exact ⟨[C.val (.slice none 0 0)], _, Ghost.nil 54 kLive 2, .cons (.tmp rfl) .nil, [0], _, _, rfl, ⟨_, rfl, rfl⟩⟩
  · refine AW.cond rfl (fun hn => absurd (hq.symm.trans hn) (by decide)) (fun _ => ?_)
    refine AW.skip ?_
    refine AW.seq ?_
    refine AW.region ?_
    refine Ops.h (ns := []) rfl rfl (op_buildSlice (k := kLive) (ys := ([] : List TLive)) ar_25 .nil rfl rfl rfl) ?_
    rintro _ _ ⟨b1, rfl, rfl⟩
    refine Ops.v rfl (op_move rfl rfl) ?_
    refine Ops.h (ns := [0]) rfl rfl (op_append_im ar_25 rfl rfl (by simpa using hc) (by simp; omega) rfl) ?_
    rintro _ _ ⟨v, rfl, rfl⟩
    refine Ops.v rfl (op_assign rfl rfl) ?_
    refine Ops.nil ?_
    refine AW.ret ?_
    exact ⟨[C.val v], _, Ghost.refl _, .cons (.tmp rfl) .nil, [0], _, _, rfl, ⟨v, rfl, rfl⟩⟩
theorem ok_slices_Clone_impl_Live' (p0 : List TLive) (r : List TLive) (h : slices_Clone_impl_Live p0 = some r) : Ok Try.prog 42 [C.im kLive 2 p0] [] (fun c qs => c = C.im kLive 2 r ∧ qs = []) :=
  Ok.freeze (ok_slices_Clone_impl_Live p0 r h) (by rintro c qs ⟨v, rfl, rfl⟩; exact Frz.arr)

def cmp_isNaN_int64 (p0 : Int) : Option Bool := some (p0 != p0)
theorem ok_cmp_isNaN_int64 (p0 : Int) (r : Bool) (h : cmp_isNaN_int64 p0 = some r) : Ok Try.prog 55 [C.int p0] [] (fun c qs => c = C.bool r ∧ qs = []) := by
  refine Ok.of_body (rs := [.tmp 2]) Try.func55 rfl rfl rfl rfl rfl fun X => ?_
  unfold cmp_isNaN_int64 at h
  refine AW.seq ?_
  refine AW.region ?_
  refine Ops.v rfl (op_assign rfl rfl) ?_
  refine Ops.nil ?_
  refine AW.seq ?_
  refine AW.region ?_
  refine Ops.v rfl (op_move rfl rfl) ?_
  refine Ops.v rfl (op_move rfl rfl) ?_
  refine Ops.v rfl (op_bin rfl rfl rfl rfl) ?_
  refine Ops.v rfl (op_assign rfl rfl) ?_
  refine Ops.nil ?_
  refine AW.ret ?_
  rw [← Option.some.inj h]
  exact ⟨[C.bool (p0 != p0)], _, Ghost.refl _, (.cons (.tmp rfl) .nil), [], _, _, rfl, ⟨rfl, rfl⟩⟩

def cmp_Compare_int64 (p0 : Int) (p1 : Int) : Option Int := (cmp_isNaN_int64 p0).bind fun r1 => (cmp_isNaN_int64 p1).bind fun r3 => cond r1 (cond r3 (some 0) (some (-1))) (cond r3 (some 1) (cond (decide (p0 < p1)) (some (-1)) (cond (decide (p0 > p1)) (some 1) (some 0))))
theorem ok_cmp_Compare_int64 (p0 : Int) (p1 : Int) (r : Int) (h : cmp_Compare_int64 p0 p1 = some r) : Ok Try.prog 53 [C.int p0, C.int p1] [] (fun c qs => c = C.int r ∧ qs = []) := by
  refine Ok.of_body (rs := [.tmp 4]) Try.func53 rfl rfl rfl rfl rfl fun X => ?_
  unfold cmp_Compare_int64 at h
  refine AW.seq ?_
  refine AW.region ?_
  refine Ops.v rfl (op_assign rfl rfl) ?_
  refine Ops.nil ?_
  refine AW.seq ?_
  refine AW.region ?_
  refine Ops.v rfl (op_move rfl rfl) ?_
  refine ob' h fun r1 g2 h => ?_
  refine Ops.hd (ns := []) rfl rfl (op_callE (ok_cmp_isNaN_int64 _ _ g2) rfl rfl) ?_
  refine Ops.v rfl (op_assign rfl rfl) ?_
  refine Ops.nil ?_
  refine AW.seq ?_
  refine AW.region ?_
  refine Ops.v rfl (op_move rfl rfl) ?_
  refine ob' h fun r3 g4 h => ?_
  refine Ops.hd (ns := []) rfl rfl (op_callE (ok_cmp_isNaN_int64 _ _ g4) rfl rfl) ?_
  refine Ops.v rfl (op_assign rfl rfl) ?_
  refine Ops.nil ?_
  refine AW.seq ?_
  refine AW.seq ?_
  refine AW.region ?_
  refine Ops.v rfl (op_move rfl rfl) ?_
  refine Ops.nil ?_
  refine tf' (r1) (fun hb5 => ?_) (fun hb5 => ?_)
  · replace h := cond_t hb5 h
    refine AW.cond rfl (fun _ => ?_) (fun hn => absurd (hb5.symm.trans hn) (by decide))
    refine AW.seq ?_
    refine AW.seq ?_
    refine AW.region ?_
    refine Ops.v rfl (op_move rfl rfl) ?_
    refine Ops.nil ?_
    refine tf' (r3) (fun hb6 => ?_) (fun hb6 => ?_)
    · replace h := cond_t hb6 h
      refine AW.cond rfl (fun _ => ?_) (fun hn => absurd (hb6.symm.trans hn) (by decide))
      refine AW.seq ?_
      refine AW.region ?_
      refine Ops.v rfl (op_assign rfl rfl) ?_
      refine Ops.nil ?_
      refine AW.ret ?_
      rw [← Option.some.inj h]
      exact ⟨[C.int 0], _, Ghost.refl _, (.cons (.tmp rfl) .nil), [], _, _, rfl, ⟨rfl, rfl⟩⟩
    · replace h := cond_f hb6 h
      refine AW.cond rfl (fun hn => absurd (hb6.symm.trans hn) (by decide)) (fun _ => ?_)
      refine AW.skip ?_
      refine AW.seq ?_
      refine AW.region ?_
      refine Ops.v rfl (op_assign rfl rfl) ?_
      refine Ops.nil ?_
      refine AW.ret ?_
      rw [← Option.some.inj h]
      exact ⟨[C.int (-1)], _, Ghost.refl _, (.cons (.tmp rfl) .nil), [], _, _, rfl, ⟨rfl, rfl⟩⟩
  · replace h := cond_f hb5 h
    refine AW.cond rfl (fun hn => absurd (hb5.symm.trans hn) (by decide)) (fun _ => ?_)
    refine AW.skip ?_
    refine AW.seq ?_
    refine AW.seq ?_
    refine AW.region ?_
    refine Ops.v rfl (op_move rfl rfl) ?_
    refine Ops.nil ?_
    refine tf' (r3) (fun hb7 => ?_) (fun hb7 => ?_)
    · replace h := cond_t hb7 h
      refine AW.cond rfl (fun _ => ?_) (fun hn => absurd (hb7.symm.trans hn) (by decide))
      refine AW.seq ?_
      refine AW.region ?_
      refine Ops.v rfl (op_assign rfl rfl) ?_
      refine Ops.nil ?_
      refine AW.ret ?_
      rw [← Option.some.inj h]
      exact ⟨[C.int 1], _, Ghost.refl _, (.cons (.tmp rfl) .nil), [], _, _, rfl, ⟨rfl, rfl⟩⟩
    · replace h := cond_f hb7 h
      refine AW.cond rfl (fun hn => absurd (hb7.symm.trans hn) (by decide)) (fun _ => ?_)
      refine AW.skip ?_
      refine AW.seq ?_
      refine AW.seq ?_
      refine AW.region ?_
      refine Ops.v rfl (op_move rfl rfl) ?_
      refine Ops.v rfl (op_move rfl rfl) ?_
      refine Ops.v rfl (op_bin rfl rfl rfl rfl) ?_
      refine Ops.nil ?_
      refine tf' (decide (p0 < p1)) (fun hb8 => ?_) (fun hb8 => ?_)
      · replace h := cond_t hb8 h
        refine AW.cond rfl (fun _ => ?_) (fun hn => absurd (hb8.symm.trans hn) (by decide))
        refine AW.seq ?_
        refine AW.region ?_
        refine Ops.v rfl (op_assign rfl rfl) ?_
        refine Ops.nil ?_
        refine AW.ret ?_
        rw [← Option.some.inj h]
        exact ⟨[C.int (-1)], _, Ghost.refl _, (.cons (.tmp rfl) .nil), [], _, _, rfl, ⟨rfl, rfl⟩⟩
      · replace h := cond_f hb8 h
        refine AW.cond rfl (fun hn => absurd (hb8.symm.trans hn) (by decide)) (fun _ => ?_)
        refine AW.skip ?_
        refine AW.seq ?_
        refine AW.seq ?_
        refine AW.region ?_
        refine Ops.v rfl (op_move rfl rfl) ?_
        refine Ops.v rfl (op_move rfl rfl) ?_
        refine Ops.v rfl (op_bin rfl rfl rfl rfl) ?_
        refine Ops.nil ?_
        refine tf' (decide (p0 > p1)) (fun hb9 => ?_) (fun hb9 => ?_)
        · replace h := cond_t hb9 h
          refine AW.cond rfl (fun _ => ?_) (fun hn => absurd (hb9.symm.trans hn) (by decide))
          refine AW.seq ?_
          refine AW.region ?_
          refine Ops.v rfl (op_assign rfl rfl) ?_
          refine Ops.nil ?_
          refine AW.ret ?_
          rw [← Option.some.inj h]
          exact ⟨[C.int 1], _, Ghost.refl _, (.cons (.tmp rfl) .nil), [], _, _, rfl, ⟨rfl, rfl⟩⟩
        · replace h := cond_f hb9 h
          refine AW.cond rfl (fun hn => absurd (hb9.symm.trans hn) (by decide)) (fun _ => ?_)
          refine AW.skip ?_
          refine AW.seq ?_
          refine AW.region ?_
          refine Ops.v rfl (op_assign rfl rfl) ?_
          refine Ops.nil ?_
          refine AW.ret ?_
          rw [← Option.some.inj h]
          exact ⟨[C.int 0], _, Ghost.refl _, (.cons (.tmp rfl) .nil), [], _, _, rfl, ⟨rfl, rfl⟩⟩

def impl_setLive_1 (p0 : TLive) (p1 : TLive) : Option Int := (cmp_Compare_int64 p0.user p1.user).bind fun r3 => some r3
theorem ok_impl_setLive_1 (p0 : TLive) (p1 : TLive) (r : Int) (h : impl_setLive_1 p0 p1 = some r) : Ok Try.prog 52 [C.agg [C.int p0.user, C.int p0.till], C.agg [C.int p1.user, C.int p1.till]] [] (fun c qs => c = C.int r ∧ qs = []) := by
  refine Ok.of_body (rs := [.tmp 4]) Try.func52 rfl rfl rfl rfl rfl fun X => ?_
  unfold impl_setLive_1 at h
  refine AW.seq ?_
  refine AW.region ?_
  refine Ops.h (ns := []) rfl rfl (op_boxA rfl rfl) ?_
  rintro _ _ ⟨b1, rfl, rfl⟩
  refine Ops.h (ns := []) rfl rfl (op_boxA rfl rfl) ?_
  rintro _ _ ⟨b2, rfl, rfl⟩
  refine Ops.v rfl (op_assign rfl rfl) ?_
  refine Ops.nil ?_
  refine AW.seq ?_
  refine AW.region ?_
  refine Ops.v rfl (op_fieldAddr fo_54_0 rfl rfl) ?_
  refine Ops.v rfl (op_load (p := 1) ld_2 rfl rfl rfl rfl) ?_
  refine Ops.v rfl (op_fieldAddr fo_54_0 rfl rfl) ?_
  refine Ops.v rfl (op_load (p := 0) ld_2 rfl rfl rfl rfl) ?_
  refine ob' h fun r3 g4 h => ?_
  refine Ops.hd (ns := []) rfl rfl (op_callE (ok_cmp_Compare_int64 _ _ _ g4) rfl rfl) ?_
  refine Ops.v rfl (op_assign rfl rfl) ?_
  refine Ops.nil ?_
  refine AW.ret ?_
  rw [← Option.some.inj h]
  exact ⟨[C.int r3], _, Ghost.refl _, (.cons (.tmp rfl) .nil), [], _, _, rfl, ⟨rfl, rfl⟩⟩

def slices_Reverse_impl_Live_s1 (l12 : List TLive) (x13 : Int) (x14 : Int) : Option ((List TLive × Int × Int) ⊕ ((List TLive))) := cond (decide (x13 < x14)) ((getI l12 x14).bind fun e16 => (getI l12 x13).bind fun e18 => (getI (List.set l12 (Int.toNat x13) e16) x14).bind fun e24 => some (.inl ((List.set (List.set l12 (Int.toNat x13) e16) (Int.toNat x14) e18), (IntKind.i64.wrap (x13 + 1)), (IntKind.i64.wrap (x14 - 1))))) (some (.inr l12))
def slices_Reverse_impl_Live (p0 : List TLive) : Option (List TLive) := (iter (fun z26 => slices_Reverse_impl_Live_s1 z26.1 z26.2.1 z26.2.2) big (p0, 0, (IntKind.i64.wrap ((p0.length : Int) - 1)))).bind fun y27 => some y27
theorem ok_slices_Reverse_impl_Live {w00 : Value} (p0 : List TLive) (r : List TLive) (h : slices_Reverse_impl_Live p0 = some r) : Ok Try.prog 59 [C.val w00] [Obj.arr w00 54 kLive 2 p0] (fun c qs => c = C.tup [] ∧ qs = [Obj.arr w00 54 kLive 2 r]) := by
  refine Ok.of_body (rs := []) Try.func59 rfl rfl rfl rfl rfl fun X => ?_
  unfold slices_Reverse_impl_Live at h
  refine AW.seq ?_
  refine AW.region ?_
  refine Ops.v rfl (op_move rfl rfl) ?_
  refine Ops.v rfl (op_len_arr (p := 0) sl_25 rfl rfl rfl) ?_
  refine Ops.v rfl (op_bin rfl rfl rfl rfl) ?_
  refine Ops.v rfl (op_assign rfl rfl) ?_
  refine Ops.v rfl (op_assign rfl rfl) ?_
  refine Ops.nil ?_
  refine AW.block ?_
  refine ob' h fun o28 g29 q30 => ?_
  refine AW.loop (τ := List TLive × Int × Int) (x := (p0, 0, (IntKind.i64.wrap ((p0.length : Int) - 1)))) (fun (l12, x13, x14) => ⟨[(0, C.val w00), (2, C.int x13), (3, C.int x14)], [Obj.arr w00 54 kLive 2 l12]⟩) (fun k (l12, x13, x14) => iter (fun z26 => slices_Reverse_impl_Live_s1 z26.1 z26.2.1 z26.2.2) k (l12, x13, x14) = some o28) g29 (Ghost.both (ns := [0]) rfl rfl) ?_
  rintro k ⟨l12, x13, x14⟩ i32
  refine iter_succ' (show iter (fun z26 => slices_Reverse_impl_Live_s1 z26.1 z26.2.1 z26.2.2) k (l12, x13, x14) = some o28 from i32) fun k31 y33 hlt_k31 h h34 => ?_
  replace h : slices_Reverse_impl_Live_s1 l12 x13 x14 = some y33 := h
  unfold slices_Reverse_impl_Live_s1 at h
  refine AW.seq ?_
  refine AW.seq ?_
  refine AW.region ?_
  refine Ops.v rfl (op_move rfl rfl) ?_
  refine Ops.v rfl (op_move rfl rfl) ?_
  refine Ops.v rfl (op_bin rfl rfl rfl rfl) ?_
  refine Ops.nil ?_
  refine tf' (decide (x13 < x14)) (fun hb15 => ?_) (fun hb15 => ?_)
  · replace h := cond_t hb15 h
    refine AW.cond rfl (fun _ => ?_) (fun hn => absurd (hb15.symm.trans hn) (by decide))
    refine AW.skip ?_
    refine AW.seq ?_
    refine AW.block ?_
    refine AW.regionD (L := [7, 11]) (Lt := [13, 15]) (k := .light 0 false (.light 1 false (.light 2 false (.light 3 false (.light 4 false (.light 5 false (.light 6 false (.light 7 true (.light 8 false (.light 9 false (.light 10 false (.light 11 true (.light 12 false (.late 13 (.light 14 false (.late 15 (.done))))))))))))))))) (ns := [0]) (by kernel_rfl) (by kernel_rfl) (by kernel_rfl) (by kernel_rfl) rfl ?_
    refine OpsD.v rfl rfl (op_move rfl rfl) ?_
    refine OpsD.v rfl rfl (op_move rfl rfl) ?_
    refine OpsD.v rfl rfl (op_move rfl rfl) ?_
    refine OpsD.v rfl rfl (op_move rfl rfl) ?_
    refine OpsD.v rfl rfl (op_move rfl rfl) ?_
    refine OpsD.v rfl rfl (op_move rfl rfl) ?_
    refine ob' h fun e16 g17 h => ?_
    refine OpsD.v rfl rfl (op_indexAddr_arr (p := 0) sl_25 rfl rfl rfl g17 rfl) ?_
    refine OpsD.v rfl rfl (op_loadA_arr (p := 0) ld_54 rfl rfl (getI_lt g17).2.2 rfl rfl rfl) ?_
    refine OpsD.v rfl rfl (op_move rfl rfl) ?_
    refine OpsD.v rfl rfl (op_move rfl rfl) ?_
    refine ob' h fun e18 g19 h => ?_
    refine OpsD.v rfl rfl (op_indexAddr_arr (p := 0) sl_25 rfl rfl rfl g19 rfl) ?_
    refine OpsD.v rfl rfl (op_loadA_arr (p := 0) ld_54 rfl rfl (getI_lt g19).2.2 rfl rfl rfl) ?_
    refine OpsD.v rfl rfl (op_indexAddr_arr (p := 0) sl_25 rfl rfl rfl g19 rfl) ?_
    refine OpsD.late (ns := [0]) rfl rfl rfl (op_storeA_arr (e' := e16) ld_54 rfl rfl rfl (getI_lt g19).2.2 rfl rfl) ?_
    rintro _ _ ⟨rfl, rfl⟩
    refine ob' h fun e24 g25 h => ?_
    refine OpsD.rest (ns := [0]) rfl ?_
    refine OpsD.v rfl rfl (op_indexAddr_arr (p := 0) sl_25 rfl rfl rfl g25 rfl) ?_
    refine OpsD.late (ns := [0]) rfl rfl rfl (op_storeA_arr (e' := e18) ld_54 rfl rfl rfl (getI_lt g25).2.2 rfl rfl) ?_
    rintro _ _ ⟨rfl, rfl⟩
    refine OpsD.done ?_
    refine AW.region ?_
    refine Ops.v rfl (op_move rfl rfl) ?_
    refine Ops.v rfl (op_bin rfl rfl rfl rfl) ?_
    refine Ops.v rfl (op_move rfl rfl) ?_
    refine Ops.v rfl (op_bin rfl rfl rfl rfl) ?_
    refine Ops.v rfl (op_assign rfl rfl) ?_
    refine Ops.v rfl (op_assign rfl rfl) ?_
    refine Ops.nil ?_
    obtain rfl := Option.some.inj h
    exact ⟨k31, ((List.set (List.set l12 (Int.toNat x13) e16) (Int.toNat x14) e18), (IntKind.i64.wrap (x13 + 1)), (IntKind.i64.wrap (x14 - 1))), hlt_k31, h34, Ghost.both (ns := [0]) rfl rfl⟩
  · replace h := cond_f hb15 h
    refine AW.cond rfl (fun hn => absurd (hb15.symm.trans hn) (by decide)) (fun _ => ?_)
    refine AW.exit ?_
    obtain rfl := Option.some.inj h
    obtain rfl := Option.some.inj h34
    replace h := q30
    rw [← Option.some.inj h]
    exact ⟨[], _, Ghost.refl _, .nil, [0], _, _, rfl, ⟨rfl, rfl⟩⟩

def slices_Insert_impl_Live (p0 : List TLive) (p1 : Int) (p2 : List TLive) : Option (List TLive) := insI 16 p0 p1 p2
theorem ok_slices_Insert_impl_Live {w1 w2 : Value} (p0 : List TLive) (p1 : Int) (p2 : List TLive) (r : List TLive) (h : slices_Insert_impl_Live p0 p1 p2 = some r) : Ok Try.prog 54 [C.val w1, C.int p1, C.val w2] [Obj.arr w1 54 kLive 2 p0, Obj.arr w2 54 kLive 2 p2] (fun c qs => ∃ (v : Value), c = C.val v ∧ qs = [Obj.arr v 54 kLive 2 r]) := by
  obtain ⟨i, rfl, hi, hm, hb, rfl⟩ := insI_some h
  refine Ok.of_body (rs := [.tmp 6]) Try.func54 rfl rfl rfl rfl rfl fun X => ?_
  refine AW.learn (Sim.arr_cap (p := 0) rfl) fun hw => ?_
  obtain ⟨A, cap, rfl, hc, hmax, hA⟩ := hw
  have hmax0 := hmax
  simp only [maxLen] at hmax
  refine AW.seq ?_
  refine AW.region ?_
  refine Ops.v rfl (op_assign rfl rfl) ?_
  refine Ops.nil ?_
  refine AW.seq ?_
  refine AW.region ?_
  refine Ops.v rfl (op_move rfl rfl) ?_
  refine Ops.v rfl (op_move rfl rfl) ?_
  refine Ops.v rfl (op_slice_any_l sl_25 rfl rfl hi hc rfl) ?_
  refine Ops.nil ?_
  refine AW.seq ?_
  refine AW.region ?_
  refine Ops.v rfl (op_move rfl rfl) ?_
  refine Ops.v rfl (op_len_arr (p := 1) sl_25 rfl rfl rfl) ?_
  refine Ops.v rfl (op_assign rfl rfl) ?_
  refine Ops.nil ?_
  refine AW.seq ?_
  refine AW.seq ?_
  refine AW.region ?_
  refine Ops.v rfl (op_move rfl rfl) ?_
  refine Ops.v rfl (op_bin rfl rfl rfl rfl) ?_
  refine Ops.nil ?_
  refine AW.cond rfl (fun hn => absurd ((beq_false_of_ne (by omega)).symm.trans hn) (by decide)) (fun _ => ?_)
  refine AW.skip ?_
  refine AW.seq ?_
  refine AW.region ?_
  refine Ops.v rfl (op_move rfl rfl) ?_
  refine Ops.v rfl (op_len_arr (p := 0) sl_25 rfl rfl rfl) ?_
  refine Ops.v rfl (op_assign rfl rfl) ?_
  refine Ops.nil ?_
  refine AW.seq ?_
  refine AW.seq ?_
  refine AW.region ?_
  refine Ops.v rfl (op_move rfl rfl) ?_
  refine Ops.v rfl (op_move rfl rfl) ?_
  refine Ops.v rfl (op_bin rfl rfl rfl rfl) ?_
  refine Ops.nil ?_
  refine tf' (((i : Nat) : Int) == (p0.length : Int)) (fun hq => ?_) (fun hq => ?_)
  · refine AW.cond rfl (fun _ => ?_) (fun hn => absurd (hq.symm.trans hn) (by decide))
    refine AW.seq ?_
    refine AW.region ?_
    refine Ops.v rfl (op_move rfl rfl) ?_
    refine Ops.v rfl (op_move rfl rfl) ?_
    refine Ops.h (ns := [0, 0]) rfl rfl (op_append ar_25 rfl rfl hb (by omega) rfl) ?_
    rintro _ _ ⟨v, rfl, rfl⟩
    refine Ops.v rfl (op_assign rfl rfl) ?_
    refine Ops.nil ?_
    refine AW.ret ?_
    obtain rfl : i = p0.length := by have := eq_of_beq hq; omega
    rw [List.take_of_length_le (Nat.le_refl _), List.drop_of_length_le (Nat.le_refl _), List.append_nil]
    exact ⟨[C.val v], _, Ghost.refl _, .cons (.tmp rfl) .nil, [0], _, _, rfl, ⟨v, rfl, rfl⟩⟩
  · have hlt : i < p0.length := by have := ne_of_beq_false hq; omega
    obtain ⟨b, rfl⟩ := hA.resolve_left (fun e => by rw [e.1] at hlt; exact absurd hlt (Nat.not_lt_zero _))
    refine AW.ghost (Ghost.raw (p := 0) rfl) ?_
    rw [← vw_zero b 2 p0.length cap]
    refine AW.cond rfl (fun hn => absurd (hq.symm.trans hn) (by decide)) (fun _ => ?_)
    refine AW.skip ?_
    refine AW.seq ?_
    refine AW.seq ?_
    refine AW.region ?_
    refine Ops.v rfl (op_move rfl rfl) ?_
    refine Ops.v rfl (op_move rfl rfl) ?_
    refine Ops.v rfl (op_bin (r := .int .i64 ((p0.length + p2.length : Nat) : Int)) rfl rfl (binC_add (by omega) (by omega)) rfl) ?_
    refine Ops.v rfl (op_move rfl rfl) ?_
    refine Ops.v rfl (op_cap_val sl_25 rfl rfl) ?_
    refine Ops.v rfl (op_bin rfl rfl rfl rfl) ?_
    refine Ops.nil ?_
    refine tf' (decide (((p0.length + p2.length : Nat) : Int) > (cap : Int))) (fun hg => ?_) (fun hg => ?_)
    · have hg1 := of_decide_eq_true hg
      refine AW.cond rfl (fun _ => ?_) (fun hn => absurd (hg.symm.trans hn) (by decide))
      refine AW.seq ?_
      refine AW.region ?_
      refine Ops.v rfl (op_move rfl rfl) ?_
      refine Ops.v rfl (op_move rfl rfl) ?_
      refine Ops.v rfl (op_slice_vw_h sl_25 rfl rfl (by omega) (by omega) rfl) ?_
      refine Ops.v rfl (op_move rfl rfl) ?_
      refine Ops.v rfl (op_move rfl rfl) ?_
      refine Ops.v rfl (op_bin (r := .int .i64 ((p0.length + p2.length : Nat) : Int)) rfl rfl (binC_add (by omega) (by omega)) rfl) ?_
      refine Ops.v rfl (op_move rfl rfl) ?_
      refine Ops.v rfl (op_bin (r := .int .i64 ((p0.length + p2.length - i : Nat) : Int)) rfl rfl (binC_sub (by omega) (by omega)) rfl) ?_
      refine Ops.h (ns := [0]) rfl rfl (op_append_make' (N := p0.length + p2.length) (k := kLive) (z0 := (TLive.mk 0 0)) ar_25 un_3 ze_54 (cells_zero rfl rfl) rfl rfl (xs := p0.take i) (by rw [List.drop_zero, List.take_append_of_le_length (by simp; omega), List.map_take]) (by simp; omega) (by omega) (by omega) (by omega) hb (by decide) rfl) ?_
      rintro _ _ ⟨b2, c2, hc2, hm2, rfl, rfl⟩
      refine Ops.v rfl (op_assign rfl rfl) ?_
      refine Ops.nil ?_
      refine AW.seq ?_
      refine AW.region ?_
      refine Ops.v rfl (op_move rfl rfl) ?_
      refine Ops.v rfl (op_move rfl rfl) ?_
      refine Ops.v rfl (op_slice_vw_l' (o' := i) (l' := p0.length + p2.length - i) (c' := c2 - i) sl_25 rfl rfl (by omega) (by omega) (by omega) (by omega) (by omega) (by omega) rfl) ?_
      refine Ops.v rfl (op_move rfl rfl) ?_
      refine Ops.h (ns := [0, 1]) rfl rfl (op_copy_arr (xs := p2) sl_25 rfl rfl (by rw [List.take_of_length_le (by omega)]) (by simp; omega) rfl) ?_
      rintro _ _ ⟨rfl, rfl⟩
      refine Ops.nil ?_
      refine AW.seq ?_
      refine AW.regionD (L := []) (Lt := []) (k := .light 0 false (.light 1 false (.light 2 false (.light 3 false (.light 4 false (.light 5 false (.light 6 false (.light 7 false (.one 8 (.done)))))))))) (ns := []) (by kernel_rfl) (by kernel_rfl) (by kernel_rfl) (by kernel_rfl) rfl ?_
      refine OpsD.v rfl rfl (op_move rfl rfl) ?_
      refine OpsD.v rfl rfl (op_move rfl rfl) ?_
      refine OpsD.v rfl rfl (op_move rfl rfl) ?_
      refine OpsD.v rfl rfl (op_bin (r := .int .i64 ((i + p2.length : Nat) : Int)) rfl rfl (binC_add (by omega) (by omega)) rfl) ?_
      refine OpsD.v rfl rfl (op_slice_vw_l' (o' := i + p2.length) (l' := p0.length - i) (c' := c2 - (i + p2.length)) sl_25 rfl rfl (by omega) (by omega) (by omega) (by omega) (by omega) (by omega) rfl) ?_
      refine OpsD.v rfl rfl (op_move rfl rfl) ?_
      refine OpsD.v rfl rfl (op_move rfl rfl) ?_
      refine OpsD.v rfl rfl (op_slice_vw_l' (o' := i) (l' := p0.length - i) (c' := cap - i) sl_25 rfl rfl (by omega) (by omega) (by omega) (by omega) (by omega) (by omega) rfl) ?_
      refine OpsD.one ?_
      refine StepD.h (ns := [0, 1]) rfl rfl rfl (op_copy_raw (xs := p0.drop i) sl_25 rfl rfl (by rw [nmin_self, List.drop_append_of_le_length (by simp; omega), List.take_append_of_le_length (by simp), List.take_of_length_le (by simp), List.map_drop]) (by rw [nmin_self]; simp) (by simp; omega) rfl) ?_
      rintro _ _ ⟨rfl, rfl⟩
      refine OpsD.done ?_
      refine AW.seq ?_
      refine AW.region ?_
      refine Ops.v rfl (op_move rfl rfl) ?_
      refine Ops.v rfl (op_assign rfl rfl) ?_
      refine Ops.nil ?_
      refine AW.ret ?_
      obtain ⟨q1, q2, q3, q4⟩ := ins_grow (xs := p0) (ys := p2) (z := (TLive.mk 0 0)) (m := p2.length) hlt hc2 rfl _ _ rfl rfl
      exact ⟨[C.val _], _, Ghost.arr2 (p := 0) (m := p0.length + p2.length) rfl q1 (by omega) q2 (by omega) (vw_zero _ _ _ _), .cons (.tmp rfl) .nil, [0], _, _, rfl, ⟨_, rfl, rfl⟩⟩
    · have hg1 := of_decide_eq_false hg
      refine AW.cond rfl (fun hn => absurd (hg.symm.trans hn) (by decide)) (fun _ => ?_)
      refine AW.skip ?_
      refine AW.seq ?_
      refine AW.region ?_
      refine Ops.v rfl (op_move rfl rfl) ?_
      refine Ops.v rfl (op_move rfl rfl) ?_
      refine Ops.v rfl (op_move rfl rfl) ?_
      refine Ops.v rfl (op_bin (r := .int .i64 ((p0.length + p2.length : Nat) : Int)) rfl rfl (binC_add (by omega) (by omega)) rfl) ?_
      refine Ops.v rfl (op_slice_vw_h sl_25 rfl rfl (by omega) (by omega) rfl) ?_
      refine Ops.v rfl (op_assign rfl rfl) ?_
      refine Ops.nil ?_
      refine AW.seq ?_
      refine AW.seq ?_
      refine AW.region ?_
      refine Ops.v rfl (op_move rfl rfl) ?_
      refine Ops.v rfl (op_move rfl rfl) ?_
      refine Ops.v rfl (op_move rfl rfl) ?_
      refine Ops.v rfl (op_move rfl rfl) ?_
      refine Ops.v rfl (op_bin (r := .int .i64 ((i + p2.length : Nat) : Int)) rfl rfl (binC_add (by omega) (by omega)) rfl) ?_
      refine Ops.v rfl (op_slice_vw_l' (o' := i + p2.length) (l' := p0.length - i) (c' := cap - (i + p2.length)) sl_25 rfl rfl (by omega) (by omega) (by omega) (by omega) (by omega) (by omega) rfl) ?_
      refine Ops.h (ns := [0, 0]) rfl rfl (op_overlaps (tR := 4) (k := kLive) (zs := p2) (ys := p0.map some ++ List.replicate (cap - p0.length) none) ar_25 Try.func56 rfl rfl (by kernel_rfl) (by kernel_rfl) rfl rfl (by intro e; rw [e] at hm; exact absurd hm (by decide)) (by intro e; have := congrArg List.length e; simp at this; omega) rfl) ?_
      rintro _ _ ⟨rfl, rfl⟩
      refine Ops.v rfl (op_not rfl rfl) ?_
      refine Ops.nil ?_
      refine AW.cond rfl (fun _ => ?_) (fun hn => absurd hn (by decide))
      refine AW.seq ?_
      refine AW.regionD (L := []) (Lt := []) (k := .light 0 false (.light 1 false (.light 2 false (.light 3 false (.light 4 false (.light 5 false (.light 6 false (.light 7 false (.one 8 (.done)))))))))) (ns := []) (by kernel_rfl) (by kernel_rfl) (by kernel_rfl) (by kernel_rfl) rfl ?_
      refine OpsD.v rfl rfl (op_move rfl rfl) ?_
      refine OpsD.v rfl rfl (op_move rfl rfl) ?_
      refine OpsD.v rfl rfl (op_move rfl rfl) ?_
      refine OpsD.v rfl rfl (op_bin (r := .int .i64 ((i + p2.length : Nat) : Int)) rfl rfl (binC_add (by omega) (by omega)) rfl) ?_
      refine OpsD.v rfl rfl (op_slice_vw_l' (o' := i + p2.length) (l' := p0.length - i) (c' := cap - (i + p2.length)) sl_25 rfl rfl (by omega) (by omega) (by omega) (by omega) (by omega) (by omega) rfl) ?_
      refine OpsD.v rfl rfl (op_move rfl rfl) ?_
      refine OpsD.v rfl rfl (op_move rfl rfl) ?_
      refine OpsD.v rfl rfl (op_slice_vw_l' (o' := i) (l' := p0.length + p2.length - i) (c' := cap - i) sl_25 rfl rfl (by omega) (by omega) (by omega) (by omega) (by omega) (by omega) rfl) ?_
      refine OpsD.one ?_
      refine StepD.h (ns := [0]) rfl rfl rfl (op_copy_self (xs := p0.drop i) sl_25 rfl rfl (by rw [nmin_right (by omega), List.drop_append_of_le_length (by simp; omega), List.take_append_of_le_length (by simp), List.take_of_length_le (by simp), List.map_drop]) (by rw [nmin_right (by omega)]; simp) (by simp; omega) rfl) ?_
      rintro _ _ ⟨rfl, rfl⟩
      refine OpsD.done ?_
      refine AW.seq ?_
      refine AW.region ?_
      refine Ops.v rfl (op_move rfl rfl) ?_
      refine Ops.v rfl (op_move rfl rfl) ?_
      refine Ops.v rfl (op_slice_vw_l' (o' := i) (l' := p0.length + p2.length - i) (c' := cap - i) sl_25 rfl rfl (by omega) (by omega) (by omega) (by omega) (by omega) (by omega) rfl) ?_
      refine Ops.v rfl (op_move rfl rfl) ?_
      refine Ops.h (ns := [0, 0]) rfl rfl (op_copy_arr (xs := p2) sl_25 rfl rfl (by rw [List.take_of_length_le (by omega)]) (by simp; omega) rfl) ?_
      rintro _ _ ⟨rfl, rfl⟩
      refine Ops.nil ?_
      refine AW.seq ?_
      refine AW.region ?_
      refine Ops.v rfl (op_move rfl rfl) ?_
      refine Ops.v rfl (op_assign rfl rfl) ?_
      refine Ops.nil ?_
      refine AW.ret ?_
      obtain ⟨q1, q2, q3, q4⟩ := ins_room (xs := p0) (ys := p2) (m := p2.length) (c := cap) hlt (by omega) rfl _ _ rfl rfl
      exact ⟨[C.val _], _, Ghost.arr2 (p := 0) (m := p0.length + p2.length) (c := cap) rfl q1 (by omega) q2 hmax0 (vw_zero _ _ _ _), .cons (.tmp rfl) .nil, [0], _, _, rfl, ⟨_, rfl, rfl⟩⟩
theorem ok_slices_Insert_impl_Live' {w1 w2 : Value} (p0 : List TLive) (p1 : Int) (p2 : List TLive) (r : List TLive) (h : slices_Insert_impl_Live p0 p1 p2 = some r) : Ok Try.prog 54 [C.val w1, C.int p1, C.val w2] [Obj.arr w1 54 kLive 2 p0, Obj.arr w2 54 kLive 2 p2] (fun c qs => c = C.im kLive 2 r ∧ qs = []) :=
  Ok.freeze (ok_slices_Insert_impl_Live p0 p1 p2 r h) (by rintro c qs ⟨v, rfl, rfl⟩; exact Frz.arr)

def slices_BinarySearchFunc_impl_Live_impl_setLive_1_j1 (x25 : Int) (x26 : Bool) : Option (Int × Bool) := some (x25, x26)
def slices_BinarySearchFunc_impl_Live_impl_setLive_1_j2 (p0 : List TLive) (x16 : Int) (x17 : Int) (x18 : Int) (x19 : Int) : Option (Int × Bool) := cond (decide (x19 < x18)) ((getI p0 x19).bind fun e21 => (impl_setLive_1 e21 (TLive.mk x16 x17)).bind fun r23 => slices_BinarySearchFunc_impl_Live_impl_setLive_1_j1 x19 (r23 == 0)) (slices_BinarySearchFunc_impl_Live_impl_setLive_1_j1 x19 false)
def slices_BinarySearchFunc_impl_Live_impl_setLive_1_s3 (p0 : List TLive) (p1 : TLive) (x8 : Int) (x9 : Int) : Option ((Int × Int) ⊕ ((Int × Int × Int × Int))) := cond (decide (x8 < x9)) ((getI p0 (IntKind.i64.wrap (shrI .u64 (IntKind.u64.wrap (IntKind.i64.wrap (x8 + x9))) 1))).bind fun e11 => (impl_setLive_1 e11 p1).bind fun r13 => cond (decide (r13 < 0)) (some (.inl ((IntKind.i64.wrap ((IntKind.i64.wrap (shrI .u64 (IntKind.u64.wrap (IntKind.i64.wrap (x8 + x9))) 1)) + 1)), x9))) (some (.inl (x8, (IntKind.i64.wrap (shrI .u64 (IntKind.u64.wrap (IntKind.i64.wrap (x8 + x9))) 1)))))) (some (.inr (p1.user, p1.till, (p0.length : Int), x8)))
def slices_BinarySearchFunc_impl_Live_impl_setLive_1 (p0 : List TLive) (p1 : TLive) : Option (Int × Bool) := (iter (fun z27 => slices_BinarySearchFunc_impl_Live_impl_setLive_1_s3 p0 p1 z27.1 z27.2) big (0, (p0.length : Int))).bind fun (y28, y29, y30, y31) => slices_BinarySearchFunc_impl_Live_impl_setLive_1_j2 p0 y28 y29 y30 y31
theorem ok_slices_BinarySearchFunc_impl_Live_impl_setLive_1 (p0 : List TLive) (p1 : TLive) (r : Int × Bool) (h : slices_BinarySearchFunc_impl_Live_impl_setLive_1 p0 p1 = some r) : Ok Try.prog 51 [C.im kLive 2 p0, C.agg [C.int p1.user, C.int p1.till], C.val (.func (.func 52) #[] #[])] [] (fun c qs => c = C.tup [C.int r.1, C.bool r.2] ∧ qs = []) := by
  refine Ok.of_body (rs := [.tmp 6, .tmp 7]) Try.func51 rfl rfl rfl rfl rfl fun X => ?_
  unfold slices_BinarySearchFunc_impl_Live_impl_setLive_1 at h
  refine AW.seq ?_
  refine AW.region ?_
  refine Ops.h (ns := []) rfl rfl (op_boxA rfl rfl) ?_
  rintro _ _ ⟨b1, rfl, rfl⟩
  refine Ops.v rfl (op_assign rfl rfl) ?_
  refine Ops.v rfl (op_assign rfl rfl) ?_
  refine Ops.nil ?_
  refine AW.seq ?_
  refine AW.region ?_
  refine Ops.v rfl (op_move rfl rfl) ?_
  refine Ops.v rfl (op_len_im sl_25 rfl rfl) ?_
  refine Ops.v rfl (op_assign rfl rfl) ?_
  refine Ops.nil ?_
  refine AW.seq ?_
  refine AW.region ?_
  refine Ops.v rfl (op_move rfl rfl) ?_
  refine Ops.v rfl (op_assign rfl rfl) ?_
  refine Ops.v rfl (op_assign rfl rfl) ?_
  refine Ops.nil ?_
  refine AW.seq ?_
  refine AW.cut (τ := Int × Int × Int × Int) (fun (x16, x17, x18, x19) => ⟨[(0, C.im kLive 2 p0), (2, C.val (.func (.func 52) #[] #[])), (4, C.val (.pointer (some ⟨b1, 0, none⟩))), (8, C.int x18), (9, C.int x19)], [Obj.box b1 54 [C.int x16, C.int x17]]⟩) (fun (x16, x17, x18, x19) => slices_BinarySearchFunc_impl_Live_impl_setLive_1_j2 p0 x16 x17 x18 x19 = some r) ?_ ?_
  · refine AW.block ?_
    refine ob' h fun o32 g33 q34 => ?_
    refine AW.loop (τ := Int × Int) (x := (0, (p0.length : Int))) (fun (x8, x9) => ⟨[(0, C.im kLive 2 p0), (2, C.val (.func (.func 52) #[] #[])), (4, C.val (.pointer (some ⟨b1, 0, none⟩))), (8, C.int (p0.length : Int)), (9, C.int x8), (10, C.int x9)], [Obj.box b1 54 [C.int p1.user, C.int p1.till]]⟩) (fun k (x8, x9) => iter (fun z27 => slices_BinarySearchFunc_impl_Live_impl_setLive_1_s3 p0 p1 z27.1 z27.2) k (x8, x9) = some o32) g33 (Ghost.both (ns := [0]) rfl rfl) ?_
    rintro k ⟨x8, x9⟩ i36
    refine iter_succ' (show iter (fun z27 => slices_BinarySearchFunc_impl_Live_impl_setLive_1_s3 p0 p1 z27.1 z27.2) k (x8, x9) = some o32 from i36) fun k35 y37 hlt_k35 h h38 => ?_
    replace h : slices_BinarySearchFunc_impl_Live_impl_setLive_1_s3 p0 p1 x8 x9 = some y37 := h
    unfold slices_BinarySearchFunc_impl_Live_impl_setLive_1_s3 at h
    refine AW.seq ?_
    refine AW.seq ?_
    refine AW.region ?_
    refine Ops.v rfl (op_move rfl rfl) ?_
    refine Ops.v rfl (op_move rfl rfl) ?_
    refine Ops.v rfl (op_bin rfl rfl rfl rfl) ?_
    refine Ops.nil ?_
    refine tf' (decide (x8 < x9)) (fun hb10 => ?_) (fun hb10 => ?_)
    · replace h := cond_t hb10 h
      refine AW.cond rfl (fun _ => ?_) (fun hn => absurd (hb10.symm.trans hn) (by decide))
      refine AW.skip ?_
      refine AW.block ?_
      refine AW.seq ?_
      refine AW.region ?_
      refine Ops.v rfl (op_move rfl rfl) ?_
      refine Ops.v rfl (op_move rfl rfl) ?_
      refine Ops.v rfl (op_bin rfl rfl rfl rfl) ?_
      refine Ops.v rfl (op_conv un_3 un_75 rfl rfl) ?_
      refine Ops.v rfl (op_shift rfl rfl rfl rfl) ?_
      refine Ops.v rfl (op_conv un_75 un_3 rfl rfl) ?_
      refine Ops.v rfl (op_assign rfl rfl) ?_
      refine Ops.nil ?_
      refine AW.seq ?_
      refine AW.regionD (L := [4, 5]) (Lt := []) (k := .light 0 false (.light 1 false (.light 2 false (.light 3 false (.light 4 true (.light 5 true (.one 6 (.light 7 false .done)))))))) (ns := [0]) (by kernel_rfl) (by kernel_rfl) (by kernel_rfl) (by kernel_rfl) rfl ?_
      refine OpsD.v rfl rfl (op_move rfl rfl) ?_
      refine OpsD.v rfl rfl (op_move rfl rfl) ?_
      refine OpsD.v rfl rfl (op_move rfl rfl) ?_
      refine ob' h fun e11 g12 h => ?_
      refine OpsD.v rfl rfl (op_indexAddr_im sl_25 rfl rfl g12 rfl) ?_
      refine OpsD.v rfl rfl (op_load_ipA ld_54 rfl rfl rfl rfl) ?_
      refine OpsD.v rfl rfl (op_loadA (p := 0) (ds := [C.int p1.user, C.int p1.till]) ld_54 rfl rfl rfl rfl rfl) ?_
      refine OpsD.one ?_
      refine ob' h fun r13 g14 h => ?_
      refine StepD.h (ns := []) rfl rfl rfl (op_callV (cs := [_, _]) rfl rfl (ok_impl_setLive_1 _ _ _ g14) rfl rfl) ?_
      rintro _ _ ⟨_, ⟨rfl, rfl⟩, rfl⟩
      refine OpsD.v rfl rfl (op_bin rfl rfl rfl rfl) ?_
      refine OpsD.done ?_
      refine tf' (decide (r13 < 0)) (fun hb15 => ?_) (fun hb15 => ?_)
      · replace h := cond_t hb15 h
        refine AW.cond rfl (fun _ => ?_) (fun hn => absurd (hb15.symm.trans hn) (by decide))
        refine AW.region ?_
        refine Ops.v rfl (op_move rfl rfl) ?_
        refine Ops.v rfl (op_bin rfl rfl rfl rfl) ?_
        refine Ops.v rfl (op_assign rfl rfl) ?_
        refine Ops.nil ?_
        obtain rfl := Option.some.inj h
        exact ⟨k35, ((IntKind.i64.wrap ((IntKind.i64.wrap (shrI .u64 (IntKind.u64.wrap (IntKind.i64.wrap (x8 + x9))) 1)) + 1)), x9), hlt_k35, h38, Ghost.both (ns := [0]) rfl rfl⟩
      · replace h := cond_f hb15 h
        refine AW.cond rfl (fun hn => absurd (hb15.symm.trans hn) (by decide)) (fun _ => ?_)
        refine AW.region ?_
        refine Ops.v rfl (op_move rfl rfl) ?_
        refine Ops.v rfl (op_assign rfl rfl) ?_
        refine Ops.nil ?_
        obtain rfl := Option.some.inj h
        exact ⟨k35, (x8, (IntKind.i64.wrap (shrI .u64 (IntKind.u64.wrap (IntKind.i64.wrap (x8 + x9))) 1))), hlt_k35, h38, Ghost.both (ns := [0]) rfl rfl⟩
    · replace h := cond_f hb10 h
      refine AW.cond rfl (fun hn => absurd (hb10.symm.trans hn) (by decide)) (fun _ => ?_)
      refine AW.exit ?_
      obtain rfl := Option.some.inj h
      obtain rfl := Option.some.inj h38
      replace h := q34
      exact ⟨(p1.user, p1.till, (p0.length : Int), x8), h, Ghost.both (ns := [0]) rfl rfl⟩
  · rintro ⟨x16, x17, x18, x19⟩ h
    replace h : slices_BinarySearchFunc_impl_Live_impl_setLive_1_j2 p0 x16 x17 x18 x19 = some r := h
    unfold slices_BinarySearchFunc_impl_Live_impl_setLive_1_j2 at h
    refine AW.seq ?_
    refine AW.cut (τ := Int × Bool) (fun (x25, x26) => ⟨[(6, C.int x25), (7, C.bool x26)], []⟩) (fun (x25, x26) => slices_BinarySearchFunc_impl_Live_impl_setLive_1_j1 x25 x26 = some r) ?_ ?_
    · refine AW.regionD (L := [9, 10]) (Lt := []) (k := .light 0 false (.light 1 false (.light 2 false (.light 3 false (.light 4 false (.light 5 false (.light 6 false (.light 7 false (.light 8 false (.light 9 true (.light 10 true (.one 11 (.light 12 false (.light 13 false (.light 14 false (.light 15 false .done)))))))))))))))) (ns := [0]) (by kernel_rfl) (by kernel_rfl) (by kernel_rfl) (by kernel_rfl) rfl ?_
      refine OpsD.v rfl rfl (op_move rfl rfl) ?_
      refine OpsD.v rfl rfl (op_move rfl rfl) ?_
      refine OpsD.v rfl rfl (op_move rfl rfl) ?_
      refine OpsD.v rfl rfl (op_bin rfl rfl rfl rfl) ?_
      refine OpsD.v rfl rfl (op_move rfl rfl) ?_
      refine tf' (decide (x19 < x18)) (fun hb20 => ?_) (fun hb20 => ?_)
      · replace h := cond_t hb20 h
        refine OpsD.gv rfl rfl rfl rfl rfl hb20 (op_move rfl rfl) ?_
        refine OpsD.gv rfl rfl rfl rfl rfl hb20 (op_move rfl rfl) ?_
        refine OpsD.gv rfl rfl rfl rfl rfl hb20 (op_move rfl rfl) ?_
        refine ob' h fun e21 g22 h => ?_
        refine OpsD.gv rfl rfl rfl rfl rfl hb20 (op_indexAddr_im sl_25 rfl rfl g22 rfl) ?_
        refine OpsD.gv rfl rfl rfl rfl rfl hb20 (op_load_ipA ld_54 rfl rfl rfl rfl) ?_
        refine OpsD.gv rfl rfl rfl rfl rfl hb20 (op_loadA (p := 0) (ds := [C.int x16, C.int x17]) ld_54 rfl rfl rfl rfl rfl) ?_
        refine OpsD.one ?_
        refine ob' h fun r23 g24 h => ?_
        refine StepD.gh (ns := []) rfl rfl rfl rfl rfl hb20 rfl (op_callV (cs := [_, _]) rfl rfl (ok_impl_setLive_1 _ _ _ g24) rfl rfl) ?_
        rintro _ _ ⟨_, ⟨rfl, rfl⟩, rfl⟩
        refine OpsD.gv rfl rfl rfl rfl rfl hb20 (op_bin rfl rfl rfl rfl) ?_
        refine OpsD.v rfl rfl (op_pick_t rfl hb20 rfl rfl) ?_
        refine OpsD.v rfl rfl (op_assign rfl rfl) ?_
        refine OpsD.v rfl rfl (op_assign rfl rfl) ?_
        refine OpsD.done ?_
        exact ⟨(x19, (r23 == 0)), h, Ghost.both (ns := []) rfl rfl⟩
      · replace h := cond_f hb20 h
        refine OpsD.gs rfl rfl rfl rfl (.b rfl hb20) rfl rfl ?_
        refine OpsD.gs rfl rfl rfl rfl (.b rfl hb20) rfl rfl ?_
        refine OpsD.gs rfl rfl rfl rfl (.b rfl hb20) rfl rfl ?_
        refine OpsD.gs rfl rfl rfl rfl (.b rfl hb20) rfl rfl ?_
        refine OpsD.gs rfl rfl rfl rfl (.b rfl hb20) rfl rfl ?_
        refine OpsD.gs rfl rfl rfl rfl (.b rfl hb20) rfl rfl ?_
        refine OpsD.one ?_
        refine StepD.gs rfl rfl rfl rfl (.b rfl hb20) rfl rfl ?_
        refine OpsD.gs rfl rfl rfl rfl (.b rfl hb20) rfl rfl ?_
        refine OpsD.v rfl rfl (op_pick_f rfl hb20 rfl rfl) ?_
        refine OpsD.v rfl rfl (op_assign rfl rfl) ?_
        refine OpsD.v rfl rfl (op_assign rfl rfl) ?_
        refine OpsD.done ?_
        exact ⟨(x19, false), h, Ghost.both (ns := []) rfl rfl⟩
    · rintro ⟨x25, x26⟩ h
      replace h : slices_BinarySearchFunc_impl_Live_impl_setLive_1_j1 x25 x26 = some r := h
      unfold slices_BinarySearchFunc_impl_Live_impl_setLive_1_j1 at h
      refine AW.ret ?_
      rw [← Option.some.inj h]
      exact ⟨[C.int x25, C.bool x26], _, Ghost.refl _, (.cons (.tmp rfl) (.cons (.tmp rfl) .nil)), [], _, _, rfl, ⟨rfl, rfl⟩⟩

def impl_setLive (p0 : List TLive) (p1 : TLive) : Option (List TLive) := (slices_BinarySearchFunc_impl_Live_impl_setLive_1 p0 p1).bind fun r2 => cond r2.2 ((getI p0 r2.1).bind fun e5 => some (List.set p0 (Int.toNat r2.1) (TLive.mk e5.user (if p1.till > e5.till then p1.till else e5.till)))) ((slices_Insert_impl_Live p0 r2.1 [p1]).bind fun r8 => some r8)
theorem ok_impl_setLive {w00 : Value} (p0 : List TLive) (p1 : TLive) (r : List TLive) (h : impl_setLive p0 p1 = some r) : Ok Try.prog 41 [C.val w00, C.agg [C.int p1.user, C.int p1.till]] [Obj.arr w00 54 kLive 2 p0] (fun c qs => ∃ (v11 : Value), c = C.val v11 ∧ qs = [Obj.arr v11 54 kLive 2 r]) := by
  refine Ok.of_body (rs := [.tmp 4]) Try.func41 rfl rfl rfl rfl rfl fun X => ?_
  unfold impl_setLive at h
  refine AW.seq ?_
  refine AW.region ?_
  refine Ops.h (ns := []) rfl rfl (op_boxA rfl rfl) ?_
  rintro _ _ ⟨b1, rfl, rfl⟩
  refine Ops.v rfl (op_assign rfl rfl) ?_
  refine Ops.nil ?_
  refine AW.seq ?_
  refine AW.region ?_
  refine Ops.v rfl (op_move rfl rfl) ?_
  refine Ops.v rfl (op_loadA (p := 0) (ds := [C.int p1.user, C.int p1.till]) ld_54 rfl rfl rfl rfl rfl) ?_
  refine ob' h fun r2 g3 h => ?_
  refine Ops.hd (ns := [1]) rfl rfl (op_callE (Ok.lendE (ok_slices_BinarySearchFunc_impl_Live_impl_setLive_1 _ p1 _ g3) (FrzT.cons (os := [_]) Frz.arr (FrzT.cons (os := []) (Frz.same _) (FrzT.cons (os := []) (Frz.same _) (FrzT.nil)))) (PlainC.tup (PlainCs.cons (PlainC.val _) (PlainCs.cons (PlainC.val _) (PlainCs.nil))))) rfl rfl) ?_
  refine Ops.v rfl (op_move rfl rfl) ?_
  refine Ops.v rfl (op_extract rfl rfl rfl) ?_
  refine Ops.v rfl (op_extract rfl rfl rfl) ?_
  refine Ops.v rfl (op_assign rfl rfl) ?_
  refine Ops.v rfl (op_assign rfl rfl) ?_
  refine Ops.nil ?_
  refine AW.seq ?_
  refine AW.seq ?_
  refine AW.region ?_
  refine Ops.v rfl (op_move rfl rfl) ?_
  refine Ops.nil ?_
  refine tf' (r2.2) (fun hb4 => ?_) (fun hb4 => ?_)
  · replace h := cond_t hb4 h
    refine AW.cond rfl (fun _ => ?_) (fun hn => absurd (hb4.symm.trans hn) (by decide))
    refine AW.seq ?_
    refine AW.regionD (L := [6, 8]) (Lt := [12]) (k := .light 0 false (.light 1 false (.light 2 false (.light 3 false (.light 4 false (.light 5 false (.light 6 true (.light 7 false (.light 8 true (.light 9 false (.light 10 false (.light 11 false (.late 12 (.done)))))))))))))) (ns := [0, 0]) (by kernel_rfl) (by kernel_rfl) (by kernel_rfl) (by kernel_rfl) rfl ?_
    refine OpsD.v rfl rfl (op_move rfl rfl) ?_
    refine OpsD.v rfl rfl (op_move rfl rfl) ?_
    refine OpsD.v rfl rfl (op_move rfl rfl) ?_
    refine OpsD.v rfl rfl (op_move rfl rfl) ?_
    refine ob' h fun e5 g6 h => ?_
    refine OpsD.v rfl rfl (op_indexAddr_arr (p := 0) sl_25 rfl rfl rfl g6 rfl) ?_
    refine OpsD.v rfl rfl (op_fieldAddr_arr (p := 0) fo_54_1 rfl rfl (getI_lt g6).2.2 rfl) ?_
    refine OpsD.v rfl rfl (op_load_arr (p := 0) ld_2 rfl rfl (getI_lt g6).2.2 rfl rfl) ?_
    refine OpsD.v rfl rfl (op_fieldAddr fo_54_1 rfl rfl) ?_
    refine OpsD.v rfl rfl (op_load (p := 1) ld_2 rfl rfl rfl rfl) ?_
    refine OpsD.v rfl rfl (op_max rfl rfl rfl) ?_
    refine OpsD.v rfl rfl (op_indexAddr_arr (p := 0) sl_25 rfl rfl rfl g6 rfl) ?_
    refine OpsD.v rfl rfl (op_fieldAddr_arr (p := 0) fo_54_1 rfl rfl (getI_lt g6).2.2 rfl) ?_
    refine OpsD.late (ns := [0]) rfl rfl rfl (op_store_arr (e' := (TLive.mk e5.user (if p1.till > e5.till then p1.till else e5.till))) ld_2 rfl rfl (One.val rfl) (getI_lt g6).2.2 rfl rfl) ?_
    rintro _ _ ⟨rfl, rfl⟩
    refine OpsD.done ?_
    refine AW.seq ?_
    refine AW.region ?_
    refine Ops.v rfl (op_move rfl rfl) ?_
    refine Ops.v rfl (op_assign rfl rfl) ?_
    refine Ops.nil ?_
    refine AW.ret ?_
    rw [← Option.some.inj h]
    exact ⟨[C.val w00], _, Ghost.refl _, (.cons (.tmp rfl) .nil), [0], _, _, rfl, ⟨w00, rfl, rfl⟩⟩
  · replace h := cond_f hb4 h
    refine AW.cond rfl (fun hn => absurd (hb4.symm.trans hn) (by decide)) (fun _ => ?_)
    refine AW.skip ?_
    refine AW.seq ?_
    refine AW.region ?_
    refine Ops.v rfl (op_move rfl rfl) ?_
    refine Ops.v rfl (op_move rfl rfl) ?_
    refine Ops.v rfl (op_loadA (p := 1) (ds := [C.int p1.user, C.int p1.till]) ld_54 rfl rfl rfl rfl rfl) ?_
    refine Ops.h (ns := []) rfl rfl (op_buildSlice (k := kLive) (ys := [p1]) ar_25 (.agg rfl rfl .nil) rfl rfl rfl) ?_
    rintro _ _ ⟨b7, rfl, rfl⟩
    refine ob' h fun r8 g9 h => ?_
    refine Ops.h (ns := [1, 0]) rfl rfl (op_call (ok_slices_Insert_impl_Live _ _ _ _ g9) rfl rfl) ?_
    rintro _ _ ⟨_, ⟨v10, rfl, rfl⟩, rfl⟩
    refine Ops.v rfl (op_assign rfl rfl) ?_
    refine Ops.nil ?_
    refine AW.ret ?_
    rw [← Option.some.inj h]
    exact ⟨[C.val v10], _, Ghost.refl _, (.cons (.tmp rfl) .nil), [0], _, _, rfl, ⟨v10, rfl, rfl⟩⟩
theorem ok_impl_setLive' {w00 : Value} (p0 : List TLive) (p1 : TLive) (r : List TLive) (h : impl_setLive p0 p1 = some r) : Ok Try.prog 41 [C.val w00, C.agg [C.int p1.user, C.int p1.till]] [Obj.arr w00 54 kLive 2 p0] (fun c qs => c = C.im kLive 2 r ∧ qs = []) :=
  Ok.freeze (ok_impl_setLive p0 p1 r h) (by rintro c qs ⟨v11, rfl, rfl⟩; exact Frz.arr)

def impl_LiveSet_j1 (p0 : List TLive) (x11 : Int) (x12 : Int) (x13 : Int) (x14 : Bool) : Option TLiveOut := cond x14 (some (TLiveOut.mk [] 1)) ((slices_Clone_impl_Live p0).bind fun r16 => (impl_setLive r16 (TLive.mk x11 x12)).bind fun r19 => some (TLiveOut.mk r19 0))
def impl_LiveSet (p0 : List TLive) (p1 : Int) (p2 : Int) : Option TLiveOut := cond (decide ((p0.length : Int) > 400)) (some (TLiveOut.mk [] 2)) ((impl_LiveRight p0).bind fun r3 => cond r3 ((impl_isUser p1).bind fun r6 => cond r6 ((impl_isTime p2).bind fun r9 => impl_LiveSet_j1 p0 p1 p2 0 (!r9)) (impl_LiveSet_j1 p0 p1 p2 0 true)) (impl_LiveSet_j1 p0 p1 p2 0 true))
theorem ok_impl_LiveSet (p0 : List TLive) (p1 : Int) (p2 : Int) (r : TLiveOut) (h : impl_LiveSet p0 p1 p2 = some r) : Ok Try.prog 23 [C.im kLive 2 p0, C.int p1, C.int p2] [] (fun c qs => ∃ (v23 : Value), c = C.agg [C.val v23, C.int r.code] ∧ qs = [Obj.arr v23 54 kLive 2 r.row]) := by
  refine Ok.of_body (rs := [.cell 6 37]) Try.func23 rfl rfl rfl rfl rfl fun X => ?_
  unfold impl_LiveSet at h
  refine AW.seq ?_
  refine AW.region ?_
  refine Ops.h (ns := []) rfl rfl (op_alloc (cs := [C.val (.slice none 0 0), C.int 0]) ze_37 (cells_zero rfl rfl) rfl) ?_
  rintro _ _ ⟨b1, rfl, rfl⟩
  refine Ops.nil ?_
  refine AW.seq ?_
  refine AW.block ?_
  refine AW.seq ?_
  refine AW.region ?_
  refine Ops.v rfl (op_move rfl rfl) ?_
  refine Ops.v rfl (op_len_im sl_25 rfl rfl) ?_
  refine Ops.v rfl (op_bin rfl rfl rfl rfl) ?_
  refine Ops.v rfl (op_assign rfl rfl) ?_
  refine Ops.nil ?_
  refine tf' (decide ((p0.length : Int) > 400)) (fun hb2 => ?_) (fun hb2 => ?_)
  · replace h := cond_t hb2 h
    refine AW.cond rfl (fun _ => ?_) (fun hn => absurd (hb2.symm.trans hn) (by decide))
    refine AW.seq ?_
    refine AW.region ?_
    refine Ops.v rfl (op_build (ds := [C.val (.slice none 0 0), C.int 2]) pl_37 ze_37 (cells_zero rfl rfl) (.one rfl (One.val rfl) rfl rfl .nil) rfl) ?_
    refine Ops.hd (ns := [0]) rfl rfl (op_storeA (gs := [C.val (.slice none 0 0), C.int 2]) ld_37 rfl rfl rfl rfl rfl) ?_
    refine Ops.nil ?_
    refine AW.ret ?_
    rw [← Option.some.inj h]
    exact ⟨[C.agg [C.val (.slice none 0 0), C.int 2]], _, Ghost.nil 54 kLive 2, (.cons (.cell (p := 1) rfl rfl ld_37 rfl) .nil), [0], _, _, rfl, ⟨(.slice none 0 0), rfl, rfl⟩⟩
  · replace h := cond_f hb2 h
    refine AW.cond rfl (fun hn => absurd (hb2.symm.trans hn) (by decide)) (fun _ => ?_)
    refine AW.seq ?_
    refine AW.cut (τ := Int × Int × Int × Bool) (fun (x11, x12, x13, x14) => ⟨[(0, C.im kLive 2 p0), (1, C.int x11), (2, C.int x12), (6, C.val (.pointer (some ⟨b1, 0, none⟩))), (12, C.bool x14)], [Obj.box b1 37 [C.val (.slice none 0 0), C.int x13]]⟩) (fun (x11, x12, x13, x14) => impl_LiveSet_j1 p0 x11 x12 x13 x14 = some r) ?_ ?_
    · refine AW.region ?_
      refine Ops.v rfl (op_move rfl rfl) ?_
      refine ob' h fun r3 g4 h => ?_
      refine Ops.hd (ns := []) rfl rfl (op_callE (ok_impl_LiveRight _ _ g4) rfl rfl) ?_
      refine Ops.v rfl (op_not rfl rfl) ?_
      refine Ops.v rfl (op_move rfl rfl) ?_
      refine tf' (r3) (fun hb5 => ?_) (fun hb5 => ?_)
      · replace h := cond_t hb5 h
        refine Ops.gv rfl rfl rfl rfl (not_t hb5) (op_move rfl rfl) ?_
        refine ob' h fun r6 g7 h => ?_
        refine Ops.ghd (ns := []) rfl rfl rfl rfl (not_t hb5) rfl (op_callE (ok_impl_isUser _ _ g7) rfl rfl) ?_
        refine Ops.gv rfl rfl rfl rfl (not_t hb5) (op_not rfl rfl) ?_
        refine Ops.v rfl (op_pick_f rfl (not_t hb5) rfl rfl) ?_
        refine Ops.v rfl (op_move rfl rfl) ?_
        refine tf' (r6) (fun hb8 => ?_) (fun hb8 => ?_)
        · replace h := cond_t hb8 h
          refine Ops.gv rfl rfl rfl rfl (not_t hb8) (op_move rfl rfl) ?_
          refine ob' h fun r9 g10 h => ?_
          refine Ops.ghd (ns := []) rfl rfl rfl rfl (not_t hb8) rfl (op_callE (ok_impl_isTime _ _ g10) rfl rfl) ?_
          refine Ops.gv rfl rfl rfl rfl (not_t hb8) (op_not rfl rfl) ?_
          refine Ops.v rfl (op_pick_f rfl (not_t hb8) rfl rfl) ?_
          refine Ops.v rfl (op_assign rfl rfl) ?_
          refine Ops.nil ?_
          exact ⟨(p1, p2, 0, (!r9)), h, Ghost.both (ns := [0]) rfl rfl⟩
        · replace h := cond_f hb8 h
          refine Ops.gs rfl rfl rfl (.b rfl (not_f hb8)) rfl rfl ?_
          refine Ops.gs rfl rfl rfl (.b rfl (not_f hb8)) rfl rfl ?_
          refine Ops.gs rfl rfl rfl (.b rfl (not_f hb8)) rfl rfl ?_
          refine Ops.v rfl (op_pick_t rfl (not_f hb8) rfl rfl) ?_
          refine Ops.v rfl (op_assign rfl rfl) ?_
          refine Ops.nil ?_
          exact ⟨(p1, p2, 0, true), h, Ghost.both (ns := [0]) rfl rfl⟩
      · replace h := cond_f hb5 h
        refine Ops.gs rfl rfl rfl (.b rfl (not_f hb5)) rfl rfl ?_
        refine Ops.gs rfl rfl rfl (.b rfl (not_f hb5)) rfl rfl ?_
        refine Ops.gs rfl rfl rfl (.b rfl (not_f hb5)) rfl rfl ?_
        refine Ops.v rfl (op_pick_t rfl (not_f hb5) rfl rfl) ?_
        refine Ops.v rfl (op_move rfl rfl) ?_
        refine Ops.gs rfl rfl rfl (.b rfl rfl) rfl rfl ?_
        refine Ops.gs rfl rfl rfl (.b rfl rfl) rfl rfl ?_
        refine Ops.gs rfl rfl rfl (.b rfl rfl) rfl rfl ?_
        refine Ops.v rfl (op_pick_t rfl rfl rfl rfl) ?_
        refine Ops.v rfl (op_assign rfl rfl) ?_
        refine Ops.nil ?_
        exact ⟨(p1, p2, 0, true), h, Ghost.both (ns := [0]) rfl rfl⟩
    · rintro ⟨x11, x12, x13, x14⟩ h
      replace h : impl_LiveSet_j1 p0 x11 x12 x13 x14 = some r := h
      unfold impl_LiveSet_j1 at h
      refine tf' (x14) (fun hb15 => ?_) (fun hb15 => ?_)
      · replace h := cond_t hb15 h
        refine AW.cond rfl (fun _ => ?_) (fun hn => absurd (hb15.symm.trans hn) (by decide))
        refine AW.seq ?_
        refine AW.region ?_
        refine Ops.v rfl (op_build (ds := [C.val (.slice none 0 0), C.int 1]) pl_37 ze_37 (cells_zero rfl rfl) (.one rfl (One.val rfl) rfl rfl .nil) rfl) ?_
        refine Ops.hd (ns := [0]) rfl rfl (op_storeA (gs := [C.val (.slice none 0 0), C.int 1]) ld_37 rfl rfl rfl rfl rfl) ?_
        refine Ops.nil ?_
        refine AW.ret ?_
        rw [← Option.some.inj h]
        exact ⟨[C.agg [C.val (.slice none 0 0), C.int 1]], _, Ghost.nil 54 kLive 2, (.cons (.cell (p := 1) rfl rfl ld_37 rfl) .nil), [0], _, _, rfl, ⟨(.slice none 0 0), rfl, rfl⟩⟩
      · replace h := cond_f hb15 h
        refine AW.cond rfl (fun hn => absurd (hb15.symm.trans hn) (by decide)) (fun _ => ?_)
        refine AW.skip ?_
        refine AW.seq ?_
        refine AW.region ?_
        refine Ops.v rfl (op_move rfl rfl) ?_
        refine ob' h fun r16 g17 h => ?_
        refine Ops.h (ns := []) rfl rfl (op_call (ok_slices_Clone_impl_Live _ _ g17) rfl rfl) ?_
        rintro _ _ ⟨_, ⟨v18, rfl, rfl⟩, rfl⟩
        refine Ops.v rfl (op_move rfl rfl) ?_
        refine Ops.v rfl (op_move rfl rfl) ?_
        refine Ops.v rfl (op_build (ds := [C.int x11, C.int x12]) pl_54 ze_54 (cells_zero rfl rfl) (.one rfl (One.val rfl) rfl rfl (.one rfl (One.val rfl) rfl rfl .nil)) rfl) ?_
        refine ob' h fun r19 g20 h => ?_
        refine Ops.h (ns := [0]) rfl rfl (op_call (ok_impl_setLive _ (TLive.mk x11 x12) _ g20) rfl rfl) ?_
        rintro _ _ ⟨_, ⟨v21, rfl, rfl⟩, rfl⟩
        refine Ops.learn (Sim.arr_one (p := 0) rfl) fun n22 => ?_
        refine Ops.v rfl (op_build (ds := [C.val v21, C.int 0]) pl_37 ze_37 (cells_zero rfl rfl) (.one rfl (One.val n22) rfl rfl .nil) rfl) ?_
        refine Ops.hd (ns := [1]) rfl rfl (op_storeA (gs := [C.val v21, C.int 0]) ld_37 rfl rfl rfl rfl rfl) ?_
        refine Ops.nil ?_
        refine AW.ret ?_
        rw [← Option.some.inj h]
        exact ⟨[C.agg [C.val v21, C.int 0]], _, Ghost.refl _, (.cons (.cell (p := 0) rfl rfl ld_37 rfl) .nil), [1], _, _, rfl, ⟨v21, rfl, rfl⟩⟩
theorem ok_impl_LiveSet' (p0 : List TLive) (p1 : Int) (p2 : Int) (r : TLiveOut) (h : impl_LiveSet p0 p1 p2 = some r) : Ok Try.prog 23 [C.im kLive 2 p0, C.int p1, C.int p2] [] (fun c qs => c = C.agg [C.im kLive 2 r.row, C.int r.code] ∧ qs = []) :=
  Ok.freeze (ok_impl_LiveSet p0 p1 p2 r h) (by rintro c qs ⟨v23, rfl, rfl⟩; exact Frz.agg (FrzL.cons (os := [_]) (Frz.arr) (FrzL.cons (os := []) (Frz.same _) (FrzL.nil))))

def laws_eqLiveOut (p0 : TLiveOut) (p1 : TLiveOut) : Option Bool := (laws_eqLiveS p0.row p1.row).bind fun r3 => cond r3 (cond (p0.code != p1.code) (some false) (some true)) (some false)
theorem ok_laws_eqLiveOut (p0 : TLiveOut) (p1 : TLiveOut) (r : Bool) (h : laws_eqLiveOut p0 p1 = some r) : Ok Try.prog 24 [C.agg [C.im kLive 2 p0.row, C.int p0.code], C.agg [C.im kLive 2 p1.row, C.int p1.code]] [] (fun c qs => c = C.bool r ∧ qs = []) := by
  refine Ok.of_body (rs := [.tmp 4]) Try.func24 rfl rfl rfl rfl rfl fun X => ?_
  unfold laws_eqLiveOut at h
  refine AW.seq ?_
  refine AW.region ?_
  refine Ops.h (ns := []) rfl rfl (op_boxA rfl rfl) ?_
  rintro _ _ ⟨b1, rfl, rfl⟩
  refine Ops.h (ns := []) rfl rfl (op_boxA rfl rfl) ?_
  rintro _ _ ⟨b2, rfl, rfl⟩
  refine Ops.v rfl (op_assign rfl rfl) ?_
  refine Ops.nil ?_
  refine AW.seq ?_
  refine AW.seq ?_
  refine AW.region ?_
  refine Ops.v rfl (op_fieldAddr fo_37_0 rfl rfl) ?_
  refine Ops.v rfl (op_load (p := 1) ld_25 rfl rfl rfl rfl) ?_
  refine Ops.v rfl (op_fieldAddr fo_37_0 rfl rfl) ?_
  refine Ops.v rfl (op_load (p := 0) ld_25 rfl rfl rfl rfl) ?_
  refine ob' h fun r3 g4 h => ?_
  refine Ops.hd (ns := []) rfl rfl (op_callE (ok_laws_eqLiveS _ _ _ g4) rfl rfl) ?_
  refine Ops.v rfl (op_not rfl rfl) ?_
  refine Ops.nil ?_
  refine tf' (r3) (fun hb5 => ?_) (fun hb5 => ?_)
  · replace h := cond_t hb5 h
    refine AW.cond rfl (fun hn => absurd ((not_t hb5).symm.trans hn) (by decide)) (fun _ => ?_)
    refine AW.skip ?_
    refine AW.seq ?_
    refine AW.seq ?_
    refine AW.region ?_
    refine Ops.v rfl (op_fieldAddr fo_37_1 rfl rfl) ?_
    refine Ops.v rfl (op_load (p := 1) ld_2 rfl rfl rfl rfl) ?_
    refine Ops.v rfl (op_fieldAddr fo_37_1 rfl rfl) ?_
    refine Ops.v rfl (op_load (p := 0) ld_2 rfl rfl rfl rfl) ?_
    refine Ops.v rfl (op_bin rfl rfl rfl rfl) ?_
    refine Ops.nil ?_
    refine tf' ((p0.code != p1.code)) (fun hb6 => ?_) (fun hb6 => ?_)
    · replace h := cond_t hb6 h
      refine AW.cond rfl (fun _ => ?_) (fun hn => absurd (hb6.symm.trans hn) (by decide))
      refine AW.seq ?_
      refine AW.region ?_
      refine Ops.v rfl (op_assign rfl rfl) ?_
      refine Ops.nil ?_
      refine AW.ret ?_
      rw [← Option.some.inj h]
      exact ⟨[C.bool false], _, Ghost.refl _, (.cons (.tmp rfl) .nil), [], _, _, rfl, ⟨rfl, rfl⟩⟩
    · replace h := cond_f hb6 h
      refine AW.cond rfl (fun hn => absurd (hb6.symm.trans hn) (by decide)) (fun _ => ?_)
      refine AW.skip ?_
      refine AW.seq ?_
      refine AW.region ?_
      refine Ops.v rfl (op_assign rfl rfl) ?_
      refine Ops.nil ?_
      refine AW.ret ?_
      rw [← Option.some.inj h]
      exact ⟨[C.bool true], _, Ghost.refl _, (.cons (.tmp rfl) .nil), [], _, _, rfl, ⟨rfl, rfl⟩⟩
  · replace h := cond_f hb5 h
    refine AW.cond rfl (fun _ => ?_) (fun hn => absurd ((not_f hb5).symm.trans hn) (by decide))
    refine AW.seq ?_
    refine AW.region ?_
    refine Ops.v rfl (op_assign rfl rfl) ?_
    refine Ops.nil ?_
    refine AW.ret ?_
    rw [← Option.some.inj h]
    exact ⟨[C.bool false], _, Ghost.refl _, (.cons (.tmp rfl) .nil), [], _, _, rfl, ⟨rfl, rfl⟩⟩

def laws_markLiveOut (p0 : TLiveOut) (p1 : Int) : Option (Int × List TLive) := (laws_markLiveS p0.row p1).bind fun r2 => some (r2.1, r2.2)
theorem ok_laws_markLiveOut {w00 : Value} (p0 : TLiveOut) (p1 : Int) (r : Int × List TLive) (h : laws_markLiveOut p0 p1 = some r) : Ok Try.prog 25 [C.agg [C.val w00, C.int p0.code], C.int p1] [Obj.arr w00 54 kLive 2 p0.row] (fun c qs => c = C.int r.1 ∧ qs = [Obj.arr w00 54 kLive 2 r.2]) := by
  refine Ok.of_body (rs := [.tmp 4]) Try.func25 rfl rfl rfl rfl rfl fun X => ?_
  unfold laws_markLiveOut at h
  refine AW.seq ?_
  refine AW.region ?_
  refine Ops.h (ns := []) rfl rfl (op_boxA rfl rfl) ?_
  rintro _ _ ⟨b1, rfl, rfl⟩
  refine Ops.v rfl (op_assign rfl rfl) ?_
  refine Ops.nil ?_
  refine AW.seq ?_
  refine AW.region ?_
  refine Ops.v rfl (op_fieldAddr fo_37_0 rfl rfl) ?_
  refine Ops.v rfl (op_load (p := 0) ld_25 rfl rfl rfl rfl) ?_
  refine Ops.v rfl (op_move rfl rfl) ?_
  refine ob' h fun r2 g3 h => ?_
  refine Ops.hd (ns := [1]) rfl rfl (op_callE (ok_laws_markLiveS _ _ _ g3) rfl rfl) ?_
  refine Ops.v rfl (op_assign rfl rfl) ?_
  refine Ops.nil ?_
  refine AW.seq ?_
  refine AW.region ?_
  refine Ops.v rfl (op_move rfl rfl) ?_
  refine Ops.v rfl (op_assign rfl rfl) ?_
  refine Ops.nil ?_
  refine AW.ret ?_
  rw [← Option.some.inj h]
  exact ⟨[C.int r2.1], _, Ghost.refl _, (.cons (.tmp rfl) .nil), [0], _, _, rfl, ⟨rfl, rfl⟩⟩

def laws_heldLiveS_j1 (x13 : Int) : Option Int := some x13
def laws_heldLiveS_s2 (p0 : List TLive) (x6 : Int) (x7 : Int) : Option ((Int × Int) ⊕ (Int ⊕ Int)) := cond (decide (x7 < (p0.length : Int))) ((getI p0 x7).bind fun e9 => cond (e9.user != x6) (some (.inr (.inl (-1)))) (cond (e9.till != (IntKind.i64.wrap (x6 + 1))) (some (.inr (.inl (-1)))) (some (.inl ((IntKind.i64.wrap ((IntKind.i64.wrap (x6 + 1)) + 1)), (IntKind.i64.wrap (x7 + 1))))))) (some (.inr (.inr x6)))
def laws_heldLiveS (p0 : List TLive) (p1 : Int) : Option Int := (iter (fun z14 => laws_heldLiveS_s2 p0 z14.1 z14.2) big (p1, 0)).bind (fun z17 => match z17 with | .inl y15 => some y15 | .inr y16 => laws_heldLiveS_j1 y16)
theorem ok_laws_heldLiveS (p0 : List TLive) (p1 : Int) (r : Int) (h : laws_heldLiveS p0 p1 = some r) : Ok Try.prog 43 [C.im kLive 2 p0, C.int p1] [] (fun c qs => c = C.int r ∧ qs = []) := by
  refine Ok.of_body (rs := [.tmp 4]) Try.func43 rfl rfl rfl rfl rfl fun X => ?_
  unfold laws_heldLiveS at h
  refine AW.seq ?_
  refine AW.region ?_
  refine Ops.v rfl (op_assign rfl rfl) ?_
  refine Ops.nil ?_
  refine AW.seq ?_
  refine AW.cut (τ := Int) (fun x13 => ⟨[(1, C.int x13)], []⟩) (fun x13 => laws_heldLiveS_j1 x13 = some r) ?_ ?_
  · refine AW.seq ?_
    refine AW.region ?_
    refine Ops.v rfl (op_assign rfl rfl) ?_
    refine Ops.nil ?_
    refine AW.block ?_
    refine ob' h fun o18 g19 q20 => ?_
    refine AW.loop (τ := Int × Int) (x := (p1, 0)) (fun (x6, x7) => ⟨[(0, C.im kLive 2 p0), (1, C.int x6), (5, C.int x7)], []⟩) (fun k (x6, x7) => iter (fun z14 => laws_heldLiveS_s2 p0 z14.1 z14.2) k (x6, x7) = some o18) g19 (Ghost.both (ns := []) rfl rfl) ?_
    rintro k ⟨x6, x7⟩ i22
    refine iter_succ' (show iter (fun z14 => laws_heldLiveS_s2 p0 z14.1 z14.2) k (x6, x7) = some o18 from i22) fun k21 y23 hlt_k21 h h24 => ?_
    replace h : laws_heldLiveS_s2 p0 x6 x7 = some y23 := h
    unfold laws_heldLiveS_s2 at h
    refine AW.seq ?_
    refine AW.seq ?_
    refine AW.region ?_
    refine Ops.v rfl (op_move rfl rfl) ?_
    refine Ops.v rfl (op_move rfl rfl) ?_
    refine Ops.v rfl (op_len_im sl_25 rfl rfl) ?_
    refine Ops.v rfl (op_bin rfl rfl rfl rfl) ?_
    refine Ops.nil ?_
    refine tf' (decide (x7 < (p0.length : Int))) (fun hb8 => ?_) (fun hb8 => ?_)
    · replace h := cond_t hb8 h
      refine AW.cond rfl (fun _ => ?_) (fun hn => absurd (hb8.symm.trans hn) (by decide))
      refine AW.skip ?_
      refine AW.seq ?_
      refine AW.block ?_
      refine AW.seq ?_
      refine AW.seq ?_
      refine AW.region ?_
      refine Ops.v rfl (op_move rfl rfl) ?_
      refine Ops.v rfl (op_move rfl rfl) ?_
      refine ob' h fun e9 g10 h => ?_
      refine Ops.v rfl (op_indexAddr_im sl_25 rfl rfl g10 rfl) ?_
      refine Ops.v rfl (op_fieldAddr_ip fo_54_0 rfl rfl rfl) ?_
      refine Ops.v rfl (op_load_ip ld_2 rfl rfl) ?_
      refine Ops.v rfl (op_move rfl rfl) ?_
      refine Ops.v rfl (op_bin rfl rfl rfl rfl) ?_
      refine Ops.nil ?_
      refine tf' ((e9.user != x6)) (fun hb11 => ?_) (fun hb11 => ?_)
      · replace h := cond_t hb11 h
        refine AW.cond rfl (fun _ => ?_) (fun hn => absurd (hb11.symm.trans hn) (by decide))
        refine AW.seq ?_
        refine AW.region ?_
        refine Ops.v rfl (op_assign rfl rfl) ?_
        refine Ops.nil ?_
        refine AW.ret ?_
        obtain rfl := Option.some.inj h
        obtain rfl := Option.some.inj h24
        replace h := q20
        rw [← Option.some.inj h]
        exact ⟨[C.int (-1)], _, Ghost.refl _, (.cons (.tmp rfl) .nil), [], _, _, rfl, ⟨rfl, rfl⟩⟩
      · replace h := cond_f hb11 h
        refine AW.cond rfl (fun hn => absurd (hb11.symm.trans hn) (by decide)) (fun _ => ?_)
        refine AW.skip ?_
        refine AW.seq ?_
        refine AW.region ?_
        refine Ops.v rfl (op_move rfl rfl) ?_
        refine Ops.v rfl (op_bin rfl rfl rfl rfl) ?_
        refine Ops.v rfl (op_assign rfl rfl) ?_
        refine Ops.nil ?_
        refine AW.seq ?_
        refine AW.seq ?_
        refine AW.region ?_
        refine Ops.v rfl (op_move rfl rfl) ?_
        refine Ops.v rfl (op_move rfl rfl) ?_
        refine Ops.v rfl (op_indexAddr_im sl_25 rfl rfl g10 rfl) ?_
        refine Ops.v rfl (op_fieldAddr_ip fo_54_1 rfl rfl rfl) ?_
        refine Ops.v rfl (op_load_ip ld_2 rfl rfl) ?_
        refine Ops.v rfl (op_move rfl rfl) ?_
        refine Ops.v rfl (op_bin rfl rfl rfl rfl) ?_
        refine Ops.nil ?_
        refine tf' ((e9.till != (IntKind.i64.wrap (x6 + 1)))) (fun hb12 => ?_) (fun hb12 => ?_)
        · replace h := cond_t hb12 h
          refine AW.cond rfl (fun _ => ?_) (fun hn => absurd (hb12.symm.trans hn) (by decide))
          refine AW.seq ?_
          refine AW.region ?_
          refine Ops.v rfl (op_assign rfl rfl) ?_
          refine Ops.nil ?_
          refine AW.ret ?_
          obtain rfl := Option.some.inj h
          obtain rfl := Option.some.inj h24
          replace h := q20
          rw [← Option.some.inj h]
          exact ⟨[C.int (-1)], _, Ghost.refl _, (.cons (.tmp rfl) .nil), [], _, _, rfl, ⟨rfl, rfl⟩⟩
        · replace h := cond_f hb12 h
          refine AW.cond rfl (fun hn => absurd (hb12.symm.trans hn) (by decide)) (fun _ => ?_)
          refine AW.skip ?_
          refine AW.region ?_
          refine Ops.v rfl (op_move rfl rfl) ?_
          refine Ops.v rfl (op_bin rfl rfl rfl rfl) ?_
          refine Ops.v rfl (op_assign rfl rfl) ?_
          refine Ops.nil ?_
          refine AW.region ?_
          refine Ops.v rfl (op_move rfl rfl) ?_
          refine Ops.v rfl (op_bin rfl rfl rfl rfl) ?_
          refine Ops.v rfl (op_assign rfl rfl) ?_
          refine Ops.nil ?_
          obtain rfl := Option.some.inj h
          exact ⟨k21, ((IntKind.i64.wrap ((IntKind.i64.wrap (x6 + 1)) + 1)), (IntKind.i64.wrap (x7 + 1))), hlt_k21, h24, Ghost.both (ns := []) rfl rfl⟩
    · replace h := cond_f hb8 h
      refine AW.cond rfl (fun hn => absurd (hb8.symm.trans hn) (by decide)) (fun _ => ?_)
      refine AW.exit ?_
      obtain rfl := Option.some.inj h
      obtain rfl := Option.some.inj h24
      replace h := q20
      exact ⟨x6, h, Ghost.both (ns := []) rfl rfl⟩
  · intro x13 h
    replace h : laws_heldLiveS_j1 x13 = some r := h
    unfold laws_heldLiveS_j1 at h
    refine AW.seq ?_
    refine AW.region ?_
    refine Ops.v rfl (op_move rfl rfl) ?_
    refine Ops.v rfl (op_assign rfl rfl) ?_
    refine Ops.nil ?_
    refine AW.ret ?_
    rw [← Option.some.inj h]
    exact ⟨[C.int x13], _, Ghost.refl _, (.cons (.tmp rfl) .nil), [], _, _, rfl, ⟨rfl, rfl⟩⟩

def laws_heldLiveOut (p0 : TLiveOut) (p1 : Int) : Option Int := (laws_heldLiveS p0.row p1).bind fun r2 => cond (decide (r2 < 0)) (some (-1)) (some r2)
theorem ok_laws_heldLiveOut (p0 : TLiveOut) (p1 : Int) (r : Int) (h : laws_heldLiveOut p0 p1 = some r) : Ok Try.prog 26 [C.agg [C.im kLive 2 p0.row, C.int p0.code], C.int p1] [] (fun c qs => c = C.int r ∧ qs = []) := by
  refine Ok.of_body (rs := [.tmp 4]) Try.func26 rfl rfl rfl rfl rfl fun X => ?_
  unfold laws_heldLiveOut at h
  refine AW.seq ?_
  refine AW.region ?_
  refine Ops.h (ns := []) rfl rfl (op_boxA rfl rfl) ?_
  rintro _ _ ⟨b1, rfl, rfl⟩
  refine Ops.v rfl (op_assign rfl rfl) ?_
  refine Ops.nil ?_
  refine AW.seq ?_
  refine AW.region ?_
  refine Ops.v rfl (op_fieldAddr fo_37_0 rfl rfl) ?_
  refine Ops.v rfl (op_load (p := 0) ld_25 rfl rfl rfl rfl) ?_
  refine Ops.v rfl (op_move rfl rfl) ?_
  refine ob' h fun r2 g3 h => ?_
  refine Ops.hd (ns := []) rfl rfl (op_callE (ok_laws_heldLiveS _ _ _ g3) rfl rfl) ?_
  refine Ops.v rfl (op_assign rfl rfl) ?_
  refine Ops.nil ?_
  refine AW.seq ?_
  refine AW.seq ?_
  refine AW.region ?_
  refine Ops.v rfl (op_move rfl rfl) ?_
  refine Ops.v rfl (op_bin rfl rfl rfl rfl) ?_
  refine Ops.nil ?_
  refine tf' (decide (r2 < 0)) (fun hb4 => ?_) (fun hb4 => ?_)
  · replace h := cond_t hb4 h
    refine AW.cond rfl (fun _ => ?_) (fun hn => absurd (hb4.symm.trans hn) (by decide))
    refine AW.seq ?_
    refine AW.region ?_
    refine Ops.v rfl (op_assign rfl rfl) ?_
    refine Ops.nil ?_
    refine AW.ret ?_
    rw [← Option.some.inj h]
    exact ⟨[C.int (-1)], _, Ghost.refl _, (.cons (.tmp rfl) .nil), [], _, _, rfl, ⟨rfl, rfl⟩⟩
  · replace h := cond_f hb4 h
    refine AW.cond rfl (fun hn => absurd (hb4.symm.trans hn) (by decide)) (fun _ => ?_)
    refine AW.skip ?_
    refine AW.seq ?_
    refine AW.region ?_
    refine Ops.v rfl (op_move rfl rfl) ?_
    refine Ops.v rfl (op_assign rfl rfl) ?_
    refine Ops.nil ?_
    refine AW.ret ?_
    rw [← Option.some.inj h]
    exact ⟨[C.int r2], _, Ghost.refl _, (.cons (.tmp rfl) .nil), [], _, _, rfl, ⟨rfl, rfl⟩⟩

def laws_FnExactLiveSet_j1 (p0 : List TLive) (r6 : TLiveOut) (r12 : TLiveOut) (x29 : Int) (x30 : Int) (x31 : Int) (x32 : Int) (x33 : Bool) : Option Bool := cond x33 (some false) ((laws_markLiveOut (TLiveOut.mk r12.row x32) 1).bind fun r35 => (laws_heldLiveOut (TLiveOut.mk r35.2 x32) 1).bind fun r37 => cond (decide (r37 < 0)) (some false) (cond (r37 != r35.1) (some false) ((laws_toLiveS p0).bind fun r41 => (impl_LiveSet r41 x29 x30).bind fun r43 => (laws_eqLiveOut r43 (TLiveOut.mk r6.row x31)).bind fun r46 => cond r46 ((laws_heldLiveOut (TLiveOut.mk r35.2 x32) 1).bind fun r49 => cond (decide (r49 < 0)) (some false) (cond (r49 != r35.1) (some false) (some true))) (some false))))
def laws_FnExactLiveSet (p0 : List TLive) (p1 : Int) (p2 : Int) : Option Bool := (laws_szLiveS p0 1048576).bind fun r1 => cond (decide (r1 < 0)) (some true) ((laws_toLiveS p0).bind fun r4 => (spec_LiveSet r4 p1 p2).bind fun r6 => (laws_toLiveS p0).bind fun r9 => (impl_LiveSet r9 p1 p2).bind fun r12 => (laws_eqLiveOut r12 r6).bind fun r16 => cond r16 ((laws_toLiveS p0).bind fun r19 => (laws_eqLiveS r9 r19).bind fun r21 => cond r21 ((laws_markLiveS r9 1).bind fun r24 => cond (decide (r24.1 < 0)) (laws_FnExactLiveSet_j1 p0 r6 r12 p1 p2 r6.code r12.code true) ((laws_eqLiveOut r12 r6).bind fun r27 => laws_FnExactLiveSet_j1 p0 r6 r12 p1 p2 r6.code r12.code (!r27))) (some false)) (some false))
theorem ok_laws_FnExactLiveSet (p0 : List TLive) (p1 : Int) (p2 : Int) (r : Bool) (h : laws_FnExactLiveSet p0 p1 p2 = some r) : Ok Try.prog 6 [C.im kLive 2 p0, C.int p1, C.int p2] [] (fun c qs => c = C.bool r ∧ qs = []) := by
  refine Ok.of_body (rs := [.tmp 6]) Try.func6 rfl rfl rfl rfl rfl fun X => ?_
  unfold laws_FnExactLiveSet at h
  refine AW.seq ?_
  refine AW.region ?_
  refine Ops.v rfl (op_assign rfl rfl) ?_
  refine Ops.nil ?_
  refine AW.seq ?_
  refine AW.region ?_
  refine Ops.v rfl (op_assign rfl rfl) ?_
  refine Ops.nil ?_
  refine AW.seq ?_
  refine AW.region ?_
  refine Ops.v rfl (op_move rfl rfl) ?_
  refine Ops.v rfl (op_move rfl rfl) ?_
  refine ob' h fun r1 g2 h => ?_
  refine Ops.hd (ns := []) rfl rfl (op_callE (ok_laws_szLiveS _ _ _ g2) rfl rfl) ?_
  refine Ops.v rfl (op_assign rfl rfl) ?_
  refine Ops.nil ?_
  refine AW.seq ?_
  refine AW.seq ?_
  refine AW.region ?_
  refine Ops.v rfl (op_move rfl rfl) ?_
  refine Ops.v rfl (op_bin rfl rfl rfl rfl) ?_
  refine Ops.nil ?_
  refine tf' (decide (r1 < 0)) (fun hb3 => ?_) (fun hb3 => ?_)
  · replace h := cond_t hb3 h
    refine AW.cond rfl (fun _ => ?_) (fun hn => absurd (hb3.symm.trans hn) (by decide))
    refine AW.seq ?_
    refine AW.region ?_
    refine Ops.v rfl (op_assign rfl rfl) ?_
    refine Ops.nil ?_
    refine AW.ret ?_
    rw [← Option.some.inj h]
    exact ⟨[C.bool true], _, Ghost.refl _, (.cons (.tmp rfl) .nil), [], _, _, rfl, ⟨rfl, rfl⟩⟩
  · replace h := cond_f hb3 h
    refine AW.cond rfl (fun hn => absurd (hb3.symm.trans hn) (by decide)) (fun _ => ?_)
    refine AW.skip ?_
    refine AW.seq ?_
    refine AW.region ?_
    refine Ops.v rfl (op_move rfl rfl) ?_
    refine ob' h fun r4 g5 h => ?_
    refine Ops.hd (ns := []) rfl rfl (op_callE (ok_laws_toLiveS' _ _ g5) rfl rfl) ?_
    refine Ops.v rfl (op_move rfl rfl) ?_
    refine Ops.v rfl (op_move rfl rfl) ?_
    refine ob' h fun r6 g7 h => ?_
    refine Ops.hd (ns := []) rfl rfl (op_callE (ok_spec_LiveSet' _ _ _ _ g7) rfl rfl) ?_
    refine Ops.h (ns := []) rfl rfl (op_alloc (cs := [C.val (.slice none 0 0), C.int 0]) ze_37 (cells_zero rfl rfl) rfl) ?_
    rintro _ _ ⟨b8, rfl, rfl⟩
    refine Ops.hd (ns := [0]) rfl rfl (op_storeA (gs := [C.im kLive 2 r6.row, C.int r6.code]) ld_37 rfl rfl rfl rfl rfl) ?_
    refine Ops.nil ?_
    refine AW.seq ?_
    refine AW.region ?_
    refine Ops.v rfl (op_move rfl rfl) ?_
    refine ob' h fun r9 g10 h => ?_
    refine Ops.h (ns := []) rfl rfl (op_call (ok_laws_toLiveS _ _ g10) rfl rfl) ?_
    rintro _ _ ⟨_, ⟨v11, rfl, rfl⟩, rfl⟩
    refine Ops.v rfl (op_assign rfl rfl) ?_
    refine Ops.nil ?_
    refine AW.seq ?_
    refine AW.region ?_
    refine Ops.v rfl (op_move rfl rfl) ?_
    refine Ops.v rfl (op_move rfl rfl) ?_
    refine Ops.v rfl (op_move rfl rfl) ?_
    refine ob' h fun r12 g13 h => ?_
    refine Ops.h (ns := [0]) rfl rfl (op_call (Ok.lend (ok_impl_LiveSet _ _ _ _ g13) (FrzT.cons (os := [_]) Frz.arr (FrzT.cons (os := []) (Frz.same _) (FrzT.cons (os := []) (Frz.same _) (FrzT.nil)))) (by rintro _ _ ⟨_, rfl, rfl⟩; exact ⟨(PlainC.agg (PlainCs.cons (PlainC.val _) (PlainCs.cons (PlainC.val _) (PlainCs.nil)))), plainO_cons (PlainO.arr plain_kLive) (plainO_nil)⟩)) rfl rfl) ?_
    rintro _ _ ⟨_, ⟨_, ⟨v14, rfl, rfl⟩, rfl⟩, rfl⟩
    refine Ops.h (ns := []) rfl rfl (op_alloc (cs := [C.val (.slice none 0 0), C.int 0]) ze_37 (cells_zero rfl rfl) rfl) ?_
    rintro _ _ ⟨b15, rfl, rfl⟩
    refine Ops.hd (ns := [0]) rfl rfl (op_storeA (gs := [C.val v14, C.int r12.code]) ld_37 rfl rfl rfl rfl rfl) ?_
    refine Ops.nil ?_
    refine AW.seq ?_
    refine AW.seq ?_
    refine AW.region ?_
    refine Ops.v rfl (op_loadA (p := 0) (ds := [C.val v14, C.int r12.code]) ld_37 rfl rfl rfl rfl rfl) ?_
    refine Ops.v rfl (op_loadA (p := 3) (ds := [C.im kLive 2 r6.row, C.int r6.code]) ld_37 rfl rfl rfl rfl rfl) ?_
    refine ob' h fun r16 g17 h => ?_
    refine Ops.hd (ns := [1]) rfl rfl (op_callE (Ok.lendE (ok_laws_eqLiveOut r12 r6 _ g17) (FrzT.cons (os := [_]) (Frz.agg (FrzL.cons (os := [_]) Frz.arr (FrzL.cons (os := []) (Frz.same _) (FrzL.nil)))) (FrzT.cons (os := []) (Frz.same _) (FrzT.nil))) (PlainC.val _)) rfl rfl) ?_
    refine Ops.v rfl (op_not rfl rfl) ?_
    refine Ops.nil ?_
    refine tf' (r16) (fun hb18 => ?_) (fun hb18 => ?_)
    · replace h := cond_t hb18 h
      refine AW.cond rfl (fun hn => absurd ((not_t hb18).symm.trans hn) (by decide)) (fun _ => ?_)
      refine AW.skip ?_
      refine AW.seq ?_
      refine AW.seq ?_
      refine AW.region ?_
      refine Ops.v rfl (op_move rfl rfl) ?_
      refine Ops.v rfl (op_move rfl rfl) ?_
      refine ob' h fun r19 g20 h => ?_
      refine Ops.hd (ns := []) rfl rfl (op_callE (ok_laws_toLiveS' _ _ g20) rfl rfl) ?_
      refine ob' h fun r21 g22 h => ?_
      refine Ops.hd (ns := [2]) rfl rfl (op_callE (Ok.lendE (ok_laws_eqLiveS _ _ _ g22) (FrzT.cons (os := [_]) Frz.arr (FrzT.cons (os := []) (Frz.same _) (FrzT.nil))) (PlainC.val _)) rfl rfl) ?_
      refine Ops.v rfl (op_not rfl rfl) ?_
      refine Ops.nil ?_
      refine tf' (r21) (fun hb23 => ?_) (fun hb23 => ?_)
      · replace h := cond_t hb23 h
        refine AW.cond rfl (fun hn => absurd ((not_t hb23).symm.trans hn) (by decide)) (fun _ => ?_)
        refine AW.skip ?_
        refine AW.seq ?_
        refine AW.region ?_
        refine Ops.v rfl (op_assign rfl rfl) ?_
        refine Ops.nil ?_
        refine AW.seq ?_
        refine AW.region ?_
        refine Ops.v rfl (op_move rfl rfl) ?_
        refine Ops.v rfl (op_move rfl rfl) ?_
        refine ob' h fun r24 g25 h => ?_
        refine Ops.hd (ns := [0]) rfl rfl (op_callE (ok_laws_markLiveS _ _ _ g25) rfl rfl) ?_
        refine Ops.v rfl (op_assign rfl rfl) ?_
        refine Ops.nil ?_
        refine AW.seq ?_
        refine AW.seq ?_
        refine AW.cut (τ := Int × Int × Int × Int × Bool) (fun (x29, x30, x31, x32, x33) => ⟨[(0, C.im kLive 2 p0), (1, C.int x29), (2, C.int x30), (8, C.val (.pointer (some ⟨b8, 0, none⟩))), (10, C.val (.pointer (some ⟨b15, 0, none⟩))), (50, C.bool x33)], [Obj.box b8 37 [C.im kLive 2 r6.row, C.int x31], Obj.box b15 37 [C.val v14, C.int x32], Obj.arr v14 54 kLive 2 r12.row]⟩) (fun (x29, x30, x31, x32, x33) => laws_FnExactLiveSet_j1 p0 r6 r12 x29 x30 x31 x32 x33 = some r) ?_ ?_
        · refine AW.region ?_
          refine Ops.v rfl (op_move rfl rfl) ?_
          refine Ops.v rfl (op_bin rfl rfl rfl rfl) ?_
          refine Ops.v rfl (op_move rfl rfl) ?_
          refine tf' (decide (r24.1 < 0)) (fun hb26 => ?_) (fun hb26 => ?_)
          · replace h := cond_t hb26 h
            refine Ops.gs rfl rfl rfl (.b rfl hb26) rfl rfl ?_
            refine Ops.gs rfl rfl rfl (.b rfl hb26) rfl rfl ?_
            refine Ops.gs rfl rfl rfl (.b rfl hb26) rfl rfl ?_
            refine Ops.gs rfl rfl rfl (.b rfl hb26) rfl rfl ?_
            refine Ops.v rfl (op_pick_t rfl hb26 rfl rfl) ?_
            refine Ops.nil ?_
            exact ⟨(p1, p2, r6.code, r12.code, true), h, Ghost.both (ns := [3, 2, 1]) rfl rfl⟩
          · replace h := cond_f hb26 h
            refine Ops.gv rfl rfl rfl rfl hb26 (op_loadA (p := 2) (ds := [C.val v14, C.int r12.code]) ld_37 rfl rfl rfl rfl rfl) ?_
            refine Ops.gv rfl rfl rfl rfl hb26 (op_loadA (p := 3) (ds := [C.im kLive 2 r6.row, C.int r6.code]) ld_37 rfl rfl rfl rfl rfl) ?_
            refine ob' h fun r27 g28 h => ?_
            refine Ops.ghd (ns := [1]) rfl rfl rfl rfl hb26 rfl (op_callE (Ok.lendE (ok_laws_eqLiveOut r12 r6 _ g28) (FrzT.cons (os := [_]) (Frz.agg (FrzL.cons (os := [_]) Frz.arr (FrzL.cons (os := []) (Frz.same _) (FrzL.nil)))) (FrzT.cons (os := []) (Frz.same _) (FrzT.nil))) (PlainC.val _)) rfl rfl) ?_
            refine Ops.gv rfl rfl rfl rfl hb26 (op_not rfl rfl) ?_
            refine Ops.v rfl (op_pick_f rfl hb26 rfl rfl) ?_
            refine Ops.nil ?_
            exact ⟨(p1, p2, r6.code, r12.code, (!r27)), h, Ghost.both (ns := [3, 2, 0]) rfl rfl⟩
        · rintro ⟨x29, x30, x31, x32, x33⟩ h
          replace h : laws_FnExactLiveSet_j1 p0 r6 r12 x29 x30 x31 x32 x33 = some r := h
          unfold laws_FnExactLiveSet_j1 at h
          refine tf' (x33) (fun hb34 => ?_) (fun hb34 => ?_)
          · replace h := cond_t hb34 h
            refine AW.cond rfl (fun _ => ?_) (fun hn => absurd (hb34.symm.trans hn) (by decide))
            refine AW.seq ?_
            refine AW.region ?_
            refine Ops.v rfl (op_assign rfl rfl) ?_
            refine Ops.nil ?_
            refine AW.ret ?_
            rw [← Option.some.inj h]
            exact ⟨[C.bool false], _, Ghost.refl _, (.cons (.tmp rfl) .nil), [], _, _, rfl, ⟨rfl, rfl⟩⟩
          · replace h := cond_f hb34 h
            refine AW.cond rfl (fun hn => absurd (hb34.symm.trans hn) (by decide)) (fun _ => ?_)
            refine AW.skip ?_
            refine AW.seq ?_
            refine AW.region ?_
            refine Ops.v rfl (op_assign rfl rfl) ?_
            refine Ops.nil ?_
            refine AW.seq ?_
            refine AW.region ?_
            refine Ops.v rfl (op_loadA (p := 1) (ds := [C.val v14, C.int x32]) ld_37 rfl rfl rfl rfl rfl) ?_
            refine Ops.v rfl (op_move rfl rfl) ?_
            refine ob' h fun r35 g36 h => ?_
            refine Ops.hd (ns := [2]) rfl rfl (op_callE (ok_laws_markLiveOut (TLiveOut.mk r12.row x32) _ _ g36) rfl rfl) ?_
            refine Ops.v rfl (op_assign rfl rfl) ?_
            refine Ops.nil ?_
            refine AW.seq ?_
            refine AW.region ?_
            refine Ops.v rfl (op_assign rfl rfl) ?_
            refine Ops.nil ?_
            refine AW.seq ?_
            refine AW.region ?_
            refine Ops.v rfl (op_loadA (p := 2) (ds := [C.val v14, C.int x32]) ld_37 rfl rfl rfl rfl rfl) ?_
            refine Ops.v rfl (op_move rfl rfl) ?_
            refine ob' h fun r37 g38 h => ?_
            refine Ops.hd (ns := [0]) rfl rfl (op_callE (Ok.lendE (ok_laws_heldLiveOut (TLiveOut.mk r35.2 x32) _ _ g38) (FrzT.cons (os := [_]) (Frz.agg (FrzL.cons (os := [_]) Frz.arr (FrzL.cons (os := []) (Frz.same _) (FrzL.nil)))) (FrzT.cons (os := []) (Frz.same _) (FrzT.nil))) (PlainC.val _)) rfl rfl) ?_
            refine Ops.v rfl (op_assign rfl rfl) ?_
            refine Ops.nil ?_
            refine AW.seq ?_
            refine AW.seq ?_
            refine AW.region ?_
            refine Ops.v rfl (op_move rfl rfl) ?_
            refine Ops.v rfl (op_bin rfl rfl rfl rfl) ?_
            refine Ops.nil ?_
            refine tf' (decide (r37 < 0)) (fun hb39 => ?_) (fun hb39 => ?_)
            · replace h := cond_t hb39 h
              refine AW.cond rfl (fun _ => ?_) (fun hn => absurd (hb39.symm.trans hn) (by decide))
              refine AW.seq ?_
              refine AW.region ?_
              refine Ops.v rfl (op_assign rfl rfl) ?_
              refine Ops.nil ?_
              refine AW.ret ?_
              rw [← Option.some.inj h]
              exact ⟨[C.bool false], _, Ghost.refl _, (.cons (.tmp rfl) .nil), [], _, _, rfl, ⟨rfl, rfl⟩⟩
            · replace h := cond_f hb39 h
              refine AW.cond rfl (fun hn => absurd (hb39.symm.trans hn) (by decide)) (fun _ => ?_)
              refine AW.skip ?_
              refine AW.seq ?_
              refine AW.seq ?_
              refine AW.region ?_
              refine Ops.v rfl (op_move rfl rfl) ?_
              refine Ops.v rfl (op_move rfl rfl) ?_
              refine Ops.v rfl (op_bin rfl rfl rfl rfl) ?_
              refine Ops.nil ?_
              refine tf' ((r37 != r35.1)) (fun hb40 => ?_) (fun hb40 => ?_)
              · replace h := cond_t hb40 h
                refine AW.cond rfl (fun _ => ?_) (fun hn => absurd (hb40.symm.trans hn) (by decide))
                refine AW.seq ?_
                refine AW.region ?_
                refine Ops.v rfl (op_assign rfl rfl) ?_
                refine Ops.nil ?_
                refine AW.ret ?_
                rw [← Option.some.inj h]
                exact ⟨[C.bool false], _, Ghost.refl _, (.cons (.tmp rfl) .nil), [], _, _, rfl, ⟨rfl, rfl⟩⟩
              · replace h := cond_f hb40 h
                refine AW.cond rfl (fun hn => absurd (hb40.symm.trans hn) (by decide)) (fun _ => ?_)
                refine AW.skip ?_
                refine AW.seq ?_
                refine AW.region ?_
                refine Ops.v rfl (op_move rfl rfl) ?_
                refine ob' h fun r41 g42 h => ?_
                refine Ops.hd (ns := []) rfl rfl (op_callE (ok_laws_toLiveS' _ _ g42) rfl rfl) ?_
                refine Ops.v rfl (op_move rfl rfl) ?_
                refine Ops.v rfl (op_move rfl rfl) ?_
                refine ob' h fun r43 g44 h => ?_
                refine Ops.hd (ns := []) rfl rfl (op_callE (ok_impl_LiveSet' _ _ _ _ g44) rfl rfl) ?_
                refine Ops.h (ns := []) rfl rfl (op_alloc (cs := [C.val (.slice none 0 0), C.int 0]) ze_37 (cells_zero rfl rfl) rfl) ?_
                rintro _ _ ⟨b45, rfl, rfl⟩
                refine Ops.hd (ns := [0]) rfl rfl (op_storeA (gs := [C.im kLive 2 r43.row, C.int r43.code]) ld_37 rfl rfl rfl rfl rfl) ?_
                refine Ops.nil ?_
                refine AW.seq ?_
                refine AW.seq ?_
                refine AW.region ?_
                refine Ops.v rfl (op_loadA (p := 0) (ds := [C.im kLive 2 r43.row, C.int r43.code]) ld_37 rfl rfl rfl rfl rfl) ?_
                refine Ops.v rfl (op_loadA (p := 2) (ds := [C.im kLive 2 r6.row, C.int x31]) ld_37 rfl rfl rfl rfl rfl) ?_
                refine ob' h fun r46 g47 h => ?_
                refine Ops.hd (ns := []) rfl rfl (op_callE (ok_laws_eqLiveOut _ _ _ g47) rfl rfl) ?_
                refine Ops.v rfl (op_not rfl rfl) ?_
                refine Ops.nil ?_
                refine tf' (r46) (fun hb48 => ?_) (fun hb48 => ?_)
                · replace h := cond_t hb48 h
                  refine AW.cond rfl (fun hn => absurd ((not_t hb48).symm.trans hn) (by decide)) (fun _ => ?_)
                  refine AW.skip ?_
                  refine AW.seq ?_
                  refine AW.region ?_
                  refine Ops.v rfl (op_assign rfl rfl) ?_
                  refine Ops.nil ?_
                  refine AW.seq ?_
                  refine AW.region ?_
                  refine Ops.v rfl (op_loadA (p := 3) (ds := [C.val v14, C.int x32]) ld_37 rfl rfl rfl rfl rfl) ?_
                  refine Ops.v rfl (op_move rfl rfl) ?_
                  refine ob' h fun r49 g50 h => ?_
                  refine Ops.hd (ns := [1]) rfl rfl (op_callE (Ok.lendE (ok_laws_heldLiveOut (TLiveOut.mk r35.2 x32) _ _ g50) (FrzT.cons (os := [_]) (Frz.agg (FrzL.cons (os := [_]) Frz.arr (FrzL.cons (os := []) (Frz.same _) (FrzL.nil)))) (FrzT.cons (os := []) (Frz.same _) (FrzT.nil))) (PlainC.val _)) rfl rfl) ?_
                  refine Ops.v rfl (op_assign rfl rfl) ?_
                  refine Ops.nil ?_
                  refine AW.seq ?_
                  refine AW.seq ?_
                  refine AW.region ?_
                  refine Ops.v rfl (op_move rfl rfl) ?_
                  refine Ops.v rfl (op_bin rfl rfl rfl rfl) ?_
                  refine Ops.nil ?_
                  refine tf' (decide (r49 < 0)) (fun hb51 => ?_) (fun hb51 => ?_)
                  · replace h := cond_t hb51 h
                    refine AW.cond rfl (fun _ => ?_) (fun hn => absurd (hb51.symm.trans hn) (by decide))
                    refine AW.seq ?_
                    refine AW.region ?_
                    refine Ops.v rfl (op_assign rfl rfl) ?_
                    refine Ops.nil ?_
                    refine AW.ret ?_
                    rw [← Option.some.inj h]
                    exact ⟨[C.bool false], _, Ghost.refl _, (.cons (.tmp rfl) .nil), [], _, _, rfl, ⟨rfl, rfl⟩⟩
                  · replace h := cond_f hb51 h
                    refine AW.cond rfl (fun hn => absurd (hb51.symm.trans hn) (by decide)) (fun _ => ?_)
                    refine AW.skip ?_
                    refine AW.seq ?_
                    refine AW.seq ?_
                    refine AW.region ?_
                    refine Ops.v rfl (op_move rfl rfl) ?_
                    refine Ops.v rfl (op_move rfl rfl) ?_
                    refine Ops.v rfl (op_bin rfl rfl rfl rfl) ?_
                    refine Ops.nil ?_
                    refine tf' ((r49 != r35.1)) (fun hb52 => ?_) (fun hb52 => ?_)
                    · replace h := cond_t hb52 h
                      refine AW.cond rfl (fun _ => ?_) (fun hn => absurd (hb52.symm.trans hn) (by decide))
                      refine AW.seq ?_
                      refine AW.region ?_
                      refine Ops.v rfl (op_assign rfl rfl) ?_
                      refine Ops.nil ?_
                      refine AW.ret ?_
                      rw [← Option.some.inj h]
                      exact ⟨[C.bool false], _, Ghost.refl _, (.cons (.tmp rfl) .nil), [], _, _, rfl, ⟨rfl, rfl⟩⟩
                    · replace h := cond_f hb52 h
                      refine AW.cond rfl (fun hn => absurd (hb52.symm.trans hn) (by decide)) (fun _ => ?_)
                      refine AW.skip ?_
                      refine AW.seq ?_
                      refine AW.region ?_
                      refine Ops.v rfl (op_assign rfl rfl) ?_
                      refine Ops.nil ?_
                      refine AW.ret ?_
                      rw [← Option.some.inj h]
                      exact ⟨[C.bool true], _, Ghost.refl _, (.cons (.tmp rfl) .nil), [], _, _, rfl, ⟨rfl, rfl⟩⟩
                · replace h := cond_f hb48 h
                  refine AW.cond rfl (fun _ => ?_) (fun hn => absurd ((not_f hb48).symm.trans hn) (by decide))
                  refine AW.seq ?_
                  refine AW.region ?_
                  refine Ops.v rfl (op_assign rfl rfl) ?_
                  refine Ops.nil ?_
                  refine AW.ret ?_
                  rw [← Option.some.inj h]
                  exact ⟨[C.bool false], _, Ghost.refl _, (.cons (.tmp rfl) .nil), [], _, _, rfl, ⟨rfl, rfl⟩⟩
      · replace h := cond_f hb23 h
        refine AW.cond rfl (fun _ => ?_) (fun hn => absurd ((not_f hb23).symm.trans hn) (by decide))
        refine AW.seq ?_
        refine AW.region ?_
        refine Ops.v rfl (op_assign rfl rfl) ?_
        refine Ops.nil ?_
        refine AW.ret ?_
        rw [← Option.some.inj h]
        exact ⟨[C.bool false], _, Ghost.refl _, (.cons (.tmp rfl) .nil), [], _, _, rfl, ⟨rfl, rfl⟩⟩
    · replace h := cond_f hb18 h
      refine AW.cond rfl (fun _ => ?_) (fun hn => absurd ((not_f hb18).symm.trans hn) (by decide))
      refine AW.seq ?_
      refine AW.region ?_
      refine Ops.v rfl (op_assign rfl rfl) ?_
      refine Ops.nil ?_
      refine AW.ret ?_
      rw [← Option.some.inj h]
      exact ⟨[C.bool false], _, Ghost.refl _, (.cons (.tmp rfl) .nil), [], _, _, rfl, ⟨rfl, rfl⟩⟩

def spec_LiveJoin_j1 (x49 : Int) (l51 : List TLive) : Option TLiveOut := some (TLiveOut.mk l51 0)
def spec_LiveJoin_s2 (p1 : List TLive) (x11 : Int) (l33 : List TLive) (x34 : Int) : Option ((List TLive × Int) ⊕ ((Int × List TLive))) := cond (decide (x34 < (p1.length : Int))) ((getI p1 x34).bind fun e44 => (spec_l20Set l33 e44.user e44.till).bind fun r46 => some (.inl (r46, (IntKind.i64.wrap (x34 + 1))))) (some (.inr (x11, l33)))
def spec_LiveJoin_j3 (p0 : List TLive) (p1 : List TLive) (x11 : Int) (x12 : Bool) : Option TLiveOut := cond x12 (some (TLiveOut.mk [] 1)) ((chk (decide ((([] : List TLive).length + p0.length) * 16 ≤ 140737488355328))).bind fun u16 => (iter (fun z54 => spec_LiveJoin_s2 p1 x11 z54.1 z54.2) big ((([] : List TLive) ++ p0), 0)).bind fun (y55, y56) => spec_LiveJoin_j1 y55 y56)
def spec_LiveJoin_j4 (p0 : List TLive) (p1 : List TLive) (x3 : Int) (x4 : Bool) : Option TLiveOut := cond x4 (some (TLiveOut.mk [] 2)) ((spec_LiveRight p0).bind fun r6 => cond r6 ((spec_LiveRight p1).bind fun r9 => spec_LiveJoin_j3 p0 p1 x3 (!r9)) (spec_LiveJoin_j3 p0 p1 x3 true))
def spec_LiveJoin (p0 : List TLive) (p1 : List TLive) : Option TLiveOut := cond (decide ((p0.length : Int) > 400)) (spec_LiveJoin_j4 p0 p1 0 true) (spec_LiveJoin_j4 p0 p1 0 (decide ((p1.length : Int) > 400)))
theorem ok_spec_LiveJoin (p0 : List TLive) (p1 : List TLive) (r : TLiveOut) (h : spec_LiveJoin p0 p1 = some r) : Ok Try.prog 27 [C.im kLive 2 p0, C.im kLive 2 p1] [] (fun c qs => ∃ (v53 : Value), c = C.agg [C.val v53, C.int r.code] ∧ qs = [Obj.arr v53 54 kLive 2 r.row]) := by
  refine Ok.of_body (rs := [.cell 4 37]) Try.func27 rfl rfl rfl rfl rfl fun X => ?_
  unfold spec_LiveJoin at h
  refine AW.seq ?_
  refine AW.region ?_
  refine Ops.h (ns := []) rfl rfl (op_alloc (cs := [C.val (.slice none 0 0), C.int 0]) ze_37 (cells_zero rfl rfl) rfl) ?_
  rintro _ _ ⟨b1, rfl, rfl⟩
  refine Ops.nil ?_
  refine AW.seq ?_
  refine AW.seq ?_
  refine AW.cut (τ := Int × Bool) (fun (x3, x4) => ⟨[(0, C.im kLive 2 p0), (1, C.im kLive 2 p1), (4, C.val (.pointer (some ⟨b1, 0, none⟩))), (14, C.bool x4)], [Obj.box b1 37 [C.val (.slice none 0 0), C.int x3]]⟩) (fun (x3, x4) => spec_LiveJoin_j4 p0 p1 x3 x4 = some r) ?_ ?_
  · refine AW.region ?_
    refine Ops.v rfl (op_move rfl rfl) ?_
    refine Ops.v rfl (op_len_im sl_25 rfl rfl) ?_
    refine Ops.v rfl (op_bin rfl rfl rfl rfl) ?_
    refine Ops.v rfl (op_move rfl rfl) ?_
    refine tf' (decide ((p0.length : Int) > 400)) (fun hb2 => ?_) (fun hb2 => ?_)
    · replace h := cond_t hb2 h
      refine Ops.gs rfl rfl rfl (.b rfl hb2) rfl rfl ?_
      refine Ops.gs rfl rfl rfl (.b rfl hb2) rfl rfl ?_
      refine Ops.gs rfl rfl rfl (.b rfl hb2) rfl rfl ?_
      refine Ops.v rfl (op_pick_t rfl hb2 rfl rfl) ?_
      refine Ops.nil ?_
      exact ⟨(0, true), h, Ghost.both (ns := [0]) rfl rfl⟩
    · replace h := cond_f hb2 h
      refine Ops.gv rfl rfl rfl rfl hb2 (op_move rfl rfl) ?_
      refine Ops.gv rfl rfl rfl rfl hb2 (op_len_im sl_25 rfl rfl) ?_
      refine Ops.gv rfl rfl rfl rfl hb2 (op_bin rfl rfl rfl rfl) ?_
      refine Ops.v rfl (op_pick_f rfl hb2 rfl rfl) ?_
      refine Ops.nil ?_
      exact ⟨(0, decide ((p1.length : Int) > 400)), h, Ghost.both (ns := [0]) rfl rfl⟩
  · rintro ⟨x3, x4⟩ h
    replace h : spec_LiveJoin_j4 p0 p1 x3 x4 = some r := h
    unfold spec_LiveJoin_j4 at h
    refine tf' (x4) (fun hb5 => ?_) (fun hb5 => ?_)
    · replace h := cond_t hb5 h
      refine AW.cond rfl (fun _ => ?_) (fun hn => absurd (hb5.symm.trans hn) (by decide))
      refine AW.seq ?_
      refine AW.region ?_
      refine Ops.v rfl (op_build (ds := [C.val (.slice none 0 0), C.int 2]) pl_37 ze_37 (cells_zero rfl rfl) (.one rfl (One.val rfl) rfl rfl .nil) rfl) ?_
      refine Ops.hd (ns := [0]) rfl rfl (op_storeA (gs := [C.val (.slice none 0 0), C.int 2]) ld_37 rfl rfl rfl rfl rfl) ?_
      refine Ops.nil ?_
      refine AW.ret ?_
      rw [← Option.some.inj h]
      exact ⟨[C.agg [C.val (.slice none 0 0), C.int 2]], _, Ghost.nil 54 kLive 2, (.cons (.cell (p := 1) rfl rfl ld_37 rfl) .nil), [0], _, _, rfl, ⟨(.slice none 0 0), rfl, rfl⟩⟩
    · replace h := cond_f hb5 h
      refine AW.cond rfl (fun hn => absurd (hb5.symm.trans hn) (by decide)) (fun _ => ?_)
      refine AW.skip ?_
      refine AW.seq ?_
      refine AW.seq ?_
      refine AW.cut (τ := Int × Bool) (fun (x11, x12) => ⟨[(0, C.im kLive 2 p0), (1, C.im kLive 2 p1), (4, C.val (.pointer (some ⟨b1, 0, none⟩))), (23, C.bool x12)], [Obj.box b1 37 [C.val (.slice none 0 0), C.int x11]]⟩) (fun (x11, x12) => spec_LiveJoin_j3 p0 p1 x11 x12 = some r) ?_ ?_
      · refine AW.region ?_
        refine Ops.v rfl (op_move rfl rfl) ?_
        refine ob' h fun r6 g7 h => ?_
        refine Ops.hd (ns := []) rfl rfl (op_callE (ok_spec_LiveRight _ _ g7) rfl rfl) ?_
        refine Ops.v rfl (op_not rfl rfl) ?_
        refine Ops.v rfl (op_move rfl rfl) ?_
        refine tf' (r6) (fun hb8 => ?_) (fun hb8 => ?_)
        · replace h := cond_t hb8 h
          refine Ops.gv rfl rfl rfl rfl (not_t hb8) (op_move rfl rfl) ?_
          refine ob' h fun r9 g10 h => ?_
          refine Ops.ghd (ns := []) rfl rfl rfl rfl (not_t hb8) rfl (op_callE (ok_spec_LiveRight _ _ g10) rfl rfl) ?_
          refine Ops.gv rfl rfl rfl rfl (not_t hb8) (op_not rfl rfl) ?_
          refine Ops.v rfl (op_pick_f rfl (not_t hb8) rfl rfl) ?_
          refine Ops.nil ?_
          exact ⟨(x3, (!r9)), h, Ghost.both (ns := [0]) rfl rfl⟩
        · replace h := cond_f hb8 h
          refine Ops.gs rfl rfl rfl (.b rfl (not_f hb8)) rfl rfl ?_
          refine Ops.gs rfl rfl rfl (.b rfl (not_f hb8)) rfl rfl ?_
          refine Ops.gs rfl rfl rfl (.b rfl (not_f hb8)) rfl rfl ?_
          refine Ops.v rfl (op_pick_t rfl (not_f hb8) rfl rfl) ?_
          refine Ops.nil ?_
          exact ⟨(x3, true), h, Ghost.both (ns := [0]) rfl rfl⟩
      · rintro ⟨x11, x12⟩ h
        replace h : spec_LiveJoin_j3 p0 p1 x11 x12 = some r := h
        unfold spec_LiveJoin_j3 at h
        refine tf' (x12) (fun hb13 => ?_) (fun hb13 => ?_)
        · replace h := cond_t hb13 h
          refine AW.cond rfl (fun _ => ?_) (fun hn => absurd (hb13.symm.trans hn) (by decide))
          refine AW.seq ?_
          refine AW.region ?_
          refine Ops.v rfl (op_build (ds := [C.val (.slice none 0 0), C.int 1]) pl_37 ze_37 (cells_zero rfl rfl) (.one rfl (One.val rfl) rfl rfl .nil) rfl) ?_
          refine Ops.hd (ns := [0]) rfl rfl (op_storeA (gs := [C.val (.slice none 0 0), C.int 1]) ld_37 rfl rfl rfl rfl rfl) ?_
          refine Ops.nil ?_
          refine AW.ret ?_
          rw [← Option.some.inj h]
          exact ⟨[C.agg [C.val (.slice none 0 0), C.int 1]], _, Ghost.nil 54 kLive 2, (.cons (.cell (p := 1) rfl rfl ld_37 rfl) .nil), [0], _, _, rfl, ⟨(.slice none 0 0), rfl, rfl⟩⟩
        · replace h := cond_f hb13 h
          refine AW.cond rfl (fun hn => absurd (hb13.symm.trans hn) (by decide)) (fun _ => ?_)
          refine AW.skip ?_
          refine AW.seq ?_
          refine AW.region ?_
          refine Ops.h (ns := []) rfl rfl (op_buildSlice (k := kLive) (ys := ([] : List TLive)) ar_25 .nil rfl rfl rfl) ?_
          rintro _ _ ⟨b14, rfl, rfl⟩
          refine Ops.v rfl (op_move rfl rfl) ?_
          refine ob' h fun u16 c15 h => ?_
          refine Ops.h (ns := [0]) rfl rfl (op_append_im ar_25 rfl rfl (of_decide_eq_true (chk_some c15)) (app63 (by decide) c15) rfl) ?_
          rintro _ _ ⟨v17, rfl, rfl⟩
          refine Ops.v rfl (op_assign rfl rfl) ?_
          refine Ops.nil ?_
          refine AW.seq ?_
          refine AW.cut (τ := Int × List TLive × Value) (fun (x49, l51, v50) => ⟨[(4, C.val (.pointer (some ⟨b1, 0, none⟩))), (5, C.val v50)], [Obj.box b1 37 [C.val (.slice none 0 0), C.int x49], Obj.arr v50 54 kLive 2 l51]⟩) (fun (x49, l51, v50) => spec_LiveJoin_j1 x49 l51 = some r) ?_ ?_
          · refine AW.seq ?_
            refine AW.region ?_
            refine Ops.v rfl (op_assign rfl rfl) ?_
            refine Ops.nil ?_
            refine AW.block ?_
            refine ob' h fun o57 g58 q59 => ?_
            refine AW.loop (τ := List TLive × Int × Value) (x := ((([] : List TLive) ++ p0), 0, v17)) (fun (l33, x34, v32) => ⟨[(1, C.im kLive 2 p1), (4, C.val (.pointer (some ⟨b1, 0, none⟩))), (5, C.val v32), (6, C.int x34)], [Obj.box b1 37 [C.val (.slice none 0 0), C.int x11], Obj.arr v32 54 kLive 2 l33]⟩) (fun k (l33, x34, v32) => iter (fun z54 => spec_LiveJoin_s2 p1 x11 z54.1 z54.2) k (l33, x34) = some o57) g58 (Ghost.both (ns := [1, 0]) rfl rfl) ?_
            rintro k ⟨l33, x34, v32⟩ i61
            refine iter_succ' (show iter (fun z54 => spec_LiveJoin_s2 p1 x11 z54.1 z54.2) k (l33, x34) = some o57 from i61) fun k60 y62 hlt_k60 h h63 => ?_
            replace h : spec_LiveJoin_s2 p1 x11 l33 x34 = some y62 := h
            unfold spec_LiveJoin_s2 at h
            refine AW.seq ?_
            refine AW.seq ?_
            refine AW.region ?_
            refine Ops.v rfl (op_move rfl rfl) ?_
            refine Ops.v rfl (op_move rfl rfl) ?_
            refine Ops.v rfl (op_len_im sl_25 rfl rfl) ?_
            refine Ops.v rfl (op_bin rfl rfl rfl rfl) ?_
            refine Ops.nil ?_
            refine tf' (decide (x34 < (p1.length : Int))) (fun hb35 => ?_) (fun hb35 => ?_)
            · replace h := cond_t hb35 h
              refine AW.cond rfl (fun _ => ?_) (fun hn => absurd (hb35.symm.trans hn) (by decide))
              refine AW.skip ?_
              refine AW.seq ?_
              refine AW.block ?_
              refine AW.regionD (L := [5, 10]) (Lt := []) (k := .light 0 false (.light 1 false (.light 2 false (.light 3 false (.light 4 false (.light 5 true (.light 6 false (.light 7 false (.light 8 false (.light 9 false (.light 10 true (.one 11 (.light 12 false .done))))))))))))) (ns := [0]) (by kernel_rfl) (by kernel_rfl) (by kernel_rfl) (by kernel_rfl) rfl ?_
              refine OpsD.v rfl rfl (op_move rfl rfl) ?_
              refine OpsD.v rfl rfl (op_move rfl rfl) ?_
              refine OpsD.v rfl rfl (op_move rfl rfl) ?_
              refine ob' h fun e44 g45 h => ?_
              refine OpsD.v rfl rfl (op_indexAddr_im sl_25 rfl rfl g45 rfl) ?_
              refine OpsD.v rfl rfl (op_fieldAddr_ip fo_54_0 rfl rfl rfl) ?_
              refine OpsD.v rfl rfl (op_load_ip ld_2 rfl rfl) ?_
              refine OpsD.v rfl rfl (op_move rfl rfl) ?_
              refine OpsD.v rfl rfl (op_move rfl rfl) ?_
              refine OpsD.v rfl rfl (op_indexAddr_im sl_25 rfl rfl g45 rfl) ?_
              refine OpsD.v rfl rfl (op_fieldAddr_ip fo_54_1 rfl rfl rfl) ?_
              refine OpsD.v rfl rfl (op_load_ip ld_2 rfl rfl) ?_
              refine OpsD.one ?_
              refine ob' h fun r46 g47 h => ?_
              refine StepD.h (ns := [0]) rfl rfl rfl (op_call (Ok.lend (ok_spec_l20Set _ _ _ _ g47) (FrzT.cons (os := [_]) Frz.arr (FrzT.cons (os := []) (Frz.same _) (FrzT.cons (os := []) (Frz.same _) (FrzT.nil)))) (by rintro _ _ ⟨_, rfl, rfl⟩; exact ⟨(PlainC.val _), plainO_cons (PlainO.arr plain_kLive) (plainO_nil)⟩)) rfl rfl) ?_
              rintro _ _ ⟨_, ⟨_, ⟨v48, rfl, rfl⟩, rfl⟩, rfl⟩
              refine OpsD.v rfl rfl (op_assign rfl rfl) ?_
              refine OpsD.done ?_
              refine AW.region ?_
              refine Ops.v rfl (op_move rfl rfl) ?_
              refine Ops.v rfl (op_bin rfl rfl rfl rfl) ?_
              refine Ops.v rfl (op_assign rfl rfl) ?_
              refine Ops.nil ?_
              obtain rfl := Option.some.inj h
              exact ⟨k60, (r46, (IntKind.i64.wrap (x34 + 1)), v48), hlt_k60, h63, Ghost.both (ns := [0, 0]) rfl rfl⟩
            · replace h := cond_f hb35 h
              refine AW.cond rfl (fun hn => absurd (hb35.symm.trans hn) (by decide)) (fun _ => ?_)
              refine AW.exit ?_
              obtain rfl := Option.some.inj h
              obtain rfl := Option.some.inj h63
              replace h := q59
              exact ⟨(x11, l33, v32), h, Ghost.both (ns := [0, 0]) rfl rfl⟩
          · rintro ⟨x49, l51, v50⟩ h
            replace h : spec_LiveJoin_j1 x49 l51 = some r := h
            unfold spec_LiveJoin_j1 at h
            refine AW.seq ?_
            refine AW.region ?_
            refine Ops.v rfl (op_move rfl rfl) ?_
            refine Ops.learn (Sim.arr_one (p := 1) rfl) fun n52 => ?_
            refine Ops.v rfl (op_build (ds := [C.val v50, C.int 0]) pl_37 ze_37 (cells_zero rfl rfl) (.one rfl (One.val n52) rfl rfl .nil) rfl) ?_
            refine Ops.hd (ns := [0]) rfl rfl (op_storeA (gs := [C.val v50, C.int 0]) ld_37 rfl rfl rfl rfl rfl) ?_
            refine Ops.nil ?_
            refine AW.ret ?_
            rw [← Option.some.inj h]
            exact ⟨[C.agg [C.val v50, C.int 0]], _, Ghost.refl _, (.cons (.cell (p := 0) rfl rfl ld_37 rfl) .nil), [1], _, _, rfl, ⟨v50, rfl, rfl⟩⟩
theorem ok_spec_LiveJoin' (p0 : List TLive) (p1 : List TLive) (r : TLiveOut) (h : spec_LiveJoin p0 p1 = some r) : Ok Try.prog 27 [C.im kLive 2 p0, C.im kLive 2 p1] [] (fun c qs => c = C.agg [C.im kLive 2 r.row, C.int r.code] ∧ qs = []) :=
  Ok.freeze (ok_spec_LiveJoin p0 p1 r h) (by rintro c qs ⟨v53, rfl, rfl⟩; exact Frz.agg (FrzL.cons (os := [_]) (Frz.arr) (FrzL.cons (os := []) (Frz.same _) (FrzL.nil))))

end Go.Proofs.Ytiajhengifcljaa
