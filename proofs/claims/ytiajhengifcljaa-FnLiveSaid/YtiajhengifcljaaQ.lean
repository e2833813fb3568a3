/- Printed by gen.py: plain functions for Go functions, and that the walks keep to them. -/
import Derived.Test.YtiajhengifcljaaQ1
set_option autoImplicit false
set_option maxRecDepth 100000
namespace Go.Proofs.Ytiajhengifcljaa
open Go Go.Abs
def impl_LiveJoin_j1 (x34 : Int) (l36 : List TLive) : Option TLiveOut := some (TLiveOut.mk l36 0)
def impl_LiveJoin_s2 (p1 : List TLive) (x11 : Int) (l25 : List TLive) (x26 : Int) : Option ((List TLive × Int) ⊕ ((Int × List TLive))) := cond (decide (x26 < (p1.length : Int))) ((getI p1 x26).bind fun e28 => (impl_setLive l25 e28).bind fun r31 => some (.inl (r31, (IntKind.i64.wrap (x26 + 1))))) (some (.inr (x11, l25)))
def impl_LiveJoin_j3 (p0 : List TLive) (p1 : List TLive) (x11 : Int) (x12 : Bool) : Option TLiveOut := cond x12 (some (TLiveOut.mk [] 1)) ((slices_Clone_impl_Live p0).bind fun r14 => (iter (fun z39 => impl_LiveJoin_s2 p1 x11 z39.1 z39.2) big (r14, 0)).bind fun (y40, y41) => impl_LiveJoin_j1 y40 y41)
def impl_LiveJoin_j4 (p0 : List TLive) (p1 : List TLive) (x3 : Int) (x4 : Bool) : Option TLiveOut := cond x4 (some (TLiveOut.mk [] 2)) ((impl_LiveRight p0).bind fun r6 => cond r6 ((impl_LiveRight p1).bind fun r9 => impl_LiveJoin_j3 p0 p1 x3 (!r9)) (impl_LiveJoin_j3 p0 p1 x3 true))
def impl_LiveJoin (p0 : List TLive) (p1 : List TLive) : Option TLiveOut := cond (decide ((p0.length : Int) > 400)) (impl_LiveJoin_j4 p0 p1 0 true) (impl_LiveJoin_j4 p0 p1 0 (decide ((p1.length : Int) > 400)))
theorem ok_impl_LiveJoin (p0 : List TLive) (p1 : List TLive) (r : TLiveOut) (h : impl_LiveJoin p0 p1 = some r) : Ok Try.prog 28 [C.im kLive 2 p0, C.im kLive 2 p1] [] (fun c qs => ∃ (v38 : Value), c = C.agg [C.val v38, C.int r.code] ∧ qs = [Obj.arr v38 54 kLive 2 r.row]) := by
  refine Ok.of_body (rs := [.cell 4 37]) Try.func28 rfl rfl rfl rfl rfl fun X => ?_
  unfold impl_LiveJoin at h
  refine AW.seq ?_
  refine AW.region ?_
  refine Ops.h (ns := []) rfl rfl (op_alloc (cs := [C.val (.slice none 0 0), C.int 0]) ze_37 (cells_zero rfl rfl) rfl) ?_
  rintro _ _ ⟨b1, rfl, rfl⟩
  refine Ops.nil ?_
  refine AW.seq ?_
  refine AW.block ?_
  refine AW.seq ?_
  refine AW.cut (τ := Int × Bool) (fun (x3, x4) => ⟨[(0, C.im kLive 2 p0), (1, C.im kLive 2 p1), (4, C.val (.pointer (some ⟨b1, 0, none⟩))), (8, C.bool x4)], [Obj.box b1 37 [C.val (.slice none 0 0), C.int x3]]⟩) (fun (x3, x4) => impl_LiveJoin_j4 p0 p1 x3 x4 = some r) ?_ ?_
  · refine AW.region ?_
    refine Ops.v rfl (op_move rfl rfl) ?_
    refine Ops.v rfl (op_len_im sl_25 rfl rfl) ?_
    refine Ops.v rfl (op_bin rfl rfl rfl rfl) ?_
    refine Ops.v rfl (op_move rfl rfl) ?_
    refine tf' (decide ((p0.length : Int) > 400)) (fun hb2 => ?_) (fun hb2 => ?_)
    · replace h := cond_t hb2 h
      refine Ops.gs rfl rfl rfl (.b rfl hb2) rfl rfl ?_
      refine Ops.gs rfl rfl rfl (.b rfl hb2) rfl rfl ?_
      refine Ops.gs rfl rfl rfl (.b rfl hb2) rfl rfl ?_
      refine Ops.v rfl (op_pick_t rfl hb2 rfl rfl) ?_
      refine Ops.v rfl (op_assign rfl rfl) ?_
      refine Ops.nil ?_
      exact ⟨(0, true), h, Ghost.both (ns := [0]) rfl rfl⟩
    · replace h := cond_f hb2 h
      refine Ops.gv rfl rfl rfl rfl hb2 (op_move rfl rfl) ?_
      refine Ops.gv rfl rfl rfl rfl hb2 (op_len_im sl_25 rfl rfl) ?_
      refine Ops.gv rfl rfl rfl rfl hb2 (op_bin rfl rfl rfl rfl) ?_
      refine Ops.v rfl (op_pick_f rfl hb2 rfl rfl) ?_
      refine Ops.v rfl (op_assign rfl rfl) ?_
      refine Ops.nil ?_
      exact ⟨(0, decide ((p1.length : Int) > 400)), h, Ghost.both (ns := [0]) rfl rfl⟩
  · rintro ⟨x3, x4⟩ h
    replace h : impl_LiveJoin_j4 p0 p1 x3 x4 = some r := h
    unfold impl_LiveJoin_j4 at h
    refine tf' (x4) (fun hb5 => ?_) (fun hb5 => ?_)
    · replace h := cond_t hb5 h
      refine AW.cond rfl (fun _ => ?_) (fun hn => absurd (hb5.symm.trans hn) (by decide))
      refine AW.seq ?_
      refine AW.region ?_
      refine Ops.v rfl (op_build (ds := [C.val (.slice none 0 0), C.int 2]) pl_37 ze_37 (cells_zero rfl rfl) (.one rfl (One.val rfl) rfl rfl .nil) rfl) ?_
      refine Ops.hd (ns := [0]) rfl rfl (op_storeA (gs := [C.val (.slice none 0 0), C.int 2]) ld_37 rfl rfl rfl rfl rfl) ?_
      refine Ops.nil ?_
      refine AW.ret ?_
      rw [← Option.some.inj h]
      exact ⟨[C.agg [C.val (.slice none 0 0), C.int 2]], _, Ghost.nil 54 kLive 2, (.cons (.cell (p := 1) rfl rfl ld_37 rfl) .nil), [0], _, _, rfl, ⟨(.slice none 0 0), rfl, rfl⟩⟩
    · replace h := cond_f hb5 h
      refine AW.cond rfl (fun hn => absurd (hb5.symm.trans hn) (by decide)) (fun _ => ?_)
      refine AW.seq ?_
      refine AW.cut (τ := Int × Bool) (fun (x11, x12) => ⟨[(0, C.im kLive 2 p0), (1, C.im kLive 2 p1), (4, C.val (.pointer (some ⟨b1, 0, none⟩))), (18, C.bool x12)], [Obj.box b1 37 [C.val (.slice none 0 0), C.int x11]]⟩) (fun (x11, x12) => impl_LiveJoin_j3 p0 p1 x11 x12 = some r) ?_ ?_
      · refine AW.region ?_
        refine Ops.v rfl (op_move rfl rfl) ?_
        refine ob' h fun r6 g7 h => ?_
        refine Ops.hd (ns := []) rfl rfl (op_callE (ok_impl_LiveRight _ _ g7) rfl rfl) ?_
        refine Ops.v rfl (op_not rfl rfl) ?_
        refine Ops.v rfl (op_move rfl rfl) ?_
        refine tf' (r6) (fun hb8 => ?_) (fun hb8 => ?_)
        · replace h := cond_t hb8 h
          refine Ops.gv rfl rfl rfl rfl (not_t hb8) (op_move rfl rfl) ?_
          refine ob' h fun r9 g10 h => ?_
          refine Ops.ghd (ns := []) rfl rfl rfl rfl (not_t hb8) rfl (op_callE (ok_impl_LiveRight _ _ g10) rfl rfl) ?_
          refine Ops.gv rfl rfl rfl rfl (not_t hb8) (op_not rfl rfl) ?_
          refine Ops.v rfl (op_pick_f rfl (not_t hb8) rfl rfl) ?_
          refine Ops.v rfl (op_assign rfl rfl) ?_
          refine Ops.nil ?_
          exact ⟨(x3, (!r9)), h, Ghost.both (ns := [0]) rfl rfl⟩
        · replace h := cond_f hb8 h
          refine Ops.gs rfl rfl rfl (.b rfl (not_f hb8)) rfl rfl ?_
          refine Ops.gs rfl rfl rfl (.b rfl (not_f hb8)) rfl rfl ?_
          refine Ops.gs rfl rfl rfl (.b rfl (not_f hb8)) rfl rfl ?_
          refine Ops.v rfl (op_pick_t rfl (not_f hb8) rfl rfl) ?_
          refine Ops.v rfl (op_assign rfl rfl) ?_
          refine Ops.nil ?_
          exact ⟨(x3, true), h, Ghost.both (ns := [0]) rfl rfl⟩
      · rintro ⟨x11, x12⟩ h
        replace h : impl_LiveJoin_j3 p0 p1 x11 x12 = some r := h
        unfold impl_LiveJoin_j3 at h
        refine tf' (x12) (fun hb13 => ?_) (fun hb13 => ?_)
        · replace h := cond_t hb13 h
          refine AW.cond rfl (fun _ => ?_) (fun hn => absurd (hb13.symm.trans hn) (by decide))
          refine AW.seq ?_
          refine AW.region ?_
          refine Ops.v rfl (op_build (ds := [C.val (.slice none 0 0), C.int 1]) pl_37 ze_37 (cells_zero rfl rfl) (.one rfl (One.val rfl) rfl rfl .nil) rfl) ?_
          refine Ops.hd (ns := [0]) rfl rfl (op_storeA (gs := [C.val (.slice none 0 0), C.int 1]) ld_37 rfl rfl rfl rfl rfl) ?_
          refine Ops.nil ?_
          refine AW.ret ?_
          rw [← Option.some.inj h]
          exact ⟨[C.agg [C.val (.slice none 0 0), C.int 1]], _, Ghost.nil 54 kLive 2, (.cons (.cell (p := 1) rfl rfl ld_37 rfl) .nil), [0], _, _, rfl, ⟨(.slice none 0 0), rfl, rfl⟩⟩
        · replace h := cond_f hb13 h
          refine AW.cond rfl (fun hn => absurd (hb13.symm.trans hn) (by decide)) (fun _ => ?_)
          refine AW.skip ?_
          refine AW.seq ?_
          refine AW.region ?_
          refine Ops.v rfl (op_move rfl rfl) ?_
          refine ob' h fun r14 g15 h => ?_
          refine Ops.h (ns := []) rfl rfl (op_call (ok_slices_Clone_impl_Live _ _ g15) rfl rfl) ?_
          rintro _ _ ⟨_, ⟨v16, rfl, rfl⟩, rfl⟩
          refine Ops.v rfl (op_assign rfl rfl) ?_
          refine Ops.nil ?_
          refine AW.seq ?_
          refine AW.cut (τ := Int × List TLive × Value) (fun (x34, l36, v35) => ⟨[(4, C.val (.pointer (some ⟨b1, 0, none⟩))), (5, C.val v35)], [Obj.box b1 37 [C.val (.slice none 0 0), C.int x34], Obj.arr v35 54 kLive 2 l36]⟩) (fun (x34, l36, v35) => impl_LiveJoin_j1 x34 l36 = some r) ?_ ?_
          · refine AW.seq ?_
            refine AW.region ?_
            refine Ops.v rfl (op_move rfl rfl) ?_
            refine Ops.v rfl (op_len_im sl_25 rfl rfl) ?_
            refine Ops.v rfl (op_move rfl rfl) ?_
            refine Ops.nil ?_
            refine AW.block ?_
            refine ob' h fun o42 g43 q44 => ?_
            refine AW.loop (τ := List TLive × Int × Value) (x := (r14, 0, v16)) (fun (l25, x26, v24) => ⟨[(4, C.val (.pointer (some ⟨b1, 0, none⟩))), (5, C.val v24), (30, C.im kLive 2 p1), (31, C.int (p1.length : Int)), (32, C.int x26)], [Obj.box b1 37 [C.val (.slice none 0 0), C.int x11], Obj.arr v24 54 kLive 2 l25]⟩) (fun k (l25, x26, v24) => iter (fun z39 => impl_LiveJoin_s2 p1 x11 z39.1 z39.2) k (l25, x26) = some o42) g43 (Ghost.both (ns := [1, 0]) rfl rfl) ?_
            rintro k ⟨l25, x26, v24⟩ i46
            refine iter_succ' (show iter (fun z39 => impl_LiveJoin_s2 p1 x11 z39.1 z39.2) k (l25, x26) = some o42 from i46) fun k45 y47 hlt_k45 h h48 => ?_
            replace h : impl_LiveJoin_s2 p1 x11 l25 x26 = some y47 := h
            unfold impl_LiveJoin_s2 at h
            refine AW.seq ?_
            refine AW.region ?_
            refine Ops.v rfl (op_bin rfl rfl rfl rfl) ?_
            refine Ops.nil ?_
            refine AW.seq ?_
            refine tf' (decide (x26 < (p1.length : Int))) (fun hb27 => ?_) (fun hb27 => ?_)
            · replace h := cond_t hb27 h
              refine AW.cond rfl (fun _ => ?_) (fun hn => absurd (hb27.symm.trans hn) (by decide))
              refine AW.skip ?_
              refine AW.seq ?_
              refine AW.block ?_
              refine AW.seq ?_
              refine AW.region ?_
              refine ob' h fun e28 g29 h => ?_
              refine Ops.v rfl (op_indexAddr_im sl_25 rfl rfl g29 rfl) ?_
              refine Ops.v rfl (op_load_ipA ld_54 rfl rfl rfl rfl) ?_
              refine Ops.h (ns := []) rfl rfl (op_alloc (cs := [C.int 0, C.int 0]) ze_54 (cells_zero rfl rfl) rfl) ?_
              rintro _ _ ⟨b30, rfl, rfl⟩
              refine Ops.hd (ns := [0]) rfl rfl (op_storeA (gs := [C.int e28.user, C.int e28.till]) ld_54 rfl rfl rfl rfl rfl) ?_
              refine Ops.nil ?_
              refine AW.region ?_
              refine Ops.v rfl (op_move rfl rfl) ?_
              refine Ops.v rfl (op_loadA (p := 0) (ds := [C.int e28.user, C.int e28.till]) ld_54 rfl rfl rfl rfl rfl) ?_
              refine ob' h fun r31 g32 h => ?_
              refine Ops.h (ns := [2]) rfl rfl (op_call (ok_impl_setLive _ e28 _ g32) rfl rfl) ?_
              rintro _ _ ⟨_, ⟨v33, rfl, rfl⟩, rfl⟩
              refine Ops.v rfl (op_assign rfl rfl) ?_
              refine Ops.nil ?_
              refine AW.region ?_
              refine Ops.v rfl (op_bin rfl rfl rfl rfl) ?_
              refine Ops.v rfl (op_move rfl rfl) ?_
              refine Ops.nil ?_
              obtain rfl := Option.some.inj h
              exact ⟨k45, (r31, (IntKind.i64.wrap (x26 + 1)), v33), hlt_k45, h48, Ghost.both (ns := [2, 0]) rfl rfl⟩
            · replace h := cond_f hb27 h
              refine AW.cond rfl (fun hn => absurd (hb27.symm.trans hn) (by decide)) (fun _ => ?_)
              refine AW.exit ?_
              obtain rfl := Option.some.inj h
              obtain rfl := Option.some.inj h48
              replace h := q44
              exact ⟨(x11, l25, v24), h, Ghost.both (ns := [0, 0]) rfl rfl⟩
          · rintro ⟨x34, l36, v35⟩ h
            replace h : impl_LiveJoin_j1 x34 l36 = some r := h
            unfold impl_LiveJoin_j1 at h
            refine AW.seq ?_
            refine AW.region ?_
            refine Ops.v rfl (op_move rfl rfl) ?_
            refine Ops.learn (Sim.arr_one (p := 1) rfl) fun n37 => ?_
            refine Ops.v rfl (op_build (ds := [C.val v35, C.int 0]) pl_37 ze_37 (cells_zero rfl rfl) (.one rfl (One.val n37) rfl rfl .nil) rfl) ?_
            refine Ops.hd (ns := [0]) rfl rfl (op_storeA (gs := [C.val v35, C.int 0]) ld_37 rfl rfl rfl rfl rfl) ?_
            refine Ops.nil ?_
            refine AW.ret ?_
            rw [← Option.some.inj h]
            exact ⟨[C.agg [C.val v35, C.int 0]], _, Ghost.refl _, (.cons (.cell (p := 0) rfl rfl ld_37 rfl) .nil), [1], _, _, rfl, ⟨v35, rfl, rfl⟩⟩
theorem ok_impl_LiveJoin' (p0 : List TLive) (p1 : List TLive) (r : TLiveOut) (h : impl_LiveJoin p0 p1 = some r) : Ok Try.prog 28 [C.im kLive 2 p0, C.im kLive 2 p1] [] (fun c qs => c = C.agg [C.im kLive 2 r.row, C.int r.code] ∧ qs = []) :=
  Ok.freeze (ok_impl_LiveJoin p0 p1 r h) (by rintro c qs ⟨v38, rfl, rfl⟩; exact Frz.agg (FrzL.cons (os := [_]) (Frz.arr) (FrzL.cons (os := []) (Frz.same _) (FrzL.nil))))

def laws_FnExactLiveJoin_j1 (p0 : List TLive) (p1 : List TLive) (r11 : TLiveOut) (r20 : TLiveOut) (x44 : Int) (x45 : Int) (x46 : Bool) : Option Bool := cond x46 (some false) ((laws_markLiveOut (TLiveOut.mk r20.row x45) 1).bind fun r48 => (laws_heldLiveOut (TLiveOut.mk r48.2 x45) 1).bind fun r50 => cond (decide (r50 < 0)) (some false) (cond (r50 != r48.1) (some false) ((laws_toLiveS p0).bind fun r54 => (laws_toLiveS p1).bind fun r56 => (impl_LiveJoin r54 r56).bind fun r58 => (laws_eqLiveOut r58 (TLiveOut.mk r11.row x44)).bind fun r61 => cond r61 ((laws_heldLiveOut (TLiveOut.mk r48.2 x45) 1).bind fun r64 => cond (decide (r64 < 0)) (some false) (cond (r64 != r48.1) (some false) (some true))) (some false))))
def laws_FnExactLiveJoin (p0 : List TLive) (p1 : List TLive) : Option Bool := (laws_szLiveS p0 1048576).bind fun r1 => cond (decide (r1 < 0)) (some true) ((laws_szLiveS p1 r1).bind fun r4 => cond (decide (r4 < 0)) (some true) ((laws_toLiveS p0).bind fun r7 => (laws_toLiveS p1).bind fun r9 => (spec_LiveJoin r7 r9).bind fun r11 => (laws_toLiveS p0).bind fun r14 => (laws_toLiveS p1).bind fun r17 => (impl_LiveJoin r14 r17).bind fun r20 => (laws_eqLiveOut r20 r11).bind fun r24 => cond r24 ((laws_toLiveS p0).bind fun r27 => (laws_eqLiveS r14 r27).bind fun r29 => cond r29 ((laws_toLiveS p1).bind fun r32 => (laws_eqLiveS r17 r32).bind fun r34 => cond r34 ((laws_markLiveS r14 1).bind fun r37 => (laws_markLiveS r17 r37.1).bind fun r39 => cond (decide (r39.1 < 0)) (laws_FnExactLiveJoin_j1 p0 p1 r11 r20 r11.code r20.code true) ((laws_eqLiveOut r20 r11).bind fun r42 => laws_FnExactLiveJoin_j1 p0 p1 r11 r20 r11.code r20.code (!r42))) (some false)) (some false)) (some false)))
theorem ok_laws_FnExactLiveJoin (p0 : List TLive) (p1 : List TLive) (r : Bool) (h : laws_FnExactLiveJoin p0 p1 = some r) : Ok Try.prog 7 [C.im kLive 2 p0, C.im kLive 2 p1] [] (fun c qs => c = C.bool r ∧ qs = []) := by
  refine Ok.of_body (rs := [.tmp 4]) Try.func7 rfl rfl rfl rfl rfl fun X => ?_
  unfold laws_FnExactLiveJoin at h
  refine AW.seq ?_
  refine AW.region ?_
  refine Ops.v rfl (op_assign rfl rfl) ?_
  refine Ops.nil ?_
  refine AW.seq ?_
  refine AW.region ?_
  refine Ops.v rfl (op_assign rfl rfl) ?_
  refine Ops.nil ?_
  refine AW.seq ?_
  refine AW.region ?_
  refine Ops.v rfl (op_move rfl rfl) ?_
  refine Ops.v rfl (op_move rfl rfl) ?_
  refine ob' h fun r1 g2 h => ?_
  refine Ops.hd (ns := []) rfl rfl (op_callE (ok_laws_szLiveS _ _ _ g2) rfl rfl) ?_
  refine Ops.v rfl (op_assign rfl rfl) ?_
  refine Ops.nil ?_
  refine AW.seq ?_
  refine AW.seq ?_
  refine AW.region ?_
  refine Ops.v rfl (op_move rfl rfl) ?_
  refine Ops.v rfl (op_bin rfl rfl rfl rfl) ?_
  refine Ops.nil ?_
  refine tf' (decide (r1 < 0)) (fun hb3 => ?_) (fun hb3 => ?_)
  · replace h := cond_t hb3 h
    refine AW.cond rfl (fun _ => ?_) (fun hn => absurd (hb3.symm.trans hn) (by decide))
    refine AW.seq ?_
    refine AW.region ?_
    refine Ops.v rfl (op_assign rfl rfl) ?_
    refine Ops.nil ?_
    refine AW.ret ?_
    rw [← Option.some.inj h]
    exact ⟨[C.bool true], _, Ghost.refl _, (.cons (.tmp rfl) .nil), [], _, _, rfl, ⟨rfl, rfl⟩⟩
  · replace h := cond_f hb3 h
    refine AW.cond rfl (fun hn => absurd (hb3.symm.trans hn) (by decide)) (fun _ => ?_)
    refine AW.skip ?_
    refine AW.seq ?_
    refine AW.region ?_
    refine Ops.v rfl (op_move rfl rfl) ?_
    refine Ops.v rfl (op_move rfl rfl) ?_
    refine ob' h fun r4 g5 h => ?_
    refine Ops.hd (ns := []) rfl rfl (op_callE (ok_laws_szLiveS _ _ _ g5) rfl rfl) ?_
    refine Ops.v rfl (op_assign rfl rfl) ?_
    refine Ops.nil ?_
    refine AW.seq ?_
    refine AW.seq ?_
    refine AW.region ?_
    refine Ops.v rfl (op_move rfl rfl) ?_
    refine Ops.v rfl (op_bin rfl rfl rfl rfl) ?_
    refine Ops.nil ?_
    refine tf' (decide (r4 < 0)) (fun hb6 => ?_) (fun hb6 => ?_)
    · replace h := cond_t hb6 h
      refine AW.cond rfl (fun _ => ?_) (fun hn => absurd (hb6.symm.trans hn) (by decide))
      refine AW.seq ?_
      refine AW.region ?_
      refine Ops.v rfl (op_assign rfl rfl) ?_
      refine Ops.nil ?_
      refine AW.ret ?_
      rw [← Option.some.inj h]
      exact ⟨[C.bool true], _, Ghost.refl _, (.cons (.tmp rfl) .nil), [], _, _, rfl, ⟨rfl, rfl⟩⟩
    · replace h := cond_f hb6 h
      refine AW.cond rfl (fun hn => absurd (hb6.symm.trans hn) (by decide)) (fun _ => ?_)
      refine AW.skip ?_
      refine AW.seq ?_
      refine AW.region ?_
      refine Ops.v rfl (op_move rfl rfl) ?_
      refine ob' h fun r7 g8 h => ?_
      refine Ops.hd (ns := []) rfl rfl (op_callE (ok_laws_toLiveS' _ _ g8) rfl rfl) ?_
      refine Ops.v rfl (op_move rfl rfl) ?_
      refine ob' h fun r9 g10 h => ?_
      refine Ops.hd (ns := []) rfl rfl (op_callE (ok_laws_toLiveS' _ _ g10) rfl rfl) ?_
      refine ob' h fun r11 g12 h => ?_
      refine Ops.hd (ns := []) rfl rfl (op_callE (ok_spec_LiveJoin' _ _ _ g12) rfl rfl) ?_
      refine Ops.h (ns := []) rfl rfl (op_alloc (cs := [C.val (.slice none 0 0), C.int 0]) ze_37 (cells_zero rfl rfl) rfl) ?_
      rintro _ _ ⟨b13, rfl, rfl⟩
      refine Ops.hd (ns := [0]) rfl rfl (op_storeA (gs := [C.im kLive 2 r11.row, C.int r11.code]) ld_37 rfl rfl rfl rfl rfl) ?_
      refine Ops.nil ?_
      refine AW.seq ?_
      refine AW.region ?_
      refine Ops.v rfl (op_move rfl rfl) ?_
      refine ob' h fun r14 g15 h => ?_
      refine Ops.h (ns := []) rfl rfl (op_call (ok_laws_toLiveS _ _ g15) rfl rfl) ?_
      rintro _ _ ⟨_, ⟨v16, rfl, rfl⟩, rfl⟩
      refine Ops.v rfl (op_assign rfl rfl) ?_
      refine Ops.nil ?_
      refine AW.seq ?_
      refine AW.region ?_
      refine Ops.v rfl (op_move rfl rfl) ?_
      refine ob' h fun r17 g18 h => ?_
      refine Ops.h (ns := []) rfl rfl (op_call (ok_laws_toLiveS _ _ g18) rfl rfl) ?_
      rintro _ _ ⟨_, ⟨v19, rfl, rfl⟩, rfl⟩
      refine Ops.v rfl (op_assign rfl rfl) ?_
      refine Ops.nil ?_
      refine AW.seq ?_
      refine AW.region ?_
      refine Ops.v rfl (op_move rfl rfl) ?_
      refine Ops.v rfl (op_move rfl rfl) ?_
      refine ob' h fun r20 g21 h => ?_
      refine Ops.h (ns := [1, 0]) rfl rfl (op_call (Ok.lend (ok_impl_LiveJoin _ _ _ g21) (FrzT.cons (os := [_]) Frz.arr (FrzT.cons (os := [_]) Frz.arr (FrzT.nil))) (by rintro _ _ ⟨_, rfl, rfl⟩; exact ⟨(PlainC.agg (PlainCs.cons (PlainC.val _) (PlainCs.cons (PlainC.val _) (PlainCs.nil)))), plainO_cons (PlainO.arr plain_kLive) (plainO_nil)⟩)) rfl rfl) ?_
      rintro _ _ ⟨_, ⟨_, ⟨v22, rfl, rfl⟩, rfl⟩, rfl⟩
      refine Ops.h (ns := []) rfl rfl (op_alloc (cs := [C.val (.slice none 0 0), C.int 0]) ze_37 (cells_zero rfl rfl) rfl) ?_
      rintro _ _ ⟨b23, rfl, rfl⟩
      refine Ops.hd (ns := [0]) rfl rfl (op_storeA (gs := [C.val v22, C.int r20.code]) ld_37 rfl rfl rfl rfl rfl) ?_
      refine Ops.nil ?_
      refine AW.seq ?_
      refine AW.seq ?_
      refine AW.region ?_
      refine Ops.v rfl (op_loadA (p := 0) (ds := [C.val v22, C.int r20.code]) ld_37 rfl rfl rfl rfl rfl) ?_
      refine Ops.v rfl (op_loadA (p := 4) (ds := [C.im kLive 2 r11.row, C.int r11.code]) ld_37 rfl rfl rfl rfl rfl) ?_
      refine ob' h fun r24 g25 h => ?_
      refine Ops.hd (ns := [1]) rfl rfl (op_callE (Ok.lendE (ok_laws_eqLiveOut r20 r11 _ g25) (FrzT.cons (os := [_]) (Frz.agg (FrzL.cons (os := [_]) Frz.arr (FrzL.cons (os := []) (Frz.same _) (FrzL.nil)))) (FrzT.cons (os := []) (Frz.same _) (FrzT.nil))) (PlainC.val _)) rfl rfl) ?_
      refine Ops.v rfl (op_not rfl rfl) ?_
      refine Ops.nil ?_
      refine tf' (r24) (fun hb26 => ?_) (fun hb26 => ?_)
      · replace h := cond_t hb26 h
        refine AW.cond rfl (fun hn => absurd ((not_t hb26).symm.trans hn) (by decide)) (fun _ => ?_)
        refine AW.skip ?_
        refine AW.seq ?_
        refine AW.seq ?_
        refine AW.region ?_
        refine Ops.v rfl (op_move rfl rfl) ?_
        refine Ops.v rfl (op_move rfl rfl) ?_
        refine ob' h fun r27 g28 h => ?_
        refine Ops.hd (ns := []) rfl rfl (op_callE (ok_laws_toLiveS' _ _ g28) rfl rfl) ?_
        refine ob' h fun r29 g30 h => ?_
        refine Ops.hd (ns := [2]) rfl rfl (op_callE (Ok.lendE (ok_laws_eqLiveS _ _ _ g30) (FrzT.cons (os := [_]) Frz.arr (FrzT.cons (os := []) (Frz.same _) (FrzT.nil))) (PlainC.val _)) rfl rfl) ?_
        refine Ops.v rfl (op_not rfl rfl) ?_
        refine Ops.nil ?_
        refine tf' (r29) (fun hb31 => ?_) (fun hb31 => ?_)
        · replace h := cond_t hb31 h
          refine AW.cond rfl (fun hn => absurd ((not_t hb31).symm.trans hn) (by decide)) (fun _ => ?_)
          refine AW.skip ?_
          refine AW.seq ?_
          refine AW.seq ?_
          refine AW.region ?_
          refine Ops.v rfl (op_move rfl rfl) ?_
          refine Ops.v rfl (op_move rfl rfl) ?_
          refine ob' h fun r32 g33 h => ?_
          refine Ops.hd (ns := []) rfl rfl (op_callE (ok_laws_toLiveS' _ _ g33) rfl rfl) ?_
          refine ob' h fun r34 g35 h => ?_
          refine Ops.hd (ns := [3]) rfl rfl (op_callE (Ok.lendE (ok_laws_eqLiveS _ _ _ g35) (FrzT.cons (os := [_]) Frz.arr (FrzT.cons (os := []) (Frz.same _) (FrzT.nil))) (PlainC.val _)) rfl rfl) ?_
          refine Ops.v rfl (op_not rfl rfl) ?_
          refine Ops.nil ?_
          refine tf' (r34) (fun hb36 => ?_) (fun hb36 => ?_)
          · replace h := cond_t hb36 h
            refine AW.cond rfl (fun hn => absurd ((not_t hb36).symm.trans hn) (by decide)) (fun _ => ?_)
            refine AW.skip ?_
            refine AW.seq ?_
            refine AW.region ?_
            refine Ops.v rfl (op_assign rfl rfl) ?_
            refine Ops.nil ?_
            refine AW.seq ?_
            refine AW.region ?_
            refine Ops.v rfl (op_move rfl rfl) ?_
            refine Ops.v rfl (op_move rfl rfl) ?_
            refine ob' h fun r37 g38 h => ?_
            refine Ops.hd (ns := [1]) rfl rfl (op_callE (ok_laws_markLiveS _ _ _ g38) rfl rfl) ?_
            refine Ops.v rfl (op_assign rfl rfl) ?_
            refine Ops.nil ?_
            refine AW.seq ?_
            refine AW.region ?_
            refine Ops.v rfl (op_move rfl rfl) ?_
            refine Ops.v rfl (op_move rfl rfl) ?_
            refine ob' h fun r39 g40 h => ?_
            refine Ops.hd (ns := [1]) rfl rfl (op_callE (ok_laws_markLiveS _ _ _ g40) rfl rfl) ?_
            refine Ops.v rfl (op_assign rfl rfl) ?_
            refine Ops.nil ?_
            refine AW.seq ?_
            refine AW.seq ?_
            refine AW.cut (τ := Int × Int × Bool) (fun (x44, x45, x46) => ⟨[(0, C.im kLive 2 p0), (1, C.im kLive 2 p1), (6, C.val (.pointer (some ⟨b13, 0, none⟩))), (9, C.val (.pointer (some ⟨b23, 0, none⟩))), (63, C.bool x46)], [Obj.box b13 37 [C.im kLive 2 r11.row, C.int x44], Obj.box b23 37 [C.val v22, C.int x45], Obj.arr v22 54 kLive 2 r20.row]⟩) (fun (x44, x45, x46) => laws_FnExactLiveJoin_j1 p0 p1 r11 r20 x44 x45 x46 = some r) ?_ ?_
            · refine AW.region ?_
              refine Ops.v rfl (op_move rfl rfl) ?_
              refine Ops.v rfl (op_bin rfl rfl rfl rfl) ?_
              refine Ops.v rfl (op_move rfl rfl) ?_
              refine tf' (decide (r39.1 < 0)) (fun hb41 => ?_) (fun hb41 => ?_)
              · replace h := cond_t hb41 h
                refine Ops.gs rfl rfl rfl (.b rfl hb41) rfl rfl ?_
                refine Ops.gs rfl rfl rfl (.b rfl hb41) rfl rfl ?_
                refine Ops.gs rfl rfl rfl (.b rfl hb41) rfl rfl ?_
                refine Ops.gs rfl rfl rfl (.b rfl hb41) rfl rfl ?_
                refine Ops.v rfl (op_pick_t rfl hb41 rfl rfl) ?_
                refine Ops.nil ?_
                exact ⟨(r11.code, r20.code, true), h, Ghost.both (ns := [4, 3, 2]) rfl rfl⟩
              · replace h := cond_f hb41 h
                refine Ops.gv rfl rfl rfl rfl hb41 (op_loadA (p := 3) (ds := [C.val v22, C.int r20.code]) ld_37 rfl rfl rfl rfl rfl) ?_
                refine Ops.gv rfl rfl rfl rfl hb41 (op_loadA (p := 4) (ds := [C.im kLive 2 r11.row, C.int r11.code]) ld_37 rfl rfl rfl rfl rfl) ?_
                refine ob' h fun r42 g43 h => ?_
                refine Ops.ghd (ns := [2]) rfl rfl rfl rfl hb41 rfl (op_callE (Ok.lendE (ok_laws_eqLiveOut r20 r11 _ g43) (FrzT.cons (os := [_]) (Frz.agg (FrzL.cons (os := [_]) Frz.arr (FrzL.cons (os := []) (Frz.same _) (FrzL.nil)))) (FrzT.cons (os := []) (Frz.same _) (FrzT.nil))) (PlainC.val _)) rfl rfl) ?_
                refine Ops.gv rfl rfl rfl rfl hb41 (op_not rfl rfl) ?_
                refine Ops.v rfl (op_pick_f rfl hb41 rfl rfl) ?_
                refine Ops.nil ?_
                exact ⟨(r11.code, r20.code, (!r42)), h, Ghost.both (ns := [4, 3, 0]) rfl rfl⟩
            · rintro ⟨x44, x45, x46⟩ h
              replace h : laws_FnExactLiveJoin_j1 p0 p1 r11 r20 x44 x45 x46 = some r := h
              unfold laws_FnExactLiveJoin_j1 at h
              refine tf' (x46) (fun hb47 => ?_) (fun hb47 => ?_)
              · replace h := cond_t hb47 h
                refine AW.cond rfl (fun _ => ?_) (fun hn => absurd (hb47.symm.trans hn) (by decide))
                refine AW.seq ?_
                refine AW.region ?_
                refine Ops.v rfl (op_assign rfl rfl) ?_
                refine Ops.nil ?_
                refine AW.ret ?_
                rw [← Option.some.inj h]
                exact ⟨[C.bool false], _, Ghost.refl _, (.cons (.tmp rfl) .nil), [], _, _, rfl, ⟨rfl, rfl⟩⟩
              · replace h := cond_f hb47 h
                refine AW.cond rfl (fun hn => absurd (hb47.symm.trans hn) (by decide)) (fun _ => ?_)
                refine AW.skip ?_
                refine AW.seq ?_
                refine AW.region ?_
                refine Ops.v rfl (op_assign rfl rfl) ?_
                refine Ops.nil ?_
                refine AW.seq ?_
                refine AW.region ?_
                refine Ops.v rfl (op_loadA (p := 1) (ds := [C.val v22, C.int x45]) ld_37 rfl rfl rfl rfl rfl) ?_
                refine Ops.v rfl (op_move rfl rfl) ?_
                refine ob' h fun r48 g49 h => ?_
                refine Ops.hd (ns := [2]) rfl rfl (op_callE (ok_laws_markLiveOut (TLiveOut.mk r20.row x45) _ _ g49) rfl rfl) ?_
                refine Ops.v rfl (op_assign rfl rfl) ?_
                refine Ops.nil ?_
                refine AW.seq ?_
                refine AW.region ?_
                refine Ops.v rfl (op_assign rfl rfl) ?_
                refine Ops.nil ?_
                refine AW.seq ?_
                refine AW.region ?_
                refine Ops.v rfl (op_loadA (p := 2) (ds := [C.val v22, C.int x45]) ld_37 rfl rfl rfl rfl rfl) ?_
                refine Ops.v rfl (op_move rfl rfl) ?_
                refine ob' h fun r50 g51 h => ?_
                refine Ops.hd (ns := [0]) rfl rfl (op_callE (Ok.lendE (ok_laws_heldLiveOut (TLiveOut.mk r48.2 x45) _ _ g51) (FrzT.cons (os := [_]) (Frz.agg (FrzL.cons (os := [_]) Frz.arr (FrzL.cons (os := []) (Frz.same _) (FrzL.nil)))) (FrzT.cons (os := []) (Frz.same _) (FrzT.nil))) (PlainC.val _)) rfl rfl) ?_
                refine Ops.v rfl (op_assign rfl rfl) ?_
                refine Ops.nil ?_
                refine AW.seq ?_
                refine AW.seq ?_
                refine AW.region ?_
                refine Ops.v rfl (op_move rfl rfl) ?_
                refine Ops.v rfl (op_bin rfl rfl rfl rfl) ?_
                refine Ops.nil ?_
                refine tf' (decide (r50 < 0)) (fun hb52 => ?_) (fun hb52 => ?_)
                · replace h := cond_t hb52 h
                  refine AW.cond rfl (fun _ => ?_) (fun hn => absurd (hb52.symm.trans hn) (by decide))
                  refine AW.seq ?_
                  refine AW.region ?_
                  refine Ops.v rfl (op_assign rfl rfl) ?_
                  refine Ops.nil ?_
                  refine AW.ret ?_
                  rw [← Option.some.inj h]
                  exact ⟨[C.bool false], _, Ghost.refl _, (.cons (.tmp rfl) .nil), [], _, _, rfl, ⟨rfl, rfl⟩⟩
                · replace h := cond_f hb52 h
                  refine AW.cond rfl (fun hn => absurd (hb52.symm.trans hn) (by decide)) (fun _ => ?_)
                  refine AW.skip ?_
                  refine AW.seq ?_
                  refine AW.seq ?_
                  refine AW.region ?_
                  refine Ops.v rfl (op_move rfl rfl) ?_
                  refine Ops.v rfl (op_move rfl rfl) ?_
                  refine Ops.v rfl (op_bin rfl rfl rfl rfl) ?_
                  refine Ops.nil ?_
                  refine tf' ((r50 != r48.1)) (fun hb53 => ?_) (fun hb53 => ?_)
                  · replace h := cond_t hb53 h
                    refine AW.cond rfl (fun _ => ?_) (fun hn => absurd (hb53.symm.trans hn) (by decide))
                    refine AW.seq ?_
                    refine AW.region ?_
                    refine Ops.v rfl (op_assign rfl rfl) ?_
                    refine Ops.nil ?_
                    refine AW.ret ?_
                    rw [← Option.some.inj h]
                    exact ⟨[C.bool false], _, Ghost.refl _, (.cons (.tmp rfl) .nil), [], _, _, rfl, ⟨rfl, rfl⟩⟩
                  · replace h := cond_f hb53 h
                    refine AW.cond rfl (fun hn => absurd (hb53.symm.trans hn) (by decide)) (fun _ => ?_)
                    refine AW.skip ?_
                    refine AW.seq ?_
                    refine AW.region ?_
                    refine Ops.v rfl (op_move rfl rfl) ?_
                    refine ob' h fun r54 g55 h => ?_
                    refine Ops.hd (ns := []) rfl rfl (op_callE (ok_laws_toLiveS' _ _ g55) rfl rfl) ?_
                    refine Ops.v rfl (op_move rfl rfl) ?_
                    refine ob' h fun r56 g57 h => ?_
                    refine Ops.hd (ns := []) rfl rfl (op_callE (ok_laws_toLiveS' _ _ g57) rfl rfl) ?_
                    refine ob' h fun r58 g59 h => ?_
                    refine Ops.hd (ns := []) rfl rfl (op_callE (ok_impl_LiveJoin' _ _ _ g59) rfl rfl) ?_
                    refine Ops.h (ns := []) rfl rfl (op_alloc (cs := [C.val (.slice none 0 0), C.int 0]) ze_37 (cells_zero rfl rfl) rfl) ?_
                    rintro _ _ ⟨b60, rfl, rfl⟩
                    refine Ops.hd (ns := [0]) rfl rfl (op_storeA (gs := [C.im kLive 2 r58.row, C.int r58.code]) ld_37 rfl rfl rfl rfl rfl) ?_
                    refine Ops.nil ?_
                    refine AW.seq ?_
                    refine AW.seq ?_
                    refine AW.region ?_
                    refine Ops.v rfl (op_loadA (p := 0) (ds := [C.im kLive 2 r58.row, C.int r58.code]) ld_37 rfl rfl rfl rfl rfl) ?_
                    refine Ops.v rfl (op_loadA (p := 2) (ds := [C.im kLive 2 r11.row, C.int x44]) ld_37 rfl rfl rfl rfl rfl) ?_
                    refine ob' h fun r61 g62 h => ?_
                    refine Ops.hd (ns := []) rfl rfl (op_callE (ok_laws_eqLiveOut _ _ _ g62) rfl rfl) ?_
                    refine Ops.v rfl (op_not rfl rfl) ?_
                    refine Ops.nil ?_
                    refine tf' (r61) (fun hb63 => ?_) (fun hb63 => ?_)
                    · replace h := cond_t hb63 h
                      refine AW.cond rfl (fun hn => absurd ((not_t hb63).symm.trans hn) (by decide)) (fun _ => ?_)
                      refine AW.skip ?_
                      refine AW.seq ?_
                      refine AW.region ?_
                      refine Ops.v rfl (op_assign rfl rfl) ?_
                      refine Ops.nil ?_
                      refine AW.seq ?_
                      refine AW.region ?_
                      refine Ops.v rfl (op_loadA (p := 3) (ds := [C.val v22, C.int x45]) ld_37 rfl rfl rfl rfl rfl) ?_
                      refine Ops.v rfl (op_move rfl rfl) ?_
                      refine ob' h fun r64 g65 h => ?_
                      refine Ops.hd (ns := [1]) rfl rfl (op_callE (Ok.lendE (ok_laws_heldLiveOut (TLiveOut.mk r48.2 x45) _ _ g65) (FrzT.cons (os := [_]) (Frz.agg (FrzL.cons (os := [_]) Frz.arr (FrzL.cons (os := []) (Frz.same _) (FrzL.nil)))) (FrzT.cons (os := []) (Frz.same _) (FrzT.nil))) (PlainC.val _)) rfl rfl) ?_
                      refine Ops.v rfl (op_assign rfl rfl) ?_
                      refine Ops.nil ?_
                      refine AW.seq ?_
                      refine AW.seq ?_
                      refine AW.region ?_
                      refine Ops.v rfl (op_move rfl rfl) ?_
                      refine Ops.v rfl (op_bin rfl rfl rfl rfl) ?_
                      refine Ops.nil ?_
                      refine tf' (decide (r64 < 0)) (fun hb66 => ?_) (fun hb66 => ?_)
                      · replace h := cond_t hb66 h
                        refine AW.cond rfl (fun _ => ?_) (fun hn => absurd (hb66.symm.trans hn) (by decide))
                        refine AW.seq ?_
                        refine AW.region ?_
                        refine Ops.v rfl (op_assign rfl rfl) ?_
                        refine Ops.nil ?_
                        refine AW.ret ?_
                        rw [← Option.some.inj h]
                        exact ⟨[C.bool false], _, Ghost.refl _, (.cons (.tmp rfl) .nil), [], _, _, rfl, ⟨rfl, rfl⟩⟩
                      · replace h := cond_f hb66 h
                        refine AW.cond rfl (fun hn => absurd (hb66.symm.trans hn) (by decide)) (fun _ => ?_)
                        refine AW.skip ?_
                        refine AW.seq ?_
                        refine AW.seq ?_
                        refine AW.region ?_
                        refine Ops.v rfl (op_move rfl rfl) ?_
                        refine Ops.v rfl (op_move rfl rfl) ?_
                        refine Ops.v rfl (op_bin rfl rfl rfl rfl) ?_
                        refine Ops.nil ?_
                        refine tf' ((r64 != r48.1)) (fun hb67 => ?_) (fun hb67 => ?_)
                        · replace h := cond_t hb67 h
                          refine AW.cond rfl (fun _ => ?_) (fun hn => absurd (hb67.symm.trans hn) (by decide))
                          refine AW.seq ?_
                          refine AW.region ?_
                          refine Ops.v rfl (op_assign rfl rfl) ?_
                          refine Ops.nil ?_
                          refine AW.ret ?_
                          rw [← Option.some.inj h]
                          exact ⟨[C.bool false], _, Ghost.refl _, (.cons (.tmp rfl) .nil), [], _, _, rfl, ⟨rfl, rfl⟩⟩
                        · replace h := cond_f hb67 h
                          refine AW.cond rfl (fun hn => absurd (hb67.symm.trans hn) (by decide)) (fun _ => ?_)
                          refine AW.skip ?_
                          refine AW.seq ?_
                          refine AW.region ?_
                          refine Ops.v rfl (op_assign rfl rfl) ?_
                          refine Ops.nil ?_
                          refine AW.ret ?_
                          rw [← Option.some.inj h]
                          exact ⟨[C.bool true], _, Ghost.refl _, (.cons (.tmp rfl) .nil), [], _, _, rfl, ⟨rfl, rfl⟩⟩
                    · replace h := cond_f hb63 h
                      refine AW.cond rfl (fun _ => ?_) (fun hn => absurd ((not_f hb63).symm.trans hn) (by decide))
                      refine AW.seq ?_
                      refine AW.region ?_
                      refine Ops.v rfl (op_assign rfl rfl) ?_
                      refine Ops.nil ?_
                      refine AW.ret ?_
                      rw [← Option.some.inj h]
                      exact ⟨[C.bool false], _, Ghost.refl _, (.cons (.tmp rfl) .nil), [], _, _, rfl, ⟨rfl, rfl⟩⟩
          · replace h := cond_f hb36 h
            refine AW.cond rfl (fun _ => ?_) (fun hn => absurd ((not_f hb36).symm.trans hn) (by decide))
            refine AW.seq ?_
            refine AW.region ?_
            refine Ops.v rfl (op_assign rfl rfl) ?_
            refine Ops.nil ?_
            refine AW.ret ?_
            rw [← Option.some.inj h]
            exact ⟨[C.bool false], _, Ghost.refl _, (.cons (.tmp rfl) .nil), [], _, _, rfl, ⟨rfl, rfl⟩⟩
        · replace h := cond_f hb31 h
          refine AW.cond rfl (fun _ => ?_) (fun hn => absurd ((not_f hb31).symm.trans hn) (by decide))
          refine AW.seq ?_
          refine AW.region ?_
          refine Ops.v rfl (op_assign rfl rfl) ?_
          refine Ops.nil ?_
          refine AW.ret ?_
          rw [← Option.some.inj h]
          exact ⟨[C.bool false], _, Ghost.refl _, (.cons (.tmp rfl) .nil), [], _, _, rfl, ⟨rfl, rfl⟩⟩
      · replace h := cond_f hb26 h
        refine AW.cond rfl (fun _ => ?_) (fun hn => absurd ((not_f hb26).symm.trans hn) (by decide))
        refine AW.seq ?_
        refine AW.region ?_
        refine Ops.v rfl (op_assign rfl rfl) ?_
        refine Ops.nil ?_
        refine AW.ret ?_
        rw [← Option.some.inj h]
        exact ⟨[C.bool false], _, Ghost.refl _, (.cons (.tmp rfl) .nil), [], _, _, rfl, ⟨rfl, rfl⟩⟩

def spec_l01Source_j1 (p0 : List Int) (x28 : Int) (x29 : Int) (x30 : Int) : Option TL01Src := some (TL01Src.mk p0 x28 x29 x30)
def spec_l01Source_j2 (p0 : List Int) (x24 : Int) (x25 : Int) (x26 : Int) : Option TL01Src := cond (decide ((IntKind.i64.wrap (Int.tdiv (p0.length : Int) 20)) > 12)) (spec_l01Source_j1 p0 x24 x25 12) (spec_l01Source_j1 p0 x24 x25 (IntKind.i64.wrap (Int.tdiv (p0.length : Int) 20)))
def spec_l01Source_j3 (p0 : List Int) (x16 : Int) (x17 : Int) (x18 : Int) (x19 : Int) (x20 : Bool) : Option ((Int × Int × Int × Int) ⊕ ((Int × Int × Int))) := cond x20 ((getI p0 x19).bind fun e22 => some (.inl (x16, (IntKind.u64.wrap ((bitXor .u64 x17 (IntKind.u64.wrap e22)) * 1099511628211)), x18, (IntKind.i64.wrap (x19 + 1))))) (some (.inr (x16, x17, x18)))
def spec_l01Source_s4 (p0 : List Int) (x11 : Int) (x12 : Int) (x13 : Int) (x14 : Int) : Option ((Int × Int × Int × Int) ⊕ ((Int × Int × Int))) := cond (decide (x14 < (p0.length : Int))) (spec_l01Source_j3 p0 x11 x12 x13 x14 (decide (x14 < 64))) (spec_l01Source_j3 p0 x11 x12 x13 x14 false)
def spec_l01Source (p0 : List Int) : Option TL01Src := (iter (fun z32 => spec_l01Source_s4 p0 z32.1 z32.2.1 z32.2.2.1 z32.2.2.2) big (0, 88172645463325252, 0, 0)).bind fun (y33, y34, y35) => spec_l01Source_j2 p0 y33 y34 y35
theorem ok_spec_l01Source (p0 : List Int) (r : TL01Src) (h : spec_l01Source p0 = some r) : Ok Try.prog 44 [C.im kU8 1 p0] [] (fun c qs => ∃ (b31 : Nat), c = C.val (.pointer (some ⟨b31, 0, none⟩)) ∧ qs = [Obj.box b31 74 [C.im kU8 1 r.b, C.int r.at_, C.val (.int .u64 r.mix), C.int r.size]]) := by
  refine Ok.of_body (rs := [.tmp 2]) Try.func44 rfl rfl rfl rfl rfl fun X => ?_
  unfold spec_l01Source at h
  refine AW.seq ?_
  refine AW.region ?_
  refine Ops.v rfl (op_assign rfl rfl) ?_
  refine Ops.nil ?_
  refine AW.seq ?_
  refine AW.region ?_
  refine Ops.v rfl (op_move rfl rfl) ?_
  refine Ops.v rfl (op_build (ds := [C.im kU8 1 p0, C.int 0, C.val (.int .u64 88172645463325252), C.int 0]) pl_74 ze_74 (cells_zero rfl rfl) (.one rfl One.im rfl rfl (.one rfl (One.val rfl) rfl rfl .nil)) rfl) ?_
  refine Ops.h (ns := []) rfl rfl (op_boxA rfl rfl) ?_
  rintro _ _ ⟨b1, rfl, rfl⟩
  refine Ops.v rfl (op_assign rfl rfl) ?_
  refine Ops.nil ?_
  refine AW.seq ?_
  refine AW.cut (τ := Int × Int × Int) (fun (x24, x25, x26) => ⟨[(0, C.im kU8 1 p0), (3, C.val (.pointer (some ⟨b1, 0, none⟩)))], [Obj.box b1 74 [C.im kU8 1 p0, C.int x24, C.val (.int .u64 x25), C.int x26]]⟩) (fun (x24, x25, x26) => spec_l01Source_j2 p0 x24 x25 x26 = some r) ?_ ?_
  · refine AW.seq ?_
    refine AW.region ?_
    refine Ops.v rfl (op_assign rfl rfl) ?_
    refine Ops.nil ?_
    refine AW.block ?_
    refine ob' h fun o36 g37 q38 => ?_
    refine AW.loop (τ := Int × Int × Int × Int) (x := (0, 88172645463325252, 0, 0)) (fun (x11, x12, x13, x14) => ⟨[(0, C.im kU8 1 p0), (3, C.val (.pointer (some ⟨b1, 0, none⟩))), (4, C.int x14)], [Obj.box b1 74 [C.im kU8 1 p0, C.int x11, C.val (.int .u64 x12), C.int x13]]⟩) (fun k (x11, x12, x13, x14) => iter (fun z32 => spec_l01Source_s4 p0 z32.1 z32.2.1 z32.2.2.1 z32.2.2.2) k (x11, x12, x13, x14) = some o36) g37 (Ghost.both (ns := [0]) rfl rfl) ?_
    rintro k ⟨x11, x12, x13, x14⟩ i40
    refine iter_succ' (show iter (fun z32 => spec_l01Source_s4 p0 z32.1 z32.2.1 z32.2.2.1 z32.2.2.2) k (x11, x12, x13, x14) = some o36 from i40) fun k39 y41 hlt_k39 h h42 => ?_
    replace h : spec_l01Source_s4 p0 x11 x12 x13 x14 = some y41 := h
    unfold spec_l01Source_s4 at h
    refine AW.seq ?_
    refine AW.seq ?_
    refine AW.cut (τ := Int × Int × Int × Int × Bool) (fun (x16, x17, x18, x19, x20) => ⟨[(0, C.im kU8 1 p0), (3, C.val (.pointer (some ⟨b1, 0, none⟩))), (4, C.int x19), (15, C.bool x20)], [Obj.box b1 74 [C.im kU8 1 p0, C.int x16, C.val (.int .u64 x17), C.int x18]]⟩) (fun (x16, x17, x18, x19, x20) => spec_l01Source_j3 p0 x16 x17 x18 x19 x20 = some y41) ?_ ?_
    · refine AW.region ?_
      refine Ops.v rfl (op_move rfl rfl) ?_
      refine Ops.v rfl (op_move rfl rfl) ?_
      refine Ops.v rfl (op_len_im sl_44 rfl rfl) ?_
      refine Ops.v rfl (op_bin rfl rfl rfl rfl) ?_
      refine Ops.v rfl (op_move rfl rfl) ?_
      refine tf' (decide (x14 < (p0.length : Int))) (fun hb15 => ?_) (fun hb15 => ?_)
      · replace h := cond_t hb15 h
        refine Ops.gv rfl rfl rfl rfl hb15 (op_move rfl rfl) ?_
        refine Ops.gv rfl rfl rfl rfl hb15 (op_bin rfl rfl rfl rfl) ?_
        refine Ops.v rfl (op_pick_t rfl hb15 rfl rfl) ?_
        refine Ops.nil ?_
        exact ⟨(x11, x12, x13, x14, decide (x14 < 64)), h, Ghost.both (ns := [0]) rfl rfl⟩
      · replace h := cond_f hb15 h
        refine Ops.gs rfl rfl rfl (.b rfl hb15) rfl rfl ?_
        refine Ops.gs rfl rfl rfl (.b rfl hb15) rfl rfl ?_
        refine Ops.v rfl (op_pick_f rfl hb15 rfl rfl) ?_
        refine Ops.nil ?_
        exact ⟨(x11, x12, x13, x14, false), h, Ghost.both (ns := [0]) rfl rfl⟩
    · rintro ⟨x16, x17, x18, x19, x20⟩ h
      replace h : spec_l01Source_j3 p0 x16 x17 x18 x19 x20 = some y41 := h
      unfold spec_l01Source_j3 at h
      refine tf' (x20) (fun hb21 => ?_) (fun hb21 => ?_)
      · replace h := cond_t hb21 h
        refine AW.cond rfl (fun _ => ?_) (fun hn => absurd (hb21.symm.trans hn) (by decide))
        refine AW.skip ?_
        refine AW.seq ?_
        refine AW.block ?_
        refine AW.regionD (L := [4, 8]) (Lt := [14]) (k := .light 0 false (.light 1 false (.light 2 false (.light 3 false (.light 4 true (.light 5 false (.light 6 false (.light 7 false (.light 8 true (.light 9 false (.light 10 false (.light 11 false (.light 12 false (.light 13 false (.late 14 (.done)))))))))))))))) (ns := [0]) (by kernel_rfl) (by kernel_rfl) (by kernel_rfl) (by kernel_rfl) rfl ?_
        refine OpsD.v rfl rfl (op_move rfl rfl) ?_
        refine OpsD.v rfl rfl (op_move rfl rfl) ?_
        refine OpsD.v rfl rfl (op_nilCheck rfl rfl) ?_
        refine OpsD.v rfl rfl (op_fieldAddr fo_74_2 rfl rfl) ?_
        refine OpsD.v rfl rfl (op_load (p := 0) ld_72 rfl rfl rfl rfl) ?_
        refine OpsD.v rfl rfl (op_move rfl rfl) ?_
        refine OpsD.v rfl rfl (op_move rfl rfl) ?_
        refine ob' h fun e22 g23 h => ?_
        refine OpsD.v rfl rfl (op_indexAddr_im sl_44 rfl rfl g23 rfl) ?_
        refine OpsD.v rfl rfl (op_load_ip ld_5 rfl rfl) ?_
        refine OpsD.v rfl rfl (op_conv un_5 un_72 rfl rfl) ?_
        refine OpsD.v rfl rfl (op_bits rfl rfl rfl rfl) ?_
        refine OpsD.v rfl rfl (op_bin rfl rfl rfl rfl) ?_
        refine OpsD.v rfl rfl (op_nilCheck rfl rfl) ?_
        refine OpsD.v rfl rfl (op_fieldAddr fo_74_2 rfl rfl) ?_
        refine OpsD.late (ns := [0]) rfl rfl rfl (op_store (gs := [C.im kU8 1 p0, C.int x16, C.val (.int .u64 (IntKind.u64.wrap ((bitXor .u64 x17 (IntKind.u64.wrap e22)) * 1099511628211))), C.int x18]) ld_72 rfl rfl (One.val rfl) rfl rfl) ?_
        rintro _ _ ⟨rfl, rfl⟩
        refine OpsD.done ?_
        refine AW.region ?_
        refine Ops.v rfl (op_move rfl rfl) ?_
        refine Ops.v rfl (op_bin rfl rfl rfl rfl) ?_
        refine Ops.v rfl (op_assign rfl rfl) ?_
        refine Ops.nil ?_
        obtain rfl := Option.some.inj h
        exact ⟨k39, (x16, (IntKind.u64.wrap ((bitXor .u64 x17 (IntKind.u64.wrap e22)) * 1099511628211)), x18, (IntKind.i64.wrap (x19 + 1))), hlt_k39, h42, Ghost.both (ns := [0]) rfl rfl⟩
      · replace h := cond_f hb21 h
        refine AW.cond rfl (fun hn => absurd (hb21.symm.trans hn) (by decide)) (fun _ => ?_)
        refine AW.exit ?_
        obtain rfl := Option.some.inj h
        obtain rfl := Option.some.inj h42
        replace h := q38
        exact ⟨(x16, x17, x18), h, Ghost.both (ns := [0]) rfl rfl⟩
  · rintro ⟨x24, x25, x26⟩ h
    replace h : spec_l01Source_j2 p0 x24 x25 x26 = some r := h
    unfold spec_l01Source_j2 at h
    refine AW.seq ?_
    refine AW.region ?_
    refine Ops.v rfl (op_move rfl rfl) ?_
    refine Ops.v rfl (op_move rfl rfl) ?_
    refine Ops.v rfl (op_len_im sl_44 rfl rfl) ?_
    refine Ops.v rfl (op_quo rfl rfl (by decide) rfl) ?_
    refine Ops.v rfl (op_nilCheck rfl rfl) ?_
    refine Ops.v rfl (op_fieldAddr fo_74_3 rfl rfl) ?_
    refine Ops.hd (ns := [0]) rfl rfl (op_store (gs := [C.im kU8 1 p0, C.int x24, C.val (.int .u64 x25), C.int (IntKind.i64.wrap (Int.tdiv (p0.length : Int) 20))]) ld_2 rfl rfl (One.val rfl) rfl rfl) ?_
    refine Ops.nil ?_
    refine AW.seq ?_
    refine AW.cut (τ := Int × Int × Int) (fun (x28, x29, x30) => ⟨[(3, C.val (.pointer (some ⟨b1, 0, none⟩)))], [Obj.box b1 74 [C.im kU8 1 p0, C.int x28, C.val (.int .u64 x29), C.int x30]]⟩) (fun (x28, x29, x30) => spec_l01Source_j1 p0 x28 x29 x30 = some r) ?_ ?_
    · refine AW.seq ?_
      refine AW.region ?_
      refine Ops.v rfl (op_move rfl rfl) ?_
      refine Ops.v rfl (op_nilCheck rfl rfl) ?_
      refine Ops.v rfl (op_fieldAddr fo_74_3 rfl rfl) ?_
      refine Ops.v rfl (op_load (p := 0) ld_2 rfl rfl rfl rfl) ?_
      refine Ops.v rfl (op_bin rfl rfl rfl rfl) ?_
      refine Ops.nil ?_
      refine tf' (decide ((IntKind.i64.wrap (Int.tdiv (p0.length : Int) 20)) > 12)) (fun hb27 => ?_) (fun hb27 => ?_)
      · replace h := cond_t hb27 h
        refine AW.cond rfl (fun _ => ?_) (fun hn => absurd (hb27.symm.trans hn) (by decide))
        refine AW.region ?_
        refine Ops.v rfl (op_move rfl rfl) ?_
        refine Ops.v rfl (op_nilCheck rfl rfl) ?_
        refine Ops.v rfl (op_fieldAddr fo_74_3 rfl rfl) ?_
        refine Ops.hd (ns := [0]) rfl rfl (op_store (gs := [C.im kU8 1 p0, C.int x24, C.val (.int .u64 x25), C.int 12]) ld_2 rfl rfl (One.val rfl) rfl rfl) ?_
        refine Ops.nil ?_
        exact ⟨(x24, x25, 12), h, Ghost.both (ns := [0]) rfl rfl⟩
      · replace h := cond_f hb27 h
        refine AW.cond rfl (fun hn => absurd (hb27.symm.trans hn) (by decide)) (fun _ => ?_)
        refine AW.skip ?_
        exact ⟨(x24, x25, (IntKind.i64.wrap (Int.tdiv (p0.length : Int) 20))), h, Ghost.both (ns := [0]) rfl rfl⟩
    · rintro ⟨x28, x29, x30⟩ h
      replace h : spec_l01Source_j1 p0 x28 x29 x30 = some r := h
      unfold spec_l01Source_j1 at h
      refine AW.seq ?_
      refine AW.region ?_
      refine Ops.v rfl (op_move rfl rfl) ?_
      refine Ops.v rfl (op_assign rfl rfl) ?_
      refine Ops.nil ?_
      refine AW.ret ?_
      rw [← Option.some.inj h]
      exact ⟨[C.val (.pointer (some ⟨b1, 0, none⟩))], _, Ghost.refl _, (.cons (.tmp rfl) .nil), [0], _, _, rfl, ⟨b1, rfl, rfl⟩⟩

def spec_l01Src_n_j1 (p0 : TL01Src) (x5 : Int) (x6 : Int) (x7 : Int) (x8 : Int) (x9 : Int) : Option (Int × TL01Src) := (chk ((IntKind.u64.wrap x8) != 0)).bind fun u10 => some ((IntKind.i64.wrap (Int.tmod (IntKind.u64.wrap (x9 + (shrI .u64 (bitXor .u64 (bitXor .u64 (bitXor .u64 x6 (shlI .u64 x6 13)) (shrI .u64 (bitXor .u64 x6 (shlI .u64 x6 13)) 7)) (shlI .u64 (bitXor .u64 (bitXor .u64 x6 (shlI .u64 x6 13)) (shrI .u64 (bitXor .u64 x6 (shlI .u64 x6 13)) 7)) 17)) 20))) (IntKind.u64.wrap x8))), (TL01Src.mk p0.b x5 (bitXor .u64 (bitXor .u64 (bitXor .u64 x6 (shlI .u64 x6 13)) (shrI .u64 (bitXor .u64 x6 (shlI .u64 x6 13)) 7)) (shlI .u64 (bitXor .u64 (bitXor .u64 x6 (shlI .u64 x6 13)) (shrI .u64 (bitXor .u64 x6 (shlI .u64 x6 13)) 7)) 17)) x7))
def spec_l01Src_n (p0 : TL01Src) (p1 : Int) : Option (Int × TL01Src) := cond (decide (p1 ≤ 1)) (some (0, p0)) (cond (decide (p0.at_ < (p0.b.length : Int))) ((getI p0.b p0.at_).bind fun e3 => spec_l01Src_n_j1 p0 (IntKind.i64.wrap (p0.at_ + 1)) p0.mix p0.size p1 (IntKind.u64.wrap e3)) (spec_l01Src_n_j1 p0 p0.at_ p0.mix p0.size p1 0))
theorem ok_spec_l01Src_n {b00 : Nat} (p0 : TL01Src) (p1 : Int) (r : Int × TL01Src) (h : spec_l01Src_n p0 p1 = some r) : Ok Try.prog 47 [C.val (.pointer (some ⟨b00, 0, none⟩)), C.int p1] [Obj.box b00 74 [C.im kU8 1 p0.b, C.int p0.at_, C.val (.int .u64 p0.mix), C.int p0.size]] (fun c qs => c = C.int r.1 ∧ qs = [Obj.box b00 74 [C.im kU8 1 r.2.b, C.int r.2.at_, C.val (.int .u64 r.2.mix), C.int r.2.size]]) := by
  refine Ok.of_body (rs := [.tmp 4]) Try.func47 rfl rfl rfl rfl rfl fun X => ?_
  unfold spec_l01Src_n at h
  refine AW.seq ?_
  refine AW.region ?_
  refine Ops.v rfl (op_assign rfl rfl) ?_
  refine Ops.nil ?_
  refine AW.seq ?_
  refine AW.seq ?_
  refine AW.region ?_
  refine Ops.v rfl (op_move rfl rfl) ?_
  refine Ops.v rfl (op_bin rfl rfl rfl rfl) ?_
  refine Ops.nil ?_
  refine tf' (decide (p1 ≤ 1)) (fun hb1 => ?_) (fun hb1 => ?_)
  · replace h := cond_t hb1 h
    refine AW.cond rfl (fun _ => ?_) (fun hn => absurd (hb1.symm.trans hn) (by decide))
    refine AW.seq ?_
    refine AW.region ?_
    refine Ops.v rfl (op_assign rfl rfl) ?_
    refine Ops.nil ?_
    refine AW.ret ?_
    rw [← Option.some.inj h]
    exact ⟨[C.int 0], _, Ghost.refl _, (.cons (.tmp rfl) .nil), [0], _, _, rfl, ⟨rfl, rfl⟩⟩
  · replace h := cond_f hb1 h
    refine AW.cond rfl (fun hn => absurd (hb1.symm.trans hn) (by decide)) (fun _ => ?_)
    refine AW.skip ?_
    refine AW.seq ?_
    refine AW.region ?_
    refine Ops.v rfl (op_assign rfl rfl) ?_
    refine Ops.nil ?_
    refine AW.seq ?_
    refine AW.cut (τ := Int × Int × Int × Int × Int) (fun (x5, x6, x7, x8, x9) => ⟨[(0, C.val (.pointer (some ⟨b00, 0, none⟩))), (1, C.int x8), (5, C.val (.int .u64 x9))], [Obj.box b00 74 [C.im kU8 1 p0.b, C.int x5, C.val (.int .u64 x6), C.int x7]]⟩) (fun (x5, x6, x7, x8, x9) => spec_l01Src_n_j1 p0 x5 x6 x7 x8 x9 = some r) ?_ ?_
    · refine AW.seq ?_
      refine AW.regionD (L := [3, 7]) (Lt := []) (k := .light 0 false (.light 1 false (.light 2 false (.light 3 true (.light 4 false (.light 5 false (.light 6 false (.light 7 true (.light 8 false (.light 9 false .done)))))))))) (ns := [0]) (by kernel_rfl) (by kernel_rfl) (by kernel_rfl) (by kernel_rfl) rfl ?_
      refine OpsD.v rfl rfl (op_move rfl rfl) ?_
      refine OpsD.v rfl rfl (op_nilCheck rfl rfl) ?_
      refine OpsD.v rfl rfl (op_fieldAddr fo_74_1 rfl rfl) ?_
      refine OpsD.v rfl rfl (op_load (p := 0) ld_3 rfl rfl rfl rfl) ?_
      refine OpsD.v rfl rfl (op_move rfl rfl) ?_
      refine OpsD.v rfl rfl (op_nilCheck rfl rfl) ?_
      refine OpsD.v rfl rfl (op_fieldAddr fo_74_0 rfl rfl) ?_
      refine OpsD.v rfl rfl (op_load (p := 0) ld_44 rfl rfl rfl rfl) ?_
      refine OpsD.v rfl rfl (op_len_im sl_44 rfl rfl) ?_
      refine OpsD.v rfl rfl (op_bin rfl rfl rfl rfl) ?_
      refine OpsD.done ?_
      refine tf' (decide (p0.at_ < (p0.b.length : Int))) (fun hb2 => ?_) (fun hb2 => ?_)
      · replace h := cond_t hb2 h
        refine AW.cond rfl (fun _ => ?_) (fun hn => absurd (hb2.symm.trans hn) (by decide))
        refine AW.seq ?_
        refine AW.regionD (L := [3, 7, 9]) (Lt := []) (k := .light 0 false (.light 1 false (.light 2 false (.light 3 true (.light 4 false (.light 5 false (.light 6 false (.light 7 true (.light 8 false (.light 9 true (.light 10 false (.light 11 false .done)))))))))))) (ns := [0]) (by kernel_rfl) (by kernel_rfl) (by kernel_rfl) (by kernel_rfl) rfl ?_
        refine OpsD.v rfl rfl (op_move rfl rfl) ?_
        refine OpsD.v rfl rfl (op_nilCheck rfl rfl) ?_
        refine OpsD.v rfl rfl (op_fieldAddr fo_74_0 rfl rfl) ?_
        refine OpsD.v rfl rfl (op_load (p := 0) ld_44 rfl rfl rfl rfl) ?_
        refine OpsD.v rfl rfl (op_move rfl rfl) ?_
        refine OpsD.v rfl rfl (op_nilCheck rfl rfl) ?_
        refine OpsD.v rfl rfl (op_fieldAddr fo_74_1 rfl rfl) ?_
        refine OpsD.v rfl rfl (op_load (p := 0) ld_3 rfl rfl rfl rfl) ?_
        refine ob' h fun e3 g4 h => ?_
        refine OpsD.v rfl rfl (op_indexAddr_im sl_44 rfl rfl g4 rfl) ?_
        refine OpsD.v rfl rfl (op_load_ip ld_5 rfl rfl) ?_
        refine OpsD.v rfl rfl (op_conv un_5 un_72 rfl rfl) ?_
        refine OpsD.v rfl rfl (op_assign rfl rfl) ?_
        refine OpsD.done ?_
        refine AW.region ?_
        refine Ops.v rfl (op_move rfl rfl) ?_
        refine Ops.v rfl (op_move rfl rfl) ?_
        refine Ops.v rfl (op_nilCheck rfl rfl) ?_
        refine Ops.v rfl (op_fieldAddr fo_74_1 rfl rfl) ?_
        refine Ops.v rfl (op_load (p := 0) ld_3 rfl rfl rfl rfl) ?_
        refine Ops.v rfl (op_bin rfl rfl rfl rfl) ?_
        refine Ops.v rfl (op_nilCheck rfl rfl) ?_
        refine Ops.v rfl (op_fieldAddr fo_74_1 rfl rfl) ?_
        refine Ops.hd (ns := [0]) rfl rfl (op_store (gs := [C.im kU8 1 p0.b, C.int (IntKind.i64.wrap (p0.at_ + 1)), C.val (.int .u64 p0.mix), C.int p0.size]) ld_3 rfl rfl (One.val rfl) rfl rfl) ?_
        refine Ops.nil ?_
        exact ⟨((IntKind.i64.wrap (p0.at_ + 1)), p0.mix, p0.size, p1, (IntKind.u64.wrap e3)), h, Ghost.both (ns := [0]) rfl rfl⟩
      · replace h := cond_f hb2 h
        refine AW.cond rfl (fun hn => absurd (hb2.symm.trans hn) (by decide)) (fun _ => ?_)
        refine AW.skip ?_
        exact ⟨(p0.at_, p0.mix, p0.size, p1, 0), h, Ghost.both (ns := [0]) rfl rfl⟩
    · rintro ⟨x5, x6, x7, x8, x9⟩ h
      replace h : spec_l01Src_n_j1 p0 x5 x6 x7 x8 x9 = some r := h
      unfold spec_l01Src_n_j1 at h
      refine AW.seq ?_
      refine AW.regionD (L := [4, 8]) (Lt := [13]) (k := .light 0 false (.light 1 false (.light 2 false (.light 3 false (.light 4 true (.light 5 false (.light 6 false (.light 7 false (.light 8 true (.light 9 false (.light 10 false (.light 11 false (.light 12 false (.late 13 (.done))))))))))))))) (ns := [0]) (by kernel_rfl) (by kernel_rfl) (by kernel_rfl) (by kernel_rfl) rfl ?_
      refine OpsD.v rfl rfl (op_move rfl rfl) ?_
      refine OpsD.v rfl rfl (op_move rfl rfl) ?_
      refine OpsD.v rfl rfl (op_nilCheck rfl rfl) ?_
      refine OpsD.v rfl rfl (op_fieldAddr fo_74_2 rfl rfl) ?_
      refine OpsD.v rfl rfl (op_load (p := 0) ld_72 rfl rfl rfl rfl) ?_
      refine OpsD.v rfl rfl (op_move rfl rfl) ?_
      refine OpsD.v rfl rfl (op_nilCheck rfl rfl) ?_
      refine OpsD.v rfl rfl (op_fieldAddr fo_74_2 rfl rfl) ?_
      refine OpsD.v rfl rfl (op_load (p := 0) ld_72 rfl rfl rfl rfl) ?_
      refine OpsD.v rfl rfl (op_shift rfl rfl rfl rfl) ?_
      refine OpsD.v rfl rfl (op_bits rfl rfl rfl rfl) ?_
      refine OpsD.v rfl rfl (op_nilCheck rfl rfl) ?_
      refine OpsD.v rfl rfl (op_fieldAddr fo_74_2 rfl rfl) ?_
      refine OpsD.late (ns := [0]) rfl rfl rfl (op_store (gs := [C.im kU8 1 p0.b, C.int x5, C.val (.int .u64 (bitXor .u64 x6 (shlI .u64 x6 13))), C.int x7]) ld_72 rfl rfl (One.val rfl) rfl rfl) ?_
      rintro _ _ ⟨rfl, rfl⟩
      refine OpsD.done ?_
      refine AW.seq ?_
      refine AW.regionD (L := [4, 8]) (Lt := [13]) (k := .light 0 false (.light 1 false (.light 2 false (.light 3 false (.light 4 true (.light 5 false (.light 6 false (.light 7 false (.light 8 true (.light 9 false (.light 10 false (.light 11 false (.light 12 false (.late 13 (.done))))))))))))))) (ns := [0]) (by kernel_rfl) (by kernel_rfl) (by kernel_rfl) (by kernel_rfl) rfl ?_
      refine OpsD.v rfl rfl (op_move rfl rfl) ?_
      refine OpsD.v rfl rfl (op_move rfl rfl) ?_
      refine OpsD.v rfl rfl (op_nilCheck rfl rfl) ?_
      refine OpsD.v rfl rfl (op_fieldAddr fo_74_2 rfl rfl) ?_
      refine OpsD.v rfl rfl (op_load (p := 0) ld_72 rfl rfl rfl rfl) ?_
      refine OpsD.v rfl rfl (op_move rfl rfl) ?_
      refine OpsD.v rfl rfl (op_nilCheck rfl rfl) ?_
      refine OpsD.v rfl rfl (op_fieldAddr fo_74_2 rfl rfl) ?_
      refine OpsD.v rfl rfl (op_load (p := 0) ld_72 rfl rfl rfl rfl) ?_
      refine OpsD.v rfl rfl (op_shift rfl rfl rfl rfl) ?_
      refine OpsD.v rfl rfl (op_bits rfl rfl rfl rfl) ?_
      refine OpsD.v rfl rfl (op_nilCheck rfl rfl) ?_
      refine OpsD.v rfl rfl (op_fieldAddr fo_74_2 rfl rfl) ?_
      refine OpsD.late (ns := [0]) rfl rfl rfl (op_store (gs := [C.im kU8 1 p0.b, C.int x5, C.val (.int .u64 (bitXor .u64 (bitXor .u64 x6 (shlI .u64 x6 13)) (shrI .u64 (bitXor .u64 x6 (shlI .u64 x6 13)) 7))), C.int x7]) ld_72 rfl rfl (One.val rfl) rfl rfl) ?_
      rintro _ _ ⟨rfl, rfl⟩
      refine OpsD.done ?_
      refine AW.seq ?_
      refine AW.regionD (L := [4, 8]) (Lt := [13]) (k := .light 0 false (.light 1 false (.light 2 false (.light 3 false (.light 4 true (.light 5 false (.light 6 false (.light 7 false (.light 8 true (.light 9 false (.light 10 false (.light 11 false (.light 12 false (.late 13 (.done))))))))))))))) (ns := [0]) (by kernel_rfl) (by kernel_rfl) (by kernel_rfl) (by kernel_rfl) rfl ?_
      refine OpsD.v rfl rfl (op_move rfl rfl) ?_
      refine OpsD.v rfl rfl (op_move rfl rfl) ?_
      refine OpsD.v rfl rfl (op_nilCheck rfl rfl) ?_
      refine OpsD.v rfl rfl (op_fieldAddr fo_74_2 rfl rfl) ?_
      refine OpsD.v rfl rfl (op_load (p := 0) ld_72 rfl rfl rfl rfl) ?_
      refine OpsD.v rfl rfl (op_move rfl rfl) ?_
      refine OpsD.v rfl rfl (op_nilCheck rfl rfl) ?_
      refine OpsD.v rfl rfl (op_fieldAddr fo_74_2 rfl rfl) ?_
      refine OpsD.v rfl rfl (op_load (p := 0) ld_72 rfl rfl rfl rfl) ?_
      refine OpsD.v rfl rfl (op_shift rfl rfl rfl rfl) ?_
      refine OpsD.v rfl rfl (op_bits rfl rfl rfl rfl) ?_
      refine OpsD.v rfl rfl (op_nilCheck rfl rfl) ?_
      refine OpsD.v rfl rfl (op_fieldAddr fo_74_2 rfl rfl) ?_
      refine OpsD.late (ns := [0]) rfl rfl rfl (op_store (gs := [C.im kU8 1 p0.b, C.int x5, C.val (.int .u64 (bitXor .u64 (bitXor .u64 (bitXor .u64 x6 (shlI .u64 x6 13)) (shrI .u64 (bitXor .u64 x6 (shlI .u64 x6 13)) 7)) (shlI .u64 (bitXor .u64 (bitXor .u64 x6 (shlI .u64 x6 13)) (shrI .u64 (bitXor .u64 x6 (shlI .u64 x6 13)) 7)) 17))), C.int x7]) ld_72 rfl rfl (One.val rfl) rfl rfl) ?_
      rintro _ _ ⟨rfl, rfl⟩
      refine OpsD.done ?_
      refine AW.seq ?_
      refine AW.region ?_
      refine Ops.v rfl (op_move rfl rfl) ?_
      refine Ops.v rfl (op_move rfl rfl) ?_
      refine Ops.v rfl (op_nilCheck rfl rfl) ?_
      refine Ops.v rfl (op_fieldAddr fo_74_2 rfl rfl) ?_
      refine Ops.v rfl (op_load (p := 0) ld_72 rfl rfl rfl rfl) ?_
      refine Ops.v rfl (op_shift rfl rfl rfl rfl) ?_
      refine Ops.v rfl (op_bin rfl rfl rfl rfl) ?_
      refine Ops.v rfl (op_move rfl rfl) ?_
      refine Ops.v rfl (op_conv un_2 un_72 rfl rfl) ?_
      refine ob' h fun u10 c11 h => ?_
      refine Ops.v rfl (op_rem rfl rfl (ne_of_chk c11) rfl) ?_
      refine Ops.v rfl (op_conv un_72 un_2 rfl rfl) ?_
      refine Ops.v rfl (op_assign rfl rfl) ?_
      refine Ops.nil ?_
      refine AW.ret ?_
      rw [← Option.some.inj h]
      exact ⟨[C.int (IntKind.i64.wrap (Int.tmod (IntKind.u64.wrap (x9 + (shrI .u64 (bitXor .u64 (bitXor .u64 (bitXor .u64 x6 (shlI .u64 x6 13)) (shrI .u64 (bitXor .u64 x6 (shlI .u64 x6 13)) 7)) (shlI .u64 (bitXor .u64 (bitXor .u64 x6 (shlI .u64 x6 13)) (shrI .u64 (bitXor .u64 x6 (shlI .u64 x6 13)) 7)) 17)) 20))) (IntKind.u64.wrap x8)))], _, Ghost.refl _, (.cons (.tmp rfl) .nil), [0], _, _, rfl, ⟨rfl, rfl⟩⟩

def spec_l01Src_one (p0 : TL01Src) (p1 : Int) : Option (Bool × TL01Src) := (spec_l01Src_n p0 p1).bind fun r1 => some ((r1.1 == 0), r1.2)
theorem ok_spec_l01Src_one {b00 : Nat} (p0 : TL01Src) (p1 : Int) (r : Bool × TL01Src) (h : spec_l01Src_one p0 p1 = some r) : Ok Try.prog 46 [C.val (.pointer (some ⟨b00, 0, none⟩)), C.int p1] [Obj.box b00 74 [C.im kU8 1 p0.b, C.int p0.at_, C.val (.int .u64 p0.mix), C.int p0.size]] (fun c qs => c = C.bool r.1 ∧ qs = [Obj.box b00 74 [C.im kU8 1 r.2.b, C.int r.2.at_, C.val (.int .u64 r.2.mix), C.int r.2.size]]) := by
  refine Ok.of_body (rs := [.tmp 4]) Try.func46 rfl rfl rfl rfl rfl fun X => ?_
  unfold spec_l01Src_one at h
  refine AW.seq ?_
  refine AW.region ?_
  refine Ops.v rfl (op_assign rfl rfl) ?_
  refine Ops.nil ?_
  refine AW.seq ?_
  refine AW.region ?_
  refine Ops.v rfl (op_move rfl rfl) ?_
  refine Ops.v rfl (op_move rfl rfl) ?_
  refine ob' h fun r1 g2 h => ?_
  refine Ops.hd (ns := [0]) rfl rfl (op_callE (ok_spec_l01Src_n p0 _ _ g2) rfl rfl) ?_
  refine Ops.v rfl (op_bin rfl rfl rfl rfl) ?_
  refine Ops.v rfl (op_assign rfl rfl) ?_
  refine Ops.nil ?_
  refine AW.ret ?_
  rw [← Option.some.inj h]
  exact ⟨[C.bool (r1.1 == 0)], _, Ghost.refl _, (.cons (.tmp rfl) .nil), [0], _, _, rfl, ⟨rfl, rfl⟩⟩

def spec_l01Src_edge (p0 : TL01Src) : Option (Int × TL01Src) := (spec_l01Src_n p0 14).bind fun r2 => (getI [0, 1, (-1), 2, 1000, 1001, 2147483648, 2147483647, (-2147483648), 4611686018427387904, 9223372036854775807, (-9223372036854775808), 1000000, 1000001] r2.1).bind fun e4 => some (e4, r2.2)
theorem ok_spec_l01Src_edge {b00 : Nat} (p0 : TL01Src) (r : Int × TL01Src) (h : spec_l01Src_edge p0 = some r) : Ok Try.prog 48 [C.val (.pointer (some ⟨b00, 0, none⟩))] [Obj.box b00 74 [C.im kU8 1 p0.b, C.int p0.at_, C.val (.int .u64 p0.mix), C.int p0.size]] (fun c qs => c = C.int r.1 ∧ qs = [Obj.box b00 74 [C.im kU8 1 r.2.b, C.int r.2.at_, C.val (.int .u64 r.2.mix), C.int r.2.size]]) := by
  refine Ok.of_body (rs := [.tmp 2]) Try.func48 rfl rfl rfl rfl rfl fun X => ?_
  unfold spec_l01Src_edge at h
  refine AW.seq ?_
  refine AW.region ?_
  refine Ops.v rfl (op_assign rfl rfl) ?_
  refine Ops.nil ?_
  refine AW.seq ?_
  refine AW.region ?_
  refine Ops.h (ns := []) rfl rfl (op_buildSlice (k := kI64) (ys := [0, 1, (-1), 2, 1000, 1001, 2147483648, 2147483647, (-2147483648), 4611686018427387904, 9223372036854775807, (-9223372036854775808), 1000000, 1000001]) ar_31 (.one rfl (One.val rfl) rfl rfl (.one rfl (One.val rfl) rfl rfl (.one rfl (One.val rfl) rfl rfl (.one rfl (One.val rfl) rfl rfl (.one rfl (One.val rfl) rfl rfl (.one rfl (One.val rfl) rfl rfl (.one rfl (One.val rfl) rfl rfl (.one rfl (One.val rfl) rfl rfl (.one rfl (One.val rfl) rfl rfl (.one rfl (One.val rfl) rfl rfl (.one rfl (One.val rfl) rfl rfl (.one rfl (One.val rfl) rfl rfl (.one rfl (One.val rfl) rfl rfl (.one rfl (One.val rfl) rfl rfl .nil)))))))))))))) rfl rfl rfl) ?_
  rintro _ _ ⟨b1, rfl, rfl⟩
  refine Ops.v rfl (op_move rfl rfl) ?_
  refine ob' h fun r2 g3 h => ?_
  refine Ops.hd (ns := [1]) rfl rfl (op_callE (ok_spec_l01Src_n p0 _ _ g3) rfl rfl) ?_
  refine ob' h fun e4 g5 h => ?_
  refine Ops.v rfl (op_indexAddr_arr (p := 1) sl_31 rfl rfl rfl g5 rfl) ?_
  refine Ops.v rfl (op_load_arr (p := 1) ld_2 rfl rfl (getI_lt g5).2.2 rfl rfl) ?_
  refine Ops.v rfl (op_assign rfl rfl) ?_
  refine Ops.nil ?_
  refine AW.ret ?_
  rw [← Option.some.inj h]
  exact ⟨[C.int e4], _, Ghost.refl _, (.cons (.tmp rfl) .nil), [0], _, _, rfl, ⟨rfl, rfl⟩⟩

def spec_l01Src_l20Row_j1 (l63 : List TLive) (l64 : List Int) (x65 : Int) (x66 : Int) (x67 : Int) : Option (List TLive × TL01Src) := some (l63, (TL01Src.mk l64 x65 x66 x67))
def spec_l01Src_l20Row_j2 (l45 : List Int) (x46 : Int) (x47 : Int) (x48 : Int) (l50 : List TLive) : Option (List TLive × TL01Src) := (spec_l01Src_one (TL01Src.mk l45 x46 x47 x48) 15).bind fun r51 => cond r51.1 ((spec_l01Src_n r51.2 8).bind fun r54 => (spec_l01Src_edge r54.2).bind fun r56 => (chk (decide ((l50.length + [(TLive.mk r54.1 r56.1)].length) * 16 ≤ 140737488355328))).bind fun u60 => spec_l01Src_l20Row_j1 (l50 ++ [(TLive.mk r54.1 r56.1)]) r56.2.b r56.2.at_ r56.2.mix r56.2.size) (spec_l01Src_l20Row_j1 l50 r51.2.b r51.2.at_ r51.2.mix r51.2.size)
def spec_l01Src_l20Row_j3 (l38 : List Int) (x39 : Int) (x40 : Int) (x41 : Int) (l43 : List TLive) (x44 : Int) : Option ((List Int × Int × Int × Int × List TLive × Int) ⊕ ((List Int × Int × Int × Int × List TLive))) := some (.inl (l38, x39, x40, x41, l43, (IntKind.i64.wrap (x44 - 1))))
def spec_l01Src_l20Row_s4 (l21 : List Int) (x22 : Int) (x23 : Int) (x24 : Int) (l26 : List TLive) (x27 : Int) : Option ((List Int × Int × Int × Int × List TLive × Int) ⊕ ((List Int × Int × Int × Int × List TLive))) := cond (decide (x27 > 0)) ((spec_l01Src_n (TL01Src.mk l21 x22 x23 x24) 6).bind fun r29 => (spec_l01Src_n r29.2 12).bind fun r31 => (spec_LiveSet l26 (IntKind.i64.wrap (1 + r29.1)) r31.1).bind fun r33 => cond (r33.code == 0) (spec_l01Src_l20Row_j3 r31.2.b r31.2.at_ r31.2.mix r31.2.size r33.row x27) (spec_l01Src_l20Row_j3 r31.2.b r31.2.at_ r31.2.mix r31.2.size l26 x27)) (some (.inr (l21, x22, x23, x24, l26)))
def spec_l01Src_l20Row (p0 : TL01Src) : Option (List TLive × TL01Src) := (spec_l01Src_n p0 6).bind fun r2 => (iter (fun z69 => spec_l01Src_l20Row_s4 z69.1 z69.2.1 z69.2.2.1 z69.2.2.2.1 z69.2.2.2.2.1 z69.2.2.2.2.2) big (r2.2.b, r2.2.at_, r2.2.mix, r2.2.size, ([] : List TLive), r2.1)).bind fun (y70, y71, y72, y73, y74) => spec_l01Src_l20Row_j2 y70 y71 y72 y73 y74
theorem ok_spec_l01Src_l20Row {b00 : Nat} (p0 : TL01Src) (r : List TLive × TL01Src) (h : spec_l01Src_l20Row p0 = some r) : Ok Try.prog 45 [C.val (.pointer (some ⟨b00, 0, none⟩))] [Obj.box b00 74 [C.im kU8 1 p0.b, C.int p0.at_, C.val (.int .u64 p0.mix), C.int p0.size]] (fun c qs => ∃ (v68 : Value), c = C.val v68 ∧ qs = [Obj.arr v68 54 kLive 2 r.1, Obj.box b00 74 [C.im kU8 1 r.2.b, C.int r.2.at_, C.val (.int .u64 r.2.mix), C.int r.2.size]]) := by
  refine Ok.of_body (rs := [.tmp 2]) Try.func45 rfl rfl rfl rfl rfl fun X => ?_
  unfold spec_l01Src_l20Row at h
  refine AW.seq ?_
  refine AW.region ?_
  refine Ops.v rfl (op_assign rfl rfl) ?_
  refine Ops.nil ?_
  refine AW.seq ?_
  refine AW.region ?_
  refine Ops.h (ns := []) rfl rfl (op_buildSlice (k := kLive) (ys := ([] : List TLive)) ar_25 .nil rfl rfl rfl) ?_
  rintro _ _ ⟨b1, rfl, rfl⟩
  refine Ops.v rfl (op_assign rfl rfl) ?_
  refine Ops.nil ?_
  refine AW.seq ?_
  refine AW.cut (τ := List Int × Int × Int × Int × List TLive × Value) (fun (l45, x46, x47, x48, l50, v49) => ⟨[(0, C.val (.pointer (some ⟨b00, 0, none⟩))), (3, C.val v49)], [Obj.box b00 74 [C.im kU8 1 l45, C.int x46, C.val (.int .u64 x47), C.int x48], Obj.arr v49 54 kLive 2 l50]⟩) (fun (l45, x46, x47, x48, l50, v49) => spec_l01Src_l20Row_j2 l45 x46 x47 x48 l50 = some r) ?_ ?_
  · refine AW.seq ?_
    refine AW.region ?_
    refine Ops.v rfl (op_move rfl rfl) ?_
    refine ob' h fun r2 g3 h => ?_
    refine Ops.hd (ns := [1]) rfl rfl (op_callE (ok_spec_l01Src_n p0 _ _ g3) rfl rfl) ?_
    refine Ops.v rfl (op_assign rfl rfl) ?_
    refine Ops.nil ?_
    refine AW.block ?_
    refine ob' h fun o75 g76 q77 => ?_
    refine AW.loop (τ := List Int × Int × Int × Int × List TLive × Int × Value) (x := (r2.2.b, r2.2.at_, r2.2.mix, r2.2.size, ([] : List TLive), r2.1, (.slice (some ⟨b1, 0, none⟩) 0 0))) (fun (l21, x22, x23, x24, l26, x27, v25) => ⟨[(0, C.val (.pointer (some ⟨b00, 0, none⟩))), (3, C.val v25), (4, C.int x27)], [Obj.box b00 74 [C.im kU8 1 l21, C.int x22, C.val (.int .u64 x23), C.int x24], Obj.arr v25 54 kLive 2 l26]⟩) (fun k (l21, x22, x23, x24, l26, x27, v25) => iter (fun z69 => spec_l01Src_l20Row_s4 z69.1 z69.2.1 z69.2.2.1 z69.2.2.2.1 z69.2.2.2.2.1 z69.2.2.2.2.2) k (l21, x22, x23, x24, l26, x27) = some o75) g76 (Ghost.both (ns := [0, 0]) rfl rfl) ?_
    rintro k ⟨l21, x22, x23, x24, l26, x27, v25⟩ i79
    refine iter_succ' (show iter (fun z69 => spec_l01Src_l20Row_s4 z69.1 z69.2.1 z69.2.2.1 z69.2.2.2.1 z69.2.2.2.2.1 z69.2.2.2.2.2) k (l21, x22, x23, x24, l26, x27) = some o75 from i79) fun k78 y80 hlt_k78 h h81 => ?_
    replace h : spec_l01Src_l20Row_s4 l21 x22 x23 x24 l26 x27 = some y80 := h
    unfold spec_l01Src_l20Row_s4 at h
    refine AW.seq ?_
    refine AW.seq ?_
    refine AW.region ?_
    refine Ops.v rfl (op_move rfl rfl) ?_
    refine Ops.v rfl (op_bin rfl rfl rfl rfl) ?_
    refine Ops.nil ?_
    refine tf' (decide (x27 > 0)) (fun hb28 => ?_) (fun hb28 => ?_)
    · replace h := cond_t hb28 h
      refine AW.cond rfl (fun _ => ?_) (fun hn => absurd (hb28.symm.trans hn) (by decide))
      refine AW.skip ?_
      refine AW.seq ?_
      refine AW.cut (τ := List Int × Int × Int × Int × List TLive × Int × Value) (fun (l38, x39, x40, x41, l43, x44, v42) => ⟨[(0, C.val (.pointer (some ⟨b00, 0, none⟩))), (3, C.val v42), (4, C.int x44)], [Obj.box b00 74 [C.im kU8 1 l38, C.int x39, C.val (.int .u64 x40), C.int x41], Obj.arr v42 54 kLive 2 l43]⟩) (fun (l38, x39, x40, x41, l43, x44, v42) => spec_l01Src_l20Row_j3 l38 x39 x40 x41 l43 x44 = some y80) ?_ ?_
      · refine AW.block ?_
        refine AW.seq ?_
        refine AW.region ?_
        refine Ops.v rfl (op_move rfl rfl) ?_
        refine Ops.v rfl (op_move rfl rfl) ?_
        refine ob' h fun r29 g30 h => ?_
        refine Ops.hd (ns := [0]) rfl rfl (op_callE (ok_spec_l01Src_n (TL01Src.mk l21 x22 x23 x24) _ _ g30) rfl rfl) ?_
        refine Ops.v rfl (op_bin rfl rfl rfl rfl) ?_
        refine Ops.v rfl (op_move rfl rfl) ?_
        refine ob' h fun r31 g32 h => ?_
        refine Ops.hd (ns := [0]) rfl rfl (op_callE (ok_spec_l01Src_n r29.2 _ _ g32) rfl rfl) ?_
        refine ob' h fun r33 g34 h => ?_
        refine Ops.h (ns := [1]) rfl rfl (op_call (Ok.lend (ok_spec_LiveSet _ _ _ _ g34) (FrzT.cons (os := [_]) Frz.arr (FrzT.cons (os := []) (Frz.same _) (FrzT.cons (os := []) (Frz.same _) (FrzT.nil)))) (by rintro _ _ ⟨_, rfl, rfl⟩; exact ⟨(PlainC.agg (PlainCs.cons (PlainC.val _) (PlainCs.cons (PlainC.val _) (PlainCs.nil)))), plainO_cons (PlainO.arr plain_kLive) (plainO_nil)⟩)) rfl rfl) ?_
        rintro _ _ ⟨_, ⟨_, ⟨v35, rfl, rfl⟩, rfl⟩, rfl⟩
        refine Ops.h (ns := []) rfl rfl (op_alloc (cs := [C.val (.slice none 0 0), C.int 0]) ze_37 (cells_zero rfl rfl) rfl) ?_
        rintro _ _ ⟨b36, rfl, rfl⟩
        refine Ops.hd (ns := [0]) rfl rfl (op_storeA (gs := [C.val v35, C.int r33.code]) ld_37 rfl rfl rfl rfl rfl) ?_
        refine Ops.nil ?_
        refine AW.seq ?_
        refine AW.region ?_
        refine Ops.v rfl (op_fieldAddr fo_37_1 rfl rfl) ?_
        refine Ops.v rfl (op_load (p := 0) ld_2 rfl rfl rfl rfl) ?_
        refine Ops.v rfl (op_bin rfl rfl rfl rfl) ?_
        refine Ops.nil ?_
        refine tf' ((r33.code == 0)) (fun hb37 => ?_) (fun hb37 => ?_)
        · replace h := cond_t hb37 h
          refine AW.cond rfl (fun _ => ?_) (fun hn => absurd (hb37.symm.trans hn) (by decide))
          refine AW.region ?_
          refine Ops.v rfl (op_fieldAddr fo_37_0 rfl rfl) ?_
          refine Ops.v rfl (op_load (p := 0) ld_25 rfl rfl rfl rfl) ?_
          refine Ops.v rfl (op_assign rfl rfl) ?_
          refine Ops.nil ?_
          exact ⟨(r31.2.b, r31.2.at_, r31.2.mix, r31.2.size, r33.row, x27, v35), h, Ghost.both (ns := [3, 1]) rfl rfl⟩
        · replace h := cond_f hb37 h
          refine AW.cond rfl (fun hn => absurd (hb37.symm.trans hn) (by decide)) (fun _ => ?_)
          refine AW.skip ?_
          exact ⟨(r31.2.b, r31.2.at_, r31.2.mix, r31.2.size, l26, x27, v25), h, Ghost.both (ns := [3, 2]) rfl rfl⟩
      · rintro ⟨l38, x39, x40, x41, l43, x44, v42⟩ h
        replace h : spec_l01Src_l20Row_j3 l38 x39 x40 x41 l43 x44 = some y80 := h
        unfold spec_l01Src_l20Row_j3 at h
        refine AW.region ?_
        refine Ops.v rfl (op_move rfl rfl) ?_
        refine Ops.v rfl (op_bin rfl rfl rfl rfl) ?_
        refine Ops.v rfl (op_assign rfl rfl) ?_
        refine Ops.nil ?_
        obtain rfl := Option.some.inj h
        exact ⟨k78, (l38, x39, x40, x41, l43, (IntKind.i64.wrap (x44 - 1)), v42), hlt_k78, h81, Ghost.both (ns := [0, 0]) rfl rfl⟩
    · replace h := cond_f hb28 h
      refine AW.cond rfl (fun hn => absurd (hb28.symm.trans hn) (by decide)) (fun _ => ?_)
      refine AW.exit ?_
      obtain rfl := Option.some.inj h
      obtain rfl := Option.some.inj h81
      replace h := q77
      exact ⟨(l21, x22, x23, x24, l26, v25), h, Ghost.both (ns := [0, 0]) rfl rfl⟩
  · rintro ⟨l45, x46, x47, x48, l50, v49⟩ h
    replace h : spec_l01Src_l20Row_j2 l45 x46 x47 x48 l50 = some r := h
    unfold spec_l01Src_l20Row_j2 at h
    refine AW.seq ?_
    refine AW.cut (τ := List TLive × List Int × Int × Int × Int × Value) (fun (l63, l64, x65, x66, x67, v62) => ⟨[(3, C.val v62)], [Obj.arr v62 54 kLive 2 l63, Obj.box b00 74 [C.im kU8 1 l64, C.int x65, C.val (.int .u64 x66), C.int x67]]⟩) (fun (l63, l64, x65, x66, x67, v62) => spec_l01Src_l20Row_j1 l63 l64 x65 x66 x67 = some r) ?_ ?_
    · refine AW.seq ?_
      refine AW.region ?_
      refine Ops.v rfl (op_move rfl rfl) ?_
      refine ob' h fun r51 g52 h => ?_
      refine Ops.hd (ns := [0]) rfl rfl (op_callE (ok_spec_l01Src_one (TL01Src.mk l45 x46 x47 x48) _ _ g52) rfl rfl) ?_
      refine Ops.nil ?_
      refine tf' (r51.1) (fun hb53 => ?_) (fun hb53 => ?_)
      · replace h := cond_t hb53 h
        refine AW.cond rfl (fun _ => ?_) (fun hn => absurd (hb53.symm.trans hn) (by decide))
        refine AW.region ?_
        refine Ops.v rfl (op_move rfl rfl) ?_
        refine Ops.v rfl (op_move rfl rfl) ?_
        refine ob' h fun r54 g55 h => ?_
        refine Ops.hd (ns := [0]) rfl rfl (op_callE (ok_spec_l01Src_n r51.2 _ _ g55) rfl rfl) ?_
        refine Ops.v rfl (op_move rfl rfl) ?_
        refine ob' h fun r56 g57 h => ?_
        refine Ops.hd (ns := [0]) rfl rfl (op_callE (ok_spec_l01Src_edge r54.2 _ g57) rfl rfl) ?_
        refine Ops.v rfl (op_build (ds := [C.int r54.1, C.int r56.1]) pl_54 ze_54 (cells_zero rfl rfl) (.one rfl (One.val rfl) rfl rfl (.one rfl (One.val rfl) rfl rfl .nil)) rfl) ?_
        refine Ops.h (ns := []) rfl rfl (op_buildSlice (k := kLive) (ys := [(TLive.mk r54.1 r56.1)]) ar_25 (.agg rfl rfl .nil) rfl rfl rfl) ?_
        rintro _ _ ⟨b58, rfl, rfl⟩
        refine ob' h fun u60 c59 h => ?_
        refine Ops.h (ns := [2, 0]) rfl rfl (op_append ar_25 rfl rfl (of_decide_eq_true (chk_some c59)) (app63 (by decide) c59) rfl) ?_
        rintro _ _ ⟨v61, rfl, rfl⟩
        refine Ops.v rfl (op_assign rfl rfl) ?_
        refine Ops.nil ?_
        exact ⟨((l50 ++ [(TLive.mk r54.1 r56.1)]), r56.2.b, r56.2.at_, r56.2.mix, r56.2.size, v61), h, Ghost.both (ns := [0, 0]) rfl rfl⟩
      · replace h := cond_f hb53 h
        refine AW.cond rfl (fun hn => absurd (hb53.symm.trans hn) (by decide)) (fun _ => ?_)
        refine AW.skip ?_
        exact ⟨(l50, r51.2.b, r51.2.at_, r51.2.mix, r51.2.size, v49), h, Ghost.both (ns := [1, 0]) rfl rfl⟩
    · rintro ⟨l63, l64, x65, x66, x67, v62⟩ h
      replace h : spec_l01Src_l20Row_j1 l63 l64 x65 x66 x67 = some r := h
      unfold spec_l01Src_l20Row_j1 at h
      refine AW.seq ?_
      refine AW.region ?_
      refine Ops.v rfl (op_move rfl rfl) ?_
      refine Ops.v rfl (op_assign rfl rfl) ?_
      refine Ops.nil ?_
      refine AW.ret ?_
      rw [← Option.some.inj h]
      exact ⟨[C.val v62], _, Ghost.refl _, (.cons (.tmp rfl) .nil), [0, 0], _, _, rfl, ⟨v62, rfl, rfl⟩⟩

def spec_DrawLiveSet (p0 : List Int) : Option (List TLive × Int × Int) := (spec_l01Source p0).bind fun r1 => (spec_l01Src_l20Row r1).bind fun r4 => (spec_l01Src_one r4.2 8).bind fun r7 => cond r7.1 ((spec_l01Src_n r7.2 8).bind fun r10 => (spec_l01Src_edge r10.2).bind fun r12 => some (r4.1, r10.1, r12.1)) ((spec_l01Src_n r7.2 6).bind fun r14 => (spec_l01Src_n r14.2 14).bind fun r16 => some (r4.1, (IntKind.i64.wrap (1 + r14.1)), r16.1))
theorem ok_spec_DrawLiveSet (p0 : List Int) (r : List TLive × Int × Int) (h : spec_DrawLiveSet p0 = some r) : Ok Try.prog 29 [C.im kU8 1 p0] [] (fun c qs => ∃ (v18 : Value), c = C.tup [C.val v18, C.int r.2.1, C.int r.2.2] ∧ qs = [Obj.arr v18 54 kLive 2 r.1]) := by
  refine Ok.of_body (rs := [.tmp 2, .tmp 3, .tmp 4]) Try.func29 rfl rfl rfl rfl rfl fun X => ?_
  unfold spec_DrawLiveSet at h
  refine AW.seq ?_
  refine AW.region ?_
  refine Ops.v rfl (op_assign rfl rfl) ?_
  refine Ops.v rfl (op_assign rfl rfl) ?_
  refine Ops.v rfl (op_assign rfl rfl) ?_
  refine Ops.nil ?_
  refine AW.seq ?_
  refine AW.region ?_
  refine Ops.v rfl (op_move rfl rfl) ?_
  refine ob' h fun r1 g2 h => ?_
  refine Ops.h (ns := []) rfl rfl (op_call (ok_spec_l01Source _ _ g2) rfl rfl) ?_
  rintro _ _ ⟨_, ⟨b3, rfl, rfl⟩, rfl⟩
  refine Ops.v rfl (op_assign rfl rfl) ?_
  refine Ops.nil ?_
  refine AW.seq ?_
  refine AW.region ?_
  refine Ops.v rfl (op_move rfl rfl) ?_
  refine ob' h fun r4 g5 h => ?_
  refine Ops.h (ns := [0]) rfl rfl (op_call (ok_spec_l01Src_l20Row r1 _ g5) rfl rfl) ?_
  rintro _ _ ⟨_, ⟨v6, rfl, rfl⟩, rfl⟩
  refine Ops.v rfl (op_assign rfl rfl) ?_
  refine Ops.nil ?_
  refine AW.seq ?_
  refine AW.seq ?_
  refine AW.region ?_
  refine Ops.v rfl (op_move rfl rfl) ?_
  refine ob' h fun r7 g8 h => ?_
  refine Ops.hd (ns := [1]) rfl rfl (op_callE (ok_spec_l01Src_one r4.2 _ _ g8) rfl rfl) ?_
  refine Ops.nil ?_
  refine tf' (r7.1) (fun hb9 => ?_) (fun hb9 => ?_)
  · replace h := cond_t hb9 h
    refine AW.cond rfl (fun _ => ?_) (fun hn => absurd (hb9.symm.trans hn) (by decide))
    refine AW.seq ?_
    refine AW.region ?_
    refine Ops.v rfl (op_move rfl rfl) ?_
    refine Ops.v rfl (op_move rfl rfl) ?_
    refine ob' h fun r10 g11 h => ?_
    refine Ops.hd (ns := [0]) rfl rfl (op_callE (ok_spec_l01Src_n r7.2 _ _ g11) rfl rfl) ?_
    refine Ops.v rfl (op_move rfl rfl) ?_
    refine ob' h fun r12 g13 h => ?_
    refine Ops.hd (ns := [0]) rfl rfl (op_callE (ok_spec_l01Src_edge r10.2 _ g13) rfl rfl) ?_
    refine Ops.v rfl (op_assign rfl rfl) ?_
    refine Ops.v rfl (op_assign rfl rfl) ?_
    refine Ops.v rfl (op_assign rfl rfl) ?_
    refine Ops.nil ?_
    refine AW.ret ?_
    rw [← Option.some.inj h]
    exact ⟨[C.val v6, C.int r10.1, C.int r12.1], _, Ghost.refl _, (.cons (.tmp rfl) (.cons (.tmp rfl) (.cons (.tmp rfl) .nil))), [1], _, _, rfl, ⟨v6, rfl, rfl⟩⟩
  · replace h := cond_f hb9 h
    refine AW.cond rfl (fun hn => absurd (hb9.symm.trans hn) (by decide)) (fun _ => ?_)
    refine AW.skip ?_
    refine AW.seq ?_
    refine AW.region ?_
    refine Ops.v rfl (op_move rfl rfl) ?_
    refine Ops.v rfl (op_move rfl rfl) ?_
    refine ob' h fun r14 g15 h => ?_
    refine Ops.hd (ns := [0]) rfl rfl (op_callE (ok_spec_l01Src_n r7.2 _ _ g15) rfl rfl) ?_
    refine Ops.v rfl (op_bin rfl rfl rfl rfl) ?_
    refine Ops.v rfl (op_move rfl rfl) ?_
    refine ob' h fun r16 g17 h => ?_
    refine Ops.hd (ns := [0]) rfl rfl (op_callE (ok_spec_l01Src_n r14.2 _ _ g17) rfl rfl) ?_
    refine Ops.v rfl (op_assign rfl rfl) ?_
    refine Ops.v rfl (op_assign rfl rfl) ?_
    refine Ops.v rfl (op_assign rfl rfl) ?_
    refine Ops.nil ?_
    refine AW.ret ?_
    rw [← Option.some.inj h]
    exact ⟨[C.val v6, C.int (IntKind.i64.wrap (1 + r14.1)), C.int r16.1], _, Ghost.refl _, (.cons (.tmp rfl) (.cons (.tmp rfl) (.cons (.tmp rfl) .nil))), [1], _, _, rfl, ⟨v6, rfl, rfl⟩⟩
theorem ok_spec_DrawLiveSet' (p0 : List Int) (r : List TLive × Int × Int) (h : spec_DrawLiveSet p0 = some r) : Ok Try.prog 29 [C.im kU8 1 p0] [] (fun c qs => c = C.tup [C.im kLive 2 r.1, C.int r.2.1, C.int r.2.2] ∧ qs = []) :=
  Ok.freeze (ok_spec_DrawLiveSet p0 r h) (by rintro c qs ⟨v18, rfl, rfl⟩; exact Frz.tup (FrzT.cons (os := [_]) (Frz.arr) (FrzT.cons (os := []) (Frz.same _) (FrzT.cons (os := []) (Frz.same _) (FrzT.nil)))))

def spec_DrawLiveJoin (p0 : List Int) : Option (List TLive × List TLive) := (spec_l01Source p0).bind fun r1 => (spec_l01Src_l20Row r1).bind fun r4 => (spec_l01Src_l20Row r4.2).bind fun r7 => some (r4.1, r7.1)
theorem ok_spec_DrawLiveJoin (p0 : List Int) (r : List TLive × List TLive) (h : spec_DrawLiveJoin p0 = some r) : Ok Try.prog 30 [C.im kU8 1 p0] [] (fun c qs => ∃ (v10 : Value) (v11 : Value), c = C.tup [C.val v10, C.val v11] ∧ qs = [Obj.arr v10 54 kLive 2 r.1, Obj.arr v11 54 kLive 2 r.2]) := by
  refine Ok.of_body (rs := [.tmp 2, .tmp 3]) Try.func30 rfl rfl rfl rfl rfl fun X => ?_
  unfold spec_DrawLiveJoin at h
  refine AW.seq ?_
  refine AW.region ?_
  refine Ops.v rfl (op_assign rfl rfl) ?_
  refine Ops.v rfl (op_assign rfl rfl) ?_
  refine Ops.nil ?_
  refine AW.seq ?_
  refine AW.region ?_
  refine Ops.v rfl (op_move rfl rfl) ?_
  refine ob' h fun r1 g2 h => ?_
  refine Ops.h (ns := []) rfl rfl (op_call (ok_spec_l01Source _ _ g2) rfl rfl) ?_
  rintro _ _ ⟨_, ⟨b3, rfl, rfl⟩, rfl⟩
  refine Ops.v rfl (op_assign rfl rfl) ?_
  refine Ops.nil ?_
  refine AW.seq ?_
  refine AW.region ?_
  refine Ops.v rfl (op_move rfl rfl) ?_
  refine ob' h fun r4 g5 h => ?_
  refine Ops.h (ns := [0]) rfl rfl (op_call (ok_spec_l01Src_l20Row r1 _ g5) rfl rfl) ?_
  rintro _ _ ⟨_, ⟨v6, rfl, rfl⟩, rfl⟩
  refine Ops.v rfl (op_assign rfl rfl) ?_
  refine Ops.nil ?_
  refine AW.seq ?_
  refine AW.region ?_
  refine Ops.v rfl (op_move rfl rfl) ?_
  refine Ops.v rfl (op_move rfl rfl) ?_
  refine ob' h fun r7 g8 h => ?_
  refine Ops.h (ns := [1]) rfl rfl (op_call (ok_spec_l01Src_l20Row r4.2 _ g8) rfl rfl) ?_
  rintro _ _ ⟨_, ⟨v9, rfl, rfl⟩, rfl⟩
  refine Ops.v rfl (op_assign rfl rfl) ?_
  refine Ops.v rfl (op_assign rfl rfl) ?_
  refine Ops.nil ?_
  refine AW.ret ?_
  rw [← Option.some.inj h]
  exact ⟨[C.val v6, C.val v9], _, Ghost.refl _, (.cons (.tmp rfl) (.cons (.tmp rfl) .nil)), [2, 0], _, _, rfl, ⟨v6, v9, rfl, rfl⟩⟩
theorem ok_spec_DrawLiveJoin' (p0 : List Int) (r : List TLive × List TLive) (h : spec_DrawLiveJoin p0 = some r) : Ok Try.prog 30 [C.im kU8 1 p0] [] (fun c qs => c = C.tup [C.im kLive 2 r.1, C.im kLive 2 r.2] ∧ qs = []) :=
  Ok.freeze (ok_spec_DrawLiveJoin p0 r h) (by rintro c qs ⟨v10, v11, rfl, rfl⟩; exact Frz.tup (FrzT.cons (os := [_]) (Frz.arr) (FrzT.cons (os := [_]) (Frz.arr) (FrzT.nil))))

def spec_DrawLiveAt (p0 : List Int) : Option (List TLive × Int) := (spec_l01Source p0).bind fun r1 => (spec_l01Src_l20Row r1).bind fun r4 => (spec_l01Src_one r4.2 10).bind fun r7 => cond r7.1 ((spec_l01Src_edge r7.2).bind fun r10 => some (r4.1, r10.1)) ((spec_l01Src_n r7.2 13).bind fun r12 => some (r4.1, r12.1))
theorem ok_spec_DrawLiveAt (p0 : List Int) (r : List TLive × Int) (h : spec_DrawLiveAt p0 = some r) : Ok Try.prog 31 [C.im kU8 1 p0] [] (fun c qs => ∃ (v14 : Value), c = C.tup [C.val v14, C.int r.2] ∧ qs = [Obj.arr v14 54 kLive 2 r.1]) := by
  refine Ok.of_body (rs := [.tmp 2, .tmp 3]) Try.func31 rfl rfl rfl rfl rfl fun X => ?_
  unfold spec_DrawLiveAt at h
  refine AW.seq ?_
  refine AW.region ?_
  refine Ops.v rfl (op_assign rfl rfl) ?_
  refine Ops.v rfl (op_assign rfl rfl) ?_
  refine Ops.nil ?_
  refine AW.seq ?_
  refine AW.region ?_
  refine Ops.v rfl (op_move rfl rfl) ?_
  refine ob' h fun r1 g2 h => ?_
  refine Ops.h (ns := []) rfl rfl (op_call (ok_spec_l01Source _ _ g2) rfl rfl) ?_
  rintro _ _ ⟨_, ⟨b3, rfl, rfl⟩, rfl⟩
  refine Ops.v rfl (op_assign rfl rfl) ?_
  refine Ops.nil ?_
  refine AW.seq ?_
  refine AW.region ?_
  refine Ops.v rfl (op_move rfl rfl) ?_
  refine ob' h fun r4 g5 h => ?_
  refine Ops.h (ns := [0]) rfl rfl (op_call (ok_spec_l01Src_l20Row r1 _ g5) rfl rfl) ?_
  rintro _ _ ⟨_, ⟨v6, rfl, rfl⟩, rfl⟩
  refine Ops.v rfl (op_assign rfl rfl) ?_
  refine Ops.nil ?_
  refine AW.seq ?_
  refine AW.seq ?_
  refine AW.region ?_
  refine Ops.v rfl (op_move rfl rfl) ?_
  refine ob' h fun r7 g8 h => ?_
  refine Ops.hd (ns := [1]) rfl rfl (op_callE (ok_spec_l01Src_one r4.2 _ _ g8) rfl rfl) ?_
  refine Ops.nil ?_
  refine tf' (r7.1) (fun hb9 => ?_) (fun hb9 => ?_)
  · replace h := cond_t hb9 h
    refine AW.cond rfl (fun _ => ?_) (fun hn => absurd (hb9.symm.trans hn) (by decide))
    refine AW.seq ?_
    refine AW.region ?_
    refine Ops.v rfl (op_move rfl rfl) ?_
    refine Ops.v rfl (op_move rfl rfl) ?_
    refine ob' h fun r10 g11 h => ?_
    refine Ops.hd (ns := [0]) rfl rfl (op_callE (ok_spec_l01Src_edge r7.2 _ g11) rfl rfl) ?_
    refine Ops.v rfl (op_assign rfl rfl) ?_
    refine Ops.v rfl (op_assign rfl rfl) ?_
    refine Ops.nil ?_
    refine AW.ret ?_
    rw [← Option.some.inj h]
    exact ⟨[C.val v6, C.int r10.1], _, Ghost.refl _, (.cons (.tmp rfl) (.cons (.tmp rfl) .nil)), [1], _, _, rfl, ⟨v6, rfl, rfl⟩⟩
  · replace h := cond_f hb9 h
    refine AW.cond rfl (fun hn => absurd (hb9.symm.trans hn) (by decide)) (fun _ => ?_)
    refine AW.skip ?_
    refine AW.seq ?_
    refine AW.region ?_
    refine Ops.v rfl (op_move rfl rfl) ?_
    refine Ops.v rfl (op_move rfl rfl) ?_
    refine ob' h fun r12 g13 h => ?_
    refine Ops.hd (ns := [0]) rfl rfl (op_callE (ok_spec_l01Src_n r7.2 _ _ g13) rfl rfl) ?_
    refine Ops.v rfl (op_assign rfl rfl) ?_
    refine Ops.v rfl (op_assign rfl rfl) ?_
    refine Ops.nil ?_
    refine AW.ret ?_
    rw [← Option.some.inj h]
    exact ⟨[C.val v6, C.int r12.1], _, Ghost.refl _, (.cons (.tmp rfl) (.cons (.tmp rfl) .nil)), [1], _, _, rfl, ⟨v6, rfl, rfl⟩⟩
theorem ok_spec_DrawLiveAt' (p0 : List Int) (r : List TLive × Int) (h : spec_DrawLiveAt p0 = some r) : Ok Try.prog 31 [C.im kU8 1 p0] [] (fun c qs => c = C.tup [C.im kLive 2 r.1, C.int r.2] ∧ qs = []) :=
  Ok.freeze (ok_spec_DrawLiveAt p0 r h) (by rintro c qs ⟨v14, rfl, rfl⟩; exact Frz.tup (FrzT.cons (os := [_]) (Frz.arr) (FrzT.cons (os := []) (Frz.same _) (FrzT.nil))))

def laws_lwLive_j1 (x25 : Bool) : Option Bool := some x25
def laws_lwLive_j2 (p0 : TLiveOut) (x21 : Int) : Option Bool := cond (x21 != 0) (laws_lwLive_j1 true) ((spec_LiveRight p0.row).bind fun r23 => laws_lwLive_j1 r23)
def laws_lwLive_s3 (p0 : TLiveOut) (p1 : TLiveOut) (x4 : Int) (x14 : Int) : Option (Int ⊕ (Bool ⊕ Int)) := cond (decide (x14 < (p0.row.length : Int))) ((getI p0.row x14).bind fun e16 => (getI p1.row x14).bind fun e18 => cond ((e16.user == e18.user) && ((e16.till == e18.till) && true)) (some (.inl (IntKind.i64.wrap (x14 + 1)))) (some (.inr (.inl false)))) (some (.inr (.inr x4)))
def laws_lwLive_j4 (p0 : TLiveOut) (p1 : TLiveOut) (x4 : Int) (x5 : Int) (x6 : Bool) : Option Bool := cond x6 (some false) ((iter (laws_lwLive_s3 p0 p1 x4) big 0).bind (fun z28 => match z28 with | .inl y26 => some y26 | .inr y27 => laws_lwLive_j2 p0 y27))
def laws_lwLive (p0 : TLiveOut) (p1 : TLiveOut) : Option Bool := cond (p0.code != p1.code) (laws_lwLive_j4 p0 p1 p0.code p1.code true) (laws_lwLive_j4 p0 p1 p0.code p1.code ((p0.row.length : Int) != (p1.row.length : Int)))
theorem ok_laws_lwLive (p0 : TLiveOut) (p1 : TLiveOut) (r : Bool) (h : laws_lwLive p0 p1 = some r) : Ok Try.prog 32 [C.agg [C.im kLive 2 p0.row, C.int p0.code], C.agg [C.im kLive 2 p1.row, C.int p1.code]] [] (fun c qs => c = C.bool r ∧ qs = []) := by
  refine Ok.of_body (rs := [.tmp 4]) Try.func32 rfl rfl rfl rfl rfl fun X => ?_
  unfold laws_lwLive at h
  refine AW.seq ?_
  refine AW.region ?_
  refine Ops.h (ns := []) rfl rfl (op_boxA rfl rfl) ?_
  rintro _ _ ⟨b1, rfl, rfl⟩
  refine Ops.h (ns := []) rfl rfl (op_boxA rfl rfl) ?_
  rintro _ _ ⟨b2, rfl, rfl⟩
  refine Ops.v rfl (op_assign rfl rfl) ?_
  refine Ops.nil ?_
  refine AW.seq ?_
  refine AW.seq ?_
  refine AW.cut (τ := Int × Int × Bool) (fun (x4, x5, x6) => ⟨[(2, C.val (.pointer (some ⟨b1, 0, none⟩))), (3, C.val (.pointer (some ⟨b2, 0, none⟩))), (19, C.bool x6)], [Obj.box b1 37 [C.im kLive 2 p0.row, C.int x4], Obj.box b2 37 [C.im kLive 2 p1.row, C.int x5]]⟩) (fun (x4, x5, x6) => laws_lwLive_j4 p0 p1 x4 x5 x6 = some r) ?_ ?_
  · refine AW.region ?_
    refine Ops.v rfl (op_fieldAddr fo_37_1 rfl rfl) ?_
    refine Ops.v rfl (op_load (p := 1) ld_2 rfl rfl rfl rfl) ?_
    refine Ops.v rfl (op_fieldAddr fo_37_1 rfl rfl) ?_
    refine Ops.v rfl (op_load (p := 0) ld_2 rfl rfl rfl rfl) ?_
    refine Ops.v rfl (op_bin rfl rfl rfl rfl) ?_
    refine Ops.v rfl (op_move rfl rfl) ?_
    refine tf' ((p0.code != p1.code)) (fun hb3 => ?_) (fun hb3 => ?_)
    · replace h := cond_t hb3 h
      refine Ops.gs rfl rfl rfl (.b rfl hb3) rfl rfl ?_
      refine Ops.gs rfl rfl rfl (.b rfl hb3) rfl rfl ?_
      refine Ops.gs rfl rfl rfl (.b rfl hb3) rfl rfl ?_
      refine Ops.gs rfl rfl rfl (.b rfl hb3) rfl rfl ?_
      refine Ops.gs rfl rfl rfl (.b rfl hb3) rfl rfl ?_
      refine Ops.gs rfl rfl rfl (.b rfl hb3) rfl rfl ?_
      refine Ops.gs rfl rfl rfl (.b rfl hb3) rfl rfl ?_
      refine Ops.v rfl (op_pick_t rfl hb3 rfl rfl) ?_
      refine Ops.nil ?_
      exact ⟨(p0.code, p1.code, true), h, Ghost.both (ns := [1, 0]) rfl rfl⟩
    · replace h := cond_f hb3 h
      refine Ops.gv rfl rfl rfl rfl hb3 (op_fieldAddr fo_37_0 rfl rfl) ?_
      refine Ops.gv rfl rfl rfl rfl hb3 (op_load (p := 1) ld_25 rfl rfl rfl rfl) ?_
      refine Ops.gv rfl rfl rfl rfl hb3 (op_len_im sl_25 rfl rfl) ?_
      refine Ops.gv rfl rfl rfl rfl hb3 (op_fieldAddr fo_37_0 rfl rfl) ?_
      refine Ops.gv rfl rfl rfl rfl hb3 (op_load (p := 0) ld_25 rfl rfl rfl rfl) ?_
      refine Ops.gv rfl rfl rfl rfl hb3 (op_len_im sl_25 rfl rfl) ?_
      refine Ops.gv rfl rfl rfl rfl hb3 (op_bin rfl rfl rfl rfl) ?_
      refine Ops.v rfl (op_pick_f rfl hb3 rfl rfl) ?_
      refine Ops.nil ?_
      exact ⟨(p0.code, p1.code, ((p0.row.length : Int) != (p1.row.length : Int))), h, Ghost.both (ns := [1, 0]) rfl rfl⟩
  · rintro ⟨x4, x5, x6⟩ h
    replace h : laws_lwLive_j4 p0 p1 x4 x5 x6 = some r := h
    unfold laws_lwLive_j4 at h
    refine tf' (x6) (fun hb7 => ?_) (fun hb7 => ?_)
    · replace h := cond_t hb7 h
      refine AW.cond rfl (fun _ => ?_) (fun hn => absurd (hb7.symm.trans hn) (by decide))
      refine AW.seq ?_
      refine AW.region ?_
      refine Ops.v rfl (op_assign rfl rfl) ?_
      refine Ops.nil ?_
      refine AW.ret ?_
      rw [← Option.some.inj h]
      exact ⟨[C.bool false], _, Ghost.refl _, (.cons (.tmp rfl) .nil), [], _, _, rfl, ⟨rfl, rfl⟩⟩
    · replace h := cond_f hb7 h
      refine AW.cond rfl (fun hn => absurd (hb7.symm.trans hn) (by decide)) (fun _ => ?_)
      refine AW.skip ?_
      refine AW.seq ?_
      refine AW.cut (τ := Int) (fun x21 => ⟨[(2, C.val (.pointer (some ⟨b1, 0, none⟩)))], [Obj.box b1 37 [C.im kLive 2 p0.row, C.int x21]]⟩) (fun x21 => laws_lwLive_j2 p0 x21 = some r) ?_ ?_
      · refine AW.seq ?_
        refine AW.region ?_
        refine Ops.v rfl (op_assign rfl rfl) ?_
        refine Ops.nil ?_
        refine AW.block ?_
        refine ob' h fun o29 g30 q31 => ?_
        refine AW.loop (τ := Int) (x := 0) (fun x14 => ⟨[(2, C.val (.pointer (some ⟨b1, 0, none⟩))), (3, C.val (.pointer (some ⟨b2, 0, none⟩))), (5, C.int x14)], [Obj.box b1 37 [C.im kLive 2 p0.row, C.int x4], Obj.box b2 37 [C.im kLive 2 p1.row, C.int x5]]⟩) (fun k x14 => iter (laws_lwLive_s3 p0 p1 x4) k x14 = some o29) g30 (Ghost.both (ns := [0, 0]) rfl rfl) ?_
        intro k x14 i33
        refine iter_succ' (show iter (laws_lwLive_s3 p0 p1 x4) k x14 = some o29 from i33) fun k32 y34 hlt_k32 h h35 => ?_
        replace h : laws_lwLive_s3 p0 p1 x4 x14 = some y34 := h
        unfold laws_lwLive_s3 at h
        refine AW.seq ?_
        refine AW.seq ?_
        refine AW.region ?_
        refine Ops.v rfl (op_move rfl rfl) ?_
        refine Ops.v rfl (op_fieldAddr fo_37_0 rfl rfl) ?_
        refine Ops.v rfl (op_load (p := 0) ld_25 rfl rfl rfl rfl) ?_
        refine Ops.v rfl (op_len_im sl_25 rfl rfl) ?_
        refine Ops.v rfl (op_bin rfl rfl rfl rfl) ?_
        refine Ops.nil ?_
        refine tf' (decide (x14 < (p0.row.length : Int))) (fun hb15 => ?_) (fun hb15 => ?_)
        · replace h := cond_t hb15 h
          refine AW.cond rfl (fun _ => ?_) (fun hn => absurd (hb15.symm.trans hn) (by decide))
          refine AW.skip ?_
          refine AW.seq ?_
          refine AW.block ?_
          refine AW.seq ?_
          refine AW.regionD (L := [1, 4, 6, 9]) (Lt := []) (k := .light 0 false (.light 1 true (.light 2 false (.light 3 false (.light 4 true (.light 5 false (.light 6 true (.light 7 false (.light 8 false (.light 9 true (.light 10 false .done))))))))))) (ns := [0, 0]) (by kernel_rfl) (by kernel_rfl) (by kernel_rfl) (by kernel_rfl) rfl ?_
          refine OpsD.v rfl rfl (op_fieldAddr fo_37_0 rfl rfl) ?_
          refine OpsD.v rfl rfl (op_load (p := 0) ld_25 rfl rfl rfl rfl) ?_
          refine OpsD.v rfl rfl (op_move rfl rfl) ?_
          refine ob' h fun e16 g17 h => ?_
          refine OpsD.v rfl rfl (op_indexAddr_im sl_25 rfl rfl g17 rfl) ?_
          refine OpsD.v rfl rfl (op_load_ipA ld_54 rfl rfl rfl rfl) ?_
          refine OpsD.v rfl rfl (op_fieldAddr fo_37_0 rfl rfl) ?_
          refine OpsD.v rfl rfl (op_load (p := 1) ld_25 rfl rfl rfl rfl) ?_
          refine OpsD.v rfl rfl (op_move rfl rfl) ?_
          refine ob' h fun e18 g19 h => ?_
          refine OpsD.v rfl rfl (op_indexAddr_im sl_25 rfl rfl g19 rfl) ?_
          refine OpsD.v rfl rfl (op_load_ipA ld_54 rfl rfl rfl rfl) ?_
          refine OpsD.v rfl rfl (op_neqA [.int .i64 e16.user, .int .i64 e16.till] [.int .i64 e18.user, .int .i64 e18.till] eq_54 rfl rfl rfl rfl rfl rfl) ?_
          refine OpsD.done ?_
          refine tf' (((e16.user == e18.user) && ((e16.till == e18.till) && true))) (fun hb20 => ?_) (fun hb20 => ?_)
          · replace h := cond_t hb20 h
            refine AW.cond rfl (fun hn => absurd ((not_t hb20).symm.trans hn) (by decide)) (fun _ => ?_)
            refine AW.skip ?_
            refine AW.region ?_
            refine Ops.v rfl (op_move rfl rfl) ?_
            refine Ops.v rfl (op_bin rfl rfl rfl rfl) ?_
            refine Ops.v rfl (op_assign rfl rfl) ?_
            refine Ops.nil ?_
            obtain rfl := Option.some.inj h
            exact ⟨k32, (IntKind.i64.wrap (x14 + 1)), hlt_k32, h35, Ghost.both (ns := [0, 0]) rfl rfl⟩
          · replace h := cond_f hb20 h
            refine AW.cond rfl (fun _ => ?_) (fun hn => absurd ((not_f hb20).symm.trans hn) (by decide))
            refine AW.seq ?_
            refine AW.region ?_
            refine Ops.v rfl (op_assign rfl rfl) ?_
            refine Ops.nil ?_
            refine AW.ret ?_
            obtain rfl := Option.some.inj h
            obtain rfl := Option.some.inj h35
            replace h := q31
            rw [← Option.some.inj h]
            exact ⟨[C.bool false], _, Ghost.refl _, (.cons (.tmp rfl) .nil), [], _, _, rfl, ⟨rfl, rfl⟩⟩
        · replace h := cond_f hb15 h
          refine AW.cond rfl (fun hn => absurd (hb15.symm.trans hn) (by decide)) (fun _ => ?_)
          refine AW.exit ?_
          obtain rfl := Option.some.inj h
          obtain rfl := Option.some.inj h35
          replace h := q31
          exact ⟨x4, h, Ghost.both (ns := [0]) rfl rfl⟩
      · intro x21 h
        replace h : laws_lwLive_j2 p0 x21 = some r := h
        unfold laws_lwLive_j2 at h
        refine AW.seq ?_
        refine AW.cut (τ := Bool) (fun x25 => ⟨[(4, C.bool x25)], []⟩) (fun x25 => laws_lwLive_j1 x25 = some r) ?_ ?_
        · refine AW.region ?_
          refine Ops.v rfl (op_fieldAddr fo_37_1 rfl rfl) ?_
          refine Ops.v rfl (op_load (p := 0) ld_2 rfl rfl rfl rfl) ?_
          refine Ops.v rfl (op_bin rfl rfl rfl rfl) ?_
          refine Ops.v rfl (op_move rfl rfl) ?_
          refine tf' ((x21 != 0)) (fun hb22 => ?_) (fun hb22 => ?_)
          · replace h := cond_t hb22 h
            refine Ops.gs rfl rfl rfl (.b rfl hb22) rfl rfl ?_
            refine Ops.gs rfl rfl rfl (.b rfl hb22) rfl rfl ?_
            refine Ops.gs rfl rfl rfl (.b rfl hb22) rfl rfl ?_
            refine Ops.v rfl (op_pick_t rfl hb22 rfl rfl) ?_
            refine Ops.v rfl (op_assign rfl rfl) ?_
            refine Ops.nil ?_
            exact ⟨true, h, Ghost.both (ns := []) rfl rfl⟩
          · replace h := cond_f hb22 h
            refine Ops.gv rfl rfl rfl rfl hb22 (op_fieldAddr fo_37_0 rfl rfl) ?_
            refine Ops.gv rfl rfl rfl rfl hb22 (op_load (p := 0) ld_25 rfl rfl rfl rfl) ?_
            refine ob' h fun r23 g24 h => ?_
            refine Ops.ghd (ns := []) rfl rfl rfl rfl hb22 rfl (op_callE (ok_spec_LiveRight _ _ g24) rfl rfl) ?_
            refine Ops.v rfl (op_pick_f rfl hb22 rfl rfl) ?_
            refine Ops.v rfl (op_assign rfl rfl) ?_
            refine Ops.nil ?_
            exact ⟨r23, h, Ghost.both (ns := []) rfl rfl⟩
        · intro x25 h
          replace h : laws_lwLive_j1 x25 = some r := h
          unfold laws_lwLive_j1 at h
          refine AW.ret ?_
          rw [← Option.some.inj h]
          exact ⟨[C.bool x25], _, Ghost.refl _, (.cons (.tmp rfl) .nil), [], _, _, rfl, ⟨rfl, rfl⟩⟩

def laws_lwNums_j1 : Option Bool := some true
def laws_lwNums_s2 (p0 : List Int) (p1 : List Int) (x8 : Int) : Option (Int ⊕ (Bool ⊕ Unit)) := cond (decide (x8 < (p0.length : Int))) ((getI p0 x8).bind fun e10 => (getI p1 x8).bind fun e12 => cond (e10 != e12) (some (.inr (.inl false))) (some (.inl (IntKind.i64.wrap (x8 + 1))))) (some (.inr (.inr ())))
def laws_lwNums (p0 : List Int) (p1 : List Int) : Option Bool := cond ((p0.length : Int) != (p1.length : Int)) (some false) ((iter (laws_lwNums_s2 p0 p1) big 0).bind (fun z16 => match z16 with | .inl y15 => some y15 | .inr () => laws_lwNums_j1))
theorem ok_laws_lwNums (p0 : List Int) (p1 : List Int) (r : Bool) (h : laws_lwNums p0 p1 = some r) : Ok Try.prog 33 [C.im kI64 1 p0, C.im kI64 1 p1] [] (fun c qs => c = C.bool r ∧ qs = []) := by
  refine Ok.of_body (rs := [.tmp 4]) Try.func33 rfl rfl rfl rfl rfl fun X => ?_
  unfold laws_lwNums at h
  refine AW.seq ?_
  refine AW.region ?_
  refine Ops.v rfl (op_assign rfl rfl) ?_
  refine Ops.nil ?_
  refine AW.seq ?_
  refine AW.seq ?_
  refine AW.region ?_
  refine Ops.v rfl (op_move rfl rfl) ?_
  refine Ops.v rfl (op_len_im sl_31 rfl rfl) ?_
  refine Ops.v rfl (op_move rfl rfl) ?_
  refine Ops.v rfl (op_len_im sl_31 rfl rfl) ?_
  refine Ops.v rfl (op_bin rfl rfl rfl rfl) ?_
  refine Ops.nil ?_
  refine tf' (((p0.length : Int) != (p1.length : Int))) (fun hb1 => ?_) (fun hb1 => ?_)
  · replace h := cond_t hb1 h
    refine AW.cond rfl (fun _ => ?_) (fun hn => absurd (hb1.symm.trans hn) (by decide))
    refine AW.seq ?_
    refine AW.region ?_
    refine Ops.v rfl (op_assign rfl rfl) ?_
    refine Ops.nil ?_
    refine AW.ret ?_
    rw [← Option.some.inj h]
    exact ⟨[C.bool false], _, Ghost.refl _, (.cons (.tmp rfl) .nil), [], _, _, rfl, ⟨rfl, rfl⟩⟩
  · replace h := cond_f hb1 h
    refine AW.cond rfl (fun hn => absurd (hb1.symm.trans hn) (by decide)) (fun _ => ?_)
    refine AW.skip ?_
    refine AW.seq ?_
    refine AW.cut (τ := Unit) (fun (_ : Unit) => ⟨[], []⟩) (fun (_ : Unit) => laws_lwNums_j1 = some r) ?_ ?_
    · refine AW.seq ?_
      refine AW.region ?_
      refine Ops.v rfl (op_assign rfl rfl) ?_
      refine Ops.nil ?_
      refine AW.block ?_
      refine ob' h fun o17 g18 q19 => ?_
      refine AW.loop (τ := Int) (x := 0) (fun x8 => ⟨[(0, C.im kI64 1 p0), (1, C.im kI64 1 p1), (5, C.int x8)], []⟩) (fun k x8 => iter (laws_lwNums_s2 p0 p1) k x8 = some o17) g18 (Ghost.both (ns := []) rfl rfl) ?_
      intro k x8 i21
      refine iter_succ' (show iter (laws_lwNums_s2 p0 p1) k x8 = some o17 from i21) fun k20 y22 hlt_k20 h h23 => ?_
      replace h : laws_lwNums_s2 p0 p1 x8 = some y22 := h
      unfold laws_lwNums_s2 at h
      refine AW.seq ?_
      refine AW.seq ?_
      refine AW.region ?_
      refine Ops.v rfl (op_move rfl rfl) ?_
      refine Ops.v rfl (op_move rfl rfl) ?_
      refine Ops.v rfl (op_len_im sl_31 rfl rfl) ?_
      refine Ops.v rfl (op_bin rfl rfl rfl rfl) ?_
      refine Ops.nil ?_
      refine tf' (decide (x8 < (p0.length : Int))) (fun hb9 => ?_) (fun hb9 => ?_)
      · replace h := cond_t hb9 h
        refine AW.cond rfl (fun _ => ?_) (fun hn => absurd (hb9.symm.trans hn) (by decide))
        refine AW.skip ?_
        refine AW.seq ?_
        refine AW.block ?_
        refine AW.seq ?_
        refine AW.regionD (L := [3, 7]) (Lt := []) (k := .light 0 false (.light 1 false (.light 2 false (.light 3 true (.light 4 false (.light 5 false (.light 6 false (.light 7 true (.light 8 false .done))))))))) (ns := []) (by kernel_rfl) (by kernel_rfl) (by kernel_rfl) (by kernel_rfl) rfl ?_
        refine OpsD.v rfl rfl (op_move rfl rfl) ?_
        refine OpsD.v rfl rfl (op_move rfl rfl) ?_
        refine ob' h fun e10 g11 h => ?_
        refine OpsD.v rfl rfl (op_indexAddr_im sl_31 rfl rfl g11 rfl) ?_
        refine OpsD.v rfl rfl (op_load_ip ld_2 rfl rfl) ?_
        refine OpsD.v rfl rfl (op_move rfl rfl) ?_
        refine OpsD.v rfl rfl (op_move rfl rfl) ?_
        refine ob' h fun e12 g13 h => ?_
        refine OpsD.v rfl rfl (op_indexAddr_im sl_31 rfl rfl g13 rfl) ?_
        refine OpsD.v rfl rfl (op_load_ip ld_2 rfl rfl) ?_
        refine OpsD.v rfl rfl (op_bin rfl rfl rfl rfl) ?_
        refine OpsD.done ?_
        refine tf' ((e10 != e12)) (fun hb14 => ?_) (fun hb14 => ?_)
        · replace h := cond_t hb14 h
          refine AW.cond rfl (fun _ => ?_) (fun hn => absurd (hb14.symm.trans hn) (by decide))
          refine AW.seq ?_
          refine AW.region ?_
          refine Ops.v rfl (op_assign rfl rfl) ?_
          refine Ops.nil ?_
          refine AW.ret ?_
          obtain rfl := Option.some.inj h
          obtain rfl := Option.some.inj h23
          replace h := q19
          rw [← Option.some.inj h]
          exact ⟨[C.bool false], _, Ghost.refl _, (.cons (.tmp rfl) .nil), [], _, _, rfl, ⟨rfl, rfl⟩⟩
        · replace h := cond_f hb14 h
          refine AW.cond rfl (fun hn => absurd (hb14.symm.trans hn) (by decide)) (fun _ => ?_)
          refine AW.skip ?_
          refine AW.region ?_
          refine Ops.v rfl (op_move rfl rfl) ?_
          refine Ops.v rfl (op_bin rfl rfl rfl rfl) ?_
          refine Ops.v rfl (op_assign rfl rfl) ?_
          refine Ops.nil ?_
          obtain rfl := Option.some.inj h
          exact ⟨k20, (IntKind.i64.wrap (x8 + 1)), hlt_k20, h23, Ghost.both (ns := []) rfl rfl⟩
      · replace h := cond_f hb9 h
        refine AW.cond rfl (fun hn => absurd (hb9.symm.trans hn) (by decide)) (fun _ => ?_)
        refine AW.exit ?_
        obtain rfl := Option.some.inj h
        obtain rfl := Option.some.inj h23
        replace h := q19
        exact ⟨(), h, Ghost.both (ns := []) rfl rfl⟩
    · rintro ⟨⟩ h
      replace h : laws_lwNums_j1 = some r := h
      unfold laws_lwNums_j1 at h
      refine AW.seq ?_
      refine AW.region ?_
      refine Ops.v rfl (op_assign rfl rfl) ?_
      refine Ops.nil ?_
      refine AW.ret ?_
      rw [← Option.some.inj h]
      exact ⟨[C.bool true], _, Ghost.refl _, (.cons (.tmp rfl) .nil), [], _, _, rfl, ⟨rfl, rfl⟩⟩

def laws_FnLive_j1 (x71 : Bool) : Option Bool := some x71
def laws_FnLive_j2 (r15 : List TLive × Int) (r17 : List Int) (x58 : Int) (x59 : Int) (x60 : Bool) : Option Bool := cond x60 (some false) (cond (decide (x59 < 0)) (some ((r17.length : Int) == 0)) ((impl_LiveAt r15.1 (IntKind.i64.wrap (x59 - 1))).bind fun r63 => (laws_lwNums r63 r17).bind fun r65 => cond r65 ((impl_LiveAt r15.1 x59).bind fun r68 => cond (decide ((r68.length : Int) < (r17.length : Int))) (laws_FnLive_j1 (decide (x59 > x58))) (laws_FnLive_j1 false)) (laws_FnLive_j1 false)))
def laws_FnLive_j3 (r10 : List TLive × List TLive) (r12 : TLiveOut) (r15 : List TLive × Int) (r17 : List Int) (x43 : Int) (x44 : Int) (x45 : Int) (x46 : Bool) : Option Bool := cond x46 (some false) ((impl_LiveJoin r10.2 r10.1).bind fun r48 => (laws_lwLive r48 (TLiveOut.mk r12.row x43)).bind fun r50 => cond r50 (cond (x43 == 0) ((impl_LiveJoin r12.row r10.2).bind fun r54 => (laws_lwLive r54 (TLiveOut.mk r12.row x43)).bind fun r56 => laws_FnLive_j2 r15 r17 x44 x45 (!r56)) (laws_FnLive_j2 r15 r17 x44 x45 false)) (laws_FnLive_j2 r15 r17 x44 x45 true))
def laws_FnLive_j4 (p0 : List Int) (l2 : List Int) (x3 : Bool) : Option Bool := cond x3 (some true) ((spec_DrawLiveSet p0).bind fun r5 => (impl_LiveSet r5.1 r5.2.1 r5.2.2).bind fun r7 => (spec_DrawLiveJoin l2).bind fun r10 => (impl_LiveJoin r10.1 r10.2).bind fun r12 => (spec_DrawLiveAt p0).bind fun r15 => (impl_LiveAt r15.1 r15.2).bind fun r17 => (impl_LiveNext r15.1 r15.2).bind fun r19 => (spec_LiveSet r5.1 r5.2.1 r5.2.2).bind fun r21 => (laws_lwLive r7 r21).bind fun r23 => cond r23 ((spec_LiveJoin r10.1 r10.2).bind fun r26 => (laws_lwLive r12 r26).bind fun r28 => cond r28 ((spec_LiveAt r15.1 r15.2).bind fun r31 => (laws_lwNums r17 r31).bind fun r33 => cond r33 ((spec_LiveNext r15.1 r15.2).bind fun r36 => cond (r19 != r36) (laws_FnLive_j3 r10 r12 r15 r17 r12.code r15.2 r19 true) ((impl_LiveRight r15.1).bind fun r39 => (spec_LiveRight r15.1).bind fun r41 => laws_FnLive_j3 r10 r12 r15 r17 r12.code r15.2 r19 (!(r39 == r41)))) (laws_FnLive_j3 r10 r12 r15 r17 r12.code r15.2 r19 true)) (laws_FnLive_j3 r10 r12 r15 r17 r12.code r15.2 r19 true)) (laws_FnLive_j3 r10 r12 r15 r17 r12.code r15.2 r19 true))
def laws_FnLive (p0 : List Int) (p1 : List Int) : Option Bool := cond (decide ((p0.length : Int) > 1048576)) (laws_FnLive_j4 p0 p1 true) (laws_FnLive_j4 p0 p1 (decide ((p1.length : Int) > 1048576)))
theorem ok_laws_FnLive (p0 : List Int) (p1 : List Int) (r : Bool) (h : laws_FnLive p0 p1 = some r) : Ok Try.prog 8 [C.im kU8 1 p0, C.im kU8 1 p1] [] (fun c qs => c = C.bool r ∧ qs = []) := by
  refine Ok.of_body (rs := [.tmp 4]) Try.func8 rfl rfl rfl rfl rfl fun X => ?_
  unfold laws_FnLive at h
  refine AW.seq ?_
  refine AW.region ?_
  refine Ops.v rfl (op_assign rfl rfl) ?_
  refine Ops.nil ?_
  refine AW.seq ?_
  refine AW.seq ?_
  refine AW.cut (τ := List Int × Bool) (fun (l2, x3) => ⟨[(0, C.im kU8 1 p0), (1, C.im kU8 1 l2), (23, C.bool x3)], []⟩) (fun (l2, x3) => laws_FnLive_j4 p0 l2 x3 = some r) ?_ ?_
  · refine AW.region ?_
    refine Ops.v rfl (op_move rfl rfl) ?_
    refine Ops.v rfl (op_len_im sl_44 rfl rfl) ?_
    refine Ops.v rfl (op_bin rfl rfl rfl rfl) ?_
    refine Ops.v rfl (op_move rfl rfl) ?_
    refine tf' (decide ((p0.length : Int) > 1048576)) (fun hb1 => ?_) (fun hb1 => ?_)
    · replace h := cond_t hb1 h
      refine Ops.gs rfl rfl rfl (.b rfl hb1) rfl rfl ?_
      refine Ops.gs rfl rfl rfl (.b rfl hb1) rfl rfl ?_
      refine Ops.gs rfl rfl rfl (.b rfl hb1) rfl rfl ?_
      refine Ops.v rfl (op_pick_t rfl hb1 rfl rfl) ?_
      refine Ops.nil ?_
      exact ⟨(p1, true), h, Ghost.both (ns := []) rfl rfl⟩
    · replace h := cond_f hb1 h
      refine Ops.gv rfl rfl rfl rfl hb1 (op_move rfl rfl) ?_
      refine Ops.gv rfl rfl rfl rfl hb1 (op_len_im sl_44 rfl rfl) ?_
      refine Ops.gv rfl rfl rfl rfl hb1 (op_bin rfl rfl rfl rfl) ?_
      refine Ops.v rfl (op_pick_f rfl hb1 rfl rfl) ?_
      refine Ops.nil ?_
      exact ⟨(p1, decide ((p1.length : Int) > 1048576)), h, Ghost.both (ns := []) rfl rfl⟩
  · rintro ⟨l2, x3⟩ h
    replace h : laws_FnLive_j4 p0 l2 x3 = some r := h
    unfold laws_FnLive_j4 at h
    refine tf' (x3) (fun hb4 => ?_) (fun hb4 => ?_)
    · replace h := cond_t hb4 h
      refine AW.cond rfl (fun _ => ?_) (fun hn => absurd (hb4.symm.trans hn) (by decide))
      refine AW.seq ?_
      refine AW.region ?_
      refine Ops.v rfl (op_assign rfl rfl) ?_
      refine Ops.nil ?_
      refine AW.ret ?_
      rw [← Option.some.inj h]
      exact ⟨[C.bool true], _, Ghost.refl _, (.cons (.tmp rfl) .nil), [], _, _, rfl, ⟨rfl, rfl⟩⟩
    · replace h := cond_f hb4 h
      refine AW.cond rfl (fun hn => absurd (hb4.symm.trans hn) (by decide)) (fun _ => ?_)
      refine AW.skip ?_
      refine AW.seq ?_
      refine AW.region ?_
      refine Ops.v rfl (op_move rfl rfl) ?_
      refine ob' h fun r5 g6 h => ?_
      refine Ops.hd (ns := []) rfl rfl (op_callE (ok_spec_DrawLiveSet' _ _ g6) rfl rfl) ?_
      refine Ops.v rfl (op_move rfl rfl) ?_
      refine Ops.v rfl (op_extract rfl rfl rfl) ?_
      refine Ops.v rfl (op_extract rfl rfl rfl) ?_
      refine Ops.v rfl (op_extract rfl rfl rfl) ?_
      refine Ops.v rfl (op_assign rfl rfl) ?_
      refine Ops.v rfl (op_assign rfl rfl) ?_
      refine Ops.v rfl (op_assign rfl rfl) ?_
      refine Ops.nil ?_
      refine AW.seq ?_
      refine AW.region ?_
      refine Ops.v rfl (op_move rfl rfl) ?_
      refine Ops.v rfl (op_move rfl rfl) ?_
      refine Ops.v rfl (op_move rfl rfl) ?_
      refine ob' h fun r7 g8 h => ?_
      refine Ops.hd (ns := []) rfl rfl (op_callE (ok_impl_LiveSet' _ _ _ _ g8) rfl rfl) ?_
      refine Ops.h (ns := []) rfl rfl (op_alloc (cs := [C.val (.slice none 0 0), C.int 0]) ze_37 (cells_zero rfl rfl) rfl) ?_
      rintro _ _ ⟨b9, rfl, rfl⟩
      refine Ops.hd (ns := [0]) rfl rfl (op_storeA (gs := [C.im kLive 2 r7.row, C.int r7.code]) ld_37 rfl rfl rfl rfl rfl) ?_
      refine Ops.nil ?_
      refine AW.seq ?_
      refine AW.region ?_
      refine Ops.v rfl (op_move rfl rfl) ?_
      refine ob' h fun r10 g11 h => ?_
      refine Ops.hd (ns := []) rfl rfl (op_callE (ok_spec_DrawLiveJoin' _ _ g11) rfl rfl) ?_
      refine Ops.v rfl (op_move rfl rfl) ?_
      refine Ops.v rfl (op_extract rfl rfl rfl) ?_
      refine Ops.v rfl (op_extract rfl rfl rfl) ?_
      refine Ops.v rfl (op_assign rfl rfl) ?_
      refine Ops.v rfl (op_assign rfl rfl) ?_
      refine Ops.nil ?_
      refine AW.seq ?_
      refine AW.region ?_
      refine Ops.v rfl (op_move rfl rfl) ?_
      refine Ops.v rfl (op_move rfl rfl) ?_
      refine ob' h fun r12 g13 h => ?_
      refine Ops.hd (ns := []) rfl rfl (op_callE (ok_impl_LiveJoin' _ _ _ g13) rfl rfl) ?_
      refine Ops.h (ns := []) rfl rfl (op_alloc (cs := [C.val (.slice none 0 0), C.int 0]) ze_37 (cells_zero rfl rfl) rfl) ?_
      rintro _ _ ⟨b14, rfl, rfl⟩
      refine Ops.hd (ns := [0]) rfl rfl (op_storeA (gs := [C.im kLive 2 r12.row, C.int r12.code]) ld_37 rfl rfl rfl rfl rfl) ?_
      refine Ops.nil ?_
      refine AW.seq ?_
      refine AW.region ?_
      refine Ops.v rfl (op_move rfl rfl) ?_
      refine ob' h fun r15 g16 h => ?_
      refine Ops.hd (ns := []) rfl rfl (op_callE (ok_spec_DrawLiveAt' _ _ g16) rfl rfl) ?_
      refine Ops.v rfl (op_move rfl rfl) ?_
      refine Ops.v rfl (op_extract rfl rfl rfl) ?_
      refine Ops.v rfl (op_extract rfl rfl rfl) ?_
      refine Ops.v rfl (op_assign rfl rfl) ?_
      refine Ops.v rfl (op_assign rfl rfl) ?_
      refine Ops.nil ?_
      refine AW.seq ?_
      refine AW.region ?_
      refine Ops.v rfl (op_move rfl rfl) ?_
      refine Ops.v rfl (op_move rfl rfl) ?_
      refine ob' h fun r17 g18 h => ?_
      refine Ops.hd (ns := []) rfl rfl (op_callE (ok_impl_LiveAt' _ _ _ g18) rfl rfl) ?_
      refine Ops.v rfl (op_move rfl rfl) ?_
      refine Ops.v rfl (op_move rfl rfl) ?_
      refine ob' h fun r19 g20 h => ?_
      refine Ops.hd (ns := []) rfl rfl (op_callE (ok_impl_LiveNext _ _ _ g20) rfl rfl) ?_
      refine Ops.v rfl (op_assign rfl rfl) ?_
      refine Ops.v rfl (op_assign rfl rfl) ?_
      refine Ops.nil ?_
      refine AW.seq ?_
      refine AW.seq ?_
      refine AW.cut (τ := Int × Int × Int × Bool) (fun (x43, x44, x45, x46) => ⟨[(9, C.im kLive 2 r10.1), (10, C.im kLive 2 r10.2), (11, C.val (.pointer (some ⟨b14, 0, none⟩))), (12, C.im kLive 2 r15.1), (13, C.int x44), (14, C.im kI64 1 r17), (15, C.int x45), (89, C.bool x46)], [Obj.box b14 37 [C.im kLive 2 r12.row, C.int x43]]⟩) (fun (x43, x44, x45, x46) => laws_FnLive_j3 r10 r12 r15 r17 x43 x44 x45 x46 = some r) ?_ ?_
      · refine AW.regionD (L := [0, 8]) (Lt := []) (k := .light 0 true (.light 1 false (.light 2 false (.light 3 false (.one 4 (.one 5 (.light 6 false (.light 7 false (.light 8 true (.light 9 false (.light 10 false (.one 11 (.one 12 (.light 13 false (.light 14 false (.light 15 false (.light 16 false (.light 17 false (.light 18 false (.one 19 (.one 20 (.light 21 false (.light 22 false (.light 23 false (.light 24 false (.light 25 false (.light 26 false (.one 27 (.light 28 false (.light 29 false (.light 30 false (.light 31 false (.light 33 false (.one 32 (.one 34 (.light 35 false (.light 36 false .done))))))))))))))))))))))))))))))))))))) (ns := [0, 0]) (by kernel_rfl) (by kernel_rfl) (by kernel_rfl) (by kernel_rfl) rfl ?_
        refine OpsD.v rfl rfl (op_loadA (p := 1) (ds := [C.im kLive 2 r7.row, C.int r7.code]) ld_37 rfl rfl rfl rfl rfl) ?_
        refine OpsD.v rfl rfl (op_move rfl rfl) ?_
        refine OpsD.v rfl rfl (op_move rfl rfl) ?_
        refine OpsD.v rfl rfl (op_move rfl rfl) ?_
        refine OpsD.one ?_
        refine ob' h fun r21 g22 h => ?_
        refine StepD.h (ns := []) rfl rfl rfl (op_callE (ok_spec_LiveSet' _ _ _ _ g22) rfl rfl) ?_
        rintro _ _ ⟨rfl, rfl⟩
        refine OpsD.one ?_
        refine ob' h fun r23 g24 h => ?_
        refine StepD.h (ns := []) rfl rfl rfl (op_callE (ok_laws_lwLive _ _ _ g24) rfl rfl) ?_
        rintro _ _ ⟨rfl, rfl⟩
        refine OpsD.v rfl rfl (op_not rfl rfl) ?_
        refine OpsD.v rfl rfl (op_move rfl rfl) ?_
        refine tf' (r23) (fun hb25 => ?_) (fun hb25 => ?_)
        · replace h := cond_t hb25 h
          refine OpsD.gv rfl rfl rfl rfl rfl (not_t hb25) (op_loadA (p := 0) (ds := [C.im kLive 2 r12.row, C.int r12.code]) ld_37 rfl rfl rfl rfl rfl) ?_
          refine OpsD.gv rfl rfl rfl rfl rfl (not_t hb25) (op_move rfl rfl) ?_
          refine OpsD.gv rfl rfl rfl rfl rfl (not_t hb25) (op_move rfl rfl) ?_
          refine OpsD.one ?_
          refine ob' h fun r26 g27 h => ?_
          refine StepD.gh (ns := []) rfl rfl rfl rfl rfl (not_t hb25) rfl (op_callE (ok_spec_LiveJoin' _ _ _ g27) rfl rfl) ?_
          rintro _ _ ⟨rfl, rfl⟩
          refine OpsD.one ?_
          refine ob' h fun r28 g29 h => ?_
          refine StepD.gh (ns := []) rfl rfl rfl rfl rfl (not_t hb25) rfl (op_callE (ok_laws_lwLive _ _ _ g29) rfl rfl) ?_
          rintro _ _ ⟨rfl, rfl⟩
          refine OpsD.gv rfl rfl rfl rfl rfl (not_t hb25) (op_not rfl rfl) ?_
          refine OpsD.v rfl rfl (op_pick_f rfl (not_t hb25) rfl rfl) ?_
          refine OpsD.v rfl rfl (op_move rfl rfl) ?_
          refine tf' (r28) (fun hb30 => ?_) (fun hb30 => ?_)
          · replace h := cond_t hb30 h
            refine OpsD.gv rfl rfl rfl rfl rfl (not_t hb30) (op_move rfl rfl) ?_
            refine OpsD.gv rfl rfl rfl rfl rfl (not_t hb30) (op_move rfl rfl) ?_
            refine OpsD.gv rfl rfl rfl rfl rfl (not_t hb30) (op_move rfl rfl) ?_
            refine OpsD.one ?_
            refine ob' h fun r31 g32 h => ?_
            refine StepD.gh (ns := []) rfl rfl rfl rfl rfl (not_t hb30) rfl (op_callE (ok_spec_LiveAt' _ _ _ g32) rfl rfl) ?_
            rintro _ _ ⟨rfl, rfl⟩
            refine OpsD.one ?_
            refine ob' h fun r33 g34 h => ?_
            refine StepD.gh (ns := []) rfl rfl rfl rfl rfl (not_t hb30) rfl (op_callE (ok_laws_lwNums _ _ _ g34) rfl rfl) ?_
            rintro _ _ ⟨rfl, rfl⟩
            refine OpsD.gv rfl rfl rfl rfl rfl (not_t hb30) (op_not rfl rfl) ?_
            refine OpsD.v rfl rfl (op_pick_f rfl (not_t hb30) rfl rfl) ?_
            refine OpsD.v rfl rfl (op_move rfl rfl) ?_
            refine tf' (r33) (fun hb35 => ?_) (fun hb35 => ?_)
            · replace h := cond_t hb35 h
              refine OpsD.gv rfl rfl rfl rfl rfl (not_t hb35) (op_move rfl rfl) ?_
              refine OpsD.gv rfl rfl rfl rfl rfl (not_t hb35) (op_move rfl rfl) ?_
              refine OpsD.gv rfl rfl rfl rfl rfl (not_t hb35) (op_move rfl rfl) ?_
              refine OpsD.one ?_
              refine ob' h fun r36 g37 h => ?_
              refine StepD.gh (ns := []) rfl rfl rfl rfl rfl (not_t hb35) rfl (op_callE (ok_spec_LiveNext _ _ _ g37) rfl rfl) ?_
              rintro _ _ ⟨rfl, rfl⟩
              refine OpsD.gv rfl rfl rfl rfl rfl (not_t hb35) (op_bin rfl rfl rfl rfl) ?_
              refine OpsD.v rfl rfl (op_pick_f rfl (not_t hb35) rfl rfl) ?_
              refine OpsD.v rfl rfl (op_move rfl rfl) ?_
              refine tf' ((r19 != r36)) (fun hb38 => ?_) (fun hb38 => ?_)
              · replace h := cond_t hb38 h
                refine OpsD.gs rfl rfl rfl rfl (.b rfl hb38) rfl rfl ?_
                refine OpsD.gs rfl rfl rfl rfl (.b rfl hb38) rfl rfl ?_
                refine OpsD.one ?_
                refine StepD.gs rfl rfl rfl rfl (.b rfl hb38) rfl rfl ?_
                refine OpsD.one ?_
                refine StepD.gs rfl rfl rfl rfl (.b rfl hb38) rfl rfl ?_
                refine OpsD.gs rfl rfl rfl rfl (.b rfl hb38) rfl rfl ?_
                refine OpsD.v rfl rfl (op_pick_t rfl hb38 rfl rfl) ?_
                refine OpsD.done ?_
                exact ⟨(r12.code, r15.2, r19, true), h, Ghost.both (ns := [0]) rfl rfl⟩
              · replace h := cond_f hb38 h
                refine OpsD.gv rfl rfl rfl rfl rfl hb38 (op_move rfl rfl) ?_
                refine OpsD.gv rfl rfl rfl rfl rfl hb38 (op_move rfl rfl) ?_
                refine OpsD.one ?_
                refine ob' h fun r39 g40 h => ?_
                refine StepD.gh (ns := []) rfl rfl rfl rfl rfl hb38 rfl (op_callE (ok_impl_LiveRight _ _ g40) rfl rfl) ?_
                rintro _ _ ⟨rfl, rfl⟩
                refine OpsD.one ?_
                refine ob' h fun r41 g42 h => ?_
                refine StepD.gh (ns := []) rfl rfl rfl rfl rfl hb38 rfl (op_callE (ok_spec_LiveRight _ _ g42) rfl rfl) ?_
                rintro _ _ ⟨rfl, rfl⟩
                refine OpsD.gv rfl rfl rfl rfl rfl hb38 (op_bool_neq un_4 rfl rfl rfl) ?_
                refine OpsD.v rfl rfl (op_pick_f rfl hb38 rfl rfl) ?_
                refine OpsD.done ?_
                exact ⟨(r12.code, r15.2, r19, (!(r39 == r41))), h, Ghost.both (ns := [0]) rfl rfl⟩
            · replace h := cond_f hb35 h
              refine OpsD.gs rfl rfl rfl rfl (.b rfl (not_f hb35)) rfl rfl ?_
              refine OpsD.gs rfl rfl rfl rfl (.b rfl (not_f hb35)) rfl rfl ?_
              refine OpsD.gs rfl rfl rfl rfl (.b rfl (not_f hb35)) rfl rfl ?_
              refine OpsD.one ?_
              refine StepD.gs rfl rfl rfl rfl (.b rfl (not_f hb35)) rfl rfl ?_
              refine OpsD.gs rfl rfl rfl rfl (.b rfl (not_f hb35)) rfl rfl ?_
              refine OpsD.v rfl rfl (op_pick_t rfl (not_f hb35) rfl rfl) ?_
              refine OpsD.v rfl rfl (op_move rfl rfl) ?_
              refine OpsD.gs rfl rfl rfl rfl (.b rfl rfl) rfl rfl ?_
              refine OpsD.gs rfl rfl rfl rfl (.b rfl rfl) rfl rfl ?_
              refine OpsD.one ?_
              refine StepD.gs rfl rfl rfl rfl (.b rfl rfl) rfl rfl ?_
              refine OpsD.one ?_
              refine StepD.gs rfl rfl rfl rfl (.b rfl rfl) rfl rfl ?_
              refine OpsD.gs rfl rfl rfl rfl (.b rfl rfl) rfl rfl ?_
              refine OpsD.v rfl rfl (op_pick_t rfl rfl rfl rfl) ?_
              refine OpsD.done ?_
              exact ⟨(r12.code, r15.2, r19, true), h, Ghost.both (ns := [0]) rfl rfl⟩
          · replace h := cond_f hb30 h
            refine OpsD.gs rfl rfl rfl rfl (.b rfl (not_f hb30)) rfl rfl ?_
            refine OpsD.gs rfl rfl rfl rfl (.b rfl (not_f hb30)) rfl rfl ?_
            refine OpsD.gs rfl rfl rfl rfl (.b rfl (not_f hb30)) rfl rfl ?_
            refine OpsD.one ?_
            refine StepD.gs rfl rfl rfl rfl (.b rfl (not_f hb30)) rfl rfl ?_
            refine OpsD.one ?_
            refine StepD.gs rfl rfl rfl rfl (.b rfl (not_f hb30)) rfl rfl ?_
            refine OpsD.gs rfl rfl rfl rfl (.b rfl (not_f hb30)) rfl rfl ?_
            refine OpsD.v rfl rfl (op_pick_t rfl (not_f hb30) rfl rfl) ?_
            refine OpsD.v rfl rfl (op_move rfl rfl) ?_
            refine OpsD.gs rfl rfl rfl rfl (.b rfl rfl) rfl rfl ?_
            refine OpsD.gs rfl rfl rfl rfl (.b rfl rfl) rfl rfl ?_
            refine OpsD.gs rfl rfl rfl rfl (.b rfl rfl) rfl rfl ?_
            refine OpsD.one ?_
            refine StepD.gs rfl rfl rfl rfl (.b rfl rfl) rfl rfl ?_
            refine OpsD.gs rfl rfl rfl rfl (.b rfl rfl) rfl rfl ?_
            refine OpsD.v rfl rfl (op_pick_t rfl rfl rfl rfl) ?_
            refine OpsD.v rfl rfl (op_move rfl rfl) ?_
            refine OpsD.gs rfl rfl rfl rfl (.b rfl rfl) rfl rfl ?_
            refine OpsD.gs rfl rfl rfl rfl (.b rfl rfl) rfl rfl ?_
            refine OpsD.one ?_
            refine StepD.gs rfl rfl rfl rfl (.b rfl rfl) rfl rfl ?_
            refine OpsD.one ?_
            refine StepD.gs rfl rfl rfl rfl (.b rfl rfl) rfl rfl ?_
            refine OpsD.gs rfl rfl rfl rfl (.b rfl rfl) rfl rfl ?_
            refine OpsD.v rfl rfl (op_pick_t rfl rfl rfl rfl) ?_
            refine OpsD.done ?_
            exact ⟨(r12.code, r15.2, r19, true), h, Ghost.both (ns := [0]) rfl rfl⟩
        · replace h := cond_f hb25 h
          refine OpsD.gs rfl rfl rfl rfl (.b rfl (not_f hb25)) rfl rfl ?_
          refine OpsD.gs rfl rfl rfl rfl (.b rfl (not_f hb25)) rfl rfl ?_
          refine OpsD.gs rfl rfl rfl rfl (.b rfl (not_f hb25)) rfl rfl ?_
          refine OpsD.one ?_
          refine StepD.gs rfl rfl rfl rfl (.b rfl (not_f hb25)) rfl rfl ?_
          refine OpsD.one ?_
          refine StepD.gs rfl rfl rfl rfl (.b rfl (not_f hb25)) rfl rfl ?_
          refine OpsD.gs rfl rfl rfl rfl (.b rfl (not_f hb25)) rfl rfl ?_
          refine OpsD.v rfl rfl (op_pick_t rfl (not_f hb25) rfl rfl) ?_
          refine OpsD.v rfl rfl (op_move rfl rfl) ?_
          refine OpsD.gs rfl rfl rfl rfl (.b rfl rfl) rfl rfl ?_
          refine OpsD.gs rfl rfl rfl rfl (.b rfl rfl) rfl rfl ?_
          refine OpsD.gs rfl rfl rfl rfl (.b rfl rfl) rfl rfl ?_
          refine OpsD.one ?_
          refine StepD.gs rfl rfl rfl rfl (.b rfl rfl) rfl rfl ?_
          refine OpsD.one ?_
          refine StepD.gs rfl rfl rfl rfl (.b rfl rfl) rfl rfl ?_
          refine OpsD.gs rfl rfl rfl rfl (.b rfl rfl) rfl rfl ?_
          refine OpsD.v rfl rfl (op_pick_t rfl rfl rfl rfl) ?_
          refine OpsD.v rfl rfl (op_move rfl rfl) ?_
          refine OpsD.gs rfl rfl rfl rfl (.b rfl rfl) rfl rfl ?_
          refine OpsD.gs rfl rfl rfl rfl (.b rfl rfl) rfl rfl ?_
          refine OpsD.gs rfl rfl rfl rfl (.b rfl rfl) rfl rfl ?_
          refine OpsD.one ?_
          refine StepD.gs rfl rfl rfl rfl (.b rfl rfl) rfl rfl ?_
          refine OpsD.gs rfl rfl rfl rfl (.b rfl rfl) rfl rfl ?_
          refine OpsD.v rfl rfl (op_pick_t rfl rfl rfl rfl) ?_
          refine OpsD.v rfl rfl (op_move rfl rfl) ?_
          refine OpsD.gs rfl rfl rfl rfl (.b rfl rfl) rfl rfl ?_
          refine OpsD.gs rfl rfl rfl rfl (.b rfl rfl) rfl rfl ?_
          refine OpsD.one ?_
          refine StepD.gs rfl rfl rfl rfl (.b rfl rfl) rfl rfl ?_
          refine OpsD.one ?_
          refine StepD.gs rfl rfl rfl rfl (.b rfl rfl) rfl rfl ?_
          refine OpsD.gs rfl rfl rfl rfl (.b rfl rfl) rfl rfl ?_
          refine OpsD.v rfl rfl (op_pick_t rfl rfl rfl rfl) ?_
          refine OpsD.done ?_
          exact ⟨(r12.code, r15.2, r19, true), h, Ghost.both (ns := [0]) rfl rfl⟩
      · rintro ⟨x43, x44, x45, x46⟩ h
        replace h : laws_FnLive_j3 r10 r12 r15 r17 x43 x44 x45 x46 = some r := h
        unfold laws_FnLive_j3 at h
        refine tf' (x46) (fun hb47 => ?_) (fun hb47 => ?_)
        · replace h := cond_t hb47 h
          refine AW.cond rfl (fun _ => ?_) (fun hn => absurd (hb47.symm.trans hn) (by decide))
          refine AW.seq ?_
          refine AW.region ?_
          refine Ops.v rfl (op_assign rfl rfl) ?_
          refine Ops.nil ?_
          refine AW.ret ?_
          rw [← Option.some.inj h]
          exact ⟨[C.bool false], _, Ghost.refl _, (.cons (.tmp rfl) .nil), [], _, _, rfl, ⟨rfl, rfl⟩⟩
        · replace h := cond_f hb47 h
          refine AW.cond rfl (fun hn => absurd (hb47.symm.trans hn) (by decide)) (fun _ => ?_)
          refine AW.skip ?_
          refine AW.seq ?_
          refine AW.seq ?_
          refine AW.cut (τ := Int × Int × Bool) (fun (x58, x59, x60) => ⟨[(12, C.im kLive 2 r15.1), (13, C.int x58), (14, C.im kI64 1 r17), (15, C.int x59), (109, C.bool x60)], []⟩) (fun (x58, x59, x60) => laws_FnLive_j2 r15 r17 x58 x59 x60 = some r) ?_ ?_
          · refine AW.regionD (L := [3, 8, 12, 15]) (Lt := []) (k := .light 0 false (.light 1 false (.light 3 true (.one 2 (.one 4 (.light 5 false (.light 6 false (.light 7 false (.light 8 true (.light 9 false (.light 10 false (.light 11 false (.light 12 true (.light 13 false (.light 15 true (.one 14 (.one 16 (.light 17 false (.light 18 false (.light 19 false .done)))))))))))))))))))) (ns := [0]) (by kernel_rfl) (by kernel_rfl) (by kernel_rfl) (by kernel_rfl) rfl ?_
            refine OpsD.v rfl rfl (op_move rfl rfl) ?_
            refine OpsD.v rfl rfl (op_move rfl rfl) ?_
            refine OpsD.v rfl rfl (op_loadA (p := 0) (ds := [C.im kLive 2 r12.row, C.int x43]) ld_37 rfl rfl rfl rfl rfl) ?_
            refine OpsD.one ?_
            refine ob' h fun r48 g49 h => ?_
            refine StepD.h (ns := []) rfl rfl rfl (op_callE (ok_impl_LiveJoin' _ _ _ g49) rfl rfl) ?_
            rintro _ _ ⟨rfl, rfl⟩
            refine OpsD.one ?_
            refine ob' h fun r50 g51 h => ?_
            refine StepD.h (ns := []) rfl rfl rfl (op_callE (ok_laws_lwLive _ _ _ g51) rfl rfl) ?_
            rintro _ _ ⟨rfl, rfl⟩
            refine OpsD.v rfl rfl (op_not rfl rfl) ?_
            refine OpsD.v rfl rfl (op_move rfl rfl) ?_
            refine tf' (r50) (fun hb52 => ?_) (fun hb52 => ?_)
            · replace h := cond_t hb52 h
              refine OpsD.gv rfl rfl rfl rfl rfl (not_t hb52) (op_fieldAddr fo_37_1 rfl rfl) ?_
              refine OpsD.gv rfl rfl rfl rfl rfl (not_t hb52) (op_load (p := 0) ld_2 rfl rfl rfl rfl) ?_
              refine OpsD.gv rfl rfl rfl rfl rfl (not_t hb52) (op_bin rfl rfl rfl rfl) ?_
              refine OpsD.gv rfl rfl rfl rfl rfl (not_t hb52) (op_move rfl rfl) ?_
              refine tf' ((x43 == 0)) (fun hb53 => ?_) (fun hb53 => ?_)
              · replace h := cond_t hb53 h
                refine OpsD.gv rfl rfl rfl rfl rfl hb53 (op_fieldAddr fo_37_0 rfl rfl) ?_
                refine OpsD.gv rfl rfl rfl rfl rfl hb53 (op_load (p := 0) ld_25 rfl rfl rfl rfl) ?_
                refine OpsD.gv rfl rfl rfl rfl rfl hb53 (op_move rfl rfl) ?_
                refine OpsD.gv rfl rfl rfl rfl rfl hb53 (op_loadA (p := 0) (ds := [C.im kLive 2 r12.row, C.int x43]) ld_37 rfl rfl rfl rfl rfl) ?_
                refine OpsD.one ?_
                refine ob' h fun r54 g55 h => ?_
                refine StepD.gh (ns := []) rfl rfl rfl rfl rfl hb53 rfl (op_callE (ok_impl_LiveJoin' _ _ _ g55) rfl rfl) ?_
                rintro _ _ ⟨rfl, rfl⟩
                refine OpsD.one ?_
                refine ob' h fun r56 g57 h => ?_
                refine StepD.gh (ns := []) rfl rfl rfl rfl rfl hb53 rfl (op_callE (ok_laws_lwLive _ _ _ g57) rfl rfl) ?_
                rintro _ _ ⟨rfl, rfl⟩
                refine OpsD.gv rfl rfl rfl rfl rfl hb53 (op_not rfl rfl) ?_
                refine OpsD.gv rfl rfl rfl rfl rfl (not_t hb52) (op_pick_t rfl hb53 rfl rfl) ?_
                refine OpsD.v rfl rfl (op_pick_f rfl (not_t hb52) rfl rfl) ?_
                refine OpsD.done ?_
                exact ⟨(x44, x45, (!r56)), h, Ghost.both (ns := []) rfl rfl⟩
              · replace h := cond_f hb53 h
                refine OpsD.gs rfl rfl rfl rfl (.b rfl hb53) rfl rfl ?_
                refine OpsD.gs rfl rfl rfl rfl (.b rfl hb53) rfl rfl ?_
                refine OpsD.gs rfl rfl rfl rfl (.b rfl hb53) rfl rfl ?_
                refine OpsD.gs rfl rfl rfl rfl (.b rfl hb53) rfl rfl ?_
                refine OpsD.one ?_
                refine StepD.gs rfl rfl rfl rfl (.b rfl hb53) rfl rfl ?_
                refine OpsD.one ?_
                refine StepD.gs rfl rfl rfl rfl (.b rfl hb53) rfl rfl ?_
                refine OpsD.gs rfl rfl rfl rfl (.b rfl hb53) rfl rfl ?_
                refine OpsD.gv rfl rfl rfl rfl rfl (not_t hb52) (op_pick_f rfl hb53 rfl rfl) ?_
                refine OpsD.v rfl rfl (op_pick_f rfl (not_t hb52) rfl rfl) ?_
                refine OpsD.done ?_
                exact ⟨(x44, x45, false), h, Ghost.both (ns := []) rfl rfl⟩
            · replace h := cond_f hb52 h
              refine OpsD.gs rfl rfl rfl rfl (.b rfl (not_f hb52)) rfl rfl ?_
              refine OpsD.gs rfl rfl rfl rfl (.b rfl (not_f hb52)) rfl rfl ?_
              refine OpsD.gs rfl rfl rfl rfl (.b rfl (not_f hb52)) rfl rfl ?_
              refine OpsD.gs rfl rfl rfl rfl (.b rfl (not_f hb52)) rfl rfl ?_
              refine OpsD.gs rfl rfl rfl rfl (.u rfl) rfl rfl ?_
              refine OpsD.gs rfl rfl rfl rfl (.u rfl) rfl rfl ?_
              refine OpsD.gs rfl rfl rfl rfl (.u rfl) rfl rfl ?_
              refine OpsD.gs rfl rfl rfl rfl (.u rfl) rfl rfl ?_
              refine OpsD.one ?_
              refine StepD.gs rfl rfl rfl rfl (.u rfl) rfl rfl ?_
              refine OpsD.one ?_
              refine StepD.gs rfl rfl rfl rfl (.u rfl) rfl rfl ?_
              refine OpsD.gs rfl rfl rfl rfl (.u rfl) rfl rfl ?_
              refine OpsD.gs rfl rfl rfl rfl (.b rfl (not_f hb52)) rfl rfl ?_
              refine OpsD.v rfl rfl (op_pick_t rfl (not_f hb52) rfl rfl) ?_
              refine OpsD.done ?_
              exact ⟨(x44, x45, true), h, Ghost.both (ns := []) rfl rfl⟩
          · rintro ⟨x58, x59, x60⟩ h
            replace h : laws_FnLive_j2 r15 r17 x58 x59 x60 = some r := h
            unfold laws_FnLive_j2 at h
            refine tf' (x60) (fun hb61 => ?_) (fun hb61 => ?_)
            · replace h := cond_t hb61 h
              refine AW.cond rfl (fun _ => ?_) (fun hn => absurd (hb61.symm.trans hn) (by decide))
              refine AW.seq ?_
              refine AW.region ?_
              refine Ops.v rfl (op_assign rfl rfl) ?_
              refine Ops.nil ?_
              refine AW.ret ?_
              rw [← Option.some.inj h]
              exact ⟨[C.bool false], _, Ghost.refl _, (.cons (.tmp rfl) .nil), [], _, _, rfl, ⟨rfl, rfl⟩⟩
            · replace h := cond_f hb61 h
              refine AW.cond rfl (fun hn => absurd (hb61.symm.trans hn) (by decide)) (fun _ => ?_)
              refine AW.skip ?_
              refine AW.seq ?_
              refine AW.seq ?_
              refine AW.region ?_
              refine Ops.v rfl (op_move rfl rfl) ?_
              refine Ops.v rfl (op_bin rfl rfl rfl rfl) ?_
              refine Ops.nil ?_
              refine tf' (decide (x59 < 0)) (fun hb62 => ?_) (fun hb62 => ?_)
              · replace h := cond_t hb62 h
                refine AW.cond rfl (fun _ => ?_) (fun hn => absurd (hb62.symm.trans hn) (by decide))
                refine AW.seq ?_
                refine AW.region ?_
                refine Ops.v rfl (op_move rfl rfl) ?_
                refine Ops.v rfl (op_len_im sl_31 rfl rfl) ?_
                refine Ops.v rfl (op_bin rfl rfl rfl rfl) ?_
                refine Ops.v rfl (op_assign rfl rfl) ?_
                refine Ops.nil ?_
                refine AW.ret ?_
                rw [← Option.some.inj h]
                exact ⟨[C.bool ((r17.length : Int) == 0)], _, Ghost.refl _, (.cons (.tmp rfl) .nil), [], _, _, rfl, ⟨rfl, rfl⟩⟩
              · replace h := cond_f hb62 h
                refine AW.cond rfl (fun hn => absurd (hb62.symm.trans hn) (by decide)) (fun _ => ?_)
                refine AW.skip ?_
                refine AW.seq ?_
                refine AW.cut (τ := Bool) (fun x71 => ⟨[(4, C.bool x71)], []⟩) (fun x71 => laws_FnLive_j1 x71 = some r) ?_ ?_
                · refine AW.region ?_
                  refine Ops.v rfl (op_move rfl rfl) ?_
                  refine Ops.v rfl (op_move rfl rfl) ?_
                  refine Ops.v rfl (op_bin rfl rfl rfl rfl) ?_
                  refine ob' h fun r63 g64 h => ?_
                  refine Ops.hd (ns := []) rfl rfl (op_callE (ok_impl_LiveAt' _ _ _ g64) rfl rfl) ?_
                  refine Ops.v rfl (op_move rfl rfl) ?_
                  refine ob' h fun r65 g66 h => ?_
                  refine Ops.hd (ns := []) rfl rfl (op_callE (ok_laws_lwNums _ _ _ g66) rfl rfl) ?_
                  refine Ops.v rfl (op_move rfl rfl) ?_
                  refine tf' (r65) (fun hb67 => ?_) (fun hb67 => ?_)
                  · replace h := cond_t hb67 h
                    refine Ops.gv rfl rfl rfl rfl hb67 (op_move rfl rfl) ?_
                    refine Ops.gv rfl rfl rfl rfl hb67 (op_move rfl rfl) ?_
                    refine ob' h fun r68 g69 h => ?_
                    refine Ops.ghd (ns := []) rfl rfl rfl rfl hb67 rfl (op_callE (ok_impl_LiveAt' _ _ _ g69) rfl rfl) ?_
                    refine Ops.gv rfl rfl rfl rfl hb67 (op_len_im sl_31 rfl rfl) ?_
                    refine Ops.gv rfl rfl rfl rfl hb67 (op_move rfl rfl) ?_
                    refine Ops.gv rfl rfl rfl rfl hb67 (op_len_im sl_31 rfl rfl) ?_
                    refine Ops.gv rfl rfl rfl rfl hb67 (op_bin rfl rfl rfl rfl) ?_
                    refine Ops.v rfl (op_pick_t rfl hb67 rfl rfl) ?_
                    refine Ops.v rfl (op_move rfl rfl) ?_
                    refine tf' (decide ((r68.length : Int) < (r17.length : Int))) (fun hb70 => ?_) (fun hb70 => ?_)
                    · replace h := cond_t hb70 h
                      refine Ops.gv rfl rfl rfl rfl hb70 (op_move rfl rfl) ?_
                      refine Ops.gv rfl rfl rfl rfl hb70 (op_move rfl rfl) ?_
                      refine Ops.gv rfl rfl rfl rfl hb70 (op_bin rfl rfl rfl rfl) ?_
                      refine Ops.v rfl (op_pick_t rfl hb70 rfl rfl) ?_
                      refine Ops.v rfl (op_assign rfl rfl) ?_
                      refine Ops.nil ?_
                      exact ⟨decide (x59 > x58), h, Ghost.both (ns := []) rfl rfl⟩
                    · replace h := cond_f hb70 h
                      refine Ops.gs rfl rfl rfl (.b rfl hb70) rfl rfl ?_
                      refine Ops.gs rfl rfl rfl (.b rfl hb70) rfl rfl ?_
                      refine Ops.gs rfl rfl rfl (.b rfl hb70) rfl rfl ?_
                      refine Ops.v rfl (op_pick_f rfl hb70 rfl rfl) ?_
                      refine Ops.v rfl (op_assign rfl rfl) ?_
                      refine Ops.nil ?_
                      exact ⟨false, h, Ghost.both (ns := []) rfl rfl⟩
                  · replace h := cond_f hb67 h
                    refine Ops.gs rfl rfl rfl (.b rfl hb67) rfl rfl ?_
                    refine Ops.gs rfl rfl rfl (.b rfl hb67) rfl rfl ?_
                    refine Ops.gs rfl rfl rfl (.b rfl hb67) rfl rfl ?_
                    refine Ops.gs rfl rfl rfl (.b rfl hb67) rfl rfl ?_
                    refine Ops.gs rfl rfl rfl (.b rfl hb67) rfl rfl ?_
                    refine Ops.gs rfl rfl rfl (.b rfl hb67) rfl rfl ?_
                    refine Ops.gs rfl rfl rfl (.b rfl hb67) rfl rfl ?_
                    refine Ops.v rfl (op_pick_f rfl hb67 rfl rfl) ?_
                    refine Ops.v rfl (op_move rfl rfl) ?_
                    refine Ops.gs rfl rfl rfl (.b rfl rfl) rfl rfl ?_
                    refine Ops.gs rfl rfl rfl (.b rfl rfl) rfl rfl ?_
                    refine Ops.gs rfl rfl rfl (.b rfl rfl) rfl rfl ?_
                    refine Ops.v rfl (op_pick_f rfl rfl rfl rfl) ?_
                    refine Ops.v rfl (op_assign rfl rfl) ?_
                    refine Ops.nil ?_
                    exact ⟨false, h, Ghost.both (ns := []) rfl rfl⟩
                · intro x71 h
                  replace h : laws_FnLive_j1 x71 = some r := h
                  unfold laws_FnLive_j1 at h
                  refine AW.ret ?_
                  rw [← Option.some.inj h]
                  exact ⟨[C.bool x71], _, Ghost.refl _, (.cons (.tmp rfl) .nil), [], _, _, rfl, ⟨rfl, rfl⟩⟩

end Go.Proofs.Ytiajhengifcljaa
