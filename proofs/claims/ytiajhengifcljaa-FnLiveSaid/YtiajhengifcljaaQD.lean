/- The draws answer, whatever the code. -/
import Derived.Test.YtiajhengifcljaaQJ
set_option autoImplicit false
namespace Go.Proofs.Ytiajhengifcljaa
open Go Go.Abs

/-- A source from which may be drawn. -/
def SrcOk (s : TL01Src) : Prop := 0 ≤ s.at_ ∧ s.b.length ≤ 1048576

theorem u64_range (x : Int) : 0 ≤ IntKind.u64.wrap x ∧ IntKind.u64.wrap x < 18446744073709551616 := by
  have e : IntKind.u64.wrap x = x % 18446744073709551616 := by
    simp [IntKind.wrap, IntKind.bits, IntKind.signed]
  rw [e]
  constructor <;> omega

theorem src_n (s : TL01Src) (hs : SrcOk s) (most : Int) (hm : most ≤ 4611686018427387904) : ∃ r, spec_l01Src_n s most = some r ∧ SrcOk r.2 ∧ 0 ≤ r.1 ∧ (1 < most → r.1 < most) ∧ (most ≤ 1 → r.1 = 0) := by
  obtain ⟨h0, h1⟩ := hs
  have key : ∀ (a x6 x7 v : Int), 1 < most → 0 ≤ a → ∃ r, spec_l01Src_n_j1 s a x6 x7 most v = some r ∧ SrcOk r.2 ∧ 0 ≤ r.1 ∧ r.1 < most := fun a x6 x7 v hmost ha => by
    unfold spec_l01Src_n_j1
    have hw : IntKind.u64.wrap most = most := IntWalk.u64_in _ ⟨by omega, by omega⟩
    rw [hw, chk_t (by simp; omega)]
    simp only [Option.bind_some]
    obtain ⟨r0, r1⟩ := u64_range (v + (shrI .u64 (bitXor .u64 (bitXor .u64 (bitXor .u64 x6 (shlI .u64 x6 13)) (shrI .u64 (bitXor .u64 x6 (shlI .u64 x6 13)) 7)) (shlI .u64 (bitXor .u64 (bitXor .u64 x6 (shlI .u64 x6 13)) (shrI .u64 (bitXor .u64 x6 (shlI .u64 x6 13)) 7)) 17)) 20))
    refine ⟨_, rfl, ⟨ha, h1⟩, ?_⟩
    simp only
    rw [Int.tmod_eq_emod_of_nonneg r0]
    have hlo := Int.emod_nonneg (IntKind.u64.wrap (v + (shrI .u64 (bitXor .u64 (bitXor .u64 (bitXor .u64 x6 (shlI .u64 x6 13)) (shrI .u64 (bitXor .u64 x6 (shlI .u64 x6 13)) 7)) (shlI .u64 (bitXor .u64 (bitXor .u64 x6 (shlI .u64 x6 13)) (shrI .u64 (bitXor .u64 x6 (shlI .u64 x6 13)) 7)) 17)) 20))) (show most ≠ 0 by omega)
    have hhi := Int.emod_lt_of_pos (IntKind.u64.wrap (v + (shrI .u64 (bitXor .u64 (bitXor .u64 (bitXor .u64 x6 (shlI .u64 x6 13)) (shrI .u64 (bitXor .u64 x6 (shlI .u64 x6 13)) 7)) (shlI .u64 (bitXor .u64 (bitXor .u64 x6 (shlI .u64 x6 13)) (shrI .u64 (bitXor .u64 x6 (shlI .u64 x6 13)) 7)) 17)) 20))) (show 0 < most by omega)
    rw [wrap_id (by omega) (by omega)]
    exact ⟨hlo, hhi⟩
  unfold spec_l01Src_n
  by_cases hmost : most ≤ 1
  · rw [decide_eq_true hmost]
    exact ⟨_, rfl, ⟨h0, h1⟩, Int.le_refl _, fun h => by omega, fun _ => rfl⟩
  · rw [decide_eq_false hmost]
    simp only [cond_false]
    by_cases hat : s.at_ < (s.b.length : Int)
    · rw [decide_eq_true hat]
      obtain ⟨x, hx, _⟩ := getI_some h0 hat
      simp only [cond_true, hx, Option.bind_some]
      obtain ⟨r, hr, hs, hr0, hr1⟩ := key (IntKind.i64.wrap (s.at_ + 1)) s.mix s.size (IntKind.u64.wrap x) (by omega) (by rw [wrap_id (by omega) (by omega)]; omega)
      exact ⟨r, hr, hs, hr0, fun _ => hr1, fun h => by omega⟩
    · rw [decide_eq_false hat]
      obtain ⟨r, hr, hs, hr0, hr1⟩ := key s.at_ s.mix s.size 0 (by omega) h0
      exact ⟨r, hr, hs, hr0, fun _ => hr1, fun h => by omega⟩

theorem src_one (s : TL01Src) (hs : SrcOk s) (most : Int) (hm : most ≤ 4611686018427387904) : ∃ r, spec_l01Src_one s most = some r ∧ SrcOk r.2 := by
  obtain ⟨r, hr, h, _⟩ := src_n s hs most hm
  exact ⟨_, by rw [spec_l01Src_one, hr]; rfl, h⟩

theorem src_edge (s : TL01Src) (hs : SrcOk s) : ∃ r, spec_l01Src_edge s = some r ∧ SrcOk r.2 := by
  obtain ⟨r, hr, h, h0, h1, _⟩ := src_n s hs 14 (by omega)
  have := h1 (by omega)
  obtain ⟨x, hx, _⟩ := getI_some (xs := [(0 : Int), 1, (-1), 2, 1000, 1001, 2147483648, 2147483647, (-2147483648), 4611686018427387904, 9223372036854775807, (-9223372036854775808), 1000000, 1000001]) h0 (by simp; omega)
  exact ⟨(x, r.2), by rw [spec_l01Src_edge, hr, Option.bind_some, hx]; rfl, h⟩

theorem source_ok (p : List Int) (hp : p.length ≤ 1048576) : ∃ s, spec_l01Source p = some s ∧ SrcOk s := by
  obtain ⟨o, ho, _⟩ := iter_total (step := fun z : Int × Int × Int × Int => spec_l01Source_s4 p z.1 z.2.1 z.2.2.1 z.2.2.2) (p := fun o : Int × Int × Int => 0 ≤ o.1) (fun m (x : Int × Int × Int × Int) => x.1 = 0 ∧ ∃ i : Nat, x.2.2.2 = i ∧ i + m = p.length) (by
    rintro m ⟨a, x, y, z⟩ ⟨ha, i, hz, him⟩
    simp only at ha hz ⊢
    subst ha hz
    unfold spec_l01Source_s4 spec_l01Source_j3
    by_cases hi : i < p.length
    · rw [decide_eq_true (by omega : (i : Int) < p.length)]
      by_cases h2 : (i : Int) < 64
      · right
        rw [decide_eq_true h2]
        simp only [cond_true, getI_nat (List.getElem?_eq_getElem hi), Option.bind_some]
        exact ⟨_, m - 1, rfl, by omega, rfl, i + 1, by simp only; rw [wrap_id (by omega) (by omega)]; simp, by omega⟩
      · left
        rw [decide_eq_false h2]
        exact ⟨_, rfl, Int.le_refl _⟩
    · left
      rw [decide_eq_false (by omega)]
      exact ⟨_, rfl, Int.le_refl _⟩) big p.length (0, 88172645463325252, 0, 0) ⟨rfl, 0, rfl, by simp⟩ (lt_big (by omega))
  unfold spec_l01Source
  rw [ho]
  simp only [Option.bind_some, spec_l01Source_j2, spec_l01Source_j1]
  cases decide (IntKind.i64.wrap (Int.tdiv (p.length : Int) 20) > 12) with
  | false => exact ⟨_, rfl, by assumption, hp⟩
  | true => exact ⟨_, rfl, by assumption, hp⟩

theorem liveSet_len (p : List TLive) (u t : Int) (hp : p.length ≤ 1048576) : ∃ r, spec_LiveSet p u t = some r ∧ r.row.length ≤ 401 := by
  unfold spec_LiveSet
  by_cases h4 : p.length ≤ 400
  · rw [decide_eq_false (by omega)]
    obtain ⟨b, hs, _⟩ := liveRight_same p hp
    simp only [cond_false, hs, Option.bind_some, isUser_same, isTime_same]
    cases b with
    | false => exact ⟨_, rfl, by simp⟩
    | true =>
      simp only [cond_true]
      by_cases hu : 1 ≤ u ∧ u ≤ 6
      · by_cases ht : 0 ≤ t ∧ t ≤ 1000000
        · obtain ⟨k, hk, hsp⟩ := spec_l20Set_is p hp (right_up p hp hs) u t
          rw [decide_eq_true hu, decide_eq_true ht]
          simp only [cond_true, Bool.not_true, spec_LiveSet_j1, cond_false, hsp, Option.bind_some]
          exact ⟨_, rfl, by have := putAt_len (p := p) u t hk.le; simp only; omega⟩
        · rw [decide_eq_true hu, decide_eq_false ht]
          exact ⟨_, rfl, by simp⟩
      · rw [decide_eq_false hu]
        exact ⟨_, rfl, by simp⟩
  · rw [decide_eq_true (by omega)]
    exact ⟨_, rfl, by simp⟩

theorem src_row (s : TL01Src) (hs : SrcOk s) : ∃ r, spec_l01Src_l20Row s = some r ∧ SrcOk r.2 ∧ r.1.length ≤ 402 := by
  obtain ⟨r, hr, hs1, h0, h1, _⟩ := src_n s hs 6 (by omega)
  have h6 := h1 (by omega)
  obtain ⟨o, ho, hq⟩ := iter_total (step := fun z : List Int × Int × Int × Int × List TLive × Int => spec_l01Src_l20Row_s4 z.1 z.2.1 z.2.2.1 z.2.2.2.1 z.2.2.2.2.1 z.2.2.2.2.2)
    (p := fun o : List Int × Int × Int × Int × List TLive => SrcOk (TL01Src.mk o.1 o.2.1 o.2.2.1 o.2.2.2.1) ∧ o.2.2.2.2.length ≤ 401)
    (fun m (z : List Int × Int × Int × Int × List TLive × Int) => SrcOk (TL01Src.mk z.1 z.2.1 z.2.2.1 z.2.2.2.1) ∧ z.2.2.2.2.1.length ≤ 401 ∧ z.2.2.2.2.2 = (m : Int) ∧ m ≤ 6) (by
    rintro m ⟨b, at_, mix, size, l, k⟩ ⟨hok, hl, hk, hm⟩
    simp only at hok hl hk ⊢
    subst hk
    unfold spec_l01Src_l20Row_s4 spec_l01Src_l20Row_j3
    by_cases hm0 : (m : Int) > 0
    · right
      rw [decide_eq_true hm0]
      obtain ⟨r1, hr1, hs1, _⟩ := src_n _ hok 6 (by omega)
      obtain ⟨r2, hr2, hs2, _⟩ := src_n _ hs1 12 (by omega)
      obtain ⟨r3, hr3, hl3⟩ := liveSet_len l (IntKind.i64.wrap (1 + r1.1)) r2.1 (by omega)
      simp only [cond_true, hr1, hr2, hr3, Option.bind_some]
      have ew : IntKind.i64.wrap ((m : Int) - 1) = ((m - 1 : Nat) : Int) := by rw [wrap_id (by omega) (by omega)]; omega
      rw [ew]
      cases r3.code == 0 with
      | true => exact ⟨_, m - 1, rfl, by omega, hs2, hl3, rfl, by omega⟩
      | false => exact ⟨_, m - 1, rfl, by omega, hs2, hl, rfl, by omega⟩
    · left
      rw [decide_eq_false hm0]
      exact ⟨_, rfl, hok, hl⟩) big r.1.toNat (r.2.b, r.2.at_, r.2.mix, r.2.size, ([] : List TLive), r.1) ⟨hs1, by simp, by simp only; omega, by omega⟩ (lt_big (by omega))
  obtain ⟨o1, o2, o3, o4, o5⟩ := o
  obtain ⟨hq1, hq2⟩ := hq
  simp only at hq1 hq2
  unfold spec_l01Src_l20Row
  rw [hr, Option.bind_some, ho, Option.bind_some]
  unfold spec_l01Src_l20Row_j2 spec_l01Src_l20Row_j1
  obtain ⟨r1, hr1, hs1⟩ := src_one _ hq1 15 (by omega)
  simp only [hr1, Option.bind_some]
  cases r1.1 with
  | false => exact ⟨_, rfl, hs1, by simp only; omega⟩
  | true =>
    obtain ⟨r2, hr2, hs2, _⟩ := src_n _ hs1 8 (by omega)
    obtain ⟨r3, hr3, hs3⟩ := src_edge _ hs2
    simp only [cond_true, hr2, hr3, Option.bind_some]
    rw [chk_t (decide_eq_true (by simp; omega))]
    exact ⟨_, rfl, hs3, by simp; omega⟩

theorem draw_set (p : List Int) (hp : p.length ≤ 1048576) : ∃ r, spec_DrawLiveSet p = some r ∧ r.1.length ≤ 402 := by
  obtain ⟨s, hs, h0⟩ := source_ok p hp
  obtain ⟨r, hr, h1, hl⟩ := src_row s h0
  obtain ⟨r2, hr2, h2⟩ := src_one _ h1 8 (by omega)
  unfold spec_DrawLiveSet
  simp only [hs, hr, hr2, Option.bind_some]
  cases r2.1 with
  | true =>
    obtain ⟨r3, hr3, h3, _⟩ := src_n _ h2 8 (by omega)
    obtain ⟨r4, hr4, h4⟩ := src_edge _ h3
    simp only [cond_true, hr3, hr4, Option.bind_some]
    exact ⟨_, rfl, hl⟩
  | false =>
    obtain ⟨r3, hr3, h3, _⟩ := src_n _ h2 6 (by omega)
    obtain ⟨r4, hr4, h4, _⟩ := src_n _ h3 14 (by omega)
    simp only [cond_false, hr3, hr4, Option.bind_some]
    exact ⟨_, rfl, hl⟩

theorem draw_join (p : List Int) (hp : p.length ≤ 1048576) : ∃ r, spec_DrawLiveJoin p = some r ∧ r.1.length ≤ 402 ∧ r.2.length ≤ 402 := by
  obtain ⟨s, hs, h0⟩ := source_ok p hp
  obtain ⟨r, hr, h1, hl⟩ := src_row s h0
  obtain ⟨r2, hr2, h2, hl2⟩ := src_row _ h1
  unfold spec_DrawLiveJoin
  simp only [hs, hr, hr2, Option.bind_some]
  exact ⟨_, rfl, hl, hl2⟩

theorem draw_at (p : List Int) (hp : p.length ≤ 1048576) : ∃ r, spec_DrawLiveAt p = some r ∧ r.1.length ≤ 402 := by
  obtain ⟨s, hs, h0⟩ := source_ok p hp
  obtain ⟨r, hr, h1, hl⟩ := src_row s h0
  obtain ⟨r2, hr2, h2⟩ := src_one _ h1 10 (by omega)
  unfold spec_DrawLiveAt
  simp only [hs, hr, hr2, Option.bind_some]
  cases r2.1 with
  | true =>
    obtain ⟨r4, hr4, h4⟩ := src_edge _ h2
    simp only [cond_true, hr4, Option.bind_some]
    exact ⟨_, rfl, hl⟩
  | false =>
    obtain ⟨r4, hr4, h4, _⟩ := src_n _ h2 13 (by omega)
    simp only [cond_false, hr4, Option.bind_some]
    exact ⟨_, rfl, hl⟩
end Go.Proofs.Ytiajhengifcljaa
