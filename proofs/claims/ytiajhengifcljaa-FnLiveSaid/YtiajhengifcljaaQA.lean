/- LiveAt: the law is true, whatever the input. -/
import Derived.Test.YtiajhengifcljaaQN
set_option autoImplicit false
namespace Go.Proofs.Ytiajhengifcljaa
open Go Go.Abs

theorem eqInt64S_self (p : List Int) (hp : p.length ≤ 1048576) : laws_eqInt64S p p = some true := by
  unfold laws_eqInt64S
  simp only [bne_self_eq_false, cond_false]
  rw [iter_is (o := .inr ()) (fun m (x : Int) => ∃ i : Nat, x = i ∧ i + m = p.length) ?_ (m := p.length) (x := (0 : Int)) ⟨0, rfl, by simp⟩ (lt_big (by omega))]
  · rfl
  · rintro m x ⟨i, rfl, him⟩
    unfold laws_eqInt64S_s2
    by_cases hi : i < p.length
    · right
      have hpi : p[i]? = some p[i] := List.getElem?_eq_getElem hi
      refine ⟨i + 1, m - 1, ?_, by omega, i + 1, by simp, by omega⟩
      rw [decide_eq_true (by omega : (i : Int) < p.length)]
      simp only [cond_true, getI_nat hpi, Option.bind_some, bne_self_eq_false, cond_false]
      rw [wrap_id (by omega) (by omega)]
    · left
      rw [decide_eq_false (by omega)]
      rfl

theorem markLiveS_total (p : List TLive) (hp : p.length ≤ 1048576) : ∃ r, laws_markLiveS p 1 = some r ∧ 0 ≤ r.1 := by
  have h := iter_total (step := fun z : List TLive × Int × Int => laws_markLiveS_s2 z.1 z.2.1 z.2.2) (p := fun o : Int × List TLive => 0 ≤ o.1)
    (fun m (x : List TLive × Int × Int) => ∃ i : Nat, x.2.2 = i ∧ i + m = p.length ∧ x.1.length = p.length ∧ x.2.1 = 1 + 2 * (i : Int)) (by
    rintro m ⟨l, k, x⟩ ⟨i, hx, him, hl, hk⟩
    simp only at hx hl hk ⊢
    subst hx
    subst hk
    unfold laws_markLiveS_s2
    by_cases hi : i < p.length
    · right
      have hli : l[i]? = some l[i] := List.getElem?_eq_getElem (by omega)
      have hli2 : (l.set i (TLive.mk (1 + 2 * (i : Int)) l[i].till))[i]? = some (TLive.mk (1 + 2 * (i : Int)) l[i].till) := by
        rw [List.getElem?_set]; simp; omega
      rw [decide_eq_true (by omega : (i : Int) < l.length)]
      simp only [cond_true, getI_nat hli, Option.bind_some, Int.toNat_natCast, getI_nat hli2]
      refine ⟨_, m - 1, rfl, by omega, i + 1, ?_, by omega, by simp [hl], ?_⟩
      · simp only; rw [wrap_id (by omega) (by omega)]; simp
      · simp only; rw [wrap_id (n := 1 + 2 * (i : Int) + 1) (by omega) (by omega), wrap_id (by omega) (by omega)]; omega
    · left
      rw [decide_eq_false (by omega)]
      exact ⟨_, rfl, by simp only; omega⟩) big p.length (p, 1, 0) ⟨0, rfl, by simp, rfl, by simp⟩ (lt_big (by omega))
  obtain ⟨o, ho, h0⟩ := h
  unfold laws_markLiveS
  rw [ho]
  exact ⟨_, rfl, h0⟩

theorem markInt64S_is (p : List Int) (hp : p.length ≤ 1048576) : ∃ q : List Int, laws_markInt64S p 1 = some (1 + (p.length : Int), q) ∧ q.length = p.length ∧ ∀ j : Nat, j < p.length → q[j]? = some (1 + (j : Int)) := by
  have h := iter_total (step := fun z : List Int × Int × Int => laws_markInt64S_s2 z.1 z.2.1 z.2.2) (p := fun o : Int × List Int => o.1 = 1 + (p.length : Int) ∧ o.2.length = p.length ∧ ∀ j : Nat, j < p.length → o.2[j]? = some (1 + (j : Int)))
    (fun m (x : List Int × Int × Int) => ∃ i : Nat, x.2.2 = i ∧ i + m = p.length ∧ x.1.length = p.length ∧ x.2.1 = 1 + (i : Int) ∧ ∀ j : Nat, j < i → x.1[j]? = some (1 + (j : Int))) (by
    rintro m ⟨l, k, x⟩ ⟨i, hx, him, hl, hk, hpre⟩
    simp only at hx hl hk hpre ⊢
    subst hx
    subst hk
    unfold laws_markInt64S_s2
    by_cases hi : i < p.length
    · right
      have hli : l[i]? = some l[i] := List.getElem?_eq_getElem (by omega)
      rw [decide_eq_true (by omega : (i : Int) < l.length)]
      simp only [cond_true, getI_nat hli, Option.bind_some, Int.toNat_natCast]
      refine ⟨_, m - 1, rfl, by omega, i + 1, ?_, by omega, by simp [hl], ?_, fun j hj => ?_⟩
      · simp only; rw [wrap_id (by omega) (by omega)]; simp
      · simp only; rw [wrap_id (by omega) (by omega)]; omega
      · simp only [List.getElem?_set]
        by_cases h1 : i = j
        · subst h1
          rw [if_pos rfl, if_pos (by omega)]
        · rw [if_neg h1]
          exact hpre j (by omega)
    · left
      rw [decide_eq_false (by omega)]
      have hip : i = p.length := by omega
      subst hip
      exact ⟨_, rfl, rfl, hl, hpre⟩) big p.length (p, 1, 0) ⟨0, rfl, by simp, rfl, by simp, fun j hj => by omega⟩ (lt_big (by omega))
  obtain ⟨⟨a, q⟩, ho, h1, h2, h3⟩ := h
  simp only at h1 h2 h3
  subst h1
  refine ⟨q, ?_, h2, h3⟩
  unfold laws_markInt64S
  rw [ho]
  rfl

theorem heldInt64S_is (q : List Int) (hp : q.length ≤ 1048576) (hq : ∀ j : Nat, j < q.length → q[j]? = some (1 + (j : Int))) : laws_heldInt64S q 1 = some (1 + (q.length : Int)) := by
  unfold laws_heldInt64S
  rw [iter_is (o := .inr (1 + (q.length : Int))) (fun m (x : Int × Int) => ∃ i : Nat, x.2 = i ∧ i + m = q.length ∧ x.1 = 1 + (i : Int)) ?_ (m := q.length) (x := (1, 0)) ⟨0, rfl, by simp, by simp⟩ (lt_big (by omega))]
  · rfl
  · rintro m ⟨k, x⟩ ⟨i, hx, him, hk⟩
    simp only at hx hk ⊢
    subst hx
    subst hk
    unfold laws_heldInt64S_s2
    by_cases hi : i < q.length
    · right
      refine ⟨(1 + (i : Int) + 1, (i : Int) + 1), m - 1, ?_, by omega, i + 1, by simp, by omega, by simp only; omega⟩
      rw [decide_eq_true (by omega : (i : Int) < q.length)]
      simp only [cond_true, getI_nat (hq i hi), Option.bind_some, bne_self_eq_false, cond_false]
      rw [wrap_id (by omega) (by omega), wrap_id (by omega) (by omega)]
    · left
      rw [decide_eq_false (by omega)]
      have hip : i = q.length := by omega
      subst hip
      rfl

/-- One round of the gathering. -/
def atNext (now : Int) (l : List Int) (e : TLive) : List Int := bif decide (e.till > now) then l ++ [e.user] else l

theorem atNext_len (now : Int) (l : List Int) (e : TLive) : (atNext now l e).length ≤ l.length + 1 := by
  unfold atNext
  cases decide (e.till > now) <;> simp

theorem specAt_step (p : List TLive) (hp : p.length ≤ 1048576) (hb : spec_LiveRight p = some true) (now : Int) (l : List Int) (i : Nat) (hl : l.length ≤ i) (e : TLive) (he : p[i]? = some e) :
    spec_LiveAt_s4 p now l i = some (.inl (now, atNext now l e, (i : Int) + 1)) := by
  have hi : i < p.length := (List.getElem?_eq_some_iff.1 he).1
  unfold spec_LiveAt_s4 spec_LiveAt_j3 spec_LiveAt_j2 atNext
  rw [decide_eq_true (by omega : (i : Int) < p.length), wrap_id (by omega) (by omega)]
  simp only [cond_true, hb, Option.bind_some, getI_nat he]
  rw [chk_t (decide_eq_true (by simp only [List.length_cons, List.length_nil]; omega))]
  cases decide (e.till > now) <;> rfl

theorem implAt_step (p : List TLive) (hp : p.length ≤ 1048576) (now : Int) (l : List Int) (i : Nat) (hl : l.length ≤ i) (e : TLive) (he : p[i]? = some e) :
    impl_LiveAt_s3 p now l p.length i = some (.inl (now, atNext now l e, (p.length : Int), (i : Int) + 1)) := by
  have hi : i < p.length := (List.getElem?_eq_some_iff.1 he).1
  unfold impl_LiveAt_s3 impl_LiveAt_j2 atNext
  rw [decide_eq_true (by omega : (i : Int) < p.length), wrap_id (by omega) (by omega)]
  simp only [cond_true, Option.bind_some, getI_nat he]
  rw [chk_t (decide_eq_true (by simp only [List.length_cons, List.length_nil]; omega))]
  cases decide (e.till > now) <;> rfl

theorem liveAt_same (p : List TLive) (hp : p.length ≤ 1048576) (now : Int) : ∃ r : List Int, spec_LiveAt p now = some r ∧ impl_LiveAt p now = some r ∧ r.length ≤ 1048576 := by
  obtain ⟨b, hs, hi⟩ := liveRight_same p hp
  unfold spec_LiveAt impl_LiveAt
  rw [hi]
  cases b with
  | false =>
    refine ⟨[], ?_, rfl, by simp⟩
    rw [iter_is (o := ([] : List Int)) (fun m (x : Int × List Int × Int) => x.2.1 = [] ∧ 0 ≤ x.2.2) (m := 0) (x := (now, [], 0)) ?_ ⟨rfl, by simp⟩ (lt_big (by omega))]
    · rfl
    · rintro m ⟨a, l, i⟩ ⟨hl, h0⟩
      left
      simp only at hl h0 ⊢
      subst hl
      unfold spec_LiveAt_s4
      by_cases h : i < p.length
      · rw [decide_eq_true h]; simp [hs, spec_LiveAt_j3]
      · rw [decide_eq_false h]; simp [spec_LiveAt_j3]
  | true =>
    have htot := iter_total (step := fun z : Int × List Int × Int => spec_LiveAt_s4 p z.1 z.2.1 z.2.2) (p := fun o : List Int => o.length ≤ 1048576) (fun m (x : Int × List Int × Int) => ∃ i : Nat, x.2.2 = i ∧ i + m = p.length ∧ x.2.1.length ≤ i) (by
      rintro m ⟨a, l, x⟩ ⟨i, hx, him, hl⟩
      simp only at hx hl ⊢
      subst hx
      by_cases hi : i < p.length
      · exact .inr ⟨_, m - 1, specAt_step p hp hs a l i hl _ (List.getElem?_eq_getElem hi), by omega, i + 1, by simp, by omega, by have := atNext_len a l p[i]; simp only; omega⟩
      · left
        unfold spec_LiveAt_s4
        rw [decide_eq_false (by omega)]
        exact ⟨_, rfl, by omega⟩) big p.length (now, [], 0) ⟨0, rfl, by simp, by simp⟩ (lt_big (by omega))
    have hrel := iter_rel (step := fun z : Int × List Int × Int => spec_LiveAt_s4 p z.1 z.2.1 z.2.2) (step' := fun z : Int × List Int × Int × Int => impl_LiveAt_s3 p z.1 z.2.1 z.2.2.1 z.2.2.2)
      (fun x y => ∃ i : Nat, x.2.2 = i ∧ y = (x.1, x.2.1, (p.length : Int), (i : Int)) ∧ x.2.1.length ≤ i) (fun o o' => o = o') (by
      rintro ⟨a, l, x⟩ y ⟨i, hx, rfl, hl⟩
      simp only at hx hl ⊢
      subst hx
      by_cases hi : i < p.length
      · exact .inr (.inl ⟨_, _, specAt_step p hp hs a l i hl _ (List.getElem?_eq_getElem hi), implAt_step p hp a l i hl _ (List.getElem?_eq_getElem hi), i + 1, by simp, by simp, by have := atNext_len a l p[i]; simp only; omega⟩)
      · left
        unfold spec_LiveAt_s4 impl_LiveAt_s3
        rw [decide_eq_false (by omega)]
        exact ⟨_, _, rfl, rfl, rfl⟩) big (now, [], 0) (now, [], (p.length : Int), 0) ⟨0, rfl, rfl, by simp⟩
    obtain ⟨o, ho, hlen⟩ := htot
    rcases hrel with ⟨o1, o2, h1, h2, e⟩ | ⟨h1, _⟩
    · subst e
      rw [h1] at ho
      cases ho
      refine ⟨_, ?_, ?_, hlen⟩
      · rw [h1]; rfl
      · simp only [Option.bind_some, cond_true, h2]; rfl
    · rw [h1] at ho; cases ho

theorem liveAt_true (p : List TLive) (now : Int) (hmax : p.length ≤ maxLen) : laws_FnExactLiveAt p now = some true := by
  unfold laws_FnExactLiveAt
  by_cases hp : p.length ≤ 1048576
  · obtain ⟨r, hr, h0⟩ := szLiveS_is p hp
    obtain ⟨l, h1, h2, hl⟩ := liveAt_same p hp now
    obtain ⟨m, hm, hm0⟩ := markLiveS_total p hp
    obtain ⟨q, hq, hql, hqj⟩ := markInt64S_is l hl
    have hheld := heldInt64S_is q (by omega) (by rw [hql]; exact hqj)
    rw [hql] at hheld
    have hr0 : decide (r < 0) = false := decide_eq_false (by omega)
    have hm1 : decide (m.1 < 0) = false := decide_eq_false (by omega)
    have hl0 : decide (1 + (l.length : Int) < 0) = false := decide_eq_false (by omega)
    simp [hr, hr0, toLiveS_is p hp, h1, h2, eqLiveS_self p hp, eqInt64S_self l hl, hm, hm1, laws_FnExactLiveAt_j1, hq, hheld, hl0]
  · simp only [maxLen] at hmax
    rw [szLiveS_neg p hp (by omega)]
    rfl

set_option maxRecDepth 100000 in
theorem liveAt_lifted (os : Os) (started : os.Started) (H : Type) (enc : TypeId × Value → H) :
    ReturnsInHanded {} Try.checked os 5 .any (Rows.fnExactLiveAtSpec.pre6 enc Try.prog Try.f5 Rows.fnExactLiveAtRow.domain false) (Rows.fnExactLiveAtSpec.post enc Try.prog Try.f5 false true false false) :=
  law_lifted (C := Try.checked) (ts := [22, 2]) (tb := 4) (by kernel_rfl) started (by kernel_rfl) Try.func5
    (ChangeSpec.witness6 (enc := enc) (C := Try.checked) false ⟨#[], #[.slice none 0 0, .int .i64 0], []⟩ 8 (by kernel_rfl) (by kernel_rfl) (by kernel_rfl) (by kernel_rfl))
    (by kernel_rfl) rfl (by kernel_rfl) rfl (by kernel_rfl) rfl (fun ds h => match ds, h with | [_, _], _ => rfl)
    (OpensAll.cons (d := .slice 56) (by kernel_rfl) rfl (Opens.slice (sz := 2) (by kernel_rfl) opens_TLive (by kernel_rfl) (by decide)) (OpensAll.cons (d := .int .i64) (by kernel_rfl) rfl (Opens.int (by kernel_rfl)) OpensAll.nil))
    (fun g hg => ok_laws_FnExactLiveAt g.1 g.2.1 true (liveAt_true g.1 g.2.1 hg.1.1))

theorem liveAt_holds : Rows.FnExactLiveAtSaid :=
  OpenClaim.holds_of_wide 5 Try.f5 rfl rfl rfl rfl rfl rfl rfl ⟨rfl, rfl, rfl, rfl, rfl⟩ rfl rfl rfl rfl rfl (by kernel_rfl) Try.func5 (by kernel_rfl)
    (of_decide_eq_true (by kernel_rfl)) (by unfold Func.isWrapper; first | (rw [if_pos (by decide +kernel)]; kernel_rfl) | (rw [if_neg (by decide +kernel)]; exact ⟨rfl, rfl⟩))
    (fun os started H enc _ => liveAt_lifted os started H enc)
end Go.Proofs.Ytiajhengifcljaa
