/- LiveNext: the law is true, whatever the input. -/
import Derived.Test.YtiajhengifcljaaQR
set_option autoImplicit false
namespace Go.Proofs.Ytiajhengifcljaa
open Go Go.Abs

/-- One round of the search. -/
def nxt (now best : Int) (e : TLive) : Int := bif decide (e.till > now) && (decide (best < 0) || decide (e.till < best)) then e.till else best

theorem specNext_step (p : List TLive) (hp : p.length ≤ 1048576) (hb : spec_LiveRight p = some true) (now best : Int) (i : Nat) (e : TLive) (he : p[i]? = some e) :
    spec_LiveNext_s5 p now best i = some (.inl (now, nxt now best e, (i : Int) + 1)) := by
  have hi : i < p.length := (List.getElem?_eq_some_iff.1 he).1
  unfold spec_LiveNext_s5 spec_LiveNext_j4 spec_LiveNext_j3 spec_LiveNext_j2 nxt
  rw [decide_eq_true (by omega : (i : Int) < p.length), wrap_id (by omega) (by omega)]
  simp only [cond_true, hb, Option.bind_some, getI_nat he]
  by_cases h1 : e.till > now <;> by_cases h2 : best < 0 <;> by_cases h3 : e.till < best <;> simp [h1, h2, h3]

theorem implNext_step (p : List TLive) (hp : p.length ≤ 1048576) (now best : Int) (i : Nat) (e : TLive) (he : p[i]? = some e) :
    impl_LiveNext_s4 p now best p.length i = some (.inl (now, nxt now best e, (p.length : Int), (i : Int) + 1)) := by
  have hi : i < p.length := (List.getElem?_eq_some_iff.1 he).1
  unfold impl_LiveNext_s4 impl_LiveNext_j3 impl_LiveNext_j2 nxt
  rw [decide_eq_true (by omega : (i : Int) < p.length), wrap_id (by omega) (by omega)]
  simp only [cond_true, Option.bind_some, getI_nat he]
  by_cases h1 : e.till > now <;> by_cases h2 : best < 0 <;> by_cases h3 : e.till < best <;> simp [h1, h2, h3]

theorem liveNext_same (p : List TLive) (hp : p.length ≤ 1048576) (now : Int) : ∃ r, spec_LiveNext p now = some r ∧ impl_LiveNext p now = some r := by
  obtain ⟨b, hs, hi⟩ := liveRight_same p hp
  unfold spec_LiveNext impl_LiveNext
  rw [hi]
  cases b with
  | false =>
    refine ⟨-1, ?_, rfl⟩
    rw [iter_is (o := (-1 : Int)) (fun m (x : Int × Int × Int) => x.2.1 = -1 ∧ 0 ≤ x.2.2) (m := 0) (x := (now, -1, 0)) ?_ ⟨rfl, by simp⟩ (lt_big (by omega))]
    · rfl
    · rintro m ⟨a, l, i⟩ ⟨hl, h0⟩
      left
      simp only at hl h0 ⊢
      subst hl
      unfold spec_LiveNext_s5
      by_cases h : i < p.length
      · rw [decide_eq_true h]; simp [hs, spec_LiveNext_j4]
      · rw [decide_eq_false h]; simp [spec_LiveNext_j4]
  | true =>
    have htot := iter_total (step := fun z : Int × Int × Int => spec_LiveNext_s5 p z.1 z.2.1 z.2.2) (p := fun _ => True) (fun m (x : Int × Int × Int) => ∃ i : Nat, x.2.2 = i ∧ i + m = p.length) (by
      rintro m ⟨a, l, x⟩ ⟨i, hx, him⟩
      simp only at hx ⊢
      subst hx
      by_cases hi : i < p.length
      · exact .inr ⟨_, m - 1, specNext_step p hp hs a l i _ (List.getElem?_eq_getElem hi), by omega, i + 1, by simp, by omega⟩
      · left
        unfold spec_LiveNext_s5
        rw [decide_eq_false (by omega)]
        exact ⟨_, rfl, trivial⟩) big p.length (now, -1, 0) ⟨0, rfl, by simp⟩ (lt_big (by omega))
    have hrel := iter_rel (step := fun z : Int × Int × Int => spec_LiveNext_s5 p z.1 z.2.1 z.2.2) (step' := fun z : Int × Int × Int × Int => impl_LiveNext_s4 p z.1 z.2.1 z.2.2.1 z.2.2.2)
      (fun x y => ∃ i : Nat, x.2.2 = i ∧ y = (x.1, x.2.1, (p.length : Int), (i : Int))) (fun o o' => o = o') (by
      rintro ⟨a, l, x⟩ y ⟨i, hx, rfl⟩
      simp only at hx ⊢
      subst hx
      by_cases hi : i < p.length
      · exact .inr (.inl ⟨_, _, specNext_step p hp hs a l i _ (List.getElem?_eq_getElem hi), implNext_step p hp a l i _ (List.getElem?_eq_getElem hi), i + 1, by simp, by simp⟩)
      · left
        unfold spec_LiveNext_s5 impl_LiveNext_s4
        rw [decide_eq_false (by omega)]
        exact ⟨_, _, rfl, rfl, rfl⟩) big (now, -1, 0) (now, -1, (p.length : Int), 0) ⟨0, rfl, rfl⟩
    obtain ⟨o, ho, _⟩ := htot
    rcases hrel with ⟨o1, o2, h1, h2, e⟩ | ⟨h1, _⟩
    · subst e
      refine ⟨o1, ?_, ?_⟩
      · rw [h1]; rfl
      · simp only [Option.bind_some, cond_true, h2]; rfl
    · rw [h1] at ho; cases ho

theorem liveNext_true (p : List TLive) (now : Int) (hmax : p.length ≤ maxLen) : laws_FnExactLiveNext p now = some true := by
  unfold laws_FnExactLiveNext
  by_cases hp : p.length ≤ 1048576
  · obtain ⟨r, hr, h0⟩ := szLiveS_is p hp
    obtain ⟨b, h1, h2⟩ := liveNext_same p hp now
    have hr0 : decide (r < 0) = false := decide_eq_false (by omega)
    simp [hr, hr0, toLiveS_is p hp, h1, h2, eqLiveS_self p hp]
  · simp only [maxLen] at hmax
    rw [szLiveS_neg p hp (by omega)]
    rfl

set_option maxRecDepth 100000 in
theorem liveNext_lifted (os : Os) (started : os.Started) (H : Type) (enc : TypeId × Value → H) :
    ReturnsInHanded {} Try.checked os 4 .any (Rows.fnExactLiveNextSpec.pre6 enc Try.prog Try.f4 Rows.fnExactLiveNextRow.domain false) (Rows.fnExactLiveNextSpec.post enc Try.prog Try.f4 false true false false) :=
  law_lifted (C := Try.checked) (ts := [22, 2]) (tb := 4) (by kernel_rfl) started (by kernel_rfl) Try.func4
    (ChangeSpec.witness6 (enc := enc) (C := Try.checked) false ⟨#[], #[.slice none 0 0, .int .i64 0], []⟩ 8 (by kernel_rfl) (by kernel_rfl) (by kernel_rfl) (by kernel_rfl))
    (by kernel_rfl) rfl (by kernel_rfl) rfl (by kernel_rfl) rfl (fun ds h => match ds, h with | [_, _], _ => rfl)
    (OpensAll.cons (d := .slice 56) (by kernel_rfl) rfl (Opens.slice (sz := 2) (by kernel_rfl) opens_TLive (by kernel_rfl) (by decide)) (OpensAll.cons (d := .int .i64) (by kernel_rfl) rfl (Opens.int (by kernel_rfl)) OpensAll.nil))
    (fun g hg => ok_laws_FnExactLiveNext g.1 g.2.1 true (liveNext_true g.1 g.2.1 hg.1.1))

theorem liveNext_holds : Rows.FnExactLiveNextSaid :=
  OpenClaim.holds_of_wide 4 Try.f4 rfl rfl rfl rfl rfl rfl rfl ⟨rfl, rfl, rfl, rfl, rfl⟩ rfl rfl rfl rfl rfl (by kernel_rfl) Try.func4 (by kernel_rfl)
    (of_decide_eq_true (by kernel_rfl)) (by unfold Func.isWrapper; first | (rw [if_pos (by decide +kernel)]; kernel_rfl) | (rw [if_neg (by decide +kernel)]; exact ⟨rfl, rfl⟩))
    (fun os started H enc _ => liveNext_lifted os started H enc)
end Go.Proofs.Ytiajhengifcljaa
