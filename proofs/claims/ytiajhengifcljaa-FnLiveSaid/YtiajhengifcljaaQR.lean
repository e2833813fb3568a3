/- LiveRight: the law is true, whatever the input. -/
import Derived.Test.YtiajhengifcljaaL
import Derived.Test.YtiajhengifcljaaQ
import Derived.Test.YtiajhengifcljaaRows
set_option autoImplicit false
namespace Go.Proofs.Ytiajhengifcljaa
open Go Go.Abs

theorem toLiveS_is (p : List TLive) (hp : p.length ≤ 1048576) : laws_toLiveS p = some p := by
  unfold laws_toLiveS
  rw [chk_t (by simp; omega)]
  simp only [Option.bind_some]
  rw [iter_is (o := p) (fun m (x : List TLive × Int) => ∃ i : Nat, x.2 = i ∧ i + m = p.length ∧ x.1.length = p.length ∧ ∀ j, j < i → x.1[j]? = p[j]?) ?_ (m := p.length) ⟨0, rfl, by simp, by simp, fun j hj => by omega⟩ (lt_big (by omega))]
  · rfl
  · rintro m ⟨l, x⟩ ⟨i, hx, him, hl, hpre⟩
    simp only at hx hl hpre ⊢
    subst hx
    unfold laws_toLiveS_s2
    by_cases hi : i < p.length
    · right
      have hpi : p[i]? = some p[i] := List.getElem?_eq_getElem hi
      have hli : l[i]? = some l[i] := List.getElem?_eq_getElem (by omega)
      refine ⟨(l.set i p[i], i + 1), m - 1, ?_, by omega, i + 1, by simp, by omega, by simpa using hl, fun j hj => ?_⟩
      · rw [decide_eq_true (by omega : (i : Int) < p.length)]
        simp only [cond_true, getI_nat hpi, Option.bind_some, laws_toLive, getI_nat hli, Int.toNat_natCast]
        rw [wrap_id (by omega) (by omega)]
      · simp only [List.getElem?_set]
        by_cases h1 : i = j
        · subst h1
          rw [if_pos rfl, if_pos (by omega), hpi]
        · rw [if_neg h1]
          exact hpre j (by omega)
    · left
      rw [decide_eq_false (by omega)]
      have : l = p := by
        apply List.ext_getElem?
        intro j
        by_cases hj : j < i
        · exact hpre j hj
        · rw [List.getElem?_eq_none (by omega), List.getElem?_eq_none (by omega)]
      simp [this]

theorem eqLive_self (x : TLive) : laws_eqLive x x = some true := by simp [laws_eqLive]

theorem eqLiveS_self (p : List TLive) (hp : p.length ≤ 1048576) : laws_eqLiveS p p = some true := by
  unfold laws_eqLiveS
  simp only [bne_self_eq_false, cond_false]
  rw [iter_is (o := .inr ()) (fun m (x : Int) => ∃ i : Nat, x = i ∧ i + m = p.length) ?_ (m := p.length) (x := (0 : Int)) ⟨0, rfl, by simp⟩ (lt_big (by omega))]
  · rfl
  · rintro m x ⟨i, rfl, him⟩
    unfold laws_eqLiveS_s2
    by_cases hi : i < p.length
    · right
      have hpi : p[i]? = some p[i] := List.getElem?_eq_getElem hi
      refine ⟨i + 1, m - 1, ?_, by omega, i + 1, by simp, by omega⟩
      rw [decide_eq_true (by omega : (i : Int) < p.length)]
      simp only [cond_true, getI_nat hpi, Option.bind_some, eqLive_self]
      rw [wrap_id (by omega) (by omega)]
    · left
      rw [decide_eq_false (by omega)]
      rfl

theorem isIn_is (x a b : Int) : spec_l02Is x a b = some (decide (a ≤ x ∧ x ≤ b)) ∧ impl_in x a b = some (decide (a ≤ x ∧ x ≤ b)) := by
  unfold spec_l02Is impl_in
  by_cases h : a ≤ x <;> by_cases h' : x ≤ b <;> simp [h, h', spec_l02Is_j1, impl_in_j1]

/-- Is the row bad at a place? -/
def badAt (p : List TLive) (i : Nat) (e : TLive) : Bool :=
  !(decide (1 ≤ e.user ∧ e.user ≤ 6)) || !(decide (0 ≤ e.till ∧ e.till ≤ 1000000)) || (decide (0 < i) && match p[i - 1]? with | some q => decide (q.user ≥ e.user) | none => false)

theorem spec_step (p : List TLive) (hp : p.length ≤ 1048576) (i : Nat) (e : TLive) (he : p[i]? = some e) : spec_LiveRight_s3 p i = spec_LiveRight_j2 i (badAt p i e) := by
  have hi : i < p.length := (List.getElem?_eq_some_iff.1 he).1
  unfold spec_LiveRight_s3 badAt
  rw [decide_eq_true (by omega : (i : Int) < p.length)]
  simp only [cond_true, getI_nat he, Option.bind_some, spec_l02User, spec_l02Time, (isIn_is _ _ _).1]
  by_cases h1 : 1 ≤ e.user ∧ e.user ≤ 6
  · by_cases h2 : 0 ≤ e.till ∧ e.till ≤ 1000000
    · by_cases h3 : 0 < i
      · obtain ⟨q, hq⟩ : ∃ q, p[i - 1]? = some q := ⟨p[i - 1], List.getElem?_eq_getElem (by omega)⟩
        have e1 : IntKind.i64.wrap ((i : Int) - 1) = ((i - 1 : Nat) : Int) := by rw [wrap_id (by omega) (by omega)]; omega
        have e2 : decide ((i : Int) > 0) = true := decide_eq_true (by omega)
        simp [h1, h2, h3, hq, e1, e2, getI_nat hq]
      · have h0 : i = 0 := by omega
        subst h0
        simp [h1, h2]
    · simp [h1, h2]
  · simp [h1]

theorem impl_step (p : List TLive) (hp : p.length ≤ 1048576) (i : Nat) (e : TLive) (he : p[i]? = some e) : impl_LiveRight_s3 p p.length i = impl_LiveRight_j2 p.length i (badAt p i e) := by
  have hi : i < p.length := (List.getElem?_eq_some_iff.1 he).1
  unfold impl_LiveRight_s3 badAt
  rw [decide_eq_true (by omega : (i : Int) < p.length)]
  simp only [cond_true, getI_nat he, Option.bind_some, impl_isUser, impl_isTime, (isIn_is _ _ _).2]
  by_cases h1 : 1 ≤ e.user ∧ e.user ≤ 6
  · by_cases h2 : 0 ≤ e.till ∧ e.till ≤ 1000000
    · by_cases h3 : 0 < i
      · obtain ⟨q, hq⟩ : ∃ q, p[i - 1]? = some q := ⟨p[i - 1], List.getElem?_eq_getElem (by omega)⟩
        have e1 : IntKind.i64.wrap ((i : Int) - 1) = ((i - 1 : Nat) : Int) := by rw [wrap_id (by omega) (by omega)]; omega
        have e2 : decide ((i : Int) > 0) = true := decide_eq_true (by omega)
        simp [h1, h2, h3, hq, e1, e2, getI_nat hq]
      · have h0 : i = 0 := by omega
        subst h0
        simp [h1, h2]
    · simp [h1, h2]
  · simp [h1]

theorem liveRight_same (p : List TLive) (hp : p.length ≤ 1048576) : ∃ b, spec_LiveRight p = some b ∧ impl_LiveRight p = some b := by
  have htot := iter_total (step := spec_LiveRight_s3 p) (p := fun _ => True) (fun m (x : Int) => ∃ i : Nat, x = i ∧ i + m = p.length) (by
    rintro m x ⟨i, rfl, him⟩
    by_cases hi : i < p.length
    · have hpi : p[i]? = some p[i] := List.getElem?_eq_getElem hi
      rw [spec_step p hp i _ hpi]
      cases badAt p i p[i] with
      | true => exact .inl ⟨_, rfl, trivial⟩
      | false => exact .inr ⟨i + 1, m - 1, by rw [spec_LiveRight_j2, wrap_id (by omega) (by omega)]; rfl, by omega, i + 1, by simp, by omega⟩
    · left
      unfold spec_LiveRight_s3
      rw [decide_eq_false (by omega)]
      exact ⟨_, rfl, trivial⟩) big p.length 0 ⟨0, rfl, by simp⟩ (lt_big (by omega))
  have hrel := iter_rel (step := spec_LiveRight_s3 p) (step' := fun z : Int × Int => impl_LiveRight_s3 p z.1 z.2) (fun x y => ∃ i : Nat, x = i ∧ y = ((p.length : Int), (i : Int)) ∧ i ≤ p.length) (fun o o' => o = o') (by
    rintro x y ⟨i, rfl, rfl, him⟩
    simp only
    by_cases hi : i < p.length
    · have hpi : p[i]? = some p[i] := List.getElem?_eq_getElem hi
      rw [spec_step p hp i _ hpi, impl_step p hp i _ hpi]
      cases badAt p i p[i] with
      | true => exact .inl ⟨_, _, rfl, rfl, rfl⟩
      | false =>
        refine .inr (.inl ⟨i + 1, ((p.length : Int), (i : Int) + 1), ?_, ?_, i + 1, by simp, by simp, by omega⟩)
        · rw [spec_LiveRight_j2, wrap_id (by omega) (by omega)]; rfl
        · rw [impl_LiveRight_j2, wrap_id (by omega) (by omega)]; rfl
    · left
      unfold spec_LiveRight_s3 impl_LiveRight_s3
      rw [decide_eq_false (by omega)]
      exact ⟨_, _, rfl, rfl, rfl⟩) big 0 ((p.length : Int), 0) ⟨0, rfl, rfl, by omega⟩
  obtain ⟨o, ho, _⟩ := htot
  rcases hrel with ⟨o1, o2, h1, h2, e⟩ | ⟨h1, _⟩
  · subst e
    rw [h1] at ho
    cases ho
    unfold spec_LiveRight impl_LiveRight
    rw [h1, h2]
    cases o <;> exact ⟨_, rfl, rfl⟩
  · rw [h1] at ho; cases ho

theorem szLiveS_is (p : List TLive) (h : p.length ≤ 1048576) : ∃ r, laws_szLiveS p 1048576 = some r ∧ 0 ≤ r := by
  unfold laws_szLiveS
  rw [wrap_id (by omega) (by omega), decide_eq_false (by omega)]
  exact ⟨_, rfl, by omega⟩
theorem szLiveS_neg (p : List TLive) (h : ¬ p.length ≤ 1048576) (h' : p.length ≤ 9223372036854775807) : laws_szLiveS p 1048576 = some (-1) := by
  unfold laws_szLiveS
  rw [wrap_id (by omega) (by omega), decide_eq_true (by omega)]
  rfl

theorem liveRight_true (p : List TLive) (hmax : p.length ≤ maxLen) : laws_FnExactLiveRight p = some true := by
  unfold laws_FnExactLiveRight
  by_cases hp : p.length ≤ 1048576
  · obtain ⟨r, hr, h0⟩ := szLiveS_is p hp
    obtain ⟨b, h1, h2⟩ := liveRight_same p hp
    have hr0 : decide (r < 0) = false := decide_eq_false (by omega)
    simp [hr, hr0, toLiveS_is p hp, h1, h2, eqLiveS_self p hp]
  · simp only [maxLen] at hmax
    rw [szLiveS_neg p hp (by omega)]
    rfl

theorem opens_TLive : Opens Try.prog 56 kLive (fun _ => True) := by
  have h := OpensFs.cons (P := Try.prog) (f := Field.mk "User" 2 0 false "" "" 0) (off := 0) (sz := 1) rfl (by kernel_rfl) (Opens.int (t := 2) (kd := .i64) (by kernel_rfl))
    (OpensFs.cons (f := Field.mk "Till" 2 1 false "" "" 8) (sz := 1) rfl (by kernel_rfl) (Opens.int (t := 2) (kd := .i64) (by kernel_rfl)) OpensFs.nil)
  exact Opens.map (fun g => TLive.mk g.1 g.2.1) (Opens.struct (t := 56) (fs := #[_, _]) (by kernel_rfl) h (by kernel_rfl)) (fun _ => rfl) (fun _ _ => trivial)

set_option maxRecDepth 100000 in
theorem liveRight_lifted (os : Os) (started : os.Started) (H : Type) (enc : TypeId × Value → H) :
    ReturnsInHanded {} Try.checked os 3 .any (Rows.fnExactLiveRightSpec.pre6 enc Try.prog Try.f3 Rows.fnExactLiveRightRow.domain false) (Rows.fnExactLiveRightSpec.post enc Try.prog Try.f3 false true false false) :=
  law_lifted (C := Try.checked) (ts := [22]) (tb := 4) (by kernel_rfl) started (by kernel_rfl) Try.func3
    (ChangeSpec.witness6 (enc := enc) (C := Try.checked) false ⟨#[], #[.slice none 0 0], []⟩ 8 (by kernel_rfl) (by kernel_rfl) (by kernel_rfl) (by kernel_rfl))
    (by kernel_rfl) rfl (by kernel_rfl) rfl (by kernel_rfl) rfl (fun ds h => match ds, h with | [_], _ => rfl)
    (OpensAll.cons (d := .slice 56) (by kernel_rfl) rfl (Opens.slice (sz := 2) (by kernel_rfl) opens_TLive (by kernel_rfl) (by decide)) OpensAll.nil)
    (fun g hg => ok_laws_FnExactLiveRight g.1 true (liveRight_true g.1 hg.1.1))

theorem liveRight_holds : Rows.FnExactLiveRightSaid :=
  OpenClaim.holds_of_wide 3 Try.f3 rfl rfl rfl rfl rfl rfl rfl ⟨rfl, rfl, rfl, rfl, rfl⟩ rfl rfl rfl rfl rfl (by kernel_rfl) Try.func3 (by kernel_rfl)
    (of_decide_eq_true (by kernel_rfl)) (by unfold Func.isWrapper; first | (rw [if_pos (by decide +kernel)]; kernel_rfl) | (rw [if_neg (by decide +kernel)]; exact ⟨rfl, rfl⟩))
    (fun os started H enc _ => liveRight_lifted os started H enc)
end Go.Proofs.Ytiajhengifcljaa
