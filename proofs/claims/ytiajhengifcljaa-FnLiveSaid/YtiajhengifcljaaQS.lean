/- LiveSet: the law is true, whatever the input. -/
import Derived.Test.YtiajhengifcljaaQA
import Derived.Test.YtiajhengifcljaaO
set_option autoImplicit false
namespace Go.Proofs.Ytiajhengifcljaa
open Go Go.Abs

/-- The users of a row grow. -/
def Up (p : List TLive) : Prop := ∀ (i j : Nat) (e f : TLive), i < j → p[i]? = some e → p[j]? = some f → e.user < f.user

/-- A user's place in a row. -/
structure IsCut (p : List TLive) (u : Int) (k : Nat) : Prop where
  le : k ≤ p.length
  lt : ∀ j e, j < k → p[j]? = some e → e.user < u
  ge : ∀ j e, k ≤ j → p[j]? = some e → u ≤ e.user

theorem IsCut.uniq {p : List TLive} {u : Int} {k k' : Nat} (h : IsCut p u k) (h' : IsCut p u k') : k = k' := by
  have key : ∀ {a b : Nat}, IsCut p u a → IsCut p u b → ¬ a < b := fun {a b} ha hb hab => by
    have hle := hb.le
    have hx : p[a]? = some p[a] := List.getElem?_eq_getElem (by omega)
    have h1 := hb.lt a _ hab hx
    have h2 := ha.ge a _ (Nat.le_refl _) hx
    omega
  have := key h h'
  have := key h' h
  omega

/-- A user's entry set at a place. -/
def putAt (p : List TLive) (k : Nat) (u t : Int) : List TLive :=
  match p[k]? with
  | some e => if e.user = u then p.take k ++ [TLive.mk u (if e.till > t then e.till else t)] ++ p.drop (k + 1) else p.take k ++ [TLive.mk u t] ++ p.drop k
  | none => p.take k ++ [TLive.mk u t] ++ p.drop k

theorem putAt_len {p : List TLive} {k : Nat} (u t : Int) (hk : k ≤ p.length) : (putAt p k u t).length ≤ p.length + 1 := by
  unfold putAt
  split
  · split <;> simp <;> omega
  · simp; omega

theorem specScan (p : List TLive) (hp : p.length ≤ 1048576) (up : Up p) (u t : Int) : ∃ o, iter (fun z : Int × Int × Int => spec_l20Set_s6 p z.1 z.2.1 z.2.2) big (u, t, 0) = some o ∧ ∃ k : Nat, o = (u, t, (k : Int)) ∧ IsCut p u k := by
  refine iter_total (fun m (x : Int × Int × Int) => ∃ i : Nat, x = (u, t, (i : Int)) ∧ i + m = p.length ∧ ∀ j e, j < i → p[j]? = some e → e.user < u) ?_ big p.length _ ⟨0, rfl, by simp, fun j e hj => by omega⟩ (lt_big (by omega))
  rintro m x ⟨i, rfl, him, hlt⟩
  simp only
  unfold spec_l20Set_s6
  by_cases hi : i < p.length
  · have hx : p[i]? = some p[i] := List.getElem?_eq_getElem hi
    rw [decide_eq_true (by omega : (i : Int) < p.length)]
    simp only [cond_true, getI_nat hx, Option.bind_some, spec_l20Set_j5]
    by_cases hu : p[i].user < u
    · right
      rw [decide_eq_true hu, wrap_id (by omega) (by omega)]
      refine ⟨(u, t, ((i + 1 : Nat) : Int)), m - 1, by simp, by omega, i + 1, rfl, by omega, fun j e hj he => ?_⟩
      by_cases hji : j < i
      · exact hlt j e hji he
      · obtain rfl : j = i := by omega
        rw [hx] at he; cases he; exact hu
    · left
      rw [decide_eq_false hu]
      refine ⟨_, rfl, i, rfl, by omega, hlt, fun j e hj he => ?_⟩
      by_cases hji : i < j
      · have := up i j _ _ hji hx he; omega
      · obtain rfl : j = i := by omega
        rw [hx] at he; cases he; omega
  · left
    rw [decide_eq_false (by omega)]
    refine ⟨_, rfl, i, rfl, by omega, hlt, fun j e hj he => ?_⟩
    have := (List.getElem?_eq_some_iff.1 he).1
    omega

theorem spec_l20Set_is (p : List TLive) (hp : p.length ≤ 1048576) (up : Up p) (u t : Int) : ∃ k, IsCut p u k ∧ spec_l20Set p u t = some (putAt p k u t) := by
  obtain ⟨o, ho, k, rfl, hc⟩ := specScan p hp up u t
  refine ⟨k, hc, ?_⟩
  have hle := hc.le
  unfold spec_l20Set
  rw [ho]
  simp only [Option.bind_some, spec_l20Set_j4, sliceI_to hle]
  rw [chk_t (decide_eq_true (by simp; omega))]
  simp only [Option.bind_some]
  have j1 : ∀ (t' : Int) (k' : Nat), k' ≤ p.length → spec_l20Set_j1 p (p.take k) u t' (k' : Int) = some (p.take k ++ [TLive.mk u t'] ++ p.drop k') := fun t' k' hk' => by
    unfold spec_l20Set_j1
    rw [chk_t (decide_eq_true (by simp; omega))]
    simp only [Option.bind_some, sliceI_from hk']
    rw [chk_t (decide_eq_true (by simp; omega))]
    simp
  by_cases hk : k < p.length
  · have hx : p[k]? = some p[k] := List.getElem?_eq_getElem hk
    rw [decide_eq_true (by omega : (k : Int) < p.length)]
    simp only [cond_true, getI_nat hx, Option.bind_some, spec_l20Set_j3, putAt, hx]
    have e1 : IntKind.i64.wrap ((k : Int) + 1) = ((k + 1 : Nat) : Int) := by rw [wrap_id (by omega) (by omega)]; simp
    by_cases hu : p[k].user = u
    · rw [if_pos hu, hu, beq_self_eq_true, cond_true]
      by_cases ht : p[k].till > t
      · rw [decide_eq_true ht, if_pos ht, cond_true, spec_l20Set_j2, e1, j1 _ _ (by omega)]
      · rw [decide_eq_false ht, if_neg ht, cond_false, spec_l20Set_j2, e1, j1 _ _ (by omega)]
    · rw [if_neg hu, beq_false_of_ne hu, cond_false, j1 _ _ hle]
  · rw [decide_eq_false (by omega), cond_false]
    have hx : p[k]? = none := List.getElem?_eq_none (by omega)
    simp only [spec_l20Set_j3, putAt, hx, cond_false, j1 _ _ hle]

theorem setLive_1_is (a b : TLive) : impl_setLive_1 a b = some (if a.user < b.user then -1 else if a.user > b.user then 1 else 0) := by
  simp only [impl_setLive_1, cmp_Compare_int64, cmp_isNaN_int64, bne_self_eq_false, Option.bind_some, cond_false]
  by_cases h1 : a.user < b.user
  · simp [h1]
  · by_cases h2 : a.user > b.user <;> simp [h1, h2]

theorem implScan (p : List TLive) (hp : p.length ≤ 1048576) (up : Up p) (x : TLive) : ∃ o, iter (fun z : Int × Int => slices_BinarySearchFunc_impl_Live_impl_setLive_1_s3 p x z.1 z.2) big (0, (p.length : Int)) = some o ∧ ∃ k : Nat, o = (x.user, x.till, (p.length : Int), (k : Int)) ∧ IsCut p x.user k := by
  refine iter_total (fun m (z : Int × Int) => ∃ i j : Nat, z = ((i : Int), (j : Int)) ∧ i ≤ j ∧ j ≤ p.length ∧ m = j - i ∧ (∀ l e, l < i → p[l]? = some e → e.user < x.user) ∧ ∀ l e, j ≤ l → p[l]? = some e → x.user ≤ e.user) ?_ big p.length _
    ⟨0, p.length, rfl, by omega, by omega, by omega, fun l e hl => by omega, fun l e hl he => by have := (List.getElem?_eq_some_iff.1 he).1; omega⟩ (lt_big (by omega))
  rintro m z ⟨i, j, rfl, hij, hj, rfl, hlt, hge⟩
  simp only
  unfold slices_BinarySearchFunc_impl_Live_impl_setLive_1_s3
  by_cases h : i < j
  · right
    have e0 : IntKind.i64.wrap ((i : Int) + (j : Int)) = ((i + j : Nat) : Int) := by rw [wrap_id (by omega) (by omega)]; simp
    have e1 : IntKind.i64.wrap (shrI .u64 (IntKind.u64.wrap (IntKind.i64.wrap ((i : Int) + (j : Int)))) 1) = (((i + j) / 2 : Nat) : Int) := by
      rw [e0, shr1 (by omega), wrap_id (by omega) (by omega)]
    have hx : p[(i + j) / 2]? = some p[(i + j) / 2] := List.getElem?_eq_getElem (by omega)
    rw [decide_eq_true (by omega : (i : Int) < j), e1]
    simp only [cond_true, getI_nat hx, Option.bind_some, setLive_1_is]
    by_cases hu : p[(i + j) / 2].user < x.user
    · rw [if_pos hu]
      refine ⟨_, j - ((i + j) / 2 + 1), rfl, by omega, (i + j) / 2 + 1, j, ?_, by omega, hj, rfl, fun l e hl he => ?_, hge⟩
      · rw [wrap_id (by omega) (by omega)]; simp
      · by_cases hl2 : l < (i + j) / 2
        · have := up _ _ _ _ hl2 he hx; omega
        · obtain rfl : l = (i + j) / 2 := by omega
          rw [hx] at he; cases he; exact hu
    · rw [if_neg hu]
      refine ⟨((i : Int), (((i + j) / 2 : Nat) : Int)), (i + j) / 2 - i, ?_, by omega, i, (i + j) / 2, rfl, by omega, by omega, rfl, hlt, fun l e hl he => ?_⟩
      · by_cases h2 : p[(i + j) / 2].user > x.user
        · rw [if_pos h2]; rfl
        · rw [if_neg h2]; rfl
      · by_cases hl2 : (i + j) / 2 < l
        · have := up _ _ _ _ hl2 hx he; omega
        · obtain rfl : l = (i + j) / 2 := by omega
          rw [hx] at he; cases he; omega
  · left
    rw [decide_eq_false (by omega)]
    obtain rfl : i = j := by omega
    exact ⟨_, rfl, i, rfl, hj, hlt, hge⟩

theorem impl_setLive_is (p : List TLive) (hp : p.length ≤ 1048576) (up : Up p) (x : TLive) (k : Nat) (hk : IsCut p x.user k) : impl_setLive p x = some (putAt p k x.user x.till) := by
  obtain ⟨o, ho, k', rfl, hc⟩ := implScan p hp up x
  obtain rfl := hk.uniq hc
  have hle := hc.le
  unfold impl_setLive slices_BinarySearchFunc_impl_Live_impl_setLive_1
  rw [ho]
  simp only [Option.bind_some, slices_BinarySearchFunc_impl_Live_impl_setLive_1_j2]
  have hins : slices_Insert_impl_Live p (k : Int) [x] = some (p.take k ++ [x] ++ p.drop k) := by
    unfold slices_Insert_impl_Live insI
    rw [if_pos ⟨by omega, by omega, by simp, by simp; omega⟩]
    simp
  by_cases h : k < p.length
  · have hx : p[k]? = some p[k] := List.getElem?_eq_getElem h
    rw [decide_eq_true (by omega : (k : Int) < p.length)]
    simp only [cond_true, getI_nat hx, Option.bind_some, setLive_1_is, slices_BinarySearchFunc_impl_Live_impl_setLive_1_j1, putAt, hx]
    have hge := hc.ge k _ (Nat.le_refl _) hx
    by_cases hu : p[k].user = x.user
    · rw [if_neg (by omega), if_neg (by omega), if_pos hu]
      simp only [beq_self_eq_true, cond_true, Int.toNat_natCast]
      rw [List.set_eq_take_append_cons_drop, if_pos h, hu]
      by_cases ht : x.till > p[k].till
      · rw [if_pos ht, if_neg (by omega)]; simp
      · rw [if_neg ht]
        by_cases ht2 : p[k].till > x.till
        · rw [if_pos ht2]; simp
        · rw [if_neg ht2, show p[k].till = x.till from by omega]; simp
    · rw [if_neg (by omega), if_pos (by omega), if_neg hu]
      simp only [show ((1 : Int) == 0) = false from rfl, cond_false, hins, Option.bind_some]
  · rw [decide_eq_false (by omega)]
    have hx : p[k]? = none := List.getElem?_eq_none (by omega)
    simp only [cond_false, Option.bind_some, slices_BinarySearchFunc_impl_Live_impl_setLive_1_j1, putAt, hx, hins]

/-- What is right is in order. -/
theorem right_good (p : List TLive) (hp : p.length ≤ 1048576) (h : spec_LiveRight p = some true) : ∀ i e, p[i]? = some e → badAt p i e = false := by
  obtain ⟨o, ho, hq⟩ := iter_total (step := spec_LiveRight_s3 p) (p := fun o => o = .inr () → ∀ i e, p[i]? = some e → badAt p i e = false) (fun m (x : Int) => ∃ i : Nat, x = i ∧ i + m = p.length ∧ ∀ j e, j < i → p[j]? = some e → badAt p j e = false) (by
    rintro m x ⟨i, rfl, him, hpre⟩
    by_cases hi : i < p.length
    · have hpi : p[i]? = some p[i] := List.getElem?_eq_getElem hi
      rw [spec_step p hp i _ hpi]
      cases hb : badAt p i p[i] with
      | true => exact .inl ⟨_, rfl, (by intro h; cases h)⟩
      | false =>
        refine .inr ⟨i + 1, m - 1, by rw [spec_LiveRight_j2, wrap_id (by omega) (by omega)]; rfl, by omega, i + 1, by simp, by omega, fun j e hj he => ?_⟩
        by_cases hji : j < i
        · exact hpre j e hji he
        · obtain rfl : j = i := by omega
          rw [hpi] at he; cases he; exact hb
    · left
      unfold spec_LiveRight_s3
      rw [decide_eq_false (by omega)]
      exact ⟨_, rfl, fun _ j e he => hpre j e (by have := (List.getElem?_eq_some_iff.1 he).1; omega) he⟩) big p.length 0 ⟨0, rfl, by simp, fun j e hj => by omega⟩ (lt_big (by omega))
  unfold spec_LiveRight at h
  rw [ho] at h
  cases o with
  | inl b =>
    exfalso
    have hbf : b = true := Option.some.inj h
    subst hbf
    obtain ⟨o2, ho2, hq2⟩ := iter_total (step := spec_LiveRight_s3 p) (p := fun o => ∀ b, o = .inl b → b = false) (fun m (x : Int) => ∃ i : Nat, x = i ∧ i + m = p.length) (by
      rintro m x ⟨i, rfl, him⟩
      by_cases hi : i < p.length
      · have hpi : p[i]? = some p[i] := List.getElem?_eq_getElem hi
        rw [spec_step p hp i _ hpi]
        cases badAt p i p[i] with
        | true => exact .inl ⟨_, rfl, (by intro b h; cases h; rfl)⟩
        | false => exact .inr ⟨i + 1, m - 1, by rw [spec_LiveRight_j2, wrap_id (by omega) (by omega)]; rfl, by omega, i + 1, by simp, by omega⟩
      · left
        unfold spec_LiveRight_s3
        rw [decide_eq_false (by omega)]
        exact ⟨_, rfl, (by intro b h; cases h)⟩) big p.length 0 ⟨0, rfl, by simp⟩ (lt_big (by omega))
    rw [ho] at ho2
    cases ho2
    exact absurd (hq2 true rfl) (by decide)
  | inr _ => exact hq rfl

theorem right_up (p : List TLive) (hp : p.length ≤ 1048576) (h : spec_LiveRight p = some true) : Up p := by
  have hg := right_good p hp h
  have h1 : ∀ i e f, p[i]? = some e → p[i + 1]? = some f → e.user < f.user := fun i e f he hf => by
    have := hg (i + 1) f hf
    simp [badAt, he] at this
    omega
  intro i j e f hij he hf
  obtain ⟨d, rfl⟩ : ∃ d, j = i + d + 1 := ⟨j - i - 1, by omega⟩
  induction d generalizing f with
  | zero => exact h1 i e f he hf
  | succ d ih =>
    have hlt := (List.getElem?_eq_some_iff.1 hf).1
    have hm : p[i + d + 1]? = some p[i + d + 1] := List.getElem?_eq_getElem (by omega)
    have a := ih p[i + d + 1] (by omega) hm
    have b := h1 (i + d + 1) _ f hm (by rw [← hf]; rfl)
    omega

theorem isUser_same (u : Int) : spec_l02User u = some (decide (1 ≤ u ∧ u ≤ 6)) ∧ impl_isUser u = some (decide (1 ≤ u ∧ u ≤ 6)) := by
  simp [spec_l02User, impl_isUser, isIn_is]
theorem isTime_same (u : Int) : spec_l02Time u = some (decide (0 ≤ u ∧ u ≤ 1000000)) ∧ impl_isTime u = some (decide (0 ≤ u ∧ u ≤ 1000000)) := by
  simp [spec_l02Time, impl_isTime, isIn_is]

theorem liveSet_same (p : List TLive) (u t : Int) (hp : p.length ≤ 1048576) : ∃ r, spec_LiveSet p u t = some r ∧ impl_LiveSet p u t = some r ∧ r.row.length ≤ 1048576 := by
  unfold spec_LiveSet impl_LiveSet
  by_cases h4 : p.length ≤ 400
  · rw [decide_eq_false (by omega)]
    obtain ⟨b, hs, hi⟩ := liveRight_same p hp
    simp only [cond_false, hs, hi, Option.bind_some, isUser_same, isTime_same]
    cases b with
    | false => exact ⟨_, rfl, rfl, by simp⟩
    | true =>
      simp only [cond_true]
      by_cases hu : 1 ≤ u ∧ u ≤ 6
      · by_cases ht : 0 ≤ t ∧ t ≤ 1000000
        · obtain ⟨k, hk, hsp⟩ := spec_l20Set_is p hp (right_up p hp hs) u t
          have him := impl_setLive_is p hp (right_up p hp hs) (TLive.mk u t) k hk
          rw [decide_eq_true hu, decide_eq_true ht]
          have hcl : slices_Clone_impl_Live p = some p := by
            unfold slices_Clone_impl_Live
            rw [chk_t (decide_eq_true (by omega))]; rfl
          simp only [cond_true, Bool.not_true, spec_LiveSet_j1, impl_LiveSet_j1, cond_false, hsp, hcl, Option.bind_some, him]
          exact ⟨_, rfl, rfl, by have := putAt_len (p := p) u t hk.le; simp only; omega⟩
        · rw [decide_eq_true hu, decide_eq_false ht]
          exact ⟨_, rfl, rfl, by simp⟩
      · rw [decide_eq_false hu]
        exact ⟨_, rfl, rfl, by simp⟩
  · rw [decide_eq_true (by omega)]
    exact ⟨_, rfl, rfl, by simp⟩

theorem markLiveS_is (p : List TLive) (hp : p.length ≤ 1048576) : ∃ q : List TLive, laws_markLiveS p 1 = some (1 + 2 * (p.length : Int), q) ∧ q.length = p.length ∧ ∀ j : Nat, j < p.length → q[j]? = some (TLive.mk (1 + 2 * (j : Int)) (2 + 2 * (j : Int))) := by
  have h := iter_total (step := fun z : List TLive × Int × Int => laws_markLiveS_s2 z.1 z.2.1 z.2.2) (p := fun o : Int × List TLive => o.1 = 1 + 2 * (p.length : Int) ∧ o.2.length = p.length ∧ ∀ j : Nat, j < p.length → o.2[j]? = some (TLive.mk (1 + 2 * (j : Int)) (2 + 2 * (j : Int))))
    (fun m (x : List TLive × Int × Int) => ∃ i : Nat, x.2.2 = i ∧ i + m = p.length ∧ x.1.length = p.length ∧ x.2.1 = 1 + 2 * (i : Int) ∧ ∀ j : Nat, j < i → x.1[j]? = some (TLive.mk (1 + 2 * (j : Int)) (2 + 2 * (j : Int)))) (by
    rintro m ⟨l, k, x⟩ ⟨i, hx, him, hl, hk, hpre⟩
    simp only at hx hl hk hpre ⊢
    subst hx
    subst hk
    unfold laws_markLiveS_s2
    by_cases hi : i < p.length
    · right
      have hli : l[i]? = some l[i] := List.getElem?_eq_getElem (by omega)
      have hli2 : (l.set i (TLive.mk (1 + 2 * (i : Int)) l[i].till))[i]? = some (TLive.mk (1 + 2 * (i : Int)) l[i].till) := by
        rw [List.getElem?_set]; simp; omega
      rw [decide_eq_true (by omega : (i : Int) < l.length)]
      simp only [cond_true, getI_nat hli, Option.bind_some, Int.toNat_natCast, getI_nat hli2]
      have e1 : IntKind.i64.wrap (1 + 2 * (i : Int) + 1) = 2 + 2 * (i : Int) := by rw [wrap_id (by omega) (by omega)]; omega
      refine ⟨_, m - 1, rfl, by omega, i + 1, ?_, by omega, by simp [hl], ?_, fun j hj => ?_⟩
      · simp only; rw [wrap_id (by omega) (by omega)]; simp
      · simp only; rw [e1, wrap_id (by omega) (by omega)]; omega
      · simp only [List.getElem?_set, e1, List.length_set]
        by_cases h1 : i = j
        · subst h1
          rw [if_pos rfl, if_pos (by omega)]
        · rw [if_neg h1, if_neg h1]
          exact hpre j (by omega)
    · left
      rw [decide_eq_false (by omega)]
      have hip : i = p.length := by omega
      subst hip
      exact ⟨_, rfl, rfl, hl, hpre⟩) big p.length (p, 1, 0) ⟨0, rfl, by simp, rfl, by simp, fun j hj => by omega⟩ (lt_big (by omega))
  obtain ⟨⟨a, q⟩, ho, h1, h2, h3⟩ := h
  simp only at h1 h2 h3
  subst h1
  refine ⟨q, ?_, h2, h3⟩
  unfold laws_markLiveS
  rw [ho]
  rfl

theorem heldLiveS_is (q : List TLive) (hp : q.length ≤ 1048576) (hq : ∀ j : Nat, j < q.length → q[j]? = some (TLive.mk (1 + 2 * (j : Int)) (2 + 2 * (j : Int)))) : laws_heldLiveS q 1 = some (1 + 2 * (q.length : Int)) := by
  unfold laws_heldLiveS
  rw [iter_is (o := .inr (1 + 2 * (q.length : Int))) (fun m (x : Int × Int) => ∃ i : Nat, x.2 = i ∧ i + m = q.length ∧ x.1 = 1 + 2 * (i : Int)) ?_ (m := q.length) (x := (1, 0)) ⟨0, rfl, by simp, by simp⟩ (lt_big (by omega))]
  · rfl
  · rintro m ⟨k, x⟩ ⟨i, hx, him, hk⟩
    simp only at hx hk ⊢
    subst hx
    subst hk
    unfold laws_heldLiveS_s2
    by_cases hi : i < q.length
    · right
      have e1 : IntKind.i64.wrap (1 + 2 * (i : Int) + 1) = 2 + 2 * (i : Int) := by rw [wrap_id (by omega) (by omega)]; omega
      refine ⟨(1 + 2 * (i : Int) + 2, (i : Int) + 1), m - 1, ?_, by omega, i + 1, by simp, by omega, by simp only; omega⟩
      rw [decide_eq_true (by omega : (i : Int) < q.length)]
      simp only [cond_true, getI_nat (hq i hi), Option.bind_some, bne_self_eq_false, cond_false, e1]
      rw [wrap_id (by omega) (by omega), wrap_id (by omega) (by omega), show 2 + 2 * (i : Int) + 1 = 1 + 2 * (i : Int) + 2 from by omega]
    · left
      rw [decide_eq_false (by omega)]
      have hip : i = q.length := by omega
      subst hip
      rfl

theorem eqLiveOut_self (r : TLiveOut) (h : r.row.length ≤ 1048576) : laws_eqLiveOut r r = some true := by
  simp [laws_eqLiveOut, eqLiveS_self _ h]

/-- The marks laid in a result are held. -/
theorem held_marks (r : TLiveOut) (h : r.row.length ≤ 1048576) : ∃ q : List TLive, laws_markLiveOut r 1 = some (1 + 2 * (r.row.length : Int), q) ∧ ∀ c, laws_heldLiveOut (TLiveOut.mk q c) 1 = some (1 + 2 * (r.row.length : Int)) := by
  obtain ⟨q, hq, hl, hj⟩ := markLiveS_is r.row h
  refine ⟨q, by simp [laws_markLiveOut, hq], fun c => ?_⟩
  have := heldLiveS_is q (by omega) (by rw [hl]; exact hj)
  rw [hl] at this
  simp only [laws_heldLiveOut, this, Option.bind_some]
  rw [decide_eq_false (by omega)]
  rfl

theorem liveSet_true (p : List TLive) (u t : Int) (hmax : p.length ≤ maxLen) : laws_FnExactLiveSet p u t = some true := by
  unfold laws_FnExactLiveSet
  by_cases hp : p.length ≤ 1048576
  · obtain ⟨r, hr, h0⟩ := szLiveS_is p hp
    obtain ⟨l, h1, h2, hl⟩ := liveSet_same p u t hp
    obtain ⟨m, hm, hm0⟩ := markLiveS_total p hp
    obtain ⟨q, hq, hh⟩ := held_marks l hl
    have hr0 : decide (r < 0) = false := decide_eq_false (by omega)
    have hm1 : decide (m.1 < 0) = false := decide_eq_false (by omega)
    have hl0 : decide (1 + 2 * (l.row.length : Int) < 0) = false := decide_eq_false (by omega)
    have e : TLiveOut.mk l.row l.code = l := rfl
    simp [hr, hr0, toLiveS_is p hp, h1, h2, eqLiveS_self p hp, eqLiveOut_self l hl, hm, hm1, laws_FnExactLiveSet_j1, e, hq, hh, hl0]
  · simp only [maxLen] at hmax
    rw [szLiveS_neg p hp (by omega)]
    rfl

set_option maxRecDepth 100000 in
theorem liveSet_lifted (os : Os) (started : os.Started) (H : Type) (enc : TypeId × Value → H) :
    ReturnsInHanded {} Try.checked os 6 .any (Rows.fnExactLiveSetSpec.pre6 enc Try.prog Try.f6 Rows.fnExactLiveSetRow.domain false) (Rows.fnExactLiveSetSpec.post enc Try.prog Try.f6 false true false false) :=
  law_lifted (C := Try.checked) (ts := [22, 2, 2]) (tb := 4) (by kernel_rfl) started (by kernel_rfl) Try.func6
    (ChangeSpec.witness6 (enc := enc) (C := Try.checked) false ⟨#[], #[.slice none 0 0, .int .i64 0, .int .i64 0], []⟩ 8 (by kernel_rfl) (by kernel_rfl) (by kernel_rfl) (by kernel_rfl))
    (by kernel_rfl) rfl (by kernel_rfl) rfl (by kernel_rfl) rfl (fun ds h => match ds, h with | [_, _, _], _ => rfl)
    (OpensAll.cons (d := .slice 56) (by kernel_rfl) rfl (Opens.slice (sz := 2) (by kernel_rfl) opens_TLive (by kernel_rfl) (by decide)) (OpensAll.cons (d := .int .i64) (by kernel_rfl) rfl (Opens.int (by kernel_rfl)) (OpensAll.cons (d := .int .i64) (by kernel_rfl) rfl (Opens.int (by kernel_rfl)) OpensAll.nil)))
    (fun g hg => ok_laws_FnExactLiveSet g.1 g.2.1 g.2.2.1 true (liveSet_true g.1 g.2.1 g.2.2.1 hg.1.1))

theorem liveSet_holds : Rows.FnExactLiveSetSaid :=
  OpenClaim.holds_of_wide 6 Try.f6 rfl rfl rfl rfl rfl rfl rfl ⟨rfl, rfl, rfl, rfl, rfl⟩ rfl rfl rfl rfl rfl (by kernel_rfl) Try.func6 (by kernel_rfl)
    (of_decide_eq_true (by kernel_rfl)) (by unfold Func.isWrapper; first | (rw [if_pos (by decide +kernel)]; kernel_rfl) | (rw [if_neg (by decide +kernel)]; exact ⟨rfl, rfl⟩))
    (fun os started H enc _ => liveSet_lifted os started H enc)
end Go.Proofs.Ytiajhengifcljaa
