/- LiveJoin: the law is true, whatever the input. -/
import Derived.Test.YtiajhengifcljaaQS
set_option autoImplicit false
namespace Go.Proofs.Ytiajhengifcljaa
open Go Go.Abs

def mx (a b : Int) : Int := if a > b then a else b
theorem mx_comm (a b : Int) : mx a b = mx b a := by unfold mx; split <;> split <;> omega

/-- An entry set in a row. -/
def ins : List TLive → TLive → List TLive
  | [], x => [x]
  | e :: p, x => if e.user < x.user then e :: ins p x else if e.user = x.user then TLive.mk x.user (mx e.till x.till) :: p else x :: e :: p

theorem putAt_ins (u t : Int) : ∀ (p : List TLive) (k : Nat), IsCut p u k → putAt p k u t = ins p (TLive.mk u t)
  | [], k, h => by
    obtain rfl : k = 0 := by have := h.le; simpa using this
    rfl
  | e :: p, k, h => by
    unfold ins
    by_cases hu : e.user < u
    · rw [if_pos hu]
      cases k with
      | zero => have := h.ge 0 e (Nat.le_refl _) rfl; omega
      | succ k =>
        have hc : IsCut p u k := ⟨by have := h.le; simpa using this, fun j f hj hf => h.lt (j + 1) f (by omega) (by simpa using hf), fun j f hj hf => h.ge (j + 1) f (by omega) (by simpa using hf)⟩
        have ih := putAt_ins u t p k hc
        rw [← ih]
        unfold putAt
        simp only [List.getElem?_cons_succ, List.take_succ_cons, List.drop_succ_cons]
        cases p[k]? with
        | none => rfl
        | some f => simp only; split <;> rfl
    · rw [if_neg hu]
      cases k with
      | succ k => have := h.lt 0 e (by omega) rfl; omega
      | zero =>
        unfold putAt
        simp only [List.getElem?_cons_zero, List.take_zero, List.drop_zero, List.nil_append, mx]
        split
        · rfl
        · rfl

def Srt (p : List TLive) : Prop := p.Pairwise fun a b => a.user < b.user

theorem up_srt {p : List TLive} : Up p ↔ Srt p := by
  unfold Srt
  rw [List.pairwise_iff_getElem]
  constructor
  · intro h i j hi hj hij
    exact h i j _ _ hij (List.getElem?_eq_getElem hi) (List.getElem?_eq_getElem hj)
  · intro h i j e f hij he hf
    obtain ⟨hi, rfl⟩ := List.getElem?_eq_some_iff.1 he
    obtain ⟨hj, rfl⟩ := List.getElem?_eq_some_iff.1 hf
    exact h i j hi hj hij

theorem mem_ins {x b : TLive} : ∀ {p : List TLive}, b ∈ ins p x → b ∈ p ∨ b.user = x.user
  | [], h => by
    rw [ins, List.mem_singleton] at h
    exact .inr (by rw [h])
  | e :: p, h => by
    unfold ins at h
    split at h
    · rcases List.mem_cons.1 h with rfl | h
      · exact .inl (by simp)
      · exact (mem_ins h).imp (fun h => by simp [h]) id
    · split at h
      · rcases List.mem_cons.1 h with rfl | h
        · exact .inr rfl
        · exact .inl (by simp [h])
      · rcases List.mem_cons.1 h with rfl | h
        · exact .inr rfl
        · exact .inl h

theorem ins_srt {x : TLive} : ∀ {p : List TLive}, Srt p → Srt (ins p x)
  | [], _ => List.pairwise_singleton _ _
  | e :: p, h => by
    obtain ⟨h1, h2⟩ := List.pairwise_cons.1 h
    unfold ins
    split
    · rename_i hlt
      refine List.pairwise_cons.2 ⟨fun b hb => ?_, ins_srt h2⟩
      rcases mem_ins hb with hb | hb
      · exact h1 b hb
      · omega
    · split
      · rename_i he
        exact List.pairwise_cons.2 ⟨fun b hb => by have := h1 b hb; simp only; omega, h2⟩
      · rename_i hn hne
        refine List.pairwise_cons.2 ⟨fun b hb => ?_, h⟩
        rcases List.mem_cons.1 hb with rfl | hb
        · omega
        · have := h1 b hb; omega

theorem ins_len {x : TLive} : ∀ {p : List TLive}, (ins p x).length ≤ p.length + 1
  | [] => by simp [ins]
  | e :: p => by
    unfold ins
    have := @ins_len x p
    split
    · simp; omega
    · split <;> simp

theorem spec_set_ins (p : List TLive) (hp : p.length ≤ 1048576) (h : Srt p) (u t : Int) : spec_l20Set p u t = some (ins p (TLive.mk u t)) := by
  obtain ⟨k, hk, hs⟩ := spec_l20Set_is p hp (up_srt.2 h) u t
  rw [hs, putAt_ins u t p k hk]
theorem impl_set_ins (p : List TLive) (hp : p.length ≤ 1048576) (h : Srt p) (x : TLive) : impl_setLive p x = some (ins p x) := by
  obtain ⟨k, hk, _⟩ := spec_l20Set_is p hp (up_srt.2 h) x.user x.till
  rw [impl_setLive_is p hp (up_srt.2 h) x k hk, putAt_ins x.user x.till p k hk]

theorem spec_join_loop (p b : List TLive) (hp : p.length ≤ 400) (hb : b.length ≤ 400) (h : Srt p) (c : Int) : iter (fun z : List TLive × Int => spec_LiveJoin_s2 b c z.1 z.2) big (p, 0) = some (c, b.foldl ins p) := by
  have h1 := iter_forL (xs := b) (step := fun z : List TLive × Int => spec_LiveJoin_s2 b c z.1 z.2) (σ := List TLive) (ω := Int × List TLive) (f := fun _ s x => some (.inl (ins s x))) (k := big) (s := p) (fun i s => (s, (i : Int))) (fun s => (c, s))
    (fun i s => Srt s ∧ s.length ≤ 400 + i) (fun i s x ⟨hs, hl⟩ hx => by
      have hi : i < b.length := (List.getElem?_eq_some_iff.1 hx).1
      simp only
      unfold spec_LiveJoin_s2
      rw [decide_eq_true (by omega : (i : Int) < b.length)]
      simp only [cond_true, getI_nat hx, Option.bind_some, spec_set_ins s (by omega) hs, Option.map_some]
      rw [wrap_id (by omega) (by omega)]
      simp) (fun i s x s' ⟨hs, hl⟩ hx he => by
      cases he
      exact ⟨ins_srt hs, by have := @ins_len x s; omega⟩) (fun s _ => by
      simp only
      unfold spec_LiveJoin_s2
      rw [decide_eq_false (by omega)]
      rfl) ⟨h, by omega⟩ (lt_big (by omega))
  have h2 := forL_fold (g := ins) (ω := Int × List TLive) (f := fun _ s x => some (.inl (ins s x))) (fun _ _ => True) b 0 p trivial fun _ _ _ _ _ => ⟨rfl, trivial⟩
  rw [h2] at h1
  exact h1

theorem impl_join_loop (p b : List TLive) (hp : p.length ≤ 400) (hb : b.length ≤ 400) (h : Srt p) (c : Int) : iter (fun z : List TLive × Int => impl_LiveJoin_s2 b c z.1 z.2) big (p, 0) = some (c, b.foldl ins p) := by
  have h1 := iter_forL (xs := b) (step := fun z : List TLive × Int => impl_LiveJoin_s2 b c z.1 z.2) (σ := List TLive) (ω := Int × List TLive) (f := fun _ s x => some (.inl (ins s x))) (k := big) (s := p) (fun i s => (s, (i : Int))) (fun s => (c, s))
    (fun i s => Srt s ∧ s.length ≤ 400 + i) (fun i s x ⟨hs, hl⟩ hx => by
      have hi : i < b.length := (List.getElem?_eq_some_iff.1 hx).1
      simp only
      unfold impl_LiveJoin_s2
      rw [decide_eq_true (by omega : (i : Int) < b.length)]
      simp only [cond_true, getI_nat hx, Option.bind_some, impl_set_ins s (by omega) hs, Option.map_some]
      rw [wrap_id (by omega) (by omega)]
      simp) (fun i s x s' ⟨hs, hl⟩ hx he => by
      cases he
      exact ⟨ins_srt hs, by have := @ins_len x s; omega⟩) (fun s _ => by
      simp only
      unfold impl_LiveJoin_s2
      rw [decide_eq_false (by omega)]
      rfl) ⟨h, by omega⟩ (lt_big (by omega))
  have h2 := forL_fold (g := ins) (ω := Int × List TLive) (f := fun _ s x => some (.inl (ins s x))) (fun _ _ => True) b 0 p trivial fun _ _ _ _ _ => ⟨rfl, trivial⟩
  rw [h2] at h1
  exact h1

theorem fold_len : ∀ (b p : List TLive), (b.foldl ins p).length ≤ p.length + b.length
  | [], p => by simp
  | x :: b, p => by
    have := fold_len b (ins p x)
    have := @ins_len x p
    simp only [List.foldl_cons, List.length_cons]
    omega

/-- What joining answers. -/
def joinOf (a b : List TLive) (ra rb : Bool) : TLiveOut :=
  if a.length > 400 ∨ b.length > 400 then TLiveOut.mk [] 2 else if ra = true ∧ rb = true then TLiveOut.mk (b.foldl ins a) 0 else TLiveOut.mk [] 1

theorem liveJoin_same (a b : List TLive) (ha : a.length ≤ 1048576) (hb : b.length ≤ 1048576) : ∃ ra rb, spec_LiveRight a = some ra ∧ spec_LiveRight b = some rb ∧ spec_LiveJoin a b = some (joinOf a b ra rb) ∧ impl_LiveJoin a b = some (joinOf a b ra rb) := by
  obtain ⟨ra, hsa, hia⟩ := liveRight_same a ha
  obtain ⟨rb, hsb, hib⟩ := liveRight_same b hb
  refine ⟨ra, rb, hsa, hsb, ?_⟩
  unfold spec_LiveJoin impl_LiveJoin joinOf
  by_cases h1 : a.length ≤ 400
  · rw [decide_eq_false (by omega : ¬ (a.length : Int) > 400)]
    by_cases h2 : b.length ≤ 400
    · rw [decide_eq_false (by omega : ¬ (b.length : Int) > 400), if_neg (by omega)]
      simp only [cond_false, spec_LiveJoin_j4, impl_LiveJoin_j4, hsa, hsb, hia, hib, Option.bind_some]
      cases ra with
      | false => exact ⟨rfl, rfl⟩
      | true =>
        simp only [cond_true]
        cases rb with
        | false => exact ⟨rfl, rfl⟩
        | true =>
          have hs := up_srt.1 (right_up a ha hsa)
          simp only [Bool.not_true, spec_LiveJoin_j3, impl_LiveJoin_j3, cond_false, slices_Clone_impl_Live, List.nil_append]
          rw [chk_t (decide_eq_true (by simp; omega)), chk_t (decide_eq_true (by omega))]
          simp only [Option.bind_some]
          rw [spec_join_loop a b h1 h2 hs, impl_join_loop a b h1 h2 hs]
          exact ⟨rfl, rfl⟩
    · rw [decide_eq_true (by omega : (b.length : Int) > 400), if_pos (by omega)]
      exact ⟨rfl, rfl⟩
  · rw [decide_eq_true (by omega : (a.length : Int) > 400), if_pos (by omega)]
    exact ⟨rfl, rfl⟩

theorem joinOf_len (a b : List TLive) (ra rb : Bool) : (joinOf a b ra rb).row.length ≤ 1048576 := by
  unfold joinOf
  split
  · simp
  · split
    · have := fold_len b a; simp only; omega
    · simp

theorem szLiveS_left (p : List TLive) (n : Int) (hn : 0 ≤ n) (hn' : n ≤ 1048576) (h' : p.length ≤ 9223372036854775807) : ∃ r, laws_szLiveS p n = some r ∧ (p.length ≤ n ∧ 0 ≤ r ∧ r ≤ n ∨ r = -1) := by
  unfold laws_szLiveS
  rw [wrap_id (by omega) (by omega)]
  by_cases h : n - (p.length : Int) < 0
  · rw [decide_eq_true h]; exact ⟨_, rfl, .inr rfl⟩
  · rw [decide_eq_false h]; exact ⟨_, rfl, .inl ⟨by omega, by omega, by omega⟩⟩

theorem markLiveS_from (p : List TLive) (hp : p.length ≤ 1048576) (n : Int) (hn : 0 ≤ n) (hn' : n ≤ 4194304) : ∃ r, laws_markLiveS p n = some r ∧ 0 ≤ r.1 := by
  have h := iter_total (step := fun z : List TLive × Int × Int => laws_markLiveS_s2 z.1 z.2.1 z.2.2) (p := fun o : Int × List TLive => 0 ≤ o.1)
    (fun m (x : List TLive × Int × Int) => ∃ i : Nat, x.2.2 = i ∧ i + m = p.length ∧ x.1.length = p.length ∧ x.2.1 = n + 2 * (i : Int)) (by
    rintro m ⟨l, k, x⟩ ⟨i, hx, him, hl, hk⟩
    simp only at hx hl hk ⊢
    subst hx
    subst hk
    unfold laws_markLiveS_s2
    by_cases hi : i < p.length
    · right
      have hli : l[i]? = some l[i] := List.getElem?_eq_getElem (by omega)
      have hli2 : (l.set i (TLive.mk (n + 2 * (i : Int)) l[i].till))[i]? = some (TLive.mk (n + 2 * (i : Int)) l[i].till) := by
        rw [List.getElem?_set]; simp; omega
      rw [decide_eq_true (by omega : (i : Int) < l.length)]
      simp only [cond_true, getI_nat hli, Option.bind_some, Int.toNat_natCast, getI_nat hli2]
      refine ⟨_, m - 1, rfl, by omega, i + 1, ?_, by omega, by simp [hl], ?_⟩
      · simp only; rw [wrap_id (by omega) (by omega)]; simp
      · simp only; rw [wrap_id (n := n + 2 * (i : Int) + 1) (by omega) (by omega), wrap_id (by omega) (by omega)]; omega
    · left
      rw [decide_eq_false (by omega)]
      exact ⟨_, rfl, by simp only; omega⟩) big p.length (p, n, 0) ⟨0, rfl, by simp, rfl, by simp⟩ (lt_big (by omega))
  obtain ⟨o, ho, h0⟩ := h
  unfold laws_markLiveS
  rw [ho]
  exact ⟨_, rfl, h0⟩

theorem liveJoin_true (a b : List TLive) (ha : a.length ≤ maxLen) (hb : b.length ≤ maxLen) : laws_FnExactLiveJoin a b = some true := by
  simp only [maxLen] at ha hb
  unfold laws_FnExactLiveJoin
  obtain ⟨r, hr, h0⟩ := szLiveS_left a 1048576 (by omega) (by omega) (by omega)
  rw [hr, Option.bind_some]
  rcases h0 with ⟨hal, h0, h0'⟩ | rfl
  · rw [decide_eq_false (by omega), cond_false]
    obtain ⟨r2, hr2, h2⟩ := szLiveS_left b r h0 h0' (by omega)
    rw [hr2, Option.bind_some]
    rcases h2 with ⟨hbl, h2, _⟩ | rfl
    · have hap : a.length ≤ 1048576 := by omega
      have hbp : b.length ≤ 1048576 := by omega
      obtain ⟨ra, rb, _, _, hs, hi⟩ := liveJoin_same a b hap hbp
      have hl := joinOf_len a b ra rb
      obtain ⟨m, hm, hm1, _⟩ := markLiveS_is a hap
      obtain ⟨m2, hm2, hm3⟩ := markLiveS_from b hbp (1 + 2 * (a.length : Int)) (by omega) (by omega)
      obtain ⟨q, hq, hh⟩ := held_marks (joinOf a b ra rb) hl
      have hr0 : decide (r2 < 0) = false := decide_eq_false (by omega)
      have hm4 : decide (m2.1 < 0) = false := decide_eq_false (by omega)
      have hl0 : decide (1 + 2 * ((joinOf a b ra rb).row.length : Int) < 0) = false := decide_eq_false (by omega)
      have e : TLiveOut.mk (joinOf a b ra rb).row (joinOf a b ra rb).code = joinOf a b ra rb := rfl
      simp [hr0, toLiveS_is a hap, toLiveS_is b hbp, hs, hi, eqLiveS_self a hap, eqLiveS_self b hbp, eqLiveOut_self _ hl, hm, hm2, hm4, laws_FnExactLiveJoin_j1, e, hq, hh, hl0]
    · rfl
  · rfl

set_option maxRecDepth 100000 in
theorem liveJoin_lifted (os : Os) (started : os.Started) (H : Type) (enc : TypeId × Value → H) :
    ReturnsInHanded {} Try.checked os 7 .any (Rows.fnExactLiveJoinSpec.pre6 enc Try.prog Try.f7 Rows.fnExactLiveJoinRow.domain false) (Rows.fnExactLiveJoinSpec.post enc Try.prog Try.f7 false true false false) :=
  law_lifted (C := Try.checked) (ts := [22, 22]) (tb := 4) (by kernel_rfl) started (by kernel_rfl) Try.func7
    (ChangeSpec.witness6 (enc := enc) (C := Try.checked) false ⟨#[], #[.slice none 0 0, .slice none 0 0], []⟩ 8 (by kernel_rfl) (by kernel_rfl) (by kernel_rfl) (by kernel_rfl))
    (by kernel_rfl) rfl (by kernel_rfl) rfl (by kernel_rfl) rfl (fun ds h => match ds, h with | [_, _], _ => rfl)
    (OpensAll.cons (d := .slice 56) (by kernel_rfl) rfl (Opens.slice (sz := 2) (by kernel_rfl) opens_TLive (by kernel_rfl) (by decide)) (OpensAll.cons (d := .slice 56) (by kernel_rfl) rfl (Opens.slice (sz := 2) (by kernel_rfl) opens_TLive (by kernel_rfl) (by decide)) OpensAll.nil))
    (fun g hg => ok_laws_FnExactLiveJoin g.1 g.2.1 true (liveJoin_true g.1 g.2.1 hg.1.1 hg.2.1.1))

theorem liveJoin_holds : Rows.FnExactLiveJoinSaid :=
  OpenClaim.holds_of_wide 7 Try.f7 rfl rfl rfl rfl rfl rfl rfl ⟨rfl, rfl, rfl, rfl, rfl⟩ rfl rfl rfl rfl rfl (by kernel_rfl) Try.func7 (by kernel_rfl)
    (of_decide_eq_true (by kernel_rfl)) (by unfold Func.isWrapper; first | (rw [if_pos (by decide +kernel)]; kernel_rfl) | (rw [if_neg (by decide +kernel)]; exact ⟨rfl, rfl⟩))
    (fun os started H enc _ => liveJoin_lifted os started H enc)
end Go.Proofs.Ytiajhengifcljaa
