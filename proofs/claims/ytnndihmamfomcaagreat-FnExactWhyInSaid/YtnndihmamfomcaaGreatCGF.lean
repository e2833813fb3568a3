/- Plain laws for the graphs: symMerge. -/
import Derived.Test.YtnndihmamfomcaaGreatCGE
set_option autoImplicit false
set_option linter.unusedVariables false
set_option linter.unusedSimpArgs false
namespace Go.Proofs.YtnndihmamfomcaaGreat
open Go Go.Abs

abbrev Srt2 (d l : List Int) : Prop := l.Pairwise (Lt2 d)
theorem Lt2.trans {d : List Int} {x y z : Int} (h1 : Lt2 d x y) (h2 : Lt2 d y z) : Lt2 d x z := by unfold Lt2 at *; omega
theorem Lt2.le {d : List Int} {x y : Int} (h : Lt2 d x y) : dd d x ≤ dd d y := by unfold Lt2 at h; omega

theorem get_at {l P A S : List Int} {c : Nat} (h : l = P ++ A ++ S) (h1 : P.length ≤ c) (h2 : c - P.length < A.length) : getI l (c : Int) = some A[c - P.length] := by
 subst h
 apply getI_nat
 rw [List.append_assoc, List.getElem?_append_right h1, List.getElem?_append_left h2, List.getElem?_eq_getElem h2]

theorem cut_of {d : List Int} {A : List Int} (h : Srt2 d A) (p : Int → Bool) (hp : ∀ x y, dd d x ≤ dd d y → p y = true → p x = true) (i : Nat) (hi : i < A.length) : p A[i] = true ↔ i < A.countP p :=
 countP_mono (h.imp fun {a b} hab hb => hp a b hab.le hb) i hi

theorem mem_take {α : Type} {l : List α} {k : Nat} {x : α} (h : x ∈ l.take k) : ∃ (i : Nat) (hi : i < l.length), i < k ∧ l[i] = x := by
 obtain ⟨i, hi, rfl⟩ := List.mem_iff_getElem.1 h
 simp at hi
 exact ⟨i, by omega, by omega, by simp⟩
theorem mem_drop {α : Type} {l : List α} {k : Nat} {x : α} (h : x ∈ l.drop k) : ∃ (i : Nat) (hi : i < l.length), k ≤ i ∧ l[i] = x := by
 obtain ⟨i, hi, rfl⟩ := List.mem_iff_getElem.1 h
 simp at hi
 exact ⟨k + i, by omega, by omega, by simp⟩

theorem put_left {d : List Int} {x : Int} {B : List Int} (h : Srt2 d B) (hx : ∀ y ∈ B, x < y) : Srt2 d (B.take (B.countP fun y => decide (dd d y < dd d x)) ++ x :: B.drop (B.countP fun y => decide (dd d y < dd d x))) := by
 have hc := cut_of h (fun y => decide (dd d y < dd d x)) (fun a b hab hb => by simp at hb ⊢; omega)
 have hs := List.take_append_drop (B.countP fun y => decide (dd d y < dd d x)) B
 rw [← hs] at h
 obtain ⟨h1, h2, h3⟩ := pw_app.1 h
 refine pw_app.2 ⟨h1, List.pairwise_cons.2 ⟨fun y hy => ?_, h2⟩, fun a ha b hb => ?_⟩
 ·
  obtain ⟨i, hi, hk, rfl⟩ := mem_drop hy
  have := hc i hi
  have h5 : ¬ dd d B[i] < dd d x := fun h5 => by have := this.1 (decide_eq_true h5); omega
  have := hx _ (List.getElem_mem hi)
  unfold Lt2; omega
 ·
  rcases List.mem_cons.1 hb with rfl | hb
  ·
   obtain ⟨i, hi, hk, rfl⟩ := mem_take ha
   have := of_decide_eq_true ((hc i hi).2 hk)
   unfold Lt2; omega
  ·
   exact h3 a ha b hb
theorem put_right {d : List Int} {x : Int} {A : List Int} (h : Srt2 d A) (hx : ∀ y ∈ A, y < x) : Srt2 d (A.take (A.countP fun y => decide (dd d y ≤ dd d x)) ++ x :: A.drop (A.countP fun y => decide (dd d y ≤ dd d x))) := by
 have hc := cut_of h (fun y => decide (dd d y ≤ dd d x)) (fun a b hab hb => by simp at hb ⊢; omega)
 have hs := List.take_append_drop (A.countP fun y => decide (dd d y ≤ dd d x)) A
 rw [← hs] at h
 obtain ⟨h1, h2, h3⟩ := pw_app.1 h
 refine pw_app.2 ⟨h1, List.pairwise_cons.2 ⟨fun y hy => ?_, h2⟩, fun a ha b hb => ?_⟩
 ·
  obtain ⟨i, hi, hk, rfl⟩ := mem_drop hy
  have := hc i hi
  have h5 : ¬ dd d A[i] ≤ dd d x := fun h5 => by have := this.1 (decide_eq_true h5); omega
  unfold Lt2; omega
 ·
  rcases List.mem_cons.1 hb with rfl | hb
  ·
   obtain ⟨i, hi, hk, rfl⟩ := mem_take ha
   have := of_decide_eq_true ((hc i hi).2 hk)
   have := hx _ (List.getElem_mem hi)
   unfold Lt2; omega
  ·
   exact h3 a ha b hb

theorem sym_one (d P B S : List Int) (x : Int) (hr : ∀ y ∈ x :: B, InR d y) (hB : Srt2 d B) (hb : P.length + B.length + S.length < 100000) :
  (iter (fun z : Int × Int => Z27 (P ++ [x] ++ B ++ S) (P.length : Int) d z.1 z.2) big (((P.length + 1 : Nat) : Int), ((P.length + 1 + B.length : Nat) : Int))).bind
   (fun y => Z64 (P ++ [x] ++ B ++ S) (P.length : Int) y) = some (P ++ (B.take (B.countP fun y => decide (dd d y < dd d x)) ++ x :: B.drop (B.countP fun y => decide (dd d y < dd d x))) ++ S) := by
 generalize hk : B.countP (fun y => decide (dd d y < dd d x)) = k
 have hkB : k ≤ B.length := by rw [← hk]; exact List.countP_le_length
 have hc := cut_of hB (fun y => decide (dd d y < dd d x)) (fun a b hab hb => by simp at hb ⊢; omega)
 rw [hk] at hc
 rw [bsearch2 (lo := P.length + 1) (hi := P.length + 1 + B.length) (k := P.length + 1 + k) (by omega) (by omega) (by omega) ?_ ?_]
 ·
  rw [Option.bind_some]
  simp only [Z64]
  obtain ⟨o, h1, rfl⟩ := iter_total (step := fun z : List Int × Int => Z40 ((P.length + 1 + k : Nat) : Int) z.1 z.2) (p := fun o => o = P ++ (B.take k ++ x :: B.drop k) ++ S)
   (fun m (z : List Int × Int) => ∃ i : Nat, i ≤ k ∧ z = (P ++ (B.take i ++ x :: B.drop i) ++ S, ((P.length + i : Nat) : Int)) ∧ m = k - i) (by
   rintro m z ⟨i, hi, rfl, rfl⟩
   simp only [Z40]
   rw [wrap_id (n := ((P.length + 1 + k : Nat) : Int) - 1) (by omega) (by omega)]
   by_cases hik : i < k
   ·
    right
    have hiB : i < B.length := by omega
    have e0 : B.drop i = B[i] :: B.drop (i + 1) := List.drop_eq_getElem_cons hiB
    have e1 : B.take (i + 1) = B.take i ++ [B[i]] := by rw [List.take_add_one, List.getElem?_eq_getElem hiB]; rfl
    generalize B[i] = u at e0 e1
    generalize hr1 : B.drop (i + 1) = R at e0
    generalize hr2 : B.take i = T at e1
    have hl : T.length = i := by rw [← hr2]; simp; omega
    rw [decide_eq_true (by omega), cond_true, wrap_id (n := ((P.length + i : Nat) : Int) + 1) (by omega) (by omega), show ((P.length + i : Nat) : Int) + 1 = ((P.length + i + 1 : Nat) : Int) from by omega, Int.toNat_natCast, Int.toNat_natCast, e0]
    rw [get_mid (X := P ++ T ++ [x]) (u := u) (Y := R ++ S) (by simp) (by simp; omega), Option.bind_some]
    rw [get_mid (X := P ++ T) (u := x) (Y := u :: R ++ S) (by simp) (by simp; omega), Option.bind_some]
    rw [set_mid (X := P ++ T) (u := x) (Y := u :: R ++ S) (by simp) (by simp; omega)]
    rw [get_mid (X := P ++ T ++ [u]) (u := u) (Y := R ++ S) (by simp) (by simp; omega), Option.bind_some]
    rw [set_mid (X := P ++ T ++ [u]) (u := u) (Y := R ++ S) (by simp) (by simp; omega)]
    refine ⟨_, k - (i + 1), rfl, by omega, i + 1, by omega, ?_, rfl⟩
    rw [e1, hr1]
    simp only [Prod.mk.injEq]
    exact ⟨by simp, by omega⟩
   ·
    left
    obtain rfl : i = k := by omega
    rw [decide_eq_false (by omega), cond_false]
    exact ⟨_, rfl, rfl⟩) big k (P ++ [x] ++ B ++ S, (P.length : Int)) ⟨0, by omega, by simp, rfl⟩ (big_gt (by omega))
  rw [h1]; rfl
 ·
  intro i j hl hij hj
  simp only [Z27]
  have hm1 : P.length + 1 ≤ (i + j) / 2 := by omega
  have hm2 : (i + j) / 2 - (P ++ [x]).length < B.length := by simp; omega
  rw [dlt hij, cond_true, mid_is (by omega), get_at (P := P ++ [x]) (A := B) (S := S) (c := (i + j) / 2) (by simp) (by simp; omega) hm2, Option.bind_some]
  rw [get_mid (X := P) (u := x) (Y := B ++ S) (by simp) rfl, Option.bind_some, c_order_1 (hr _ (List.mem_cons_of_mem _ (List.getElem_mem _))) (hr _ (by simp)), Option.bind_some, cmpI_lt]
  have := hc _ hm2
  simp only [List.length_append, List.length_singleton] at this hm2 ⊢
  rw [wrap_id (n := (((i + j) / 2 : Nat) : Int) + 1) (by omega) (by omega), show (((i + j) / 2 : Nat) : Int) + 1 = (((i + j) / 2 + 1 : Nat) : Int) from by omega]
  by_cases hlt : dd d B[(i + j) / 2 - (P.length + 1)] < dd d x
  ·
   have h5 := this.1 (decide_eq_true hlt)
   rw [decide_eq_true hlt, if_pos (by omega)]; rfl
  ·
   have h5 : ¬ (i + j) / 2 - (P.length + 1) < k := fun h5 => hlt (of_decide_eq_true (this.2 h5))
   rw [decide_eq_false hlt, if_neg (by omega)]; rfl
 ·
  intro i hi
  simp only [Z27]
  rw [dnlt, cond_false]

theorem sym_one' (d P A S : List Int) (x : Int) (hr : ∀ y ∈ x :: A, InR d y) (hA : Srt2 d A) (hb : P.length + A.length + S.length < 100000) :
  (iter (fun z : Int × Int => Z28 (P ++ A ++ [x] ++ S) ((P.length + A.length : Nat) : Int) d z.1 z.2) big ((P.length : Int), ((P.length + A.length : Nat) : Int))).bind
   (fun y => Z65 (P ++ A ++ [x] ++ S) ((P.length + A.length : Nat) : Int) y) = some (P ++ (A.take (A.countP fun y => decide (dd d y ≤ dd d x)) ++ x :: A.drop (A.countP fun y => decide (dd d y ≤ dd d x))) ++ S) := by
 generalize hk : A.countP (fun y => decide (dd d y ≤ dd d x)) = k
 have hkA : k ≤ A.length := by rw [← hk]; exact List.countP_le_length
 have hc := cut_of hA (fun y => decide (dd d y ≤ dd d x)) (fun a b hab hb => by simp at hb ⊢; omega)
 rw [hk] at hc
 rw [bsearch2 (lo := P.length) (hi := P.length + A.length) (k := P.length + k) (by omega) (by omega) (by omega) ?_ ?_]
 ·
  rw [Option.bind_some]
  simp only [Z65]
  obtain ⟨o, h1, rfl⟩ := iter_total (step := fun z : List Int × Int => Z41 ((P.length + k : Nat) : Int) z.1 z.2) (p := fun o => o = P ++ (A.take k ++ x :: A.drop k) ++ S)
   (fun m (z : List Int × Int) => ∃ i : Nat, k ≤ i ∧ i ≤ A.length ∧ z = (P ++ (A.take i ++ x :: A.drop i) ++ S, ((P.length + i : Nat) : Int)) ∧ m = i - k) (by
   rintro m z ⟨i, hi, hiA, rfl, rfl⟩
   simp only [Z41]
   by_cases hik : k < i
   ·
    right
    obtain ⟨i, rfl⟩ : ∃ i', i = i' + 1 := ⟨i - 1, by omega⟩
    have hiB : i < A.length := by omega
    have e0 : A.drop i = A[i] :: A.drop (i + 1) := List.drop_eq_getElem_cons hiB
    have e1 : A.take (i + 1) = A.take i ++ [A[i]] := by rw [List.take_add_one, List.getElem?_eq_getElem hiB]; rfl
    generalize A[i] = u at e0 e1
    generalize hr1 : A.drop (i + 1) = R at e0
    generalize hr2 : A.take i = T at e1
    have hl : T.length = i := by rw [← hr2]; simp; omega
    rw [decide_eq_true (by omega), cond_true, wrap_id (n := ((P.length + (i + 1) : Nat) : Int) - 1) (by omega) (by omega), show ((P.length + (i + 1) : Nat) : Int) - 1 = ((P.length + i : Nat) : Int) from by omega, Int.toNat_natCast, Int.toNat_natCast]
    rw [e1]
    rw [get_mid (X := P ++ T) (u := u) (Y := x :: R ++ S) (by simp) (by simp; omega), Option.bind_some]
    rw [get_mid (X := P ++ T ++ [u]) (u := x) (Y := R ++ S) (by simp) (by simp; omega), Option.bind_some]
    rw [set_mid (X := P ++ T ++ [u]) (u := x) (Y := R ++ S) (by simp) (by simp; omega)]
    rw [get_mid (X := P ++ T) (u := u) (Y := u :: R ++ S) (by simp) (by simp; omega), Option.bind_some]
    rw [set_mid (X := P ++ T) (u := u) (Y := u :: R ++ S) (by simp) (by simp; omega)]
    refine ⟨_, i - k, rfl, by omega, i, by omega, by omega, ?_, rfl⟩
    rw [e0, hr2]
    simp only [Prod.mk.injEq, and_true]
    simp
   ·
    left
    obtain rfl : i = k := by omega
    rw [decide_eq_false (by omega), cond_false]
    exact ⟨_, rfl, rfl⟩) big (A.length - k) (P ++ A ++ [x] ++ S, ((P.length + A.length : Nat) : Int)) ⟨A.length, hkA, by omega, by simp, by omega⟩ (big_gt (by omega))
  rw [h1]; rfl
 ·
  intro i j hl hij hj
  simp only [Z28]
  have hm2 : (i + j) / 2 - P.length < A.length := by omega
  rw [dlt hij, cond_true, mid_is (by omega), get_mid (X := P ++ A) (u := x) (Y := S) (by simp) (by simp), Option.bind_some]
  rw [get_at (P := P) (A := A) (S := [x] ++ S) (c := (i + j) / 2) (by simp) (by omega) hm2, Option.bind_some]
  rw [c_order_1 (hr _ (by simp)) (hr _ (List.mem_cons_of_mem _ (List.getElem_mem _))), Option.bind_some, cmpI_lt]
  have := hc _ hm2
  rw [wrap_id (n := (((i + j) / 2 : Nat) : Int) + 1) (by omega) (by omega), show (((i + j) / 2 : Nat) : Int) + 1 = (((i + j) / 2 + 1 : Nat) : Int) from by omega]
  by_cases hlt : dd d x < dd d A[(i + j) / 2 - P.length]
  ·
   have h5 : ¬ (i + j) / 2 - P.length < k := fun h5 => by have := of_decide_eq_true (this.2 h5); omega
   rw [decide_eq_true hlt, if_neg (by omega)]; rfl
  ·
   have h5 := this.1 (decide_eq_true (by omega))
   rw [decide_eq_false hlt, if_pos (by omega)]; rfl
 ·
  intro i hi
  simp only [Z28]
  rw [dnlt, cond_false]
end Go.Proofs.YtnndihmamfomcaaGreat
