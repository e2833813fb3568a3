/- Plain laws for the graphs: the stable sort of places. -/
import Derived.Test.YtnndihmamfomcaaGreatCGD
set_option autoImplicit false
set_option linter.unusedVariables false
set_option linter.unusedSimpArgs false
namespace Go.Proofs.YtnndihmamfomcaaGreat
open Go Go.Abs


section
variable {α : Type}

theorem get_mid {l X Y : List α} {u : α} {n : Nat} (h : l = X ++ u :: Y) (hn : n = X.length) : getI l (n : Int) = some u := by
 subst h hn
 exact getI_nat (by simp)
theorem set_mid {l X Y : List α} {u v : α} {n : Nat} (h : l = X ++ u :: Y) (hn : n = X.length) : l.set n v = X ++ v :: Y := by
 subst h hn
 simp

theorem bsearch2 {step : Int × Int → Option ((Int × Int) ⊕ Int)} {lo hi k : Nat} (hn : hi < 4611686018427387904) (hlo : lo ≤ k) (hk : k ≤ hi)
  (h1 : ∀ i j : Nat, lo ≤ i → i < j → j ≤ hi → step ((i : Int), (j : Int)) = some (if (i + j) / 2 < k then .inl ((((i + j) / 2 + 1 : Nat) : Int), (j : Int)) else .inl ((i : Int), (((i + j) / 2 : Nat) : Int))))
  (h2 : ∀ i : Nat, i ≤ hi → step ((i : Int), (i : Int)) = some (.inr (i : Int))) : iter step big ((lo : Int), (hi : Int)) = some (k : Int) := by
 refine iter_is (fun m (x : Int × Int) => ∃ i j : Nat, x = ((i : Int), (j : Int)) ∧ lo ≤ i ∧ i ≤ k ∧ k ≤ j ∧ j ≤ hi ∧ j - i ≤ m) ?_ (m := hi) ⟨lo, hi, rfl, by omega, hlo, hk, by omega, by omega⟩ (big_gt (by omega))
 rintro m x ⟨i, j, rfl, hl, hi, hj, hjn, hm⟩
 by_cases hij : i < j
 ·
  right
  rw [h1 i j hl hij hjn]
  by_cases hc : (i + j) / 2 < k
  ·
   rw [if_pos hc]
   exact ⟨_, j - ((i + j) / 2 + 1), rfl, by omega, _, _, rfl, by omega, by omega, hj, hjn, by omega⟩
  ·
   rw [if_neg hc]
   exact ⟨_, (i + j) / 2 - i, rfl, by omega, _, _, rfl, hl, hi, by omega, by omega, by omega⟩
 ·
  left
  obtain rfl : i = j := by omega
  obtain rfl : i = k := by omega
  exact h2 i hjn

theorem pw_app {R : α → α → Prop} {l r : List α} : (l ++ r).Pairwise R ↔ l.Pairwise R ∧ r.Pairwise R ∧ ∀ a ∈ l, ∀ b ∈ r, R a b := List.pairwise_append
end


def dd (d : List Int) (x : Int) : Int := d.getD x.toNat 0
def Lt2 (d : List Int) (x y : Int) : Prop := dd d x < dd d y ∨ dd d x = dd d y ∧ x < y
def InR (d : List Int) (x : Int) : Prop := 0 ≤ x ∧ x < d.length

theorem dd_get {d : List Int} {x : Int} (h : InR d x) : getI d x = some (dd d x) := by
 obtain ⟨h0, h1⟩ := h
 have hlt : x.toNat < d.length := by omega
 unfold getI dd
 rw [if_pos h0, List.getElem?_eq_getElem hlt]
 simp [hlt]
theorem c_order_1 {d : List Int} {x y : Int} (hx : InR d x) (hy : InR d y) : Z1i x y d = some (cmpI (dd d x) (dd d y)) := by
 unfold Z1i
 rw [dd_get hx, Option.bind_some, dd_get hy, Option.bind_some, c_Compare]; rfl

theorem swapRange_ok (d : List Int) (P U M V S : List Int) (hUV : U.length = V.length) (hb : P.length + U.length + M.length + V.length + S.length < 1000000) :
  Z3y (P ++ U ++ M ++ V ++ S) (P.length : Int) ((P.length + U.length + M.length : Nat) : Int) (U.length : Int) d = some (P ++ V ++ M ++ U ++ S) := by
 unfold Z3y
 obtain ⟨o, h1, rfl⟩ := loop_state (τ := List Int × Int) (ω := List Int) (σ := List Int) (step := fun z : List Int × Int => Z25 (P.length : Int) ((P.length + U.length + M.length : Nat) : Int) (U.length : Int) z.1 z.2) (n := U.length) (fun s j => (s, j))
  (fun i s => ∃ U1 U2 V1 V2, U = U1 ++ U2 ∧ V = V1 ++ V2 ∧ U1.length = i ∧ V1.length = i ∧ s = P ++ V1 ++ U2 ++ M ++ U1 ++ V2 ++ S) (fun o => o = P ++ V ++ M ++ U ++ S) (by omega) (by
  rintro i s hi ⟨U1, U2, V1, V2, hU, hV, hU1, hV1, rfl⟩
  cases U2 with
  | nil => rw [hU] at hi; simp at hi; omega
  | cons u U2 =>
   cases V2 with
   | nil => rw [hUV, hV] at hi; simp at hi; omega
   | cons v V2 =>
    have hlU : U.length = U1.length + (U2.length + 1) := by rw [hU]; simp
    have hlV : V.length = V1.length + (V2.length + 1) := by rw [hV]; simp
    simp only [Z25]
    rw [dlt hi, cond_true, wrap_id (n := ((P.length + U.length + M.length : Nat) : Int) + (i : Int)) (by omega) (by omega), wrap_id (n := (P.length : Int) + (i : Int)) (by omega) (by omega), wrap1 hi (by omega)]
    rw [show ((P.length + U.length + M.length : Nat) : Int) + (i : Int) = ((P.length + U.length + M.length + i : Nat) : Int) from by omega, show (P.length : Int) + (i : Int) = ((P.length + i : Nat) : Int) from by omega, Int.toNat_natCast, Int.toNat_natCast]
    rw [get_mid (X := P ++ V1 ++ (u :: U2) ++ M ++ U1) (u := v) (Y := V2 ++ S) (by simp) (by simp; omega), Option.bind_some]
    rw [get_mid (X := P ++ V1) (u := u) (Y := U2 ++ M ++ U1 ++ (v :: V2) ++ S) (by simp) (by simp; omega), Option.bind_some]
    rw [set_mid (X := P ++ V1) (u := u) (Y := U2 ++ M ++ U1 ++ (v :: V2) ++ S) (by simp) (by simp; omega)]
    rw [get_mid (X := P ++ V1 ++ (v :: U2) ++ M ++ U1) (u := v) (Y := V2 ++ S) (by simp) (by simp; omega), Option.bind_some]
    rw [set_mid (X := P ++ V1 ++ (v :: U2) ++ M ++ U1) (u := v) (Y := V2 ++ S) (by simp) (by simp; omega)]
    exact ⟨_, rfl, U1 ++ [u], U2, V1 ++ [v], V2, by simp [hU], by simp [hV], by simp [hU1], by simp [hV1], by simp⟩) (by
  rintro s ⟨U1, U2, V1, V2, hU, hV, hU1, hV1, rfl⟩
  have h2 : U2 = [] := by
   have := congrArg List.length hU
   rw [List.length_append] at this
   exact List.eq_nil_of_length_eq_zero (by omega)
  have h3 : V2 = [] := by
   have := congrArg List.length hV
   rw [List.length_append] at this
   exact List.eq_nil_of_length_eq_zero (by omega)
  subst h2 h3
  simp only [Z25]
  rw [dnlt, cond_false]
  exact ⟨_, rfl, by simp [hU, hV]⟩) (s := P ++ U ++ M ++ V ++ S) ⟨[], U, [], V, rfl, rfl, rfl, rfl, by simp⟩
 rw [show ((P ++ U ++ M ++ V ++ S, (0 : Int)) : List Int × Int) = (P ++ U ++ M ++ V ++ S, ((0 : Nat) : Int)) from rfl]
 rw [show (((0 : Nat) : Int)) = 0 from rfl, h1]
 rfl

theorem rotate_ok (d : List Int) (P X Y S : List Int) (hX : X ≠ []) (hY : Y ≠ []) (hb : P.length + X.length + Y.length + S.length < 1000000) :
  Z5y (P ++ X ++ Y ++ S) (P.length : Int) ((P.length + X.length : Nat) : Int) ((P.length + X.length + Y.length : Nat) : Int) d = some (P ++ Y ++ X ++ S) := by
 unfold Z5y
 rw [wrap_id (n := ((P.length + X.length : Nat) : Int) - (P.length : Int)) (by omega) (by omega), wrap_id (n := ((P.length + X.length + Y.length : Nat) : Int) - ((P.length + X.length : Nat) : Int)) (by omega) (by omega)]
 rw [show ((P.length + X.length : Nat) : Int) - (P.length : Int) = (X.length : Int) from by omega, show ((P.length + X.length + Y.length : Nat) : Int) - ((P.length + X.length : Nat) : Int) = (Y.length : Int) from by omega]
 generalize hT : P ++ Y ++ X ++ S = T
 generalize hm : P.length + X.length = m
 have := iter_total (step := fun z : List Int × Int × Int => Z3u (m : Int) d z.1 z.2.1 z.2.2)
  (p := fun o : List Int × Int => Z5z (m : Int) d o.1 o.2 = some T)
  (fun k (x : List Int × Int × Int) => ∃ P' X' Y' S', x = (P' ++ X' ++ Y' ++ S', (X'.length : Int), (Y'.length : Int)) ∧ P'.length + X'.length = m ∧ P' ++ Y' ++ X' ++ S' = T ∧ X' ≠ [] ∧ Y' ≠ [] ∧ P'.length + X'.length + Y'.length + S'.length < 1000000 ∧ k = X'.length + Y'.length) (by
  rintro k x ⟨P', X', Y', S', rfl, hm', hT', hX', hY', hb', rfl⟩
  have hx0 : 0 < X'.length := List.length_pos_iff.2 hX'
  have hy0 : 0 < Y'.length := List.length_pos_iff.2 hY'
  simp only [Z3u, bned]
  by_cases he : X'.length = Y'.length
  ·
   left
   rw [decide_eq_true (by omega : (X'.length : Int) = (Y'.length : Int))]
   refine ⟨_, rfl, ?_⟩
   simp only [Z5z]
   rw [wrap_id (by omega) (by omega), show (m : Int) - (X'.length : Int) = (P'.length : Int) from by omega]
   have := swapRange_ok d P' X' [] Y' S' he (by simp only [List.length_nil]; omega)
   simp only [List.append_nil, List.length_nil, Nat.add_zero] at this
   rw [hm'] at this
   rw [this]
   exact congrArg some hT'
  ·
   right
   rw [decide_eq_false (by omega : ¬ (X'.length : Int) = (Y'.length : Int))]
   simp only [Bool.not_false, cond_true]
   by_cases hlt : X'.length > Y'.length
   ·
    rw [decide_eq_true (by omega : (X'.length : Int) > (Y'.length : Int)), cond_true]
    have hs : X' = X'.take Y'.length ++ X'.drop Y'.length := (List.take_append_drop _ _).symm
    generalize hA : X'.take Y'.length = A at hs
    generalize hB : X'.drop Y'.length = B at hs
    have hAl : A.length = Y'.length := by rw [← hA]; simp; omega
    have hBl : B.length = X'.length - Y'.length := by rw [← hB]; simp
    rw [wrap_id (n := (m : Int) - (X'.length : Int)) (by omega) (by omega), show (m : Int) - (X'.length : Int) = (P'.length : Int) from by omega]
    have := swapRange_ok d P' A B Y' S' hAl (by omega)
    rw [show P' ++ A ++ B ++ Y' ++ S' = P' ++ X' ++ Y' ++ S' by rw [hs]; simp, show P'.length + A.length + B.length = m by omega, hAl] at this
    rw [this, Option.bind_some, wrap_id (by omega) (by omega)]
    refine ⟨_, B.length + A.length, rfl, by omega, P' ++ Y', B, A, S', ?_, by simp; omega, by rw [← hT', hs]; simp, List.length_pos_iff.1 (by omega), List.length_pos_iff.1 (by omega), by simp; omega, rfl⟩
    simp only [Prod.mk.injEq, true_and]
    exact ⟨by omega, by omega⟩
   ·
    rw [decide_eq_false (by omega : ¬ (X'.length : Int) > (Y'.length : Int)), cond_false]
    have hs : Y' = Y'.take (Y'.length - X'.length) ++ Y'.drop (Y'.length - X'.length) := (List.take_append_drop _ _).symm
    generalize hA : Y'.take (Y'.length - X'.length) = A at hs
    generalize hB : Y'.drop (Y'.length - X'.length) = B at hs
    have hAl : A.length = Y'.length - X'.length := by rw [← hA]; simp
    have hBl : X'.length = B.length := by rw [← hB]; simp; omega
    rw [wrap_id (n := (m : Int) - (X'.length : Int)) (by omega) (by omega), show (m : Int) - (X'.length : Int) = (P'.length : Int) from by omega]
    rw [wrap_id (n := (m : Int) + (Y'.length : Int)) (by omega) (by omega), wrap_id (n := (m : Int) + (Y'.length : Int) - (X'.length : Int)) (by omega) (by omega)]
    have := swapRange_ok d P' X' A B S' hBl (by omega)
    rw [show P' ++ X' ++ A ++ B ++ S' = P' ++ X' ++ Y' ++ S' by rw [hs]; simp, show ((P'.length + X'.length + A.length : Nat) : Int) = (m : Int) + (Y'.length : Int) - (X'.length : Int) by omega] at this
    rw [this, Option.bind_some, wrap_id (by omega) (by omega)]
    refine ⟨_, B.length + A.length, rfl, by omega, P', B, A, X' ++ S', ?_, by omega, by rw [← hT', hs]; simp, List.length_pos_iff.1 (by omega), List.length_pos_iff.1 (by omega), by simp; omega, rfl⟩
    simp only [Prod.mk.injEq]
    exact ⟨by simp, by omega, by omega⟩) big (X.length + Y.length) (P ++ X ++ Y ++ S, (X.length : Int), (Y.length : Int)) ⟨P, X, Y, S, rfl, hm, hT, hX, hY, hb, rfl⟩ (big_gt (by omega))
 obtain ⟨o, h1, h2⟩ := this
 rw [h1, Option.bind_some]
 exact h2
end Go.Proofs.YtnndihmamfomcaaGreat
