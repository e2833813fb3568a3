/- Plain laws for the graphs: symMerge as a whole; the stable sort. -/
import Derived.Test.YtnndihmamfomcaaGreatCGF
set_option autoImplicit false
set_option linter.unusedVariables false
set_option linter.unusedSimpArgs false
namespace Go.Proofs.YtnndihmamfomcaaGreat
open Go Go.Abs

theorem exists_cut (pr : Nat → Prop) (lo : Nat) : ∀ n : Nat, (∀ c c', lo ≤ c → c ≤ c' → c' < lo + n → pr c' → pr c) → ∃ k, lo ≤ k ∧ k ≤ lo + n ∧ ∀ c, lo ≤ c → c < lo + n → (pr c ↔ c < k)
 | 0, _ => ⟨lo, by omega, by omega, fun c h1 h2 => by omega⟩
 | n + 1, h => by
  by_cases hp : pr (lo + n)
  ·
   exact ⟨lo + n + 1, by omega, by omega, fun c h1 h2 => ⟨fun _ => by omega, fun _ => h c (lo + n) h1 (by omega) (by omega) hp⟩⟩
  ·
   obtain ⟨k, h1, h2, h3⟩ := exists_cut pr lo n fun c c' a b e => h c c' a b (by omega)
   refine ⟨k, h1, by omega, fun c h4 h5 => ?_⟩
   by_cases hc : c = lo + n
   ·
    subst hc
    exact ⟨fun h6 => absurd h6 hp, fun h6 => by omega⟩
   ·
    exact h3 c h4 (by omega)

def Merges (d : List Int) (self : List Int → Int → Int → Int → List Int → Option (List Int)) (n : Nat) : Prop :=
 ∀ P A B S : List Int, A ≠ [] → B ≠ [] → A.length + B.length < n → P.length + A.length + B.length + S.length < 100000 → (∀ y ∈ A ++ B, InR d y) → Srt2 d A → Srt2 d B → (∀ x ∈ A, ∀ y ∈ B, x < y) →
  ∃ C, self (P ++ A ++ B ++ S) (P.length : Int) ((P.length + A.length : Nat) : Int) ((P.length + A.length + B.length : Nat) : Int) d = some (P ++ C ++ S) ∧ C.Perm (A ++ B) ∧ Srt2 d C

theorem Merges.opt {d : List Int} {self : List Int → Int → Int → Int → List Int → Option (List Int)} {n : Nat} (h : Merges d self n) (P A B S : List Int) (hn : A ≠ [] → B ≠ [] → A.length + B.length < n) (hb : P.length + A.length + B.length + S.length < 100000) (hr : ∀ y ∈ A ++ B, InR d y)
  (hA : Srt2 d A) (hB : Srt2 d B) (hx : ∀ x ∈ A, ∀ y ∈ B, x < y) :
  ∃ C, (if A ≠ [] ∧ B ≠ [] then self (P ++ A ++ B ++ S) (P.length : Int) ((P.length + A.length : Nat) : Int) ((P.length + A.length + B.length : Nat) : Int) d else some (P ++ A ++ B ++ S)) = some (P ++ C ++ S) ∧ C.Perm (A ++ B) ∧ Srt2 d C := by
 by_cases h1 : A = []
 ·
  subst h1
  exact ⟨B, by simp, by simp, hB⟩
 ·
  by_cases h2 : B = []
  ·
   subst h2
   exact ⟨A, by simp, by simp, hA⟩
  ·
   rw [if_pos ⟨h1, h2⟩]
   exact h P A B S h1 h2 (hn h1 h2) hb hr hA hB hx

theorem pos_iff {α : Type} {l : List α} : 0 < l.length ↔ l ≠ [] := List.length_pos_iff

theorem sym_tail {d : List Int} {self : List Int → Int → Int → Int → List Int → Option (List Int)} {n : Nat} (hself : Merges d self n) (P A1 A2 B1 B2 S : List Int) (p2 : Int)
  (hmid : (P.length + (P.length + A1.length + A2.length + B1.length + B2.length)) / 2 = P.length + A1.length + B1.length) (hp2 : p2 = ((P.length + A1.length + A2.length : Nat) : Int))
  (hn1 : A1 ≠ [] → B1 ≠ [] → A1.length + B1.length < n) (hn2 : A2 ≠ [] → B2 ≠ [] → A2.length + B2.length < n) (hb : P.length + A1.length + A2.length + B1.length + B2.length + S.length < 100000)
  (hr : ∀ y ∈ A1 ++ A2 ++ (B1 ++ B2), InR d y) (hA : Srt2 d (A1 ++ A2)) (hB : Srt2 d (B1 ++ B2)) (hx : ∀ x ∈ A1 ++ A2, ∀ y ∈ B1 ++ B2, x < y) (h12 : ∀ x ∈ A1, ∀ y ∈ B2, Lt2 d x y) (h21 : ∀ x ∈ B1, ∀ y ∈ A2, Lt2 d x y) :
  ∃ C, Z26 (P.length : Int) p2 ((P.length + A1.length + A2.length + B1.length + B2.length : Nat) : Int) d self ((P.length + A1.length : Nat) : Int) (P ++ A1 ++ B1 ++ A2 ++ B2 ++ S) = some (P ++ C ++ S) ∧ C.Perm (A1 ++ A2 ++ (B1 ++ B2)) ∧ Srt2 d C := by
 obtain ⟨a1, a2, a3⟩ := pw_app.1 hA
 obtain ⟨b1, b2, b3⟩ := pw_app.1 hB
 obtain ⟨C1, c1, c2, c3⟩ := hself.opt P A1 B1 (A2 ++ B2 ++ S) hn1 (by simp; omega) (fun y hy => hr y (by simp at hy ⊢; rcases hy with h | h <;> simp [h])) a1 b1 fun x hx' y hy => hx x (by simp [hx']) y (by simp [hy])
 have hC1 : C1.length = A1.length + B1.length := by rw [c2.length_eq]; simp
 obtain ⟨C2, e1, e2, e3⟩ := hself.opt (P ++ C1) A2 B2 S hn2 (by simp; omega) (fun y hy => hr y (by simp at hy ⊢; rcases hy with h | h <;> simp [h])) a2 b2 fun x hx' y hy => hx x (by simp [hx']) y (by simp [hy])
 refine ⟨C1 ++ C2, ?_, ?_, ?_⟩
 ·
  simp only [Z26, Z62, Z61, Z66]
  rw [mid_is (by omega), hmid, hp2]
  rw [wrap_id (n := ((P.length + A1.length + B1.length : Nat) : Int) + ((P.length + A1.length + A2.length : Nat) : Int)) (by omega) (by omega), wrap_id (n := ((P.length + A1.length + B1.length : Nat) : Int) + ((P.length + A1.length + A2.length : Nat) : Int) - ((P.length + A1.length : Nat) : Int)) (by omega) (by omega)]
  rw [show ((P.length + A1.length + B1.length : Nat) : Int) + ((P.length + A1.length + A2.length : Nat) : Int) - ((P.length + A1.length : Nat) : Int) = (((P ++ C1).length + A2.length : Nat) : Int) by simp; omega]
  have hfirst : ∀ (F : List Int → Option (List Int)), cond (decide ((P.length : Int) < ((P.length + A1.length : Nat) : Int))) (cond (decide (((P.length + A1.length : Nat) : Int) < ((P.length + A1.length + B1.length : Nat) : Int))) ((self (P ++ A1 ++ B1 ++ A2 ++ B2 ++ S) (P.length : Int) ((P.length + A1.length : Nat) : Int) ((P.length + A1.length + B1.length : Nat) : Int) d).bind F) (F (P ++ A1 ++ B1 ++ A2 ++ B2 ++ S))) (F (P ++ A1 ++ B1 ++ A2 ++ B2 ++ S)) = F (P ++ C1 ++ A2 ++ B2 ++ S) := fun F => by
   by_cases h1 : A1 = []
   ·
    rw [if_neg (fun h => h.1 h1)] at c1
    have hq := Option.some.inj c1
    rw [decide_eq_false (by subst h1; simp), cond_false]
    congr 1
    simpa using hq
   ·
    have p1 := pos_iff.2 h1
    rw [decide_eq_true (by omega), cond_true]
    by_cases h2 : B1 = []
    ·
     rw [if_neg (fun h => h.2 h2)] at c1
     have hq := Option.some.inj c1
     rw [decide_eq_false (by subst h2; simp), cond_false]
     congr 1
     simpa using hq
    ·
     have p2 := pos_iff.2 h2
     rw [decide_eq_true (by omega), cond_true]
     rw [if_pos ⟨h1, h2⟩] at c1
     rw [show P ++ A1 ++ B1 ++ A2 ++ B2 ++ S = P ++ A1 ++ B1 ++ (A2 ++ B2 ++ S) by simp, c1, Option.bind_some]
     congr 1; simp
  have hsecond : cond (decide (((P.length + A1.length + B1.length : Nat) : Int) < (((P ++ C1).length + A2.length : Nat) : Int))) (cond (decide ((((P ++ C1).length + A2.length : Nat) : Int) < ((P.length + A1.length + A2.length + B1.length + B2.length : Nat) : Int))) ((self (P ++ C1 ++ A2 ++ B2 ++ S) ((P.length + A1.length + B1.length : Nat) : Int) (((P ++ C1).length + A2.length : Nat) : Int) ((P.length + A1.length + A2.length + B1.length + B2.length : Nat) : Int) d).bind fun r176 => some r176) (some (P ++ C1 ++ A2 ++ B2 ++ S))) (some (P ++ C1 ++ A2 ++ B2 ++ S)) = some (P ++ (C1 ++ C2) ++ S) := by
   have hl : (P ++ C1).length = P.length + A1.length + B1.length := by simp; omega
   by_cases h1 : A2 = []
   ·
    rw [if_neg (fun h => h.1 h1)] at e1
    rw [decide_eq_false (by subst h1; simp; omega), cond_false]
    rw [e1]; simp
   ·
    have p1 := pos_iff.2 h1
    rw [decide_eq_true (by omega), cond_true]
    by_cases h2 : B2 = []
    ·
     rw [if_neg (fun h => h.2 h2)] at e1
     rw [decide_eq_false (by subst h2; simp; omega), cond_false]
     rw [e1]; simp
    ·
     have p2 := pos_iff.2 h2
     rw [decide_eq_true (by omega), cond_true]
     rw [if_pos ⟨h1, h2⟩, hl] at e1
     rw [hl, show P.length + A1.length + A2.length + B1.length + B2.length = P.length + A1.length + B1.length + A2.length + B2.length by omega, e1]
     simp
  have hf := hfirst fun l172 => cond (decide (((P.length + A1.length + B1.length : Nat) : Int) < (((P ++ C1).length + A2.length : Nat) : Int))) (cond (decide ((((P ++ C1).length + A2.length : Nat) : Int) < ((P.length + A1.length + A2.length + B1.length + B2.length : Nat) : Int))) ((self l172 ((P.length + A1.length + B1.length : Nat) : Int) (((P ++ C1).length + A2.length : Nat) : Int) ((P.length + A1.length + A2.length + B1.length + B2.length : Nat) : Int) d).bind fun r176 => some r176) (some l172)) (some l172)
  have hcc : ∀ (b1 b2 : Bool) (x y : Option (List Int)), cond b1 (cond b2 x y) (cond false x y) = cond b1 (cond b2 x y) y := fun b1 b2 x y => by cases b1 <;> rfl
  simp only [cond_false]
  rw [hf]
  exact hsecond
 ·
  refine (c2.append e2).trans ?_
  have : (A1 ++ B1 ++ (A2 ++ B2)).Perm (A1 ++ A2 ++ (B1 ++ B2)) := by
   rw [List.append_assoc, List.append_assoc]
   refine List.Perm.append_left A1 ?_
   rw [← List.append_assoc, ← List.append_assoc]
   exact List.Perm.append_right B2 List.perm_append_comm
  exact this
 ·
  refine pw_app.2 ⟨c3, e3, fun x hx' y hy => ?_⟩
  have h1 := c2.mem_iff.1 hx'
  have h2 := e2.mem_iff.1 hy
  rcases List.mem_append.1 h1 with h1 | h1
  ·
   rcases List.mem_append.1 h2 with h2 | h2
   ·
    exact a3 x h1 y h2
   ·
    exact h12 x h1 y h2
  ·
   rcases List.mem_append.1 h2 with h2 | h2
   ·
    exact h21 x h1 y h2
   ·
    exact b3 x h1 y h2

theorem srt_le {d l : List Int} (h : Srt2 d l) {i j : Nat} (hi : i < l.length) (hj : j < l.length) (hij : i ≤ j) : dd d l[i] ≤ dd d l[j] := by
 by_cases he : i = j
 ·
  subst he; exact Int.le_refl _
 ·
  exact (List.pairwise_iff_getElem.1 h i j hi hj (by omega)).le

theorem symMerge_ok (d : List Int) : ∀ k : Nat, Merges d (Zr k) k
 | 0 => fun _ _ _ _ _ _ h => by omega
 | k + 1 => by
  have ih := symMerge_ok d k
  intro P A B S hA0 hB0 hn hb hr hA hB hx
  have pA := pos_iff.2 hA0
  have pB := pos_iff.2 hB0
  show ∃ C, Z8l (Zr k) _ _ _ _ _ = _ ∧ _
  generalize Zr k = self at ih
  unfold Z8l
  rw [wrap_id (n := ((P.length + A.length : Nat) : Int) - (P.length : Int)) (by omega) (by omega), wrap_id (n := ((P.length + A.length + B.length : Nat) : Int) - ((P.length + A.length : Nat) : Int)) (by omega) (by omega), beqd, beqd]
  by_cases h1 : A.length = 1
  ·
   obtain ⟨x, rfl⟩ : ∃ x, A = [x] := List.length_eq_one_iff.1 h1
   rw [decide_eq_true (by simp; omega), cond_true]
   have := sym_one d P B S x (fun y hy => hr y (by simpa using hy)) hB (by omega)
   simp only [List.length_singleton] at this ⊢
   rw [this]
   refine ⟨_, rfl, ?_, put_left hB fun y hy => hx x (by simp) y hy⟩
   refine List.perm_middle.trans ?_
   rw [List.take_append_drop]
   exact .refl _
  rw [decide_eq_false (by omega), cond_false]
  by_cases h2 : B.length = 1
  ·
   obtain ⟨x, rfl⟩ : ∃ x, B = [x] := List.length_eq_one_iff.1 h2
   rw [decide_eq_true (by simp; omega), cond_true]
   have := sym_one' d P A S x (fun y hy => hr y (by simp at hy ⊢; rcases hy with h | h <;> simp [h])) hA (by simp at hb; omega)
   rw [this]
   refine ⟨_, rfl, ?_, put_right hA fun y hy => hx y hy x (by simp)⟩
   refine List.perm_middle.trans ?_
   rw [List.take_append_drop]
   exact List.perm_append_comm (l₁ := [x])
  rw [decide_eq_false (by omega), cond_false]
  generalize hh : (A.length + B.length) / 2 = h
  have hmid : (P.length + (P.length + A.length + B.length)) / 2 = P.length + h := by omega
  rw [mid_is (by omega), hmid]
  -- where the search begins and ends
  have hlo : h - B.length ≤ min A.length h := by omega
  have hstart : (cond (decide (((P.length + A.length : Nat) : Int) > ((P.length + h : Nat) : Int))) (Zs (P ++ A ++ B ++ S) (P.length : Int) ((P.length + A.length : Nat) : Int) ((P.length + A.length + B.length : Nat) : Int) d self (IntKind.i64.wrap ((IntKind.i64.wrap (((P.length + h : Nat) : Int) + ((P.length + A.length : Nat) : Int))) - ((P.length + A.length + B.length : Nat) : Int))) ((P.length + h : Nat) : Int)) (Zs (P ++ A ++ B ++ S) (P.length : Int) ((P.length + A.length : Nat) : Int) ((P.length + A.length + B.length : Nat) : Int) d self (P.length : Int) ((P.length + A.length : Nat) : Int)))
    = Zs (P ++ A ++ B ++ S) (P.length : Int) ((P.length + A.length : Nat) : Int) ((P.length + A.length + B.length : Nat) : Int) d self ((P.length + (h - B.length) : Nat) : Int) ((P.length + min A.length h : Nat) : Int) := by
   by_cases hc : A.length > h
   ·
    rw [decide_eq_true (by omega), cond_true, wrap_id (n := ((P.length + h : Nat) : Int) + ((P.length + A.length : Nat) : Int)) (by omega) (by omega), wrap_id (by omega) (by omega)]
    congr 1 <;> omega
   ·
    rw [decide_eq_false (by omega), cond_false]
    congr 1 <;> omega
  rw [hstart]
  unfold Zs
  obtain ⟨t, ht1, ht2, ht3⟩ := exists_cut (fun c => dd d (A.getD c 0) ≤ dd d (B.getD (h - 1 - c) 0)) (h - B.length) (min A.length h - (h - B.length)) (fun c c' hc1 hc2 hc3 hp => by
   have q1 : c < A.length := by omega
   have q2 : c' < A.length := by omega
   have q3 : h - 1 - c < B.length := by omega
   have q4 : h - 1 - c' < B.length := by omega
   simp only [List.getD_eq_getElem?_getD, List.getElem?_eq_getElem q1, List.getElem?_eq_getElem q2, List.getElem?_eq_getElem q3, List.getElem?_eq_getElem q4, Option.getD_some] at hp ⊢
   have := srt_le hA q1 q2 hc2
   have := srt_le hB q4 q3 (by omega)
   omega)
  have hsum : h - B.length + (min A.length h - (h - B.length)) = min A.length h := by omega
  rw [hsum] at ht2 ht3
  rw [bsearch2 (lo := P.length + (h - B.length)) (hi := P.length + min A.length h) (k := P.length + t) (by omega) (by omega) (by omega) ?_ ?_]
  ·
   -- behind the search
   rw [Option.bind_some]
   have hA12 : A = A.take t ++ A.drop t := (List.take_append_drop _ _).symm
   have hB12 : B = B.take (h - t) ++ B.drop (h - t) := (List.take_append_drop _ _).symm
   have hc12 : ∀ x ∈ A.take t, ∀ y ∈ B.drop (h - t), Lt2 d x y := by
    intro x hx1 y hy1
    obtain ⟨i, hi, hit, rfl⟩ := mem_take hx1
    obtain ⟨j, hj, hjt, rfl⟩ := mem_drop hy1
    have hlt := hx _ (List.getElem_mem hi) _ (List.getElem_mem hj)
    have q1 : t - 1 < A.length := by omega
    have q2 : h - 1 - (t - 1) < B.length := by omega
    have := (ht3 (t - 1) (by omega) (by omega)).2 (by omega)
    simp only [List.getD_eq_getElem?_getD, List.getElem?_eq_getElem q1, List.getElem?_eq_getElem q2, Option.getD_some] at this
    have := srt_le hA hi q1 (by omega)
    have := srt_le hB q2 hj (by omega)
    unfold Lt2; omega
   have hc21 : ∀ x ∈ B.take (h - t), ∀ y ∈ A.drop t, Lt2 d x y := by
    intro x hx1 y hy1
    obtain ⟨i, hi, hit, rfl⟩ := mem_take hx1
    obtain ⟨j, hj, hjt, rfl⟩ := mem_drop hy1
    have q1 : t < A.length := by omega
    have q2 : h - 1 - t < B.length := by omega
    have := (ht3 t (by omega) (by omega))
    simp only [List.getD_eq_getElem?_getD, List.getElem?_eq_getElem q1, List.getElem?_eq_getElem q2, Option.getD_some] at this
    have h5 : ¬ dd d A[t] ≤ dd d B[h - 1 - t] := fun h5 => by have := this.1 h5; omega
    have := srt_le hA q1 hj (by omega)
    have := srt_le hB hi q2 (by omega)
    unfold Lt2; omega
   have lA1 : (A.take t).length = t := by simp; omega
   have lA2 : (A.drop t).length = A.length - t := by simp
   have lB1 : (B.take (h - t)).length = h - t := by simp; omega
   have lB2 : (B.drop (h - t)).length = B.length - (h - t) := by simp
   generalize A.take t = A1 at hA12 hc12 lA1
   generalize A.drop t = A2 at hA12 hc21 lA2
   generalize B.take (h - t) = B1 at hB12 hc21 lB1
   generalize B.drop (h - t) = B2 at hB12 hc12 lB2
   have lA : A.length = A1.length + A2.length := by rw [hA12]; simp
   have lB : B.length = B1.length + B2.length := by rw [hB12]; simp
   simp only [Z8m, Z63]
   rw [mid_is (by omega), hmid, wrap_id (n := ((P.length + h : Nat) : Int) + ((P.length + A.length : Nat) : Int)) (by omega) (by omega), wrap_id (n := ((P.length + h : Nat) : Int) + ((P.length + A.length : Nat) : Int) - ((P.length + t : Nat) : Int)) (by omega) (by omega)]
   have hrot : ∀ F : List Int → Option (List Int), cond (decide (((P.length + t : Nat) : Int) < ((P.length + A.length : Nat) : Int))) (cond (decide (((P.length + A.length : Nat) : Int) < ((P.length + h : Nat) : Int) + ((P.length + A.length : Nat) : Int) - ((P.length + t : Nat) : Int))) ((Z5y (P ++ A ++ B ++ S) ((P.length + t : Nat) : Int) ((P.length + A.length : Nat) : Int) (((P.length + h : Nat) : Int) + ((P.length + A.length : Nat) : Int) - ((P.length + t : Nat) : Int)) d).bind F) (F (P ++ A ++ B ++ S))) (F (P ++ A ++ B ++ S)) = F (P ++ A1 ++ B1 ++ A2 ++ B2 ++ S) := fun F => by
    by_cases z1 : A2 = []
    ·
     rw [decide_eq_false (by subst z1; simp at lA2; omega), cond_false]
     subst z1
     congr 1; rw [hA12, hB12]; simp
    ·
     have z1' := pos_iff.2 z1
     rw [decide_eq_true (by omega), cond_true]
     by_cases z2 : B1 = []
     ·
      rw [decide_eq_false (by subst z2; simp at lB1; omega), cond_false]
      subst z2
      congr 1; rw [hA12, hB12]; simp
     ·
      have z2' := pos_iff.2 z2
      rw [decide_eq_true (by omega), cond_true]
      have := rotate_ok d (P ++ A1) A2 B1 (B2 ++ S) z1 z2 (by simp; omega)
      rw [show P ++ A1 ++ A2 ++ B1 ++ (B2 ++ S) = P ++ A ++ B ++ S by rw [hA12, hB12]; simp] at this
      rw [show ((P.length + t : Nat) : Int) = ((P ++ A1).length : Int) by simp; omega, show ((P.length + A.length : Nat) : Int) = (((P ++ A1).length + A2.length : Nat) : Int) by simp; omega, show ((P.length + h : Nat) : Int) + (((P ++ A1).length + A2.length : Nat) : Int) - ((P ++ A1).length : Int) = (((P ++ A1).length + A2.length + B1.length : Nat) : Int) by simp; omega, this, Option.bind_some]
      congr 1; simp
   have hr' := hrot fun l => Z26 (P.length : Int) ((P.length + A.length : Nat) : Int) ((P.length + A.length + B.length : Nat) : Int) d self ((P.length + t : Nat) : Int) l
   simp only [cond_false]
   rw [hr']
   obtain ⟨C, c1, c2, c3⟩ := sym_tail ih P A1 A2 B1 B2 S ((P.length + A.length : Nat) : Int) (by omega) (by omega) (fun _ _ => by omega) (fun _ _ => by omega) (by omega) (by rw [← hA12, ← hB12]; exact hr) (by rw [← hA12]; exact hA) (by rw [← hB12]; exact hB) (by rw [← hA12, ← hB12]; exact hx) hc12 hc21
   rw [← hA12, ← hB12] at c2
   rw [show P.length + A.length + B.length = P.length + A1.length + A2.length + B1.length + B2.length by omega, show P.length + t = P.length + A1.length by omega]
   exact ⟨C, c1, c2, c3⟩
  ·
   intro i j hl hij hj
   simp only [Z3z]
   obtain ⟨c, hc⟩ : ∃ c, (i + j) / 2 = P.length + c := ⟨(i + j) / 2 - P.length, by omega⟩
   have q1 : c < A.length := by omega
   have q2 : h - 1 - c < B.length := by omega
   rw [dlt hij, cond_true, mid_is (i := P.length) (by omega), hmid, mid_is (by omega), hc, wrap_id (n := ((P.length + h : Nat) : Int) + ((P.length + A.length : Nat) : Int)) (by omega) (by omega), wrap_id (n := ((P.length + h : Nat) : Int) + ((P.length + A.length : Nat) : Int) - 1) (by omega) (by omega), wrap_id (n := ((P.length + h : Nat) : Int) + ((P.length + A.length : Nat) : Int) - 1 - ((P.length + c : Nat) : Int)) (by omega) (by omega)]
   rw [show ((P.length + h : Nat) : Int) + ((P.length + A.length : Nat) : Int) - 1 - ((P.length + c : Nat) : Int) = (((P ++ A).length + (h - 1 - c) : Nat) : Int) by simp; omega]
   rw [get_at (P := P ++ A) (A := B) (S := S) (c := (P ++ A).length + (h - 1 - c)) rfl (by omega) (by omega), Option.bind_some]
   rw [get_at (P := P) (A := A) (S := B ++ S) (c := P.length + c) (by simp) (by omega) (by omega), Option.bind_some]
   simp only [Nat.add_sub_cancel_left]
   rw [c_order_1 (hr _ (List.mem_append_right _ (List.getElem_mem _))) (hr _ (List.mem_append_left _ (List.getElem_mem _))), Option.bind_some, cmpI_lt]
   have := ht3 c (by omega) (by omega)
   simp only [List.getD_eq_getElem?_getD, List.getElem?_eq_getElem q1, List.getElem?_eq_getElem q2, Option.getD_some] at this
   rw [wrap_id (n := ((P.length + c : Nat) : Int) + 1) (by omega) (by omega), show ((P.length + c : Nat) : Int) + 1 = ((P.length + c + 1 : Nat) : Int) from by omega]
   by_cases hlt : dd d B[h - 1 - c] < dd d A[c]
   ·
    have h5 : ¬ c < t := fun h5 => by have := this.2 h5; omega
    rw [decide_eq_true hlt, if_neg (by omega)]; rfl
   ·
    have h5 := this.1 (by omega)
    rw [decide_eq_false hlt, if_pos (by omega)]; rfl
  ·
   intro i hi
   simp only [Z3z]
   rw [dnlt, cond_false]
end Go.Proofs.YtnndihmamfomcaaGreat
