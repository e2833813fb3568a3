/- Plain laws for the graphs: the stable sort as a whole; the order of events. -/
import Derived.Test.YtnndihmamfomcaaGreatCGG
set_option autoImplicit false
set_option linter.unusedVariables false
set_option linter.unusedSimpArgs false
namespace Go.Proofs.YtnndihmamfomcaaGreat
open Go Go.Abs

theorem insertion_ok (d P A S : List Int) (hb : P.length + A.length + S.length < 100000) (hr : ∀ y ∈ A, InR d y) (hA : A.Pairwise (· < ·)) :
  ∃ C, Z5x (P ++ A ++ S) (P.length : Int) ((P.length + A.length : Nat) : Int) d = some (P ++ C ++ S) ∧ C.Perm A ∧ Srt2 d C := by
 unfold Z5x
 by_cases hA0 : A = []
 ·
  subst hA0
  refine ⟨[], ?_, .refl _, .nil⟩
  rw [wrap_id (by omega) (by omega), iter_is (o := P ++ [] ++ S) (fun m (z : List Int × Int) => z = (P ++ [] ++ S, (P.length : Int) + 1)) ?_ (m := 0) rfl (big_gt (by omega))]
  ·
   rfl
  ·
   rintro m z rfl
   left
   simp only [Z24]
   rw [decide_eq_false (by simp only [List.length_nil]; omega), cond_false]
 have pA := pos_iff.2 hA0
 have inner : ∀ (C1 R : List Int) (x : Int), (∀ y ∈ x :: C1, InR d y) → Srt2 d C1 → (∀ y ∈ C1, y < x) → P.length + C1.length + R.length < 100000 →
   ∃ C, iter (fun z : List Int × Int => Zq (P.length : Int) d z.1 z.2) big (P ++ C1 ++ x :: R, ((P.length + C1.length : Nat) : Int)) = some (P ++ C ++ R) ∧ C.Perm (C1 ++ [x]) ∧ Srt2 d C := by
  intro C1 R x hr1 hs hx hb1
  have := iter_total (step := fun z : List Int × Int => Zq (P.length : Int) d z.1 z.2) (p := fun o => ∃ C, o = P ++ C ++ R ∧ C.Perm (C1 ++ [x]) ∧ Srt2 d C)
   (fun m (z : List Int × Int) => ∃ S1 S2, S1 ++ S2 = C1 ∧ z = (P ++ S1 ++ x :: (S2 ++ R), ((P.length + S1.length : Nat) : Int)) ∧ (∀ y ∈ S2, Lt2 d x y) ∧ m = S1.length) (by
   rintro m z ⟨S1, S2, hS, rfl, hx2, rfl⟩
   have hfin : ((∀ y ∈ S1, Lt2 d y x)) → ∃ C, P ++ S1 ++ x :: (S2 ++ R) = P ++ C ++ R ∧ C.Perm (C1 ++ [x]) ∧ Srt2 d C := fun hy => by
    refine ⟨S1 ++ x :: S2, by simp, ?_, ?_⟩
    ·
     rw [← hS]
     exact List.perm_middle.trans (List.perm_append_comm (l₁ := [x]))
    ·
     rw [← hS] at hs
     obtain ⟨a1, a2, a3⟩ := pw_app.1 hs
     refine pw_app.2 ⟨a1, List.pairwise_cons.2 ⟨hx2, a2⟩, fun a ha b hb' => ?_⟩
     rcases List.mem_cons.1 hb' with rfl | hb'
     ·
      exact hy a ha
     ·
      exact a3 a ha b hb'
   have hl : S1.length + S2.length = C1.length := by rw [← hS]; simp
   rcases List.eq_nil_or_concat S1 with rfl | ⟨T, y, rfl⟩
   ·
    left
    simp only [Zq]
    rw [decide_eq_false (by simp), cond_false]
    exact ⟨_, rfl, hfin (by simp)⟩
   ·
    simp only [Zq, List.concat_eq_append]
    simp only [List.concat_eq_append] at hfin hS hl
    have hyC : y ∈ C1 := by rw [← hS]; simp
    have hl1 : (T ++ [y]).length = T.length + 1 := by simp
    rw [decide_eq_true (by omega), cond_true, wrap_id (n := ((P.length + (T ++ [y]).length : Nat) : Int) - 1) (by omega) (by omega), show ((P.length + (T ++ [y]).length : Nat) : Int) - 1 = ((P.length + T.length : Nat) : Int) from by omega]
    rw [get_mid (X := P ++ (T ++ [y])) (u := x) (Y := S2 ++ R) (by simp) (by simp), Option.bind_some]
    rw [get_mid (X := P ++ T) (u := y) (Y := x :: (S2 ++ R)) (by simp) (by simp), Option.bind_some]
    rw [c_order_1 (hr1 x (by simp)) (hr1 y (by simp [hyC])), Option.bind_some, cmpI_lt]
    have hyx := hx y hyC
    by_cases hlt : dd d x < dd d y
    ·
     right
     rw [decide_eq_true hlt]
     simp only [Z3t, cond_true]
     rw [wrap_id (n := ((P.length + (T ++ [y]).length : Nat) : Int) - 1) (by omega) (by omega), show ((P.length + (T ++ [y]).length : Nat) : Int) - 1 = ((P.length + T.length : Nat) : Int) from by omega, Int.toNat_natCast, Int.toNat_natCast]
     rw [get_mid (X := P ++ T) (u := y) (Y := x :: (S2 ++ R)) (by simp) (by simp), Option.bind_some]
     rw [get_mid (X := P ++ (T ++ [y])) (u := x) (Y := S2 ++ R) (by simp) (by simp), Option.bind_some]
     rw [set_mid (X := P ++ (T ++ [y])) (u := x) (Y := S2 ++ R) (by simp) (by simp)]
     rw [get_mid (X := P ++ T) (u := y) (Y := y :: (S2 ++ R)) (by simp) (by simp), Option.bind_some]
     rw [set_mid (X := P ++ T) (u := y) (Y := y :: (S2 ++ R)) (by simp) (by simp)]
     refine ⟨_, T.length, rfl, by omega, T, y :: S2, by rw [← hS]; simp, by simp, fun z hz => ?_, rfl⟩
     rcases List.mem_cons.1 hz with rfl | hz
     ·
      unfold Lt2; omega
     ·
      exact hx2 z hz
    ·
     left
     rw [decide_eq_false hlt]
     simp only [Z3t, cond_false]
     refine ⟨_, rfl, hfin fun z hz => ?_⟩
     have hyx2 : Lt2 d y x := by unfold Lt2; omega
     rcases List.mem_append.1 hz with hz | hz
     ·
      rw [← hS] at hs
      have h3 := (pw_app.1 (pw_app.1 hs).1).2.2 z hz y (by simp)
      exact h3.trans hyx2
     ·
      rw [List.mem_singleton] at hz; subst hz; exact hyx2) big C1.length (P ++ C1 ++ x :: R, ((P.length + C1.length : Nat) : Int)) ⟨C1, [], by simp, by simp, by simp, rfl⟩ (big_gt (by omega))
  obtain ⟨o, h1, C, rfl, h2, h3⟩ := this
  exact ⟨C, h1, h2, h3⟩
 have := iter_total (step := fun z : List Int × Int => Z24 (P.length : Int) ((P.length + A.length : Nat) : Int) d z.1 z.2) (p := fun o => ∃ C, o = P ++ C ++ S ∧ C.Perm A ∧ Srt2 d C)
  (fun m (z : List Int × Int) => ∃ (t : Nat) (C1 : List Int), t ≤ A.length ∧ z = (P ++ C1 ++ A.drop t ++ S, ((P.length + t : Nat) : Int)) ∧ C1.Perm (A.take t) ∧ Srt2 d C1 ∧ m = A.length - t) (by
  rintro m z ⟨t, C1, ht, rfl, hp, hs, rfl⟩
  simp only [Z24]
  have hC1 : C1.length = t := by rw [hp.length_eq]; simp; omega
  by_cases htA : t < A.length
  ·
   right
   have e0 : A.drop t = A[t] :: A.drop (t + 1) := List.drop_eq_getElem_cons htA
   have e1 : A.take (t + 1) = A.take t ++ [A[t]] := by rw [List.take_add_one, List.getElem?_eq_getElem htA]; rfl
   obtain ⟨C, h1, h2, h3⟩ := inner C1 (A.drop (t + 1) ++ S) A[t] (fun y hy => by
    rcases List.mem_cons.1 hy with rfl | hy
    ·
     exact hr _ (List.getElem_mem _)
    ·
     exact hr _ (List.mem_of_mem_take (hp.mem_iff.1 hy))) hs (fun y hy => by
    obtain ⟨i, hi, hit, rfl⟩ := mem_take (hp.mem_iff.1 hy)
    exact List.pairwise_iff_getElem.1 hA i t hi htA hit) (by simp; omega)
   rw [decide_eq_true (by omega), cond_true]
   rw [hC1] at h1
   generalize A[t] = u at *
   rw [show P ++ C1 ++ A.drop t ++ S = P ++ C1 ++ u :: (A.drop (t + 1) ++ S) by rw [e0]; simp only [List.append_assoc, List.cons_append], h1, Option.bind_some]
   simp only [Z8h]
   refine ⟨_, A.length - (t + 1), rfl, by omega, t + 1, C, by omega, ?_, ?_, h3, rfl⟩
   ·
    rw [wrap_id (by omega) (by omega)]
    simp only [Prod.mk.injEq]
    exact ⟨by simp only [List.append_assoc], by omega⟩
   ·
    rw [e1]; exact h2.trans (List.Perm.append_right _ hp)
  ·
   left
   obtain rfl : t = A.length := by omega
   rw [decide_eq_false (by omega), cond_false]
   refine ⟨_, rfl, C1, by simp, by simpa using hp, hs⟩) big (A.length - 1) (P ++ A ++ S, (P.length : Int) + 1) ⟨1, A.take 1, by omega, by
    simp only [Prod.mk.injEq]
    refine ⟨?_, by omega⟩
    rw [List.append_assoc P (A.take 1), List.take_append_drop], .refl _, by
    cases A with
    | nil => exact absurd rfl hA0
    | cons a r => exact List.pairwise_singleton _ _, rfl⟩ (big_gt (by omega))
 obtain ⟨o, h1, C, rfl, h2, h3⟩ := this
 rw [wrap_id (by omega) (by omega), h1]
 exact ⟨C, rfl, h2, h3⟩


structure Seg (d : List Int) (a : Nat) (B : List Int) : Prop where
 srt : Srt2 d B
 in_ : ∀ x ∈ B, (a : Int) ≤ x ∧ x < ((a + B.length : Nat) : Int)

inductive Blks (d : List Int) (bs : Nat) : Nat → List Int → Prop
 | last (a : Nat) (B : List Int) : B.length ≤ bs → Seg d a B → Blks d bs a B
 | cons (a : Nat) (B l : List Int) : B.length = bs → Seg d a B → Blks d bs (a + bs) l → Blks d bs a (B ++ l)

theorem Seg.merge {d : List Int} {a : Nat} {B1 B2 C : List Int} (h1 : Seg d a B1) (h2 : Seg d (a + B1.length) B2) (hp : C.Perm (B1 ++ B2)) (hs : Srt2 d C) : Seg d a C := by
 refine ⟨hs, fun x hx => ?_⟩
 have hl := hp.length_eq
 rw [List.length_append] at hl
 rcases List.mem_append.1 (hp.mem_iff.1 hx) with h | h
 ·
  have := h1.in_ x h; omega
 ·
  have := h2.in_ x h; omega
theorem Seg.lt {d : List Int} {a : Nat} {B1 B2 : List Int} (h1 : Seg d a B1) (h2 : Seg d (a + B1.length) B2) : ∀ x ∈ B1, ∀ y ∈ B2, x < y := fun x hx y hy => by
 have := h1.in_ x hx; have := h2.in_ y hy; omega

theorem Blks.one {d : List Int} {bs a : Nat} {l : List Int} (h0 : 0 < bs) (h : Blks d bs a l) (hl : l.length ≤ bs) : Seg d a l := by
 cases h with
 | last _ _ _ h => exact h
 | cons _ B r h1 h2 h3 =>
  rw [List.length_append] at hl
  obtain rfl : r = [] := List.eq_nil_of_length_eq_zero (by omega)
  simpa using h2
theorem Blks.first {d : List Int} {bs a : Nat} {l : List Int} (h : Blks d bs a l) (hl : bs ≤ l.length) : ∃ B r, l = B ++ r ∧ B.length = bs ∧ Seg d a B ∧ Blks d bs (a + bs) r := by
 cases h with
 | last _ _ h1 h => exact ⟨l, [], by simp, by omega, h, .last _ _ (by simp) ⟨.nil, by simp⟩⟩
 | cons _ B r h1 h2 h3 => exact ⟨B, r, rfl, h1, h2, h3⟩

def idt (a n : Nat) : List Int := (List.range' a n).map fun i : Nat => (i : Int)
theorem idt_len (a n : Nat) : (idt a n).length = n := by simp [idt]
theorem idt_app (a m n : Nat) : idt a (m + n) = idt a m ++ idt (a + m) n := by
 unfold idt
 rw [← List.map_append, List.range'_append_1]
theorem idt_up (a n : Nat) : (idt a n).Pairwise (· < ·) := by
 unfold idt
 rw [List.pairwise_map]
 exact (List.pairwise_lt_range' (s := a) (n := n)).imp fun h => by omega
theorem idt_mem {a n : Nat} {x : Int} (h : x ∈ idt a n) : (a : Int) ≤ x ∧ x < ((a + n : Nat) : Int) := by
 unfold idt at h
 obtain ⟨i, hi, rfl⟩ := List.mem_map.1 h
 have := List.mem_range'_1.1 hi
 omega

theorem Seg.ins {d : List Int} {a n : Nat} {C : List Int} (hp : C.Perm (idt a n)) (hs : Srt2 d C) : Seg d a C := ⟨hs, fun x hx => by
 have := idt_mem (hp.mem_iff.1 hx)
 rw [hp.length_eq, idt_len]
 exact this⟩

def IsOrd (d : List Int) (n : Nat) (ps : List Int) : Prop := ps.Perm (idt 0 n) ∧ Srt2 d ps

theorem stable_ok (d : List Int) (n : Nat) (hd : d.length = n) (hn : n ≤ 1000) : ∃ ps, Z3s (idt 0 n) d = some ps ∧ IsOrd d n ps := by
 unfold Z3s Zas
 rw [idt_len]
 have hin : ∀ l : List Int, l.Perm (idt 0 n) → ∀ y ∈ l, InR d y := fun l hl y hy => by
  have := idt_mem (hl.mem_iff.1 hy)
  unfold InR; omega
 -- sorted by insertion
 obtain ⟨⟨o1, oa⟩, h1, X, ha, hXn, hX20, ho, hp1, hB1⟩ := iter_total (step := fun z : List Int × Int × Int => Z3x (n : Int) d z.1 z.2.1 z.2.2)
  (p := fun o : List Int × Int => ∃ X, ((X.length : Nat) : Int) = o.2 ∧ X.length ≤ n ∧ n < X.length + 20 ∧ o.1 = X ++ idt X.length (n - X.length) ∧ X.Perm (idt 0 X.length) ∧ ∀ l', Blks d 20 X.length l' → Blks d 20 0 (X ++ l'))
  (fun m (z : List Int × Int × Int) => ∃ X, z = (X ++ idt X.length (n - X.length), (X.length : Int), ((X.length + 20 : Nat) : Int)) ∧ X.length ≤ n ∧ X.Perm (idt 0 X.length) ∧ (∀ l', Blks d 20 X.length l' → Blks d 20 0 (X ++ l')) ∧ m = n - X.length) (by
  rintro m z ⟨X, rfl, hXn, hp, hB, rfl⟩
  simp only [Z3x]
  by_cases hle : X.length + 20 ≤ n
  ·
   right
   rw [decide_eq_true (by omega), cond_true]
   have e : idt X.length (n - X.length) = idt X.length 20 ++ idt (X.length + 20) (n - X.length - 20) := by
    rw [← idt_app]; congr 1; omega
   obtain ⟨C, c1, c2, c3⟩ := insertion_ok d X (idt X.length 20) (idt (X.length + 20) (n - X.length - 20)) (by simp only [idt_len]; omega) (fun y hy => by have := idt_mem hy; unfold InR; omega) (idt_up _ _)
   rw [idt_len] at c1
   rw [e, ← List.append_assoc, c1, Option.bind_some, wrap_id (by omega) (by omega)]
   have hCl : C.length = 20 := by rw [c2.length_eq, idt_len]
   refine ⟨_, n - (X ++ C).length, rfl, by simp; omega, X ++ C, ?_, by simp; omega, ?_, fun l' hl' => ?_, rfl⟩
   ·
    have hl2 : (X ++ C).length = X.length + 20 := by simp; omega
    rw [hl2]
    simp only [Prod.mk.injEq]
    exact ⟨by congr 2, trivial, by omega⟩
   ·
    have hl2 : (X ++ C).length = X.length + 20 := by simp; omega
    rw [hl2, idt_app]
    exact hp.append (by simpa using c2)
   ·
    rw [List.append_assoc]
    refine hB _ (.cons _ _ _ hCl (.ins c2 c3) ?_)
    have hl2 : (X ++ C).length = X.length + 20 := by simp; omega
    rwa [hl2] at hl'
  ·
   left
   rw [decide_eq_false (by omega), cond_false]
   exact ⟨_, rfl, X, rfl, hXn, by omega, rfl, hp, hB⟩) big n (idt 0 n, (0 : Int), (20 : Int)) ⟨[], by simp, by simp, by simp [idt], fun l' h => by simpa using h, by simp⟩ (big_gt (by omega))
 simp only at ha ho
 subst ha ho
 rw [h1, Option.bind_some]
 simp only [Z8j]
 obtain ⟨C, c1, c2, c3⟩ := insertion_ok d X (idt X.length (n - X.length)) [] (by simp only [idt_len, List.length_nil]; omega) (fun y hy => by have := idt_mem hy; unfold InR; omega) (idt_up _ _)
 rw [idt_len, List.append_nil, List.append_nil, show ((X.length + (n - X.length) : Nat) : Int) = (n : Int) by omega] at c1
 rw [c1, Option.bind_some]
 have hl1 : (X ++ C).Perm (idt 0 n) := by
  rw [show n = X.length + (n - X.length) by omega, idt_app]
  exact hp1.append (by simpa using c2)
 have hb1 : Blks d 20 0 (X ++ C) := hB1 _ (.last _ _ (by rw [c2.length_eq, idt_len]; omega) (.ins c2 c3))
 generalize X ++ C = l1 at hl1 hb1
 -- merged
 have hmg := symMerge_ok d big
 have hself : ∀ p0 p1 p2 p3 p4, Z8k p0 p1 p2 p3 p4 = Zr big p0 p1 p2 p3 p4 := fun _ _ _ _ _ => rfl
 have mg : ∀ (P B1 B2 S : List Int), B1 ≠ [] → B2 ≠ [] → (P ++ B1 ++ B2 ++ S).Perm (idt 0 n) → Seg d P.length B1 → Seg d (P.length + B1.length) B2 → ∃ C, Z8k (P ++ B1 ++ B2 ++ S) (P.length : Int) ((P.length + B1.length : Nat) : Int) ((P.length + B1.length + B2.length : Nat) : Int) d = some (P ++ C ++ S) ∧ C.Perm (B1 ++ B2) ∧ Seg d P.length C := by
  intro P B1 B2 S n1 n2 hp s1 s2
  have hl := hp.length_eq
  rw [idt_len] at hl
  simp only [List.length_append] at hl
  obtain ⟨C, e1, e2, e3⟩ := hmg P B1 B2 S n1 n2 (big_gt (by omega)) (by omega) (fun y hy => hin _ hp y (by simp at hy ⊢; rcases hy with h | h <;> simp [h])) s1.srt s2.srt (s1.lt s2)
  exact ⟨C, by rw [hself]; exact e1, e2, s1.merge s2 e2 e3⟩
 obtain ⟨o, e1, e2⟩ := iter_total (step := fun z : List Int × Int => Z3w (n : Int) d z.1 z.2) (p := fun o => IsOrd d n o)
  (fun m (z : List Int × Int) => ∃ (bs : Nat) (l : List Int), z = (l, (bs : Int)) ∧ 0 < bs ∧ bs ≤ 2000 ∧ l.Perm (idt 0 n) ∧ Blks d bs 0 l ∧ m = n - bs) (by
  rintro m z ⟨bs, l, rfl, hbs, hbs2, hl, hbk, rfl⟩
  have hll : l.length = n := by rw [hl.length_eq, idt_len]
  simp only [Z3w]
  by_cases hlt : bs < n
  ·
   right
   rw [decide_eq_true (by omega), cond_true]
   obtain ⟨⟨o1, oa⟩, f1, X, Y, ha, ho, hY, hpX, hBY, hBX⟩ := iter_total (step := fun z : List Int × Int × Int => Z3v (n : Int) d bs z.1 z.2.1 z.2.2)
    (p := fun o : List Int × Int => ∃ X Y, ((X.length : Nat) : Int) = o.2 ∧ o.1 = X ++ Y ∧ Y.length < 2 * bs ∧ (X ++ Y).Perm (idt 0 n) ∧ Blks d bs X.length Y ∧ ∀ l', Blks d (2 * bs) X.length l' → Blks d (2 * bs) 0 (X ++ l'))
    (fun m (z : List Int × Int × Int) => ∃ X Y, z = (X ++ Y, (X.length : Int), ((X.length + 2 * bs : Nat) : Int)) ∧ (X ++ Y).Perm (idt 0 n) ∧ Blks d bs X.length Y ∧ (∀ l', Blks d (2 * bs) X.length l' → Blks d (2 * bs) 0 (X ++ l')) ∧ m = Y.length) (by
    rintro m z ⟨X, Y, rfl, hp, hY, hX, rfl⟩
    have hlen := hp.length_eq
    rw [idt_len, List.length_append] at hlen
    simp only [Z3v]
    by_cases hle : X.length + 2 * bs ≤ n
    ·
     right
     rw [decide_eq_true (by omega), cond_true]
     obtain ⟨B1, r1, rfl, l1, g1, k1⟩ := hY.first (by omega)
     rw [List.length_append] at hlen
     obtain ⟨B2, r2, rfl, l2, g2, k2⟩ := k1.first (by omega)
     obtain ⟨C, c1, c2, c3⟩ := mg X B1 B2 r2 (pos_iff.1 (by omega)) (pos_iff.1 (by omega)) (by simpa using hp) g1 (by rw [l1]; exact g2)
     have hCl : C.length = 2 * bs := by rw [c2.length_eq]; simp; omega
     rw [wrap_id (n := (X.length : Int) + (bs : Int)) (by omega) (by omega), show (X.length : Int) + (bs : Int) = ((X.length + B1.length : Nat) : Int) by omega, show ((X.length + 2 * bs : Nat) : Int) = ((X.length + B1.length + B2.length : Nat) : Int) by omega]
     rw [show X ++ (B1 ++ (B2 ++ r2)) = X ++ B1 ++ B2 ++ r2 by simp, c1, Option.bind_some]
     rw [wrap_id (n := 2 * (bs : Int)) (by omega) (by omega), wrap_id (by omega) (by omega)]
     have hl2 : (X ++ C).length = X.length + 2 * bs := by simp; omega
     refine ⟨_, r2.length, rfl, by simp; omega, X ++ C, r2, ?_, ?_, ?_, fun l' hl' => ?_, rfl⟩
     ·
      rw [hl2]
      simp only [Prod.mk.injEq, true_and]
      exact ⟨by omega, by omega⟩
     ·
      refine List.Perm.trans ?_ hp
      rw [List.append_assoc, ← List.append_assoc B1]
      exact List.Perm.append_left _ (List.Perm.append_right _ c2)
     ·
      rw [hl2, show X.length + 2 * bs = X.length + bs + bs by omega]; exact k2
     ·
      rw [List.append_assoc]
      refine hX _ (.cons _ _ _ hCl c3 ?_)
      rwa [hl2] at hl'
    ·
     left
     rw [decide_eq_false (by omega), cond_false]
     exact ⟨_, rfl, X, Y, rfl, rfl, by omega, hp, hY, hX⟩) big n (l, (0 : Int), ((2 * bs : Nat) : Int)) ⟨[], l, by simp, hl, hbk, fun l' h => by simpa using h, by omega⟩ (big_gt (by omega))
   simp only at ha ho
   subst ha ho
   rw [wrap_id (n := 2 * (bs : Int)) (by omega) (by omega), show 2 * (bs : Int) = ((2 * bs : Nat) : Int) by omega, f1, Option.bind_some]
   simp only [Z8i, Z60]
   have hlen := hpX.length_eq
   rw [idt_len, List.length_append] at hlen
   rw [wrap_id (n := (X.length : Int) + (bs : Int)) (by omega) (by omega), wrap_id (n := (bs : Int) * 2) (by omega) (by omega), show (bs : Int) * 2 = ((2 * bs : Nat) : Int) by omega]
   by_cases hmn : X.length + bs < n
   ·
    rw [decide_eq_true (by omega), cond_true]
    obtain ⟨B1, r1, rfl, l1, g1, k1⟩ := hBY.first (by omega)
    simp only [List.length_append] at hlen hY
    have g2 := k1.one hbs (by omega)
    obtain ⟨C, c1, c2, c3⟩ := mg X B1 r1 [] (pos_iff.1 (by omega)) (pos_iff.1 (by omega)) (by simpa using hpX) g1 (by rw [l1]; exact g2)
    rw [List.append_nil, List.append_nil] at c1
    rw [show (X.length : Int) + (bs : Int) = ((X.length + B1.length : Nat) : Int) by omega, show (n : Int) = ((X.length + B1.length + r1.length : Nat) : Int) by omega, ← List.append_assoc, c1, Option.bind_some]
    refine ⟨_, n - 2 * bs, rfl, by omega, 2 * bs, X ++ C, rfl, by omega, by omega, ?_, hBX _ (.last _ _ (by rw [c2.length_eq]; simp; omega) c3), rfl⟩
    exact (List.Perm.append_left _ c2).trans hpX
   ·
    rw [decide_eq_false (by omega), cond_false]
    exact ⟨_, n - 2 * bs, rfl, by omega, 2 * bs, X ++ Y, rfl, by omega, by omega, hpX, hBX _ (.last _ _ (by omega) (hBY.one hbs (by omega))), rfl⟩
  ·
   left
   rw [decide_eq_false (by omega), cond_false]
   exact ⟨l, rfl, hl, (hbk.one hbs (by omega)).srt⟩) big (n - 20) (l1, (20 : Int)) ⟨20, l1, rfl, by omega, by omega, hl1, hb1, rfl⟩ (big_gt (by omega))
 rw [e1]
 exact ⟨o, rfl, e2⟩
end Go.Proofs.YtnndihmamfomcaaGreat
