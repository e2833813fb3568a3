/- Plain programs beside the walk (loops by rounds), contracts handed on: results frozen, arguments lent. -/
import Derived.Test.YtnndihmamfomcaaGreatCI
set_option autoImplicit false
set_option linter.unusedVariables false
set_option linter.unusedSimpArgs false
namespace Go.Abs
open Go


theorem ob {α β : Type} {x : Option α} {f : α → Option β} {b : β} (h : x.bind f = some b) : ∃ a, x = some a ∧ f a = some b := Option.bind_eq_some_iff.1 h
theorem tf (b : Bool) : b = true ∨ b = false := by cases b <;> simp

theorem ob' {α β : Type} {x : Option α} {f : α → Option β} {b : β} {Q : Prop} (h : x.bind f = some b) (k : ∀ a, x = some a → f a = some b → Q) : Q := let ⟨a, h1, h2⟩ := ob h; k a h1 h2
theorem tf' (b : Bool) {Q : Prop} (h1 : b = true → Q) (h2 : b = false → Q) : Q := (tf b).elim h1 h2

def chk (b : Bool) : Option Unit := cond b (some ()) none
theorem chk_some {b : Bool} {u : Unit} (h : chk b = some u) : b = true := by cases b <;> simp [chk] at h ⊢

theorem not_t {b : Bool} (h : b = true) : (!b) = false := by rw [h]; rfl
theorem not_f {b : Bool} (h : b = false) : (!b) = true := by rw [h]; rfl
theorem app63 {a b c : Nat} (hc : 0 < c) {u : Unit} (h : chk (decide ((a + b) * c ≤ 140737488355328)) = some u) : a + b ≤ 9223372036854775807 := by
 have h1 := of_decide_eq_true (chk_some h)
 have : a + b ≤ (a + b) * c := Nat.le_mul_of_pos_right _ hc
 omega
theorem make_ok {i c : Int} {u : Unit} (h : chk (decide (0 ≤ i ∧ i * c ≤ 140737488355328)) = some u) : 0 ≤ i ∧ i * c ≤ 140737488355328 := of_decide_eq_true (chk_some h)
theorem make_ok63 {i c : Int} (hc : 0 < c) {u : Unit} (h : chk (decide (0 ≤ i ∧ i * c ≤ 140737488355328)) = some u) : i ≤ 9223372036854775807 := by
 obtain ⟨h1, h2⟩ := make_ok h
 have h3 : i * 1 ≤ i * c := Int.mul_le_mul_of_nonneg_left (by omega) h1
 omega
def shrI (k : IntKind) (i j : Int) : Int := i.fdiv (2 ^ (min j.toNat k.bits))

def iter {τ ω : Type} (step : τ → Option (τ ⊕ ω)) : Nat → τ → Option ω
 | 0, _ => none
 | k + 1, x => (step x).bind fun y => match y with
  | .inl x' => iter step k x'
  | .inr o => some o

def iterK {τ ω : Type} (step : τ → Option (τ ⊕ ω)) (k : Nat) : τ ⊕ ω → Option ω
 | .inl x' => iter step k x'
 | .inr o => some o

theorem iter_succ {τ ω : Type} {step : τ → Option (τ ⊕ ω)} {k : Nat} {x : τ} {o : ω} (h : iter step k x = some o) : ∃ k' y, k = k' + 1 ∧ step x = some y ∧ iterK step k' y = some o := by
 cases k with
 | zero => cases h
 | succ k =>
  obtain ⟨y, h1, h2⟩ := ob h
  refine ⟨k, y, rfl, h1, ?_⟩
  cases y <;> exact h2

theorem iter_succ' {τ ω : Type} {step : τ → Option (τ ⊕ ω)} {k : Nat} {x : τ} {o : ω} {Q : Prop} (h : iter step k x = some o) (m : ∀ k' y, k' < k → step x = some y → iterK step k' y = some o → Q) : Q :=
 let ⟨k', y, e, h1, h2⟩ := iter_succ h
 m k' y (e ▸ Nat.lt_succ_self k') h1 h2

def big : Nat := 2 ^ 64


def Imp (c c' : C) : Prop := ∀ w F v, c.rep w F v → c'.rep w F v
theorem Imp.refl (c : C) : Imp c c := fun _ _ _ h => h
theorem Imp.any (c : C) : Imp c .any := fun _ _ _ _ => trivial
theorem Imp.nil {α : Type} (k : α → List C) (sz : Nat) : Imp (.val (.slice none 0 0)) (.im k sz []) := fun w F v h => by
 rw [show v = _ from h]
 exact ⟨none, 0, rfl, Nat.le_refl _, fun i x hx => by simp at hx⟩

inductive Imps : List C → List C → Prop
 | nil : Imps [] []
 | cons {c c' : C} {cs cs' : List C} (h : Imp c c') (k : Imps cs cs') : Imps (c :: cs) (c' :: cs')

theorem Imps.cells {w : World} {F : BSet} {cs cs' : List C} (h : Imps cs cs') : ∀ {vs : List Value}, Cells w F cs vs → Cells w F cs' vs := by
 induction h with
 | nil => exact fun h => h
 | cons h _ ih => rintro _ ⟨v, r, rfl, h1, h2, h3⟩; exact ⟨v, r, rfl, h _ _ _ h1, h2, ih h3⟩
theorem Imps.reps {w : World} {F : BSet} {cs cs' : List C} (h : Imps cs cs') : ∀ {vs : List Value}, Reps w F cs vs → Reps w F cs' vs := by
 induction h with
 | nil => exact fun h => h
 | cons h _ ih => rintro _ ⟨v, r, rfl, h1, h3⟩; exact ⟨v, r, rfl, h _ _ _ h1, ih h3⟩
theorem Imp.agg {cs cs' : List C} (h : Imps cs cs') : Imp (.agg cs) (.agg cs') := fun _ _ _ ⟨vs, e, hc⟩ => ⟨vs, e, h.cells hc⟩
theorem Imp.tup {cs cs' : List C} (h : Imps cs cs') : Imp (.tup cs) (.tup cs') := fun _ _ _ ⟨vs, e, hc⟩ => ⟨vs, e, h.reps hc⟩
theorem Imps.refl : ∀ cs : List C, Imps cs cs
 | [] => .nil
 | c :: cs => .cons (Imp.refl c) (Imps.refl cs)

section
variable {P : Program} {n : Nat} {X : Ctx}

theorem Ghost.imp {e : Env} {o : List Obj} {t : Nat} {c c' : C} (ht : get e t = some c) (h : Imp c c') : Ghost n X ⟨e, o⟩ ⟨(t, c') :: e, o⟩ := by
 rintro a w ⟨F, G, hs⟩
 refine ⟨F, G, ⟨fun i d hi => ?_, hs.own, hs.fin, hs.gin, hs.sub, hs.chg, hs.size, hs.defs⟩⟩
 by_cases e1 : t = i
 ·
  subst e1
  rw [get_cons_same] at hi
  cases hi
  exact h _ _ _ (hs.env t c ht)
 ·
  rw [get_cons_ne _ _ e1] at hi
  exact hs.env i d hi

theorem Ok.pre {f : FuncId} {cs cs' : List C} {os : List Obj} {R : C → List Obj → Prop} (h : Ok P f cs' os R) (k : Imps cs cs') : Ok P f cs os R :=
 ⟨h.1, fun w F G vals h1 h2 h3 => h.2 w F G vals (k.reps h1) h2 h3⟩

theorem cells_zero {zs : List Value} {cs : List C} (h : cs = zs.map C.val) (h1 : (zs.all fun v => v.oneCell') = true) : ∀ w F, Cells w F cs zs := by
 subst h
 intro w F
 induction zs with
 | nil => rfl
 | cons v r ih =>
  simp only [List.all_cons, Bool.and_eq_true] at h1
  exact ⟨v, r, rfl, rfl, h1.1, ih h1.2⟩

theorem arr_im {α : Type} {k : α → List C} {sz E : Nat} {v : Value} {xs : List α} {w : World} {F G1 F' : BSet} (h : (Obj.arr v E k sz xs).rep w F G1) (hF : ∀ b, F b → F' b) (hG : ∀ b, G1 b → F' b) : (C.im k sz xs).rep w F' v := by
 obtain ⟨⟨vs, hrow, hf⟩, hg⟩ := h
 rcases hrow.2 with ⟨rfl, h0⟩ | ⟨g, cap, cur, rfl, _, hb, hnc, _⟩
 ·
  have : xs = [] := List.eq_nil_of_length_eq_zero h0
  subst this
  exact ⟨none, 0, rfl, Nat.le_refl _, fun i x hx => by simp at hx⟩
 ·
  refine ⟨_, cap, rfl, hnc, fun i x hx => ?_⟩
  obtain ⟨us, hl, hcl, hus⟩ := hf.get hx
  refine ⟨g, 0, us, rfl, hG g ((hg g).2 rfl), hl, fun j u hu => ?_, hcl.mono fun b hb => ⟨hF b hb, rfl⟩⟩
  have := hrow.cells (g := g) rfl _ u (hus j u hu)
  rwa [addr_add, ← Nat.add_assoc] at this

def Frz (c : C) (qs : List Obj) (c' : C) : Prop := ∀ w F G F' v, c.rep w F v → Own w F qs G → (∀ b, F b → F' b) → (∀ b, G b → F' b) → c'.rep w F' v

theorem Frz.same (c : C) : Frz c [] c := fun _ _ _ _ _ h _ hF _ => C.mono _ h fun b hb => ⟨hF b hb, rfl⟩
theorem Frz.arr {α : Type} {k : α → List C} {sz E : Nat} {v : Value} {xs : List α} : Frz (.val v) [.arr v E k sz xs] (.im k sz xs) := fun w F G F' u h ho hF hG => by
 rw [show u = v from h]
 exact arr_im ho.only hF hG

def FrzL (cs : List C) (qs : List Obj) (cs' : List C) : Prop := ∀ w F G F' vs, Cells w F cs vs → Own w F qs G → (∀ b, F b → F' b) → (∀ b, G b → F' b) → Cells w F' cs' vs
theorem FrzL.nil : FrzL [] [] [] := fun _ _ _ _ _ h _ _ _ => h
theorem FrzL.cons {c c' : C} {cs cs' : List C} {os qs : List Obj} (h : Frz c os c') (k : FrzL cs qs cs') : FrzL (c :: cs) (os ++ qs) (c' :: cs') := by
 rintro w F G F' _ ⟨v, r, rfl, h1, h2, h3⟩ ho hF hG
 obtain ⟨G1, G2, hi, _, o1, o2⟩ := Own.append.1 ho
 exact ⟨v, r, rfl, h _ _ _ _ _ h1 o1 hF fun b hb => hG b ((hi b).2 (.inl hb)), h2, k _ _ _ _ _ h3 o2 hF fun b hb => hG b ((hi b).2 (.inr hb))⟩
theorem Frz.agg {cs cs' : List C} {qs : List Obj} (h : FrzL cs qs cs') : Frz (.agg cs) qs (.agg cs') := fun w F G F' v ⟨vs, e, hc⟩ ho hF hG => ⟨vs, e, h _ _ _ _ _ hc ho hF hG⟩
def FrzT (cs : List C) (qs : List Obj) (cs' : List C) : Prop := ∀ w F G F' vs, Reps w F cs vs → Own w F qs G → (∀ b, F b → F' b) → (∀ b, G b → F' b) → Reps w F' cs' vs
theorem FrzT.nil : FrzT [] [] [] := fun _ _ _ _ _ h _ _ _ => h
theorem FrzT.cons {c c' : C} {cs cs' : List C} {os qs : List Obj} (h : Frz c os c') (k : FrzT cs qs cs') : FrzT (c :: cs) (os ++ qs) (c' :: cs') := by
 rintro w F G F' _ ⟨v, r, rfl, h1, h3⟩ ho hF hG
 obtain ⟨G1, G2, hi, _, o1, o2⟩ := Own.append.1 ho
 exact ⟨v, r, rfl, h _ _ _ _ _ h1 o1 hF fun b hb => hG b ((hi b).2 (.inl hb)), k _ _ _ _ _ h3 o2 hF fun b hb => hG b ((hi b).2 (.inr hb))⟩
theorem Frz.tup {cs cs' : List C} {qs : List Obj} (h : FrzT cs qs cs') : Frz (.tup cs) qs (.tup cs') := fun w F G F' v ⟨vs, e, hc⟩ ho hF hG => ⟨vs, e, h _ _ _ _ _ hc ho hF hG⟩

theorem Ok.freeze {f : FuncId} {cs : List C} {os : List Obj} {R : C → List Obj → Prop} {c' : C} (h : Ok P f cs os R) (k : ∀ c qs, R c qs → Frz c qs c') : Ok P f cs os fun c qs => c = c' ∧ qs = [] :=
 ⟨h.1, fun w F G vals h1 h2 h3 => (h.2 w F G vals h1 h2 h3).mono fun _ w' ⟨v, c, qs, F', G', he, hr, hc, ht⟩ => by
  refine ⟨v, c', [], fun b => F' b ∨ G' b, fun _ => False, he, ⟨rfl, rfl⟩, k c qs hr w' F' G' _ v hc ht.own (fun _ h => .inl h) (fun _ h => .inr h), ⟨fun _ h => h, fun b hb => .inl (ht.sub b hb), fun b hb => ?_, fun _ h => h.elim, ht.chg⟩⟩
  rcases hb with hb | hb
  ·
   exact ht.fin b hb
  ·
   exact ⟨(ht.gin b hb).1, .inr (ht.gin b hb).2.2⟩⟩

def PlainC (c : C) : Prop := ∀ w F w' F' v, c.rep w F v → c.rep w' F' v
theorem PlainC.val (x : Value) : PlainC (.val x) := fun _ _ _ _ _ h => h
theorem PlainC.any : PlainC .any := fun _ _ _ _ _ h => h
def PlainCs (cs : List C) : Prop := ∀ c ∈ cs, PlainC c
theorem PlainCs.cells {cs : List C} (h : PlainCs cs) {w w' : World} {F F' : BSet} : ∀ {vs : List Value}, Cells w F cs vs → Cells w' F' cs vs := by
 induction cs with
 | nil => exact fun h => h
 | cons c cs ih => rintro _ ⟨v, r, rfl, h1, h2, h3⟩; exact ⟨v, r, rfl, h c (by simp) _ _ _ _ _ h1, h2, ih (fun c hc => h c (by simp [hc])) h3⟩
theorem PlainCs.reps {cs : List C} (h : PlainCs cs) {w w' : World} {F F' : BSet} : ∀ {vs : List Value}, Reps w F cs vs → Reps w' F' cs vs := by
 induction cs with
 | nil => exact fun h => h
 | cons c cs ih => rintro _ ⟨v, r, rfl, h1, h3⟩; exact ⟨v, r, rfl, h c (by simp) _ _ _ _ _ h1, ih (fun c hc => h c (by simp [hc])) h3⟩
theorem PlainCs.nil : PlainCs [] := fun _ h => by cases h
theorem PlainCs.cons {c : C} {cs : List C} (h : PlainC c) (k : PlainCs cs) : PlainCs (c :: cs) := fun d hd => by
 rcases List.mem_cons.1 hd with rfl | hd
 ·
  exact h
 ·
  exact k d hd
theorem PlainC.agg {cs : List C} (h : PlainCs cs) : PlainC (.agg cs) := fun _ _ _ _ _ ⟨vs, e, hc⟩ => ⟨vs, e, h.cells hc⟩
theorem PlainC.tup {cs : List C} (h : PlainCs cs) : PlainC (.tup cs) := fun _ _ _ _ _ ⟨vs, e, hc⟩ => ⟨vs, e, h.reps hc⟩
def PlainO (o : Obj) : Prop := ∀ w F F' G, o.rep w F G → o.rep w F' G
theorem Flat.plain {α : Type} {k : α → List C} {sz : Nat} (h : ∀ x, PlainCs (k x)) {w : World} {F F' : BSet} : ∀ {xs : List α} {vs : List Value}, Flat w F k sz xs vs → Flat w F' k sz xs vs
 | [], _, h => h
 | _ :: _, _, ⟨a, r, e, hl, h1, h2⟩ => ⟨a, r, e, hl, (h _).cells h1, h2.plain h⟩
theorem PlainO.arr {α : Type} {k : α → List C} {sz E : Nat} {v : Value} {xs : List α} (h : ∀ x, PlainCs (k x)) : PlainO (.arr v E k sz xs) := fun _ _ _ _ ⟨⟨vs, hr, hf⟩, hg⟩ => ⟨⟨vs, hr, hf.plain h⟩, hg⟩
theorem PlainO.box {b T : Nat} {cs : List C} (h : PlainCs cs) : PlainO (.box b T cs) := fun _ _ _ _ ⟨hg, vs, hb, hc⟩ => ⟨hg, vs, hb, h.cells hc⟩
theorem Own.plain {w : World} {F F' : BSet} : ∀ {os : List Obj} {G : BSet}, (∀ o ∈ os, PlainO o) → Own w F os G → Own w F' os G
 | [], _, _, h => h
 | o :: _, _, hp, ⟨G1, G2, hi, hd, h1, h2⟩ => ⟨G1, G2, hi, hd, hp o (by simp) _ _ _ _ h1, h2.plain fun o ho => hp o (by simp [ho])⟩

def Lend (cs : List C) (ps : List Obj) (cs' : List C) : Prop := FrzT cs ps cs'

theorem Ok.lend {f : FuncId} {cs cs' : List C} {ps : List Obj} {R : C → List Obj → Prop} (h : Ok P f cs' [] R) (k : Lend cs ps cs') (hpl : ∀ c qs, R c qs → PlainC c ∧ ∀ o ∈ qs, PlainO o) :
  Ok P f cs ps fun c qs => ∃ qs', R c qs' ∧ qs = qs' ++ ps := by
 refine ⟨h.1, fun w F G vals h1 h2 h3 => ?_⟩
 have hfit : Fit w (fun b => F b ∨ G b) (fun _ => False) := ⟨fun b hb => hb.elim (h3.fin b) fun hb => (h3.gin b hb).1, fun _ h => h.elim⟩
 refine (h.2 w (fun b => F b ∨ G b) (fun _ => False) vals (k w F G _ vals h1 h2 (fun _ h => .inl h) fun _ h => .inr h) (fun _ h => h) hfit).mono fun _ w' ⟨v, c, qs, F', G', he, hr, hc, ht⟩ => ?_
 obtain ⟨hpc, hpo⟩ := hpl c qs hr
 have hG : ∀ b, G b → w'.heap[b]? = w.heap[b]? := fun b hb => ht.chg.block b (h3.gin b hb).1 fun h => h
 have hF : ∀ b, F b → F b ∧ w'.heap[b]? = w.heap[b]? := fun b hb => ⟨hb, ht.chg.block b (h3.fin b hb) fun h => h⟩
 have hnew : ∀ b, G' b → w.heap.size ≤ b := fun b hb => (ht.gin b hb).2.2.resolve_left fun h => h
 refine ⟨v, c, qs ++ ps, F, fun b => G' b ∨ G b, he, ⟨qs, hr, rfl⟩, hpc _ _ _ _ _ hc, ⟨Own.append.2 ⟨G', G, fun _ => Iff.rfl, fun b hb hg => ?_, ht.own.plain hpo, h2.mono hF hG⟩, fun _ h => h, fun b hb => ⟨Nat.lt_of_lt_of_le (h3.fin b hb) ht.chg.size, .inl hb⟩, fun b hb => ?_, ⟨ht.chg.os, ht.chg.tape, ht.chg.output, ht.chg.size, ht.chg.drawn, fun b hb _ => ht.chg.block b hb fun h => h⟩⟩⟩
 ·
  have := hnew b hb; have := (h3.gin b hg).1; omega
 ·
  rcases hb with hb | hb
  ·
   exact ⟨(ht.gin b hb).1, fun hf => by have := hnew b hb; have := h3.fin b hf; omega, .inr (hnew b hb)⟩
  ·
   exact ⟨Nat.lt_of_lt_of_le (h3.gin b hb).1 ht.chg.size, (h3.gin b hb).2, .inl hb⟩

theorem plainO_nil : ∀ o ∈ ([] : List Obj), PlainO o := fun _ h => by cases h
theorem plainO_cons {o : Obj} {os : List Obj} (h : PlainO o) (k : ∀ o ∈ os, PlainO o) : ∀ p ∈ o :: os, PlainO p := fun p hp => by
 rcases List.mem_cons.1 hp with rfl | hp
 ·
  exact h
 ·
  exact k p hp

theorem Ok.lendE {f : FuncId} {cs cs' : List C} {ps : List Obj} {c1 : C} (h : Ok P f cs' [] fun c qs => c = c1 ∧ qs = []) (k : FrzT cs ps cs') (hpl : PlainC c1) : Ok P f cs ps fun c qs => c = c1 ∧ qs = ps :=
 (Ok.lend h k fun c qs ⟨h1, h2⟩ => by subst h1; subst h2; exact ⟨hpl, fun o ho => by cases ho⟩).mono fun c qs ⟨qs', ⟨h1, h2⟩, h3⟩ => by subst h2; exact ⟨h1, h3⟩
end
end Go.Abs
