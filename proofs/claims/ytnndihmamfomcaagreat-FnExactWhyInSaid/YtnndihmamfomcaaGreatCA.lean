/- A library of this session: abstract states for Go frames (frozen memory read as trees, owned memory as objects), and the rules of a walk over them. -/
import Derived.WalkKit
set_option autoImplicit false
set_option linter.unusedVariables false
set_option linter.unusedSimpArgs false
namespace Go.Abs
open Go


abbrev BSet := Nat → Prop

structure C where
 rep : World → BSet → Value → Prop
 mono : ∀ {w w' : World} {F F' : BSet} {v : Value}, rep w F v → (∀ b, F b → F' b ∧ w'.heap[b]? = w.heap[b]?) → rep w' F' v

def C.val (x : Value) : C := ⟨fun _ _ v => v = x, fun h _ => h⟩
def C.any : C := ⟨fun _ _ _ => True, fun _ _ => trivial⟩
abbrev C.int (n : Int) : C := C.val (.int .i64 n)
abbrev C.bool (b : Bool) : C := C.val (.bool b)
abbrev C.str (s : ByteArray) : C := C.val (.string s)

def CellsAt (w : World) (b off : Nat) (vs : List Value) : Prop := ∀ j u, vs[j]? = some u → w.cell? ⟨b, off + j, none⟩ = some u

theorem CellsAt.mono {w w' : World} {b off : Nat} {vs : List Value} (h : CellsAt w b off vs) (hb : w'.heap[b]? = w.heap[b]?) : CellsAt w' b off vs :=
 fun j u hu => (World.cell?_of_block (a := ⟨b, off + j, none⟩) hb).trans (h j u hu)

def Cells (w : World) (F : BSet) : List C → List Value → Prop
 | [], vs => vs = []
 | c :: cs, vs => ∃ v r, vs = v :: r ∧ c.rep w F v ∧ v.oneCell' = true ∧ Cells w F cs r

theorem Cells.mono {w w' : World} {F F' : BSet} : ∀ {cs : List C} {vs : List Value}, Cells w F cs vs → (∀ b, F b → F' b ∧ w'.heap[b]? = w.heap[b]?) → Cells w' F' cs vs
 | [], _, h, _ => h
 | _ :: _, _, ⟨v, r, e, h1, h2, h3⟩, k => ⟨v, r, e, C.mono _ h1 k, h2, h3.mono k⟩

theorem Cells.length {w : World} {F : BSet} : ∀ {cs : List C} {vs : List Value}, Cells w F cs vs → vs.length = cs.length
 | [], _, h => by rw [h]; rfl
 | _ :: _, _, ⟨_, _, e, _, _, h⟩ => by rw [e, List.length_cons, List.length_cons, h.length]

theorem Cells.get {w : World} {F : BSet} : ∀ {cs : List C} {vs : List Value} {i : Nat} {c : C}, Cells w F cs vs → cs[i]? = some c → ∃ v, vs[i]? = some v ∧ c.rep w F v ∧ v.oneCell' = true
 | [], _, _, _, _, hi => by simp at hi
 | _ :: _, _, 0, _, ⟨v, r, e, h1, h2, _⟩, hi => by
  simp at hi; subst hi; subst e; exact ⟨v, rfl, h1, h2⟩
 | _ :: _, _, i + 1, _, ⟨v, r, e, _, _, h3⟩, hi => by
  subst e
  simp only [List.getElem?_cons_succ] at hi ⊢
  exact h3.get hi

theorem Cells.one {w : World} {F : BSet} : ∀ {cs : List C} {vs : List Value}, Cells w F cs vs → ∀ u ∈ vs, u.oneCell' = true
 | [], _, h, u, hu => by rw [h] at hu; cases hu
 | _ :: _, _, ⟨v, r, e, _, h2, h3⟩, u, hu => by
  subst e
  rcases List.mem_cons.1 hu with rfl | hu
  ·
   exact h2
  ·
   exact h3.one u hu

theorem Cells.append {w : World} {F : BSet} : ∀ {cs ds : List C} {vs us : List Value}, Cells w F cs vs → Cells w F ds us → Cells w F (cs ++ ds) (vs ++ us)
 | [], _, _, _, h, k => by rw [show _ = [] from h]; exact k
 | _ :: _, _, _, _, ⟨v, r, e, h1, h2, h3⟩, k => ⟨v, r ++ _, by rw [e]; rfl, h1, h2, h3.append k⟩

theorem Cells.drop {w : World} {F : BSet} : ∀ {cs : List C} {vs : List Value} (n : Nat), Cells w F cs vs → Cells w F (cs.drop n) (vs.drop n)
 | _, _, 0, h => by simpa using h
 | [], _, _ + 1, h => by rw [show _ = [] from h]; exact rfl
 | _ :: _, _, n + 1, ⟨v, r, e, _, _, h3⟩ => by subst e; exact h3.drop n

theorem Cells.take {w : World} {F : BSet} : ∀ {cs : List C} {vs : List Value} (n : Nat), Cells w F cs vs → Cells w F (cs.take n) (vs.take n)
 | _, _, 0, _ => rfl
 | [], _, _ + 1, h => by rw [show _ = [] from h]; exact rfl
 | _ :: _, _, n + 1, ⟨v, r, e, h1, h2, h3⟩ => by subst e; exact ⟨v, _, rfl, h1, h2, h3.take n⟩

theorem CellsAt.drop {w : World} {b off : Nat} {vs : List Value} (n : Nat) (h : CellsAt w b off vs) : CellsAt w b (off + n) (vs.drop n) := fun j u hu => by
 rw [List.getElem?_drop] at hu
 have := h (n + j) u hu
 rwa [← Nat.add_assoc] at this

theorem CellsAt.take {w : World} {b off : Nat} {vs : List Value} (n : Nat) (h : CellsAt w b off vs) : CellsAt w b off (vs.take n) := fun j u hu => by
 rw [List.getElem?_take] at hu
 split at hu
 ·
  exact h j u hu
 ·
  cases hu

def C.agg (cs : List C) : C where
 rep w F v := ∃ vs, v = .agg vs.toArray ∧ Cells w F cs vs
 mono := by rintro w w' F F' v ⟨vs, rfl, h⟩ k; exact ⟨vs, rfl, h.mono k⟩

def Reps (w : World) (F : BSet) : List C → List Value → Prop
 | [], vs => vs = []
 | c :: cs, vs => ∃ v r, vs = v :: r ∧ c.rep w F v ∧ Reps w F cs r

theorem Reps.mono {w w' : World} {F F' : BSet} : ∀ {cs : List C} {vs : List Value}, Reps w F cs vs → (∀ b, F b → F' b ∧ w'.heap[b]? = w.heap[b]?) → Reps w' F' cs vs
 | [], _, h, _ => h
 | _ :: _, _, ⟨v, r, e, h1, h3⟩, k => ⟨v, r, e, C.mono _ h1 k, h3.mono k⟩

theorem Reps.get {w : World} {F : BSet} : ∀ {cs : List C} {vs : List Value} {i : Nat} {c : C}, Reps w F cs vs → cs[i]? = some c → ∃ v, vs[i]? = some v ∧ c.rep w F v
 | [], _, _, _, _, hi => by simp at hi
 | _ :: _, _, 0, _, ⟨v, r, e, h1, _⟩, hi => by
  simp at hi; subst hi; subst e; exact ⟨v, rfl, h1⟩
 | _ :: _, _, i + 1, _, ⟨v, r, e, _, h3⟩, hi => by
  subst e
  simp only [List.getElem?_cons_succ] at hi ⊢
  exact h3.get hi

theorem Reps.length {w : World} {F : BSet} : ∀ {cs : List C} {vs : List Value}, Reps w F cs vs → vs.length = cs.length
 | [], _, h => by rw [h]; rfl
 | _ :: _, _, ⟨_, _, e, _, h⟩ => by rw [e, List.length_cons, List.length_cons, h.length]

def C.tup (cs : List C) : C where
 rep w F v := ∃ vs, v = .tuple vs.toArray ∧ Reps w F cs vs
 mono := by rintro w w' F F' v ⟨vs, rfl, h⟩ k; exact ⟨vs, rfl, h.mono k⟩

def C.im {α : Type} (k : α → List C) (sz : Nat) (xs : List α) : C where
 rep w F v := ∃ A cap, v = .slice A xs.length cap ∧ xs.length ≤ cap ∧
  ∀ i x, xs[i]? = some x → ∃ b off vs, A = some ⟨b, off, none⟩ ∧ F b ∧ vs.length = sz ∧ CellsAt w b (off + i * sz) vs ∧ Cells w F (k x) vs
 mono := by
  rintro w w' F F' v ⟨A, cap, rfl, hc, h⟩ k
  refine ⟨A, cap, rfl, hc, fun i x hx => ?_⟩
  obtain ⟨b, off, vs, rfl, hb, hl, hcs, hcl⟩ := h i x hx
  exact ⟨b, off, vs, rfl, (k b hb).1, hl, hcs.mono (k b hb).2, hcl.mono k⟩

def C.ip (cs : List C) : C where
 rep w F v := ∃ b off vs, v = .pointer (some ⟨b, off, none⟩) ∧ F b ∧ CellsAt w b off vs ∧ Cells w F cs vs
 mono := by rintro w w' F F' v ⟨b, off, vs, rfl, hb, h1, h2⟩ k; exact ⟨b, off, vs, rfl, (k b hb).1, h1.mono (k b hb).2, h2.mono k⟩


structure Obj where
 rep : World → BSet → BSet → Prop
 mono : ∀ {w w' : World} {F F' G : BSet}, rep w F G → (∀ b, F b → F' b ∧ w'.heap[b]? = w.heap[b]?) → (∀ b, G b → w'.heap[b]? = w.heap[b]?) → rep w' F' G

def Own (w : World) (F : BSet) : List Obj → BSet → Prop
 | [], G => ∀ b, ¬ G b
 | o :: r, G => ∃ G1 G2, (∀ b, G b ↔ G1 b ∨ G2 b) ∧ (∀ b, G1 b → ¬ G2 b) ∧ o.rep w F G1 ∧ Own w F r G2

theorem Own.mono {w w' : World} {F F' : BSet} : ∀ {os : List Obj} {G : BSet}, Own w F os G → (∀ b, F b → F' b ∧ w'.heap[b]? = w.heap[b]?) → (∀ b, G b → w'.heap[b]? = w.heap[b]?) → Own w' F' os G
 | [], _, h, _, _ => h
 | _ :: _, _, ⟨G1, G2, hi, hd, h1, h2⟩, k, g => ⟨G1, G2, hi, hd, Obj.mono _ h1 k fun b hb => g b ((hi b).2 (.inl hb)), h2.mono k fun b hb => g b ((hi b).2 (.inr hb))⟩

theorem Own.congr {w : World} {F : BSet} {os : List Obj} {G G' : BSet} (h : Own w F os G) (e : ∀ b, G b ↔ G' b) : Own w F os G' := by
 have : G = G' := funext fun b => propext (e b)
 exact this ▸ h

theorem Own.swap {w : World} {F : BSet} {o p : Obj} {r : List Obj} {G : BSet} (h : Own w F (o :: p :: r) G) : Own w F (p :: o :: r) G := by
 obtain ⟨G1, G2, hi, hd, h1, G3, G4, hi', hd', h3, h4⟩ := h
 refine ⟨G3, fun b => G1 b ∨ G4 b, fun b => ?_, fun b hb hx => ?_, h3, G1, G4, fun b => Iff.rfl, fun b hb hx => hd b hb ((hi' b).2 (.inr hx)), h1, h4⟩
 ·
  rw [hi b, hi' b]
  constructor
  ·
   rintro (h | h | h)
   ·
    exact .inr (.inl h)
   ·
    exact .inl h
   ·
    exact .inr (.inr h)
  ·
   rintro (h | h | h)
   ·
    exact .inr (.inl h)
   ·
    exact .inl h
   ·
    exact .inr (.inr h)
 ·
  rcases hx with hx | hx
  ·
   exact hd b hx ((hi' b).2 (.inl hb))
  ·
   exact hd' b hb hx

theorem Own.perm {w : World} {F : BSet} {os os' : List Obj} (p : os.Perm os') : ∀ {G : BSet}, Own w F os G → Own w F os' G := by
 induction p with
 | nil => exact fun h => h
 | cons o _ ih => exact fun ⟨G1, G2, hi, hd, h1, h2⟩ => ⟨G1, G2, hi, hd, h1, ih h2⟩
 | swap => exact fun h => h.swap
 | trans _ _ ih1 ih2 => exact fun h => ih2 (ih1 h)

theorem Own.append {w : World} {F : BSet} : ∀ {os ps : List Obj} {G : BSet}, Own w F (os ++ ps) G ↔ ∃ G1 G2, (∀ b, G b ↔ G1 b ∨ G2 b) ∧ (∀ b, G1 b → ¬ G2 b) ∧ Own w F os G1 ∧ Own w F ps G2
 | [], ps, G => by
  constructor
  ·
   exact fun h => ⟨fun _ => False, G, fun b => by simp, fun b hb => hb.elim, fun b hb => hb, h⟩
  ·
   rintro ⟨G1, G2, hi, _, h1, h2⟩
   exact h2.congr fun b => by rw [hi b]; exact ⟨.inr, fun h => h.resolve_left (h1 b)⟩
 | o :: os, ps, G => by
  constructor
  ·
   rintro ⟨G1, G2, hi, hd, h1, h2⟩
   obtain ⟨G3, G4, hi', hd', h3, h4⟩ := Own.append.1 h2
   refine ⟨fun b => G1 b ∨ G3 b, G4, fun b => ?_, fun b hb hx => ?_, ⟨G1, G3, fun b => Iff.rfl, fun b hb hx => hd b hb ((hi' b).2 (.inl hx)), h1, h3⟩, h4⟩
   ·
    rw [hi b, hi' b, or_assoc]
   ·
    rcases hb with hb | hb
    ·
     exact hd b hb ((hi' b).2 (.inr hx))
    ·
     exact hd' b hb hx
  ·
   rintro ⟨G1, G2, hi, hd, ⟨G3, G4, hi', hd', h3, h4⟩, h2⟩
   refine ⟨G3, fun b => G4 b ∨ G2 b, fun b => ?_, fun b hb hx => ?_, h3, Own.append.2 ⟨G4, G2, fun b => Iff.rfl, fun b hb hx => hd b ((hi' b).2 (.inr hb)) hx, h4, h2⟩⟩
   ·
    rw [hi b, hi' b, or_assoc]
   ·
    rcases hx with hx | hx
    ·
     exact hd' b hb hx
    ·
     exact hd b ((hi' b).2 (.inl hb)) hx

def pick : Nat → List Obj → Option Obj
 | _, [] => none
 | 0, o :: _ => some o
 | n + 1, _ :: r => pick n r

theorem pick_perm : ∀ {n : Nat} {os : List Obj} {o : Obj}, pick n os = some o → ∃ r, os.Perm (o :: r)
 | _, [], _, h => by simp [pick] at h
 | 0, _ :: r, _, h => by simp [pick] at h; subst h; exact ⟨r, .refl _⟩
 | n + 1, p :: os, o, h => by
  obtain ⟨r, hr⟩ := pick_perm (n := n) (os := os) h
  exact ⟨p :: r, (hr.cons p).trans (.swap ..)⟩

def pickK {γ : Type} : Nat → List Obj → (Obj → List Obj → Option γ) → Option γ
 | _, [], _ => none
 | 0, o :: r, k => k o r
 | n + 1, o :: r, k => pickK n r fun p q => k p (o :: q)

theorem pickK_perm {γ : Type} {x : γ} : ∀ {n : Nat} {os : List Obj} {k : Obj → List Obj → Option γ}, pickK n os k = some x → ∃ o r, os.Perm (o :: r) ∧ k o r = some x
 | _, [], _, h => by simp [pickK] at h
 | 0, o :: r, _, h => ⟨o, r, .refl _, h⟩
 | n + 1, p :: os, k, h => by
  obtain ⟨o, r, h1, h2⟩ := pickK_perm (n := n) (os := os) h
  exact ⟨o, p :: r, (h1.cons p).trans (.swap ..), h2⟩

def picksK {γ : Type} : List Nat → List Obj → (List Obj → List Obj → Option γ) → Option γ
 | [], os, k => k [] os
 | n :: ns, os, k => pickK n os fun o r => picksK ns r fun ps q => k (o :: ps) q

theorem picksK_perm {γ : Type} {x : γ} : ∀ {ns : List Nat} {os : List Obj} {k : List Obj → List Obj → Option γ}, picksK ns os k = some x → ∃ ps r, os.Perm (ps ++ r) ∧ k ps r = some x
 | [], os, _, h => ⟨[], os, .refl _, h⟩
 | n :: ns, os, k, h => by
  obtain ⟨o, r, h1, h2⟩ := pickK_perm h
  obtain ⟨ps, q, h3, h4⟩ := picksK_perm h2
  exact ⟨o :: ps, q, h1.trans (h3.cons o), h4⟩

def picks (ns : List Nat) (os : List Obj) : Option (List Obj × List Obj) := picksK ns os fun ps r => some (ps, r)

theorem picks_perm {ns : List Nat} {os ps r : List Obj} (h : picks ns os = some (ps, r)) : os.Perm (ps ++ r) := by
 obtain ⟨ps', r', h1, h2⟩ := picksK_perm h
 cases h2
 exact h1

def appK : List Obj → List Obj → (List Obj → Prop) → Prop
 | [], r, k => k r
 | q :: qs, r, k => appK qs r fun l => k (q :: l)

theorem appK_iff : ∀ {qs r : List Obj} {k : List Obj → Prop}, appK qs r k ↔ k (qs ++ r)
 | [], _, _ => Iff.rfl
 | _ :: qs, r, k => appK_iff (qs := qs) (r := r)


abbrev Env := List (Nat × C)
def get : Env → Nat → Option C
 | [], _ => none
 | (i, c) :: r, j => match Nat.beq i j with | true => some c | false => get r j

theorem get_cons_same (i : Nat) (c : C) (e : Env) : get ((i, c) :: e) i = some c := by simp [get, Nat.beq_refl]
theorem get_cons_ne {i j : Nat} (c : C) (e : Env) (h : i ≠ j) : get ((i, c) :: e) j = get e j := by
 simp only [get]
 have : Nat.beq i j = false := by
  cases hb : Nat.beq i j with
  | false => rfl
  | true => exact absurd (Nat.eq_of_beq_eq_true hb) h
 rw [this]

structure St where
 e : Env
 o : List Obj

structure Chg (G : BSet) (w w' : World) : Prop where
 os : w'.os = w.os
 tape : w'.tape = w.tape
 output : w'.output = w.output
 size : w.heap.size ≤ w'.heap.size
 drawn : w.drawn ≤ w'.drawn
 block : ∀ b, b < w.heap.size → ¬ G b → w'.heap[b]? = w.heap[b]?

theorem Chg.refl (G : BSet) (w : World) : Chg G w w := ⟨rfl, rfl, rfl, Nat.le_refl _, Nat.le_refl _, fun _ _ _ => rfl⟩

structure Ctx where
 w : World
 F : BSet
 G : BSet

structure SimAt (n : Nat) (X : Ctx) (s : St) (a : Act) (w : World) (F G : BSet) : Prop where
 env : ∀ i c, get s.e i = some c → c.rep w F (a.tmps.getD i undef)
 own : Own w F s.o G
 fin : ∀ b, F b → b < w.heap.size ∧ (X.F b ∨ X.G b ∨ X.w.heap.size ≤ b)
 gin : ∀ b, G b → b < w.heap.size ∧ ¬ F b ∧ (X.G b ∨ X.w.heap.size ≤ b)
 sub : ∀ b, X.F b → F b
 chg : Chg X.G X.w w
 size : a.tmps.size = n
 defs : a.defers = []

def Sim (n : Nat) (X : Ctx) (s : St) (a : Act) (w : World) : Prop := ∃ F G, SimAt n X s a w F G

section
variable {n : Nat} {X : Ctx} {s : St} {a : Act} {w : World} {F G : BSet}

theorem getD_put (a : Act) (d : Nat) (v : Value) (h : d < a.tmps.size) : ((a.put (some d) v).tmps).getD d undef = v := by
 simp [Act.put, h]
theorem getD_put_ne (a : Act) {d i : Nat} (v : Value) (h : d ≠ i) : ((a.put (some d) v).tmps).getD i undef = a.tmps.getD i undef := by
 simp [Act.put, Array.getElem?_setIfInBounds_ne h]

theorem SimAt.put (h : SimAt n X s a w F G) {d : Nat} {c : C} {v : Value} (hd : d < n) (hc : c.rep w F v) : SimAt n X ⟨(d, c) :: s.e, s.o⟩ (a.put (some d) v) w F G where
 env i c' hi := by
  by_cases e : d = i
  ·
   subst e
   rw [get_cons_same] at hi
   cases hi
   rw [getD_put _ _ _ (by rw [h.size]; exact hd)]
   exact hc
  ·
   rw [get_cons_ne _ _ e] at hi
   rw [getD_put_ne _ _ e]
   exact h.env i c' hi
 own := h.own
 fin := h.fin
 gin := h.gin
 sub := h.sub
 chg := h.chg
 size := by simp [Act.put, h.size]
 defs := h.defs

structure Turn (w : World) (F G1 : BSet) (w' : World) (F' G1' : BSet) (qs : List Obj) : Prop where
 own : Own w' F' qs G1'
 sub : ∀ b, F b → F' b
 fin : ∀ b, F' b → b < w'.heap.size ∧ (F b ∨ G1 b ∨ w.heap.size ≤ b)
 gin : ∀ b, G1' b → b < w'.heap.size ∧ ¬ F' b ∧ (G1 b ∨ w.heap.size ≤ b)
 chg : Chg G1 w w'

theorem SimAt.turn (h : SimAt n X s a w F G) {G1 G2 : BSet} {r qs : List Obj} (hi : ∀ b, G b ↔ G1 b ∨ G2 b) (hd : ∀ b, G1 b → ¬ G2 b) (h2 : Own w F r G2) {w' : World} {F' G1' : BSet}
  (ht : Turn w F G1 w' F' G1' qs) : SimAt n X ⟨s.e, qs ++ r⟩ a w' F' (fun b => G1' b ∨ G2 b) := by
 obtain ⟨hq, hF, hF', hG, hc⟩ := ht
 have hsame : ∀ b, F b → w'.heap[b]? = w.heap[b]? := fun b hb =>
  hc.block b (h.fin b hb).1 fun hg => (h.gin b ((hi b).2 (.inl hg))).2.1 hb
 have hsame2 : ∀ b, G2 b → w'.heap[b]? = w.heap[b]? := fun b hb =>
  hc.block b (h.gin b ((hi b).2 (.inr hb))).1 fun hg => hd b hg hb
 have hmine : ∀ b, G1 b ∨ w.heap.size ≤ b → X.G b ∨ X.w.heap.size ≤ b := fun b hb => by
  rcases hb with hb | hb
  ·
   exact (h.gin b ((hi b).2 (.inl hb))).2.2
  ·
   exact .inr (Nat.le_trans h.chg.size hb)
 refine ⟨fun i c hic => C.mono _ (h.env i c hic) fun b hb => ⟨hF b hb, hsame b hb⟩, ?_, ?_, ?_, fun b hb => hF b (h.sub b hb), ?_, h.size, h.defs⟩
 ·
  refine Own.append.2 ⟨G1', G2, fun b => Iff.rfl, fun b hb hx => ?_, hq, h2.mono (fun b hb => ⟨hF b hb, hsame b hb⟩) hsame2⟩
  rcases (hG b hb).2.2 with hg | hg
  ·
   exact hd b hg hx
  ·
   exact absurd (h.gin b ((hi b).2 (.inr hx))).1 (by omega)
 ·
  intro b hb
  refine ⟨(hF' b hb).1, ?_⟩
  rcases (hF' b hb).2 with hf | hf
  ·
   exact (h.fin b hf).2
  ·
   exact .inr (hmine b hf)
 ·
  rintro b (hb | hb)
  ·
   exact ⟨(hG b hb).1, (hG b hb).2.1, hmine b (hG b hb).2.2⟩
  ·
   have hg := h.gin b ((hi b).2 (.inr hb))
   refine ⟨Nat.lt_of_lt_of_le hg.1 hc.size, fun hf => ?_, hg.2.2⟩
   rcases (hF' b hf).2 with h' | h' | h'
   ·
    exact hg.2.1 h'
   ·
    exact hd b h' hb
   ·
    omega
 ·
  refine ⟨hc.os.trans h.chg.os, hc.tape.trans h.chg.tape, hc.output.trans h.chg.output, Nat.le_trans h.chg.size hc.size, Nat.le_trans h.chg.drawn hc.drawn, fun b hb hn => ?_⟩
  rw [hc.block b (Nat.lt_of_lt_of_le hb h.chg.size) fun hg => ?_]
  ·
   exact h.chg.block b hb hn
  ·
   rcases (h.gin b ((hi b).2 (.inl hg))).2.2 with h' | h'
   ·
    exact hn h'
   ·
    omega

theorem Sim.forget {s' : St} (h : Sim n X s a w) (he : ∀ i c, get s'.e i = some c → get s.e i = some c) (ho : s'.o = s.o) : Sim n X s' a w := by
 obtain ⟨F, G, h⟩ := h
 exact ⟨F, G, ⟨fun i c hc => h.env i c (he i c hc), ho ▸ h.own, h.fin, h.gin, h.sub, h.chg, h.size, h.defs⟩⟩
end


def AW (P : Program) (n : Nat) (X : Ctx) (c : Code) (s : St) (K : Exit → St → Prop) : Prop :=
 ∀ a w, Sim n X s a w → c.wp P (fun e a' w' => ∃ s', Sim n X s' a' w' ∧ K e s') a w

def thenK (P : Program) (n : Nat) (X : Ctx) (y : Code) (K : Exit → St → Prop) : Exit → St → Prop
 | .normal, s => AW P n X y s K
 | e, s => K e s

def blockK (id : Nat) (K : Exit → St → Prop) : Exit → St → Prop
 | .exit j, s => match Nat.beq j id with | true => K .normal s | false => K (.exit j) s
 | e, s => K e s

def roundK (J : St → Prop) (K : Exit → St → Prop) : Exit → St → Prop
 | .normal, s => J s
 | e, s => K e s

section
variable {P : Program} {n : Nat} {X : Ctx} {s : St} {K : Exit → St → Prop}

theorem AW.mono {c : Code} {K' : Exit → St → Prop} (h : AW P n X c s K') (k : ∀ e s', K' e s' → K e s') : AW P n X c s K :=
 fun a w hs => Code.wp_mono (fun _ _ _ ⟨s', h1, h2⟩ => ⟨s', h1, k _ _ h2⟩) (h a w hs)

theorem AW.skip (h : K .normal s) : AW P n X .skip s K := fun _ _ hs => wp_skip ⟨s, hs, h⟩
theorem AW.ret (h : K .ret s) : AW P n X .ret s K := fun _ _ hs => wp_ret ⟨s, hs, h⟩
theorem AW.exit {id : Nat} (h : K (.exit id) s) : AW P n X (.exit id) s K := fun _ _ hs => wp_exit ⟨s, hs, h⟩
theorem AW.seq {x y : Code} (h : AW P n X x s (thenK P n X y K)) : AW P n X (.seq x y) s K := fun a w hs =>
 wp_seq (Code.wp_mono (fun e a' w' ⟨s', h1, h2⟩ => by
  cases e with
  | normal => exact h2 a' w' h1
  | _ => exact ⟨s', h1, h2⟩) (h a w hs))
theorem AW.block {id : Nat} {c : Code} (h : AW P n X c s (blockK id K)) : AW P n X (.block id c) s K := fun a w hs =>
 wp_block (Code.wp_mono (fun e a' w' ⟨s', h1, h2⟩ => by
  cases e with
  | exit j =>
   simp only [blockK] at h2
   simp only [Exit.inBlock]
   by_cases hj : j = id
   ·
    subst hj
    rw [if_pos rfl]
    rw [Nat.beq_refl] at h2
    exact ⟨s', h1, h2⟩
   ·
    rw [if_neg hj]
    have : Nat.beq j id = false := by
     cases hb : Nat.beq j id with
     | false => rfl
     | true => exact absurd (Nat.eq_of_beq_eq_true hb) hj
    rw [this] at h2
    exact ⟨s', h1, h2⟩
  | _ => exact ⟨s', h1, h2⟩) (h a w hs))

theorem Sim.eval_bool {a : Act} {w : World} {t : Nat} {b : Bool} (h : Sim n X s a w) (ht : get s.e t = some (.bool b)) : a.eval (.tmp t) = .bool b := by
 obtain ⟨F, G, h⟩ := h
 exact h.env t _ ht

theorem AW.cond {t : Nat} {x y : Code} {b : Bool} (ht : get s.e t = some (.bool b)) (h1 : b = true → AW P n X x s K) (h2 : b = false → AW P n X y s K) : AW P n X (.cond (.tmp t) x y) s K := fun a w hs => by
 refine wp_cond_split (hs.eval_bool ht) (fun hb => h1 hb a w hs) (fun hb => h2 hb a w hs)

theorem exists_least (p : Nat → Prop) : ∀ m, p m → ∃ m, p m ∧ ∀ k, p k → m ≤ k := by
 intro m
 induction m using Nat.strongRecOn with
 | _ m ih =>
  intro hm
  by_cases h : ∃ k, k < m ∧ p k
  ·
   obtain ⟨k, hk, hp⟩ := h
   exact ih k hk hp
  ·
   exact ⟨m, hm, fun k hk => Nat.le_of_not_lt fun hlt => h ⟨k, hlt, hk⟩⟩

open Classical in
theorem wp_loop_meas {c : Code} {Q : Exit → Act → World → Prop} {a : Act} {w : World} (R : Nat → Act → World → Prop) (k : Nat) (h0 : R k a w)
  (round : ∀ m a w, R m a w → c.wp P (Exit.then (fun a' w' => ∃ m', m' < m ∧ R m' a' w') Q) a w) : (Code.loop c).wp P Q a w := by
 refine wp_loop (fun a w => ∃ m, R m a w) (fun a w => if h : ∃ m, R m a w then Classical.choose (exists_least (R · a w) h.choose h.choose_spec) else 0) ⟨k, h0⟩ ?_
 intro a w hI
 have hm := Classical.choose_spec (exists_least (R · a w) hI.choose hI.choose_spec)
 simp only [dif_pos hI]
 generalize Classical.choose (exists_least (R · a w) hI.choose hI.choose_spec) = m at hm
 refine Code.wp_mono (fun e a' w' h => ?_) (round m a w hm.1)
 cases e with
 | normal =>
  obtain ⟨m', hlt, hR⟩ := h
  have hI' : ∃ m, R m a' w' := ⟨m', hR⟩
  refine ⟨hI', ?_⟩
  simp only [dif_pos hI']
  have hm' := Classical.choose_spec (exists_least (R · a' w') hI'.choose hI'.choose_spec)
  exact Nat.lt_of_le_of_lt (hm'.2 m' hR) hlt
 | _ => exact h

theorem AW.loop {c : Code} {τ : Type} (S : τ → St) (I : Nat → τ → Prop) {k : Nat} {x : τ} (h0 : I k x) (hs : ∀ a w, Sim n X s a w → Sim n X (S x) a w)
  (round : ∀ k x, I k x → AW P n X c (S x) (roundK (fun s' => ∃ k' x', k' < k ∧ I k' x' ∧ ∀ a w, Sim n X s' a w → Sim n X (S x') a w) K)) : AW P n X (.loop c) s K := by
 intro a w hsim
 refine wp_loop_meas (P := P) (fun m a w => ∃ x, I m x ∧ Sim n X (S x) a w) k ⟨x, h0, hs a w hsim⟩ ?_
 rintro m a w ⟨x, hI, hsim⟩
 refine Code.wp_mono (fun e a' w' ⟨s', h1, h2⟩ => ?_) (round m x hI a w hsim)
 cases e with
 | normal =>
  obtain ⟨k', x', hk, hI', g⟩ := h2
  exact ⟨k', hk, x', hI', g _ _ h1⟩
 | _ => exact ⟨s', h1, h2⟩
end
end Go.Abs
