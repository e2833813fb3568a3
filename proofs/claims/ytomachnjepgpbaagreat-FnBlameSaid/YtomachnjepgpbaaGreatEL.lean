/- A library of this session: abstract states for Go frames (frozen memory read as trees, owned memory as objects), and the rules of a walk over them. -/
import Derived.WalkKit
import Derived.OrdersHeld
import Derived.ProofKit
import Derived.HandedShaped
import Derived.Deep.Slices
import Derived.IntWalk
set_option autoImplicit false
set_option linter.unusedVariables false
set_option linter.unusedSimpArgs false
namespace Go.Abs
theorem Wb {α β : Type _} (a : α) (f : α → Option β) : (some a).bind f = f a := rfl
theorem Wt {p : Prop} [i : Decidable p] (h : p) : decide p = true := decide_eq_true h
theorem Wf {p : Prop} [i : Decidable p] (h : ¬p) : decide p = false := decide_eq_false h
theorem Wj {α : Type _} {a b : α} (h : some a = some b) : a = b := Option.some.inj h
theorem Wm {α : Type _} {l : List α} {n : Nat} (h : n < l.length) : l[n] ∈ l := List.getElem_mem h
theorem We {α : Type _} {l : List α} {i : Nat} (h : i < l.length) : l[i]? = some l[i] := List.getElem?_eq_getElem h
theorem Wo {p : Prop} [i : Decidable p] (h : decide p = true) : p := of_decide_eq_true h
theorem Wu {α : Sort _} (a b : α) : cond true a b = a := rfl
theorem Wv {α : Sort _} (a b : α) : cond false a b = b := rfl
open Go


abbrev BSet := Nat → Prop

structure C where
 rep : World → BSet → Value → Prop
 mono : ∀ {w w' : World} {F F' : BSet} {v : Value}, rep w F v → (∀ b, F b → F' b ∧ w'.heap[b]? = w.heap[b]?) → rep w' F' v

def C.val (x : Value) : C := ⟨fun _ _ v => v = x, fun h _ => h⟩
def C.any : C := ⟨fun _ _ _ => True, fun _ _ => trivial⟩
abbrev C.int (n : Int) : C := C.val (.int .i64 n)
abbrev C.bool (b : Bool) : C := C.val (.bool b)
abbrev C.str (s : ByteArray) : C := C.val (.string s)

def Y0 (w : World) (b off : Nat) (vs : List Value) : Prop := ∀ j u, vs[j]? = some u → w.cell? ⟨b, off + j, none⟩ = some u

theorem Y0.mono {w w' : World} {b off : Nat} {vs : List Value} (h : Y0 w b off vs) (hb : w'.heap[b]? = w.heap[b]?) : Y0 w' b off vs :=
 fun j u hu => (World.cell?_of_block (a := ⟨b, off + j, none⟩) hb).trans (h j u hu)

def Y1 (w : World) (F : BSet) : List C → List Value → Prop
 | [], vs => vs = []
 | c :: cs, vs => ∃ v r, vs = v :: r ∧ c.rep w F v ∧ v.oneCell' = true ∧ Y1 w F cs r

theorem Y1.mono {w w' : World} {F F' : BSet} : ∀ {cs : List C} {vs : List Value}, Y1 w F cs vs → (∀ b, F b → F' b ∧ w'.heap[b]? = w.heap[b]?) → Y1 w' F' cs vs
 | [], _, h, _ => h
 | _ :: _, _, ⟨v, r, e, h1, h2, h3⟩, k => ⟨v, r, e, C.mono _ h1 k, h2, h3.mono k⟩

theorem Y1.length {w : World} {F : BSet} : ∀ {cs : List C} {vs : List Value}, Y1 w F cs vs → vs.length = cs.length
 | [], _, h => by rw [h]; rfl
 | _ :: _, _, ⟨_, _, e, _, _, h⟩ => by rw [e, List.length_cons, List.length_cons, h.length]

theorem Y1.get {w : World} {F : BSet} : ∀ {cs : List C} {vs : List Value} {i : Nat} {c : C}, Y1 w F cs vs → cs[i]? = some c → ∃ v, vs[i]? = some v ∧ c.rep w F v ∧ v.oneCell' = true
 | [], _, _, _, _, hi => by simp at hi
 | _ :: _, _, 0, _, ⟨v, r, e, h1, h2, _⟩, hi => by
  simp at hi; subst hi; subst e; exact ⟨v, rfl, h1, h2⟩
 | _ :: _, _, i + 1, _, ⟨v, r, e, _, _, h3⟩, hi => by
  subst e
  simp only [List.getElem?_cons_succ] at hi ⊢
  exact h3.get hi

theorem Y1.one {w : World} {F : BSet} : ∀ {cs : List C} {vs : List Value}, Y1 w F cs vs → ∀ u ∈ vs, u.oneCell' = true
 | [], _, h, u, hu => by rw [h] at hu; cases hu
 | _ :: _, _, ⟨v, r, e, _, h2, h3⟩, u, hu => by
  subst e
  rcases List.mem_cons.1 hu with rfl | hu
  ·
   exact h2
  ·
   exact h3.one u hu

theorem Y1.append {w : World} {F : BSet} : ∀ {cs ds : List C} {vs us : List Value}, Y1 w F cs vs → Y1 w F ds us → Y1 w F (cs ++ ds) (vs ++ us)
 | [], _, _, _, h, k => by rw [show _ = [] from h]; exact k
 | _ :: _, _, _, _, ⟨v, r, e, h1, h2, h3⟩, k => ⟨v, r ++ _, by rw [e]; rfl, h1, h2, h3.append k⟩

theorem Y1.drop {w : World} {F : BSet} : ∀ {cs : List C} {vs : List Value} (n : Nat), Y1 w F cs vs → Y1 w F (cs.drop n) (vs.drop n)
 | _, _, 0, h => by simpa using h
 | [], _, _ + 1, h => by rw [show _ = [] from h]; exact rfl
 | _ :: _, _, n + 1, ⟨v, r, e, _, _, h3⟩ => by subst e; exact h3.drop n

theorem Y1.take {w : World} {F : BSet} : ∀ {cs : List C} {vs : List Value} (n : Nat), Y1 w F cs vs → Y1 w F (cs.take n) (vs.take n)
 | _, _, 0, _ => rfl
 | [], _, _ + 1, h => by rw [show _ = [] from h]; exact rfl
 | _ :: _, _, n + 1, ⟨v, r, e, h1, h2, h3⟩ => by subst e; exact ⟨v, _, rfl, h1, h2, h3.take n⟩

theorem Y0.drop {w : World} {b off : Nat} {vs : List Value} (n : Nat) (h : Y0 w b off vs) : Y0 w b (off + n) (vs.drop n) := fun j u hu => by
 rw [List.getElem?_drop] at hu
 have := h (n + j) u hu
 rwa [← Nat.add_assoc] at this

theorem Y0.take {w : World} {b off : Nat} {vs : List Value} (n : Nat) (h : Y0 w b off vs) : Y0 w b off (vs.take n) := fun j u hu => by
 rw [List.getElem?_take] at hu
 split at hu
 ·
  exact h j u hu
 ·
  cases hu

def C.agg (cs : List C) : C where
 rep w F v := ∃ vs, v = .agg vs.toArray ∧ Y1 w F cs vs
 mono := by rintro w w' F F' v ⟨vs, rfl, h⟩ k; exact ⟨vs, rfl, h.mono k⟩

def Reps (w : World) (F : BSet) : List C → List Value → Prop
 | [], vs => vs = []
 | c :: cs, vs => ∃ v r, vs = v :: r ∧ c.rep w F v ∧ Reps w F cs r

theorem Reps.mono {w w' : World} {F F' : BSet} : ∀ {cs : List C} {vs : List Value}, Reps w F cs vs → (∀ b, F b → F' b ∧ w'.heap[b]? = w.heap[b]?) → Reps w' F' cs vs
 | [], _, h, _ => h
 | _ :: _, _, ⟨v, r, e, h1, h3⟩, k => ⟨v, r, e, C.mono _ h1 k, h3.mono k⟩

theorem Reps.get {w : World} {F : BSet} : ∀ {cs : List C} {vs : List Value} {i : Nat} {c : C}, Reps w F cs vs → cs[i]? = some c → ∃ v, vs[i]? = some v ∧ c.rep w F v
 | [], _, _, _, _, hi => by simp at hi
 | _ :: _, _, 0, _, ⟨v, r, e, h1, _⟩, hi => by
  simp at hi; subst hi; subst e; exact ⟨v, rfl, h1⟩
 | _ :: _, _, i + 1, _, ⟨v, r, e, _, h3⟩, hi => by
  subst e
  simp only [List.getElem?_cons_succ] at hi ⊢
  exact h3.get hi

theorem Reps.length {w : World} {F : BSet} : ∀ {cs : List C} {vs : List Value}, Reps w F cs vs → vs.length = cs.length
 | [], _, h => by rw [h]; rfl
 | _ :: _, _, ⟨_, _, e, _, h⟩ => by rw [e, List.length_cons, List.length_cons, h.length]

def C.tup (cs : List C) : C where
 rep w F v := ∃ vs, v = .tuple vs.toArray ∧ Reps w F cs vs
 mono := by rintro w w' F F' v ⟨vs, rfl, h⟩ k; exact ⟨vs, rfl, h.mono k⟩

def C.im {α : Type} (k : α → List C) (sz : Nat) (xs : List α) : C where
 rep w F v := ∃ A cap, v = .slice A xs.length cap ∧ xs.length ≤ cap ∧
  ∀ i x, xs[i]? = some x → ∃ b off vs, A = some ⟨b, off, none⟩ ∧ F b ∧ vs.length = sz ∧ Y0 w b (off + i * sz) vs ∧ Y1 w F (k x) vs
 mono := by
  rintro w w' F F' v ⟨A, cap, rfl, hc, h⟩ k
  refine ⟨A, cap, rfl, hc, fun i x hx => ?_⟩
  obtain ⟨b, off, vs, rfl, hb, hl, hcs, hcl⟩ := h i x hx
  exact ⟨b, off, vs, rfl, (k b hb).1, hl, hcs.mono (k b hb).2, hcl.mono k⟩

def C.ip (cs : List C) : C where
 rep w F v := ∃ b off vs, v = .pointer (some ⟨b, off, none⟩) ∧ F b ∧ Y0 w b off vs ∧ Y1 w F cs vs
 mono := by rintro w w' F F' v ⟨b, off, vs, rfl, hb, h1, h2⟩ k; exact ⟨b, off, vs, rfl, (k b hb).1, h1.mono (k b hb).2, h2.mono k⟩


structure Obj where
 rep : World → BSet → BSet → Prop
 mono : ∀ {w w' : World} {F F' G : BSet}, rep w F G → (∀ b, F b → F' b ∧ w'.heap[b]? = w.heap[b]?) → (∀ b, G b → w'.heap[b]? = w.heap[b]?) → rep w' F' G

def Own (w : World) (F : BSet) : List Obj → BSet → Prop
 | [], G => ∀ b, ¬ G b
 | o :: r, G => ∃ G1 G2, (∀ b, G b ↔ G1 b ∨ G2 b) ∧ (∀ b, G1 b → ¬ G2 b) ∧ o.rep w F G1 ∧ Own w F r G2

theorem Own.mono {w w' : World} {F F' : BSet} : ∀ {os : List Obj} {G : BSet}, Own w F os G → (∀ b, F b → F' b ∧ w'.heap[b]? = w.heap[b]?) → (∀ b, G b → w'.heap[b]? = w.heap[b]?) → Own w' F' os G
 | [], _, h, _, _ => h
 | _ :: _, _, ⟨G1, G2, hi, hd, h1, h2⟩, k, g => ⟨G1, G2, hi, hd, Obj.mono _ h1 k fun b hb => g b ((hi b).2 (.inl hb)), h2.mono k fun b hb => g b ((hi b).2 (.inr hb))⟩

theorem Own.congr {w : World} {F : BSet} {os : List Obj} {G G' : BSet} (h : Own w F os G) (e : ∀ b, G b ↔ G' b) : Own w F os G' := by
 have : G = G' := funext fun b => propext (e b)
 exact this ▸ h

theorem Own.swap {w : World} {F : BSet} {o p : Obj} {r : List Obj} {G : BSet} (h : Own w F (o :: p :: r) G) : Own w F (p :: o :: r) G := by
 obtain ⟨G1, G2, hi, hd, h1, G3, G4, hi', hd', h3, h4⟩ := h
 refine ⟨G3, fun b => G1 b ∨ G4 b, fun b => ?_, fun b hb hx => ?_, h3, G1, G4, fun b => Iff.rfl, fun b hb hx => hd b hb ((hi' b).2 (.inr hx)), h1, h4⟩
 ·
  rw [hi b, hi' b]
  constructor
  ·
   rintro (h | h | h)
   ·
    exact .inr (.inl h)
   ·
    exact .inl h
   ·
    exact .inr (.inr h)
  ·
   rintro (h | h | h)
   ·
    exact .inr (.inl h)
   ·
    exact .inl h
   ·
    exact .inr (.inr h)
 ·
  rcases hx with hx | hx
  ·
   exact hd b hx ((hi' b).2 (.inl hb))
  ·
   exact hd' b hb hx

theorem Own.perm {w : World} {F : BSet} {os os' : List Obj} (p : os.Perm os') : ∀ {G : BSet}, Own w F os G → Own w F os' G := by
 induction p with
 | nil => exact fun h => h
 | cons o _ ih => exact fun ⟨G1, G2, hi, hd, h1, h2⟩ => ⟨G1, G2, hi, hd, h1, ih h2⟩
 | swap => exact fun h => h.swap
 | trans _ _ ih1 ih2 => exact fun h => ih2 (ih1 h)

theorem Own.append {w : World} {F : BSet} : ∀ {os ps : List Obj} {G : BSet}, Own w F (os ++ ps) G ↔ ∃ G1 G2, (∀ b, G b ↔ G1 b ∨ G2 b) ∧ (∀ b, G1 b → ¬ G2 b) ∧ Own w F os G1 ∧ Own w F ps G2
 | [], ps, G => by
  constructor
  ·
   exact fun h => ⟨fun _ => False, G, fun b => by simp, fun b hb => hb.elim, fun b hb => hb, h⟩
  ·
   rintro ⟨G1, G2, hi, _, h1, h2⟩
   exact h2.congr fun b => by rw [hi b]; exact ⟨.inr, fun h => h.resolve_left (h1 b)⟩
 | o :: os, ps, G => by
  constructor
  ·
   rintro ⟨G1, G2, hi, hd, h1, h2⟩
   obtain ⟨G3, G4, hi', hd', h3, h4⟩ := Own.append.1 h2
   refine ⟨fun b => G1 b ∨ G3 b, G4, fun b => ?_, fun b hb hx => ?_, ⟨G1, G3, fun b => Iff.rfl, fun b hb hx => hd b hb ((hi' b).2 (.inl hx)), h1, h3⟩, h4⟩
   ·
    rw [hi b, hi' b, or_assoc]
   ·
    rcases hb with hb | hb
    ·
     exact hd b hb ((hi' b).2 (.inr hx))
    ·
     exact hd' b hb hx
  ·
   rintro ⟨G1, G2, hi, hd, ⟨G3, G4, hi', hd', h3, h4⟩, h2⟩
   refine ⟨G3, fun b => G4 b ∨ G2 b, fun b => ?_, fun b hb hx => ?_, h3, Own.append.2 ⟨G4, G2, fun b => Iff.rfl, fun b hb hx => hd b ((hi' b).2 (.inr hb)) hx, h4, h2⟩⟩
   ·
    rw [hi b, hi' b, or_assoc]
   ·
    rcases hx with hx | hx
    ·
     exact hd' b hb hx
    ·
     exact hd b ((hi' b).2 (.inl hb)) hx

def pick : Nat → List Obj → Option Obj
 | _, [] => none
 | 0, o :: _ => some o
 | n + 1, _ :: r => pick n r

theorem Y2 : ∀ {n : Nat} {os : List Obj} {o : Obj}, pick n os = some o → ∃ r, os.Perm (o :: r)
 | _, [], _, h => by simp [pick] at h
 | 0, _ :: r, _, h => by simp [pick] at h; subst h; exact ⟨r, .refl _⟩
 | n + 1, p :: os, o, h => by
  obtain ⟨r, hr⟩ := Y2 (n := n) (os := os) h
  exact ⟨p :: r, (hr.cons p).trans (.swap ..)⟩

def Y3 {γ : Type} : Nat → List Obj → (Obj → List Obj → Option γ) → Option γ
 | _, [], _ => none
 | 0, o :: r, k => k o r
 | n + 1, o :: r, k => Y3 n r fun p q => k p (o :: q)

theorem Y4 {γ : Type} {x : γ} : ∀ {n : Nat} {os : List Obj} {k : Obj → List Obj → Option γ}, Y3 n os k = some x → ∃ o r, os.Perm (o :: r) ∧ k o r = some x
 | _, [], _, h => by simp [Y3] at h
 | 0, o :: r, _, h => ⟨o, r, .refl _, h⟩
 | n + 1, p :: os, k, h => by
  obtain ⟨o, r, h1, h2⟩ := Y4 (n := n) (os := os) h
  exact ⟨o, p :: r, (h1.cons p).trans (.swap ..), h2⟩

def Y5 {γ : Type} : List Nat → List Obj → (List Obj → List Obj → Option γ) → Option γ
 | [], os, k => k [] os
 | n :: ns, os, k => Y3 n os fun o r => Y5 ns r fun ps q => k (o :: ps) q

theorem Y6 {γ : Type} {x : γ} : ∀ {ns : List Nat} {os : List Obj} {k : List Obj → List Obj → Option γ}, Y5 ns os k = some x → ∃ ps r, os.Perm (ps ++ r) ∧ k ps r = some x
 | [], os, _, h => ⟨[], os, .refl _, h⟩
 | n :: ns, os, k, h => by
  obtain ⟨o, r, h1, h2⟩ := Y4 h
  obtain ⟨ps, q, h3, h4⟩ := Y6 h2
  exact ⟨o :: ps, q, h1.trans (h3.cons o), h4⟩

def Y7 (ns : List Nat) (os : List Obj) : Option (List Obj × List Obj) := Y5 ns os fun ps r => some (ps, r)

theorem Y8 {ns : List Nat} {os ps r : List Obj} (h : Y7 ns os = some (ps, r)) : os.Perm (ps ++ r) := by
 obtain ⟨ps', r', h1, h2⟩ := Y6 h
 cases h2
 exact h1

def appK : List Obj → List Obj → (List Obj → Prop) → Prop
 | [], r, k => k r
 | q :: qs, r, k => appK qs r fun l => k (q :: l)

theorem Y9 : ∀ {qs r : List Obj} {k : List Obj → Prop}, appK qs r k ↔ k (qs ++ r)
 | [], _, _ => Iff.rfl
 | _ :: qs, r, k => Y9 (qs := qs) (r := r)


abbrev Env := List (Nat × C)
def get : Env → Nat → Option C
 | [], _ => none
 | (i, c) :: r, j => match Nat.beq i j with | true => some c | false => get r j

theorem Ya (i : Nat) (c : C) (e : Env) : get ((i, c) :: e) i = some c := by simp [get, Nat.beq_refl]
theorem Yb {i j : Nat} (c : C) (e : Env) (h : i ≠ j) : get ((i, c) :: e) j = get e j := by
 simp only [get]
 have : Nat.beq i j = false := by
  cases hb : Nat.beq i j with
  | false => rfl
  | true => exact absurd (Nat.eq_of_beq_eq_true hb) h
 rw [this]

structure St where
 e : Env
 o : List Obj

structure Chg (G : BSet) (w w' : World) : Prop where
 os : w'.os = w.os
 tape : w'.tape = w.tape
 output : w'.output = w.output
 size : w.heap.size ≤ w'.heap.size
 drawn : w.drawn ≤ w'.drawn
 block : ∀ b, b < w.heap.size → ¬ G b → w'.heap[b]? = w.heap[b]?

theorem Chg.refl (G : BSet) (w : World) : Chg G w w := ⟨rfl, rfl, rfl, Nat.le_refl _, Nat.le_refl _, fun _ _ _ => rfl⟩

def GlbP (g : Nat) : Prop := False
def Glob (w : World) (F : BSet) : Prop := ∀ g, GlbP g → ∃ m, F g ∧ w.cell? ⟨g, 0, none⟩ = some (.int .i64 m)
theorem Yc {w w' : World} {b off : Nat} (h : w'.heap[b]? = w.heap[b]?) : w'.cell? ⟨b, off, none⟩ = w.cell? ⟨b, off, none⟩ := by
 unfold World.cell?
 rw [h]
theorem Glob.mono {w w' : World} {F F' : BSet} (h : Glob w F) (k : ∀ b, F b → F' b ∧ w'.heap[b]? = w.heap[b]?) : Glob w' F' := fun g hg => by
 obtain ⟨m, h1, h2⟩ := h g hg
 exact ⟨m, (k g h1).1, (Yc (k g h1).2).trans h2⟩
structure Fit (w : World) (F G : BSet) : Prop where
 fin : ∀ b, F b → b < w.heap.size
 gin : ∀ b, G b → b < w.heap.size ∧ ¬ F b
 glob : Glob w F
structure Ctx where
 w : World
 F : BSet
 G : BSet
 fit : Fit w F G

structure Yd (n : Nat) (X : Ctx) (s : St) (a : Act) (w : World) (F G : BSet) : Prop where
 env : ∀ i c, get s.e i = some c → c.rep w F (a.tmps.getD i undef)
 own : Own w F s.o G
 fin : ∀ b, F b → b < w.heap.size ∧ (X.F b ∨ X.G b ∨ X.w.heap.size ≤ b)
 gin : ∀ b, G b → b < w.heap.size ∧ ¬ F b ∧ (X.G b ∨ X.w.heap.size ≤ b)
 sub : ∀ b, X.F b → F b
 chg : Chg X.G X.w w
 size : a.tmps.size = n
 defs : a.defers = []

theorem Yd.glob {n : Nat} {X : Ctx} {s : St} {a : Act} {w : World} {F G : BSet} (h : Yd n X s a w F G) : Glob w F := X.fit.glob.mono fun b hb => ⟨h.sub b hb, h.chg.block b (X.fit.fin b hb) fun hg => (X.fit.gin b hg).2 hb⟩

def Sim (n : Nat) (X : Ctx) (s : St) (a : Act) (w : World) : Prop := ∃ F G, Yd n X s a w F G

section
variable {n : Nat} {X : Ctx} {s : St} {a : Act} {w : World} {F G : BSet}

theorem Ye (a : Act) (d : Nat) (v : Value) (h : d < a.tmps.size) : ((a.put (some d) v).tmps).getD d undef = v := by
 simp [Act.put, h]
theorem Yf (a : Act) {d i : Nat} (v : Value) (h : d ≠ i) : ((a.put (some d) v).tmps).getD i undef = a.tmps.getD i undef := by
 simp [Act.put, Array.getElem?_setIfInBounds_ne h]

theorem Yd.put (h : Yd n X s a w F G) {d : Nat} {c : C} {v : Value} (hd : d < n) (hc : c.rep w F v) : Yd n X ⟨(d, c) :: s.e, s.o⟩ (a.put (some d) v) w F G where
 env i c' hi := by
  by_cases e : d = i
  ·
   subst e
   rw [Ya] at hi
   cases hi
   rw [Ye _ _ _ (by rw [h.size]; exact hd)]
   exact hc
  ·
   rw [Yb _ _ e] at hi
   rw [Yf _ _ e]
   exact h.env i c' hi
 own := h.own
 fin := h.fin
 gin := h.gin
 sub := h.sub
 chg := h.chg
 size := by simp [Act.put, h.size]
 defs := h.defs

structure Turn (w : World) (F G1 : BSet) (w' : World) (F' G1' : BSet) (qs : List Obj) : Prop where
 own : Own w' F' qs G1'
 sub : ∀ b, F b → F' b
 fin : ∀ b, F' b → b < w'.heap.size ∧ (F b ∨ G1 b ∨ w.heap.size ≤ b)
 gin : ∀ b, G1' b → b < w'.heap.size ∧ ¬ F' b ∧ (G1 b ∨ w.heap.size ≤ b)
 chg : Chg G1 w w'

theorem Yd.turn (h : Yd n X s a w F G) {G1 G2 : BSet} {r qs : List Obj} (hi : ∀ b, G b ↔ G1 b ∨ G2 b) (hd : ∀ b, G1 b → ¬ G2 b) (h2 : Own w F r G2) {w' : World} {F' G1' : BSet}
  (ht : Turn w F G1 w' F' G1' qs) : Yd n X ⟨s.e, qs ++ r⟩ a w' F' (fun b => G1' b ∨ G2 b) := by
 obtain ⟨hq, hF, hF', hG, hc⟩ := ht
 have hsame : ∀ b, F b → w'.heap[b]? = w.heap[b]? := fun b hb =>
  hc.block b (h.fin b hb).1 fun hg => (h.gin b ((hi b).2 (.inl hg))).2.1 hb
 have hsame2 : ∀ b, G2 b → w'.heap[b]? = w.heap[b]? := fun b hb =>
  hc.block b (h.gin b ((hi b).2 (.inr hb))).1 fun hg => hd b hg hb
 have hmine : ∀ b, G1 b ∨ w.heap.size ≤ b → X.G b ∨ X.w.heap.size ≤ b := fun b hb => by
  rcases hb with hb | hb
  ·
   exact (h.gin b ((hi b).2 (.inl hb))).2.2
  ·
   exact .inr (Nat.le_trans h.chg.size hb)
 refine ⟨fun i c hic => C.mono _ (h.env i c hic) fun b hb => ⟨hF b hb, hsame b hb⟩, ?_, ?_, ?_, fun b hb => hF b (h.sub b hb), ?_, h.size, h.defs⟩
 ·
  refine Own.append.2 ⟨G1', G2, fun b => Iff.rfl, fun b hb hx => ?_, hq, h2.mono (fun b hb => ⟨hF b hb, hsame b hb⟩) hsame2⟩
  rcases (hG b hb).2.2 with hg | hg
  ·
   exact hd b hg hx
  ·
   exact absurd (h.gin b ((hi b).2 (.inr hx))).1 (by omega)
 ·
  intro b hb
  refine ⟨(hF' b hb).1, ?_⟩
  rcases (hF' b hb).2 with hf | hf
  ·
   exact (h.fin b hf).2
  ·
   exact .inr (hmine b hf)
 ·
  rintro b (hb | hb)
  ·
   exact ⟨(hG b hb).1, (hG b hb).2.1, hmine b (hG b hb).2.2⟩
  ·
   have hg := h.gin b ((hi b).2 (.inr hb))
   refine ⟨Nat.lt_of_lt_of_le hg.1 hc.size, fun hf => ?_, hg.2.2⟩
   rcases (hF' b hf).2 with h' | h' | h'
   ·
    exact hg.2.1 h'
   ·
    exact hd b h' hb
   ·
    omega
 ·
  refine ⟨hc.os.trans h.chg.os, hc.tape.trans h.chg.tape, hc.output.trans h.chg.output, Nat.le_trans h.chg.size hc.size, Nat.le_trans h.chg.drawn hc.drawn, fun b hb hn => ?_⟩
  rw [hc.block b (Nat.lt_of_lt_of_le hb h.chg.size) fun hg => ?_]
  ·
   exact h.chg.block b hb hn
  ·
   rcases (h.gin b ((hi b).2 (.inl hg))).2.2 with h' | h'
   ·
    exact hn h'
   ·
    omega

theorem Sim.forget {s' : St} (h : Sim n X s a w) (he : ∀ i c, get s'.e i = some c → get s.e i = some c) (ho : s'.o = s.o) : Sim n X s' a w := by
 obtain ⟨F, G, h⟩ := h
 exact ⟨F, G, ⟨fun i c hc => h.env i c (he i c hc), ho ▸ h.own, h.fin, h.gin, h.sub, h.chg, h.size, h.defs⟩⟩
end


def AW (P : Program) (n : Nat) (X : Ctx) (c : Code) (s : St) (K : Exit → St → Prop) : Prop :=
 ∀ a w, Sim n X s a w → c.wp P (fun e a' w' => ∃ s', Sim n X s' a' w' ∧ K e s') a w

def Yg (P : Program) (n : Nat) (X : Ctx) (y : Code) (K : Exit → St → Prop) : Exit → St → Prop
 | .normal, s => AW P n X y s K
 | e, s => K e s

def Yh (id : Nat) (K : Exit → St → Prop) : Exit → St → Prop
 | .exit j, s => match Nat.beq j id with | true => K .normal s | false => K (.exit j) s
 | e, s => K e s

def Yi (J : St → Prop) (K : Exit → St → Prop) : Exit → St → Prop
 | .normal, s => J s
 | e, s => K e s

section
variable {P : Program} {n : Nat} {X : Ctx} {s : St} {K : Exit → St → Prop}

theorem AW.mono {c : Code} {K' : Exit → St → Prop} (h : AW P n X c s K') (k : ∀ e s', K' e s' → K e s') : AW P n X c s K :=
 fun a w hs => Code.wp_mono (fun _ _ _ ⟨s', h1, h2⟩ => ⟨s', h1, k _ _ h2⟩) (h a w hs)

theorem AW.skip (h : K .normal s) : AW P n X .skip s K := fun _ _ hs => wp_skip ⟨s, hs, h⟩
theorem AW.ret (h : K .ret s) : AW P n X .ret s K := fun _ _ hs => wp_ret ⟨s, hs, h⟩
theorem AW.exit {id : Nat} (h : K (.exit id) s) : AW P n X (.exit id) s K := fun _ _ hs => wp_exit ⟨s, hs, h⟩
theorem AW.seq {x y : Code} (h : AW P n X x s (Yg P n X y K)) : AW P n X (.seq x y) s K := fun a w hs =>
 wp_seq (Code.wp_mono (fun e a' w' ⟨s', h1, h2⟩ => by
  cases e with
  | normal => exact h2 a' w' h1
  | _ => exact ⟨s', h1, h2⟩) (h a w hs))
theorem AW.block {id : Nat} {c : Code} (h : AW P n X c s (Yh id K)) : AW P n X (.block id c) s K := fun a w hs =>
 wp_block (Code.wp_mono (fun e a' w' ⟨s', h1, h2⟩ => by
  cases e with
  | exit j =>
   simp only [Yh] at h2
   simp only [Exit.inBlock]
   by_cases hj : j = id
   ·
    subst hj
    rw [if_pos rfl]
    rw [Nat.beq_refl] at h2
    exact ⟨s', h1, h2⟩
   ·
    rw [if_neg hj]
    have : Nat.beq j id = false := by
     cases hb : Nat.beq j id with
     | false => rfl
     | true => exact absurd (Nat.eq_of_beq_eq_true hb) hj
    rw [this] at h2
    exact ⟨s', h1, h2⟩
  | _ => exact ⟨s', h1, h2⟩) (h a w hs))

theorem Sim.eval_bool {a : Act} {w : World} {t : Nat} {b : Bool} (h : Sim n X s a w) (ht : get s.e t = some (.bool b)) : a.eval (.tmp t) = .bool b := by
 obtain ⟨F, G, h⟩ := h
 exact h.env t _ ht

theorem AW.cond {t : Nat} {x y : Code} {b : Bool} (ht : get s.e t = some (.bool b)) (h1 : b = true → AW P n X x s K) (h2 : b = false → AW P n X y s K) : AW P n X (.cond (.tmp t) x y) s K := fun a w hs => by
 refine wp_cond_split (hs.eval_bool ht) (fun hb => h1 hb a w hs) (fun hb => h2 hb a w hs)

theorem Yj (p : Nat → Prop) : ∀ m, p m → ∃ m, p m ∧ ∀ k, p k → m ≤ k := by
 intro m
 induction m using Nat.strongRecOn with
 | _ m ih =>
  intro hm
  by_cases h : ∃ k, k < m ∧ p k
  ·
   obtain ⟨k, hk, hp⟩ := h
   exact ih k hk hp
  ·
   exact ⟨m, hm, fun k hk => Nat.le_of_not_lt fun hlt => h ⟨k, hlt, hk⟩⟩

open Classical in
theorem Yk {c : Code} {Q : Exit → Act → World → Prop} {a : Act} {w : World} (R : Nat → Act → World → Prop) (k : Nat) (h0 : R k a w)
  (round : ∀ m a w, R m a w → c.wp P (Exit.then (fun a' w' => ∃ m', m' < m ∧ R m' a' w') Q) a w) : (Code.loop c).wp P Q a w := by
 refine wp_loop (fun a w => ∃ m, R m a w) (fun a w => if h : ∃ m, R m a w then Classical.choose (Yj (R · a w) h.choose h.choose_spec) else 0) ⟨k, h0⟩ ?_
 intro a w hI
 have hm := Classical.choose_spec (Yj (R · a w) hI.choose hI.choose_spec)
 simp only [dif_pos hI]
 generalize Classical.choose (Yj (R · a w) hI.choose hI.choose_spec) = m at hm
 refine Code.wp_mono (fun e a' w' h => ?_) (round m a w hm.1)
 cases e with
 | normal =>
  obtain ⟨m', hlt, hR⟩ := h
  have hI' : ∃ m, R m a' w' := ⟨m', hR⟩
  refine ⟨hI', ?_⟩
  simp only [dif_pos hI']
  have hm' := Classical.choose_spec (Yj (R · a' w') hI'.choose hI'.choose_spec)
  exact Nat.lt_of_le_of_lt (hm'.2 m' hR) hlt
 | _ => exact h

theorem AW.loop {c : Code} {τ : Type} (S : τ → St) (I : Nat → τ → Prop) {k : Nat} {x : τ} (h0 : I k x) (hs : ∀ a w, Sim n X s a w → Sim n X (S x) a w)
  (round : ∀ k x, I k x → AW P n X c (S x) (Yi (fun s' => ∃ k' x', k' < k ∧ I k' x' ∧ ∀ a w, Sim n X s' a w → Sim n X (S x') a w) K)) : AW P n X (.loop c) s K := by
 intro a w hsim
 refine Yk (P := P) (fun m a w => ∃ x, I m x ∧ Sim n X (S x) a w) k ⟨x, h0, hs a w hsim⟩ ?_
 rintro m a w ⟨x, hI, hsim⟩
 refine Code.wp_mono (fun e a' w' ⟨s', h1, h2⟩ => ?_) (round m x hI a w hsim)
 cases e with
 | normal =>
  obtain ⟨k', x', hk, hI', g⟩ := h2
  exact ⟨k', hk, x', hI', g _ _ h1⟩
 | _ => exact ⟨s', h1, h2⟩
end
end Go.Abs
namespace Go.Abs
open Go

theorem Yl {a b : Nat} (h : Nat.blt a b = true) : a < b := Nat.le_of_ble_eq_true h

def ev (e : Env) : Operand → Option C
 | .tmp t => get e t
 | .const v => some (.val v)
 | .func f => some (.val (.func (.func f) #[] #[]))
 | .global g => some (.val (.pointer (some ⟨g, 0, none⟩)))

def Ym (w : World) (F : BSet) (e : Env) (a : Act) : Prop := ∀ i c, get e i = some c → c.rep w F (a.tmps.getD i undef)

section
variable {P : Program} {n : Nat} {X : Ctx} {s : St} {a : Act} {w : World} {F G : BSet} {es : Env} {ps : List Obj}

theorem Ym.ev (h : Ym w F es a) {x : Operand} {c : C} (hx : ev es x = some c) : c.rep w F (a.eval x) := by
 cases x with
 | tmp t => exact h t c hx
 | const v => cases hx; rfl
 | func f => cases hx; rfl
 | global g => cases hx; rfl

theorem Ym.val (h : Ym w F es a) {x : Operand} {v : Value} (hx : Abs.ev es x = some (.val v)) : a.eval x = v := h.ev hx

theorem Ym.put (h : Ym w F es a) {d : Nat} {c : C} {v : Value} (hd : d < a.tmps.size) (hc : c.rep w F v) : Ym w F ((d, c) :: es) (a.put (some d) v) := fun i c' hi => by
 by_cases e : d = i
 ·
  subst e
  rw [Ya] at hi
  cases hi
  rw [Ye _ _ _ hd]
  exact hc
 ·
  rw [Yb _ _ e] at hi
  rw [Yf _ _ e]
  exact h i c' hi

theorem Ym.mono {w' : World} {F' : BSet} (h : Ym w F es a) (k : ∀ b, F b → F' b ∧ w'.heap[b]? = w.heap[b]?) : Ym w' F' es a := fun i c hi => C.mono _ (h i c hi) k

structure VOp (m : Bool) (P : Program) (n : Nat) (es : Env) (ps : List Obj) (o : Oper) (d : Nat) (c : C) : Prop where
 dst : o.dst = some d
 lt : Nat.blt d n = true
 run : ∀ (a : Act) (w : World) (F Gp : BSet), Ym w F es a → Own w F ps Gp → ∃ v, (∀ w2 : World, (m = true → ∀ b, F b ∨ Gp b → w2.heap[b]? = w.heap[b]?) → (execOp a.eval o).run P w2 = .ok (.value v) w2) ∧ c.rep w F v

theorem Yd.fit (h : Yd n X s a w F G) {G1 : BSet} (hsub : ∀ b, G1 b → G b) : Fit w F G1 := ⟨fun b hb => (h.fin b hb).1, fun b hb => ⟨(h.gin b (hsub b hb)).1, (h.gin b (hsub b hb)).2.1⟩, h.glob⟩

def HOp (P : Program) (n : Nat) (o : Oper) (e : Env) (ps : List Obj) (T : Env → List Obj → Prop) : Prop :=
 ∀ (a : Act) (w : World) (F G1 : BSet), Ym w F e a → Own w F ps G1 → Fit w F G1 → a.tmps.size = n →
  ∀ (Kc : Act → World → Prop) (Q : Exit → Act → World → Prop), (∀ v w' e' qs F' G1', Turn w F G1 w' F' G1' qs → T e' qs → Ym w' F' e' (a.put o.dst v) → Kc (a.put o.dst v) w') → o.wp P a w Kc Q

def Ops (P : Program) (n : Nat) (X : Ctx) (ops : Array Oper) (l : List Oper) (e : Env) (os : List Obj) (K : St → Prop) : Prop :=
 ∀ a w (Q : Exit → Act → World → Prop), Sim n X ⟨e, os⟩ a w → (∀ a' w' s', Sim n X s' a' w' → K s' → Q .normal a' w') → wpList P ops Q l a w

variable {e : Env} {os : List Obj}

theorem Ops.nil {ops : Array Oper} {K : St → Prop} (h : K ⟨e, os⟩) : Ops P n X ops [] e os K := fun a w _ hs hQ => wpList_nil (hQ a w _ hs h)

theorem VOp.wp {m : Bool} {o : Oper} {d : Nat} {c : C} (h : VOp m P n s.e s.o o d c) (hs : Yd n X s a w F G) {Kc : Act → World → Prop} {Q : Exit → Act → World → Prop} (hK : ∀ a' w', Sim n X ⟨(d, c) :: s.e, s.o⟩ a' w' → Kc a' w') : o.wp P a w Kc Q := by
 obtain ⟨v, hr, hc⟩ := h.run a w F G hs.env hs.own
 unfold Oper.wp
 rw [hr w fun _ _ _ => rfl]
 show Kc (a.put o.dst v) w
 rw [h.dst]
 exact hK _ _ ⟨F, G, hs.put (Yl h.lt) hc⟩

theorem Ops.v {m : Bool} {ops : Array Oper} {o : Oper} {rest : List Oper} {K : St → Prop} {d : Nat} {c : C} (hg : o.guard = none) (h : VOp m P n e os o d c) (k : Ops P n X ops rest ((d, c) :: e) os K) : Ops P n X ops (o :: rest) e os K :=
 fun _ _ Q ⟨_, _, hs⟩ hQ => wpList_plain hg fun _ hK => h.wp hs fun a' w' hs' => hK a' w' (k a' w' Q hs' hQ)

theorem Yd.moved {e' : Env} {ps qs r : List Obj} {G1 G2 F' G1' : BSet} {a' : Act} {w' : World} (h : Yd n X s a w F G) (hi : ∀ b, G b ↔ G1 b ∨ G2 b) (hd : ∀ b, G1 b → ¬ G2 b) (h2 : Own w F r G2) (ht : Turn w F G1 w' F' G1' qs) (he : Ym w' F' e' a') (hsz : a'.tmps.size = n) (hdf : a'.defers = []) :
  Yd n X ⟨e', qs ++ r⟩ a' w' F' (fun b => G1' b ∨ G2 b) :=
 have := h.turn hi hd h2 ht
 ⟨he, this.own, this.fin, this.gin, this.sub, this.chg, hsz, hdf⟩

theorem Yn (a : Act) (d : Option Nat) (v : Value) : (a.put d v).tmps.size = a.tmps.size := by cases d <;> simp [Act.put]
theorem Yo (a : Act) (d : Option Nat) (v : Value) : (a.put d v).defers = a.defers := by cases d <;> rfl

theorem HOp.wp {o : Oper} {ps r : List Obj} {ns : List Nat} {T : Env → List Obj → Prop} (hp : Y7 ns s.o = some (ps, r)) (h : HOp P n o s.e ps T) (hs : Yd n X s a w F G) {Kc : Act → World → Prop} {Q : Exit → Act → World → Prop} (hK : ∀ a' w' e' qs, Sim n X ⟨e', qs ++ r⟩ a' w' → T e' qs → Kc a' w') : o.wp P a w Kc Q := by
 obtain ⟨G1, G2, hi, hd, h1, h2⟩ := Own.append.1 (hs.own.perm (Y8 hp))
 refine h a w F G1 hs.env h1 (hs.fit fun b hb => (hi b).2 (.inl hb)) hs.size Kc Q fun v w' e' qs F' G1' ht hT he => ?_
 exact hK _ _ e' qs ⟨F', _, hs.moved (ps := ps) hi hd h2 ht he (by rw [Yn]; exact hs.size) (by rw [Yo]; exact hs.defs)⟩ hT

theorem Ops.h {ops : Array Oper} {o : Oper} {rest : List Oper} {K : St → Prop} {ps r : List Obj} {ns : List Nat} {T : Env → List Obj → Prop} (hg : o.guard = none) (hp : Y7 ns os = some (ps, r)) (h : HOp P n o e ps T) (k : ∀ e' qs, T e' qs → appK qs r fun l => Ops P n X ops rest e' l K) : Ops P n X ops (o :: rest) e os K :=
 fun _ _ Q ⟨_, _, hs⟩ hQ => wpList_plain hg fun _ hK => h.wp hp hs fun a' w' e' qs hs' hT => hK a' w' (Y9.1 (k e' qs hT) a' w' Q hs' hQ)

theorem Ops.hd {ops : Array Oper} {o : Oper} {rest : List Oper} {K : St → Prop} {ps qs r : List Obj} {e1 : Env} {ns : List Nat} (hg : o.guard = none) (hp : Y7 ns os = some (ps, r)) (h : HOp P n o e ps fun e' qs' => e' = e1 ∧ qs' = qs) (k : appK qs r fun l => Ops P n X ops rest e1 l K) : Ops P n X ops (o :: rest) e os K :=
 Ops.h hg hp h fun _ _ ⟨h1, h2⟩ => by rw [h1, h2]; exact k

theorem Sim.yielded {ops : Array Oper} {j t : Nat} {b : Bool} (hs : Sim n X s a w) (hj : (ops[j]?).bind (·.dst) = some t) (ht : get s.e t = some (.bool b)) (htn : Nat.blt t n = true) : yielded ops a.tmps j = some b := by
 obtain ⟨F, G, hs⟩ := hs
 have he : a.tmps.getD t undef = .bool b := hs.env t _ ht
 have hlt : t < a.tmps.size := by rw [hs.size]; exact Yl htn
 have he' : a.tmps[t]? = some (.bool b) := by
  rw [Array.getD_eq_getD_getElem?, Array.getElem?_eq_getElem hlt] at he
  rw [Array.getElem?_eq_getElem hlt]
  exact congrArg some he
 unfold Go.yielded
 rw [hj, Wb, he']

theorem Yp {ops : Array Oper} {o : Oper} {j : Nat} {want b : Bool} (hg : o.guard = some (j, want)) (hy : yielded ops a.tmps j = some b) : Region.wanted o (yielded ops a.tmps) = (b == want) := by
 unfold Region.wanted
 rw [hg]
 simp only [hy]
 cases b <;> cases want <;> rfl

inductive NotWanted (e : Env) (t : Nat) (want : Bool) : Prop
 | b {b : Bool} (h : get e t = some (.bool b)) (hb : b = !want) : NotWanted e t want
 | u (h : get e t = some (.val undef)) : NotWanted e t want

theorem Yq {ops : Array Oper} {o : Oper} {j t : Nat} {want : Bool} (hs : Sim n X s a w) (hg : o.guard = some (j, want)) (hj : (ops[j]?).bind (·.dst) = some t) (htn : Nat.blt t n = true) (h : NotWanted s.e t want) : Region.wanted o (Go.yielded ops a.tmps) = false := by
 rcases h with ⟨ht, hb⟩ | ht
 ·
  rw [Yp hg (hs.yielded hj ht htn), hb]; simp
 ·
  obtain ⟨F, G, hs⟩ := hs
  have he : a.tmps.getD t undef = undef := hs.env t _ ht
  have hlt : t < a.tmps.size := by rw [hs.size]; exact Yl htn
  have he' : a.tmps[t]? = some undef := by
   rw [Array.getD_eq_getD_getElem?, Array.getElem?_eq_getElem hlt] at he
   rw [Array.getElem?_eq_getElem hlt]
   exact congrArg some he
  unfold Region.wanted
  rw [hg]
  simp only [Go.yielded, hj, Wb, he', undef]
  rfl

theorem Ops.gv {m : Bool} {ops : Array Oper} {o : Oper} {rest : List Oper} {K : St → Prop} {j t d : Nat} {want b : Bool} {c : C} (hg : o.guard = some (j, want)) (hj : (ops[j]?).bind (·.dst) = some t) (ht : get e t = some (.bool b)) (htn : Nat.blt t n = true) (hb : b = want)
  (h : VOp m P n e os o d c) (k : Ops P n X ops rest ((d, c) :: e) os K) : Ops P n X ops (o :: rest) e os K := fun a w Q hs hQ =>
 wpList_step fun Kc hK => by
  rw [if_pos (by rw [Yp hg (hs.yielded hj ht htn), hb]; simp)]
  obtain ⟨F, G, hs⟩ := hs
  exact h.wp hs fun a' w' hs' => hK a' w' (k a' w' Q hs' hQ)
theorem Ops.gh {ops : Array Oper} {o : Oper} {rest : List Oper} {K : St → Prop} {j t : Nat} {want b : Bool} {ps r : List Obj} {ns : List Nat} {T : Env → List Obj → Prop} (hg : o.guard = some (j, want)) (hj : (ops[j]?).bind (·.dst) = some t) (ht : get e t = some (.bool b)) (htn : Nat.blt t n = true) (hb : b = want)
  (hp : Y7 ns os = some (ps, r)) (h : HOp P n o e ps T) (k : ∀ e' qs, T e' qs → appK qs r fun l => Ops P n X ops rest e' l K) : Ops P n X ops (o :: rest) e os K := fun a w Q hs hQ =>
 wpList_step fun Kc hK => by
  rw [if_pos (by rw [Yp hg (hs.yielded hj ht htn), hb]; simp)]
  obtain ⟨F, G, hs⟩ := hs
  exact h.wp hp hs fun a' w' e' qs hs' hT => hK a' w' (Y9.1 (k e' qs hT) a' w' Q hs' hQ)
theorem Ops.ghd {ops : Array Oper} {o : Oper} {rest : List Oper} {K : St → Prop} {j t : Nat} {want b : Bool} {ps qs r : List Obj} {e1 : Env} {ns : List Nat} (hg : o.guard = some (j, want)) (hj : (ops[j]?).bind (·.dst) = some t) (ht : get e t = some (.bool b)) (htn : Nat.blt t n = true) (hb : b = want)
  (hp : Y7 ns os = some (ps, r)) (h : HOp P n o e ps fun e' qs' => e' = e1 ∧ qs' = qs) (k : appK qs r fun l => Ops P n X ops rest e1 l K) : Ops P n X ops (o :: rest) e os K :=
 Ops.gh hg hj ht htn hb hp h fun _ _ ⟨h1, h2⟩ => by rw [h1, h2]; exact k
theorem Ops.gs {ops : Array Oper} {o : Oper} {rest : List Oper} {K : St → Prop} {j t d : Nat} {want : Bool} (hg : o.guard = some (j, want)) (hj : (ops[j]?).bind (·.dst) = some t) (htn : Nat.blt t n = true) (hw : NotWanted e t want)
  (hd : o.dst = some d) (hdn : Nat.blt d n = true) (k : Ops P n X ops rest ((d, .val undef) :: e) os K) : Ops P n X ops (o :: rest) e os K := fun a w Q hs hQ =>
 wpList_step fun Kc hK => by
  rw [if_neg (by rw [Yq hs hg hj htn hw]; simp), hd]
  obtain ⟨F, G, hs⟩ := hs
  exact hK _ _ (k _ w Q ⟨F, G, hs.put (c := .val undef) (v := undef) (Yl hdn) rfl⟩ hQ)
theorem Ops.gs0 {ops : Array Oper} {o : Oper} {rest : List Oper} {K : St → Prop} {j t : Nat} {want : Bool} (hg : o.guard = some (j, want)) (hj : (ops[j]?).bind (·.dst) = some t) (htn : Nat.blt t n = true) (hw : NotWanted e t want)
  (hd : o.dst = none) (k : Ops P n X ops rest e os K) : Ops P n X ops (o :: rest) e os K := fun a w Q hs hQ =>
 wpList_step fun Kc hK => by
  rw [if_neg (by rw [Yq hs hg hj htn hw]; simp), hd]
  exact hK _ _ (k _ w Q hs hQ)

theorem AW.region {id : Nat} {l : List Oper} {K : Exit → St → Prop} (h : Ops P n X l.toArray l e os (K .normal)) : AW P n X (.region id l.toArray false) ⟨e, os⟩ K :=
 fun a w hs => wp_region_lit (h a w _ hs fun _ _ s' h1 h2 => ⟨s', h1, h2⟩)

theorem Turn.same {w' : World} {F' G1 G1' : BSet} {qs : List Obj} (ht : Turn w F G1 w' F' G1' qs) (hf : Fit w F G1) : ∀ b, F b → F' b ∧ w'.heap[b]? = w.heap[b]? := fun b hb =>
 ⟨ht.sub b hb, ht.chg.block b (hf.fin b hb) fun hg => (hf.gin b hg).2 hb⟩

theorem HOp.of {o : Oper} {d : Nat} {T : Env → List Obj → Prop} (hd : o.dst = some d) (hn : Nat.blt d n = true)
  (H : ∀ a w F G1, Ym w F es a → Own w F ps G1 → Fit w F G1 → ∃ v w' F' G1' c qs, (execOp a.eval o).run P w = .ok (.value v) w' ∧ c.rep w' F' v ∧ Turn w F G1 w' F' G1' qs ∧ T ((d, c) :: es) qs) : HOp P n o es ps T := by
 intro a w F G1 hs ho hf hsz Kc Q hK
 obtain ⟨v, w', F', G1', c, qs, hr, hc, ht, hT⟩ := H a w F G1 hs ho hf
 unfold Oper.wp
 rw [hr]
 show Kc (a.put o.dst v) w'
 refine hK v w' _ qs F' G1' ht hT ?_
 rw [hd]
 exact Ym.put (hs.mono (ht.same hf)) (hsz ▸ Yl hn) hc
theorem HOp.of0 {o : Oper} {T : Env → List Obj → Prop} (hd : o.dst = none)
  (H : ∀ a w F G1, Ym w F es a → Own w F ps G1 → Fit w F G1 → ∃ w' F' G1' qs, (execOp a.eval o).run P w = .ok .skip w' ∧ Turn w F G1 w' F' G1' qs ∧ T es qs) : HOp P n o es ps T := by
 intro a w F G1 hs ho hf hsz Kc Q hK
 obtain ⟨w', F', G1', qs, hr, ht, hT⟩ := H a w F G1 hs ho hf
 unfold Oper.wp
 rw [hr]
 show Kc (a.put o.dst undef) w'
 refine hK undef w' _ qs F' G1' ht hT ?_
 rw [hd]
 exact hs.mono (ht.same hf)

variable {d ty : Nat} {pos : String} {af : Array Edge} {gd : Option (Nat × Bool)}

theorem Yr {x : Operand} {c : C} (hx : ev es x = some c) (hn : Nat.blt d n = true) : VOp false P n es ps ⟨some d, .move x, ty, pos, af, gd⟩ d (c) :=
 VOp.mk rfl hn fun a w F Gp hs ho => ⟨a.eval x, fun w2 _ => rfl, hs.ev hx⟩
theorem Ys {x : Operand} {c : C} (hx : ev es x = some c) (hn : Nat.blt d n = true) : VOp false P n es ps ⟨some d, .assign x, ty, pos, af, gd⟩ d (c) :=
 VOp.mk rfl hn fun a w F Gp hs ho => ⟨a.eval x, fun w2 _ => rfl, hs.ev hx⟩
theorem Yt {x y z : Operand} {c : C} {b : Bool} (hx : ev es x = some (.bool b)) (hb : b = true) (hy : ev es y = some c) (hn : Nat.blt d n = true) : VOp false P n es ps ⟨some d, .pick x y z, ty, pos, af, gd⟩ d (c) :=
 VOp.mk rfl hn fun a w F Gp hs ho => ⟨a.eval y, fun w2 _ => by have h := hs.val hx; subst hb; simp [execOp, h, asBool, Sem.run], hs.ev hy⟩
theorem Yu {x y z : Operand} {c : C} {b : Bool} (hx : ev es x = some (.bool b)) (hb : b = false) (hz : ev es z = some c) (hn : Nat.blt d n = true) : VOp false P n es ps ⟨some d, .pick x y z, ty, pos, af, gd⟩ d (c) :=
 VOp.mk rfl hn fun a w F Gp hs ho => ⟨a.eval z, fun w2 _ => by have h := hs.val hx; subst hb; simp [execOp, h, asBool, Sem.run], hs.ev hz⟩
theorem Yv {t : Nat} {x : Operand} {b : Bool} (hx : ev es x = some (.bool b)) (hn : Nat.blt d n = true) : VOp false P n es ps ⟨some d, .unOp .not t x, ty, pos, af, gd⟩ d (.bool !b) :=
 VOp.mk rfl hn fun a w F Gp hs ho => ⟨_, fun w2 _ => by have h := hs.val hx; simp only [execOp, h]; rfl, rfl⟩
theorem Yw {t : Nat} {x : Operand} {k : IntKind} {i : Int} (hx : ev es x = some (.val (.int k i))) (hn : Nat.blt d n = true) : VOp false P n es ps ⟨some d, .unOp .neg t x, ty, pos, af, gd⟩ d (.val (.int k (k.wrap (0 - i)))) :=
 VOp.mk rfl hn fun a w F Gp hs ho => ⟨_, fun w2 _ => by have h := hs.val hx; simp only [execOp, h]; rfl, rfl⟩

def binC (op : BinOp) (x y : Value) : Option Value :=
 match x, y with
 | .int k i, .int k' j =>
  if k = k' then
   match op with
   | .add => some (.int k (k.wrap (i + j)))
   | .sub => some (.int k (k.wrap (i - j)))
   | .mul => some (.int k (k.wrap (i * j)))
   | .eql => some (.bool (i == j))
   | .neq => some (.bool (i != j))
   | .lss => some (.bool (i < j))
   | .leq => some (.bool (i ≤ j))
   | .gtr => some (.bool (i > j))
   | .geq => some (.bool (i ≥ j))
   | _ => none
  else none
 | .string i, .string j =>
  match op with
  | .eql => some (.bool (i.toList == j.toList))
  | .neq => some (.bool !(i.toList == j.toList))
  | _ => none
 | _, _ => none

theorem Yx {op : BinOp} {t u : Nat} {x y : Operand} {xv yv r : Value} (hx : ev es x = some (.val xv)) (hy : ev es y = some (.val yv)) (hr : binC op xv yv = some r) (hn : Nat.blt d n = true) :
  VOp false P n es ps ⟨some d, .binOp op t x y u, ty, pos, af, gd⟩ d (.val r) :=
 VOp.mk rfl hn fun a w F Gp hs ho => ⟨r, fun w2 _ => (by
  have h1 := hs.val hx
  have h2 := hs.val hy
  unfold binC at hr
  split at hr
  ·
   rename_i k i k' j
   split at hr
   ·
    rename_i hk
    subst hk
    cases op <;> simp at hr <;> subst hr <;> simp [execOp, h1, h2, binOp, Op.intArith, Op.intCmp, eqGuard_at_int, Sem.run]
   ·
    cases hr
  ·
   rename_i i j
   cases op <;> simp at hr <;> subst hr <;> simp [execOp, h1, h2, binOp, Op.stringOp, eqGuard_at_string, Sem.run]
  ·
   cases hr), rfl⟩

theorem Yy {t u : Nat} {x y : Operand} {k : IntKind} {i j : Int} (hx : ev es x = some (.val (.int k i))) (hy : ev es y = some (.val (.int k j))) (hj : j ≠ 0) (hn : Nat.blt d n = true) :
  VOp false P n es ps ⟨some d, .binOp .rem t x y u, ty, pos, af, gd⟩ d (.val (.int k (i.tmod j))) :=
 VOp.mk rfl hn fun a w F Gp hs ho => ⟨_, fun w2 _ => by simp [execOp, hs.val hx, hs.val hy, binOp, Op.intDiv, eqGuard_at_int, hj, Sem.run], rfl⟩
theorem Yz {t u : Nat} {x y : Operand} {k : IntKind} {i j : Int} (hx : ev es x = some (.val (.int k i))) (hy : ev es y = some (.val (.int k j))) (hj : j ≠ 0) (hn : Nat.blt d n = true) :
  VOp false P n es ps ⟨some d, .binOp .quo t x y u, ty, pos, af, gd⟩ d (.val (.int k (k.wrap (i.tdiv j)))) :=
 VOp.mk rfl hn fun a w F Gp hs ho => ⟨_, fun w2 _ => by simp [execOp, hs.val hx, hs.val hy, binOp, Op.intDiv, eqGuard_at_int, hj, Sem.run], rfl⟩
def Y10 (op : BinOp) (k : IntKind) (i j : Int) : Option Int :=
 match op with
 | .and => some (k.wrap (BitVec.ofInt k.bits i &&& BitVec.ofInt k.bits j).toNat)
 | .or => some (k.wrap (BitVec.ofInt k.bits i ||| BitVec.ofInt k.bits j).toNat)
 | .xor => some (k.wrap (BitVec.ofInt k.bits i ^^^ BitVec.ofInt k.bits j).toNat)
 | _ => none
theorem Y11 {op : BinOp} {t u : Nat} {x y : Operand} {k : IntKind} {i j r : Int} (hx : ev es x = some (.val (.int k i))) (hy : ev es y = some (.val (.int k j))) (hr : Y10 op k i j = some r) (hn : Nat.blt d n = true) :
  VOp false P n es ps ⟨some d, .binOp op t x y u, ty, pos, af, gd⟩ d (.val (.int k r)) :=
 VOp.mk rfl hn fun a w F Gp hs ho => ⟨_, fun w2 _ => (by
  have h1 := hs.val hx
  have h2 := hs.val hy
  unfold Y10 at hr
  cases op <;> simp at hr <;> subst hr <;> simp [execOp, h1, h2, binOp, Op.intBits, eqGuard_at_int, Sem.run]), rfl⟩
def Y12 (op : BinOp) (k : IntKind) (i j : Int) : Option Int :=
 if j < 0 then none else
 match op with
 | .shl => some (k.wrap (i * 2 ^ (min j.toNat k.bits)))
 | .shr => some (i.fdiv (2 ^ (min j.toNat k.bits)))
 | _ => none
theorem Y13 {op : BinOp} {t u : Nat} {x y : Operand} {k k' : IntKind} {i j r : Int} (hx : ev es x = some (.val (.int k i))) (hy : ev es y = some (.val (.int k' j))) (hr : Y12 op k i j = some r) (hn : Nat.blt d n = true) :
  VOp false P n es ps ⟨some d, .binOp op t x y u, ty, pos, af, gd⟩ d (.val (.int k r)) :=
 VOp.mk rfl hn fun a w F Gp hs ho => ⟨_, fun w2 _ => (by
  have h1 := hs.val hx
  have h2 := hs.val hy
  unfold Y12 at hr
  split at hr
  ·
   cases hr
  ·
   rename_i hj
   cases op <;> simp at hr <;> subst hr <;> simp [execOp, h1, h2, binOp, Op.shift, eqGuard_at_int, hj, Sem.run]), rfl⟩
theorem Y14 {t u : Nat} {x y : Operand} {b c : Bool} (ht : P.underlying t = some .bool) (hx : ev es x = some (.bool b)) (hy : ev es y = some (.bool c)) (hn : Nat.blt d n = true) :
  VOp false P n es ps ⟨some d, .binOp .eql t x y u, ty, pos, af, gd⟩ d (.bool (b == c)) :=
 VOp.mk rfl hn fun a w F Gp hs ho => ⟨_, fun w2 _ => by simp [execOp, hs.val hx, hs.val hy, eqGuard_at_bool, run_eql_bool _ _ _ _ ht], rfl⟩
theorem Y15 {t u : Nat} {x y : Operand} {b c : Bool} (ht : P.underlying t = some .bool) (hx : ev es x = some (.bool b)) (hy : ev es y = some (.bool c)) (hn : Nat.blt d n = true) :
  VOp false P n es ps ⟨some d, .binOp .neq t x y u, ty, pos, af, gd⟩ d (.bool !(b == c)) :=
 VOp.mk rfl hn fun a w F Gp hs ho => ⟨_, fun w2 _ => by simp [execOp, hs.val hx, hs.val hy, eqGuard_at_bool, run_neq_bool _ _ _ _ ht], rfl⟩
theorem Y16 {t u : Nat} {x : Operand} {k k' : IntKind} {i : Int} {q : TypeDesc} (hq : P.underlying t = some q) (hu : P.underlying u = some (.int k')) (hx : ev es x = some (.val (.int k i))) (hn : Nat.blt d n = true) :
  VOp false P n es ps ⟨some d, .convert t u x, ty, pos, af, gd⟩ d (.val (.int k' (k'.wrap i))) :=
 VOp.mk rfl hn fun a w F Gp hs ho => ⟨_, fun w2 _ => (by
  simp only [execOp, hs.val hx]
  simp [convert, run_underlying hq, run_underlying hu, Conv.intToInt, Sem.run]), rfl⟩
theorem Y17 {x : Operand} {i : Nat} {cs : List C} {c : C} (hx : ev es x = some (.tup cs)) (hi : cs[i]? = some c) (hn : Nat.blt d n = true) :
  VOp false P n es ps ⟨some d, .extract x i, ty, pos, af, gd⟩ d (c) :=
 VOp.mk rfl hn fun a w F Gp hs ho => by
  obtain ⟨vs, hv, hcs⟩ := hs.ev hx
  obtain ⟨v, h1, h2⟩ := hcs.get hi
  exact ⟨v, fun w2 _ => by simp [execOp, hv, Instr.extract, h1], h2⟩

theorem Y18 {x : Operand} {ad : Addr} (hx : ev es x = some (.val (.pointer (some ad)))) (hn : Nat.blt d n = true) :
  VOp false P n es ps ⟨some d, .nilCheck x, ty, pos, af, gd⟩ d (.val (.pointer (some ad))) :=
 VOp.mk rfl hn fun a w F Gp hs ho => ⟨_, fun w2 _ => by simp [execOp, hs.val hx], rfl⟩
theorem Y19 {x : Operand} {cs : List C} (hx : ev es x = some (.ip cs)) (hn : Nat.blt d n = true) :
  VOp false P n es ps ⟨some d, .nilCheck x, ty, pos, af, gd⟩ d (.ip cs) :=
 VOp.mk rfl hn fun a w F Gp hs ho => by
  obtain ⟨b, off, vs, hv, r⟩ := hs.ev hx
  exact ⟨_, fun w2 _ => by simp only [execOp, hv]; rfl, b, off, vs, rfl, r⟩

end
end Go.Abs
namespace Go.Abs
open Go

def Y1a (P : Program) (T j : Nat) : Option Nat :=
 match P.underlying T with
 | some (.struct fields) => match fields[j]? with
  | some f => match P.info? f.type with
   | some i => if i.size = 0 then none else some f.offset
   | none => none
  | none => none
 | _ => none

def Y1b (P : Program) (T : Nat) : Option (Bool × Nat) :=
 match P.underlying T with
 | none => none
 | some d => match P.info? T with
  | none => none
  | some i => some (match d with | .struct _ => true | .array _ _ => true | _ => false, i.size)

def Y1c (P : Program) (T : Nat) : Option (List Value) :=
 match P.info? T with
 | some i => i.zero.map fun z => z.cells.toList
 | none => none

theorem Y1d (b off k : Nat) : (⟨b, off, none⟩ : Addr).add k = ⟨b, off + k, none⟩ := by
 unfold Addr.add
 split
 ·
  rename_i h; rw [h]; rfl
 ·
  rfl

section
variable {P : Program} {n : Nat} {a : Act} {w : World} {F G : BSet} {es : Env} {ps : List Obj}
variable {d ty : Nat} {pos : String} {af : Array Edge} {gd : Option (Nat × Bool)}

theorem Y1e {T j fo b off : Nat} (hf : Y1a P T j = some fo) : (Instr.fieldAt T (.pointer (some ⟨b, off, none⟩)) j).run P w = .ok (.pointer (some ⟨b, off + fo, none⟩)) w := by
 unfold Y1a at hf
 split at hf
 ·
  rename_i fields hu
  split at hf
  ·
   rename_i f hfi
   split at hf
   ·
    rename_i i hi
    split at hf
    ·
     cases hf
    ·
     rename_i hz
     cases hf
     simp [Instr.fieldAt, run_underlying hu, hfi, Instr.sureAddr, fieldPlace, sizeOf, typeInfo, hi, hz, Y1d]
   ·
    cases hf
  ·
   cases hf
 ·
  cases hf

theorem Y1f {T j fo b off : Nat} {x : Operand} (hf : Y1a P T j = some fo) (hx : ev es x = some (.val (.pointer (some ⟨b, off, none⟩)))) (hn : Nat.blt d n = true) :
  VOp false P n es ps ⟨some d, .fieldAddr T x j, ty, pos, af, gd⟩ d (.val (.pointer (some ⟨b, off + fo, none⟩))) :=
 VOp.mk rfl hn fun a w F Gp hs ho => ⟨_, fun w2 _ => by simp only [execOp, hs.val hx]; simp [Y1e hf], rfl⟩

theorem Y1g {T j fo : Nat} {x : Operand} {cs ds : List C} (hf : Y1a P T j = some fo) (hx : ev es x = some (.ip cs)) (hd : cs.drop fo = ds) (hn : Nat.blt d n = true) :
  VOp false P n es ps ⟨some d, .fieldAddr T x j, ty, pos, af, gd⟩ d (.ip ds) :=
 VOp.mk rfl hn fun a w F Gp hs ho => by
  obtain ⟨b, off, vs, hv, hb, h1, h2⟩ := hs.ev hx
  exact ⟨_, fun w2 _ => by simp only [execOp, hv]; simp [Y1e hf], b, off + fo, vs.drop fo, rfl, hb, h1.drop fo, hd ▸ h2.drop fo⟩

theorem Y1h {T : Nat} {g : Bool} {m : Nat} (h : Y1b P T = some (g, m)) : (isAgg T).run P w = .ok g w := by
 unfold Y1b at h
 split at h
 ·
  cases h
 ·
  rename_i dd hu
  split at h
  ·
   cases h
  ·
   simp only [Option.some.injEq, Prod.mk.injEq] at h
   obtain ⟨rfl, _⟩ := h
   simp only [isAgg, Sem.run_bind, run_underlying hu, Result.andThen_ok]
   cases dd <;> rfl

theorem Y1i {T : Nat} {g : Bool} {m : Nat} (h : Y1b P T = some (g, m)) : (sizeOf T).run P w = .ok m w := by
 unfold Y1b at h
 split at h
 ·
  cases h
 ·
  split at h
  ·
   cases h
  ·
   rename_i hi
   simp only [Option.some.injEq, Prod.mk.injEq] at h
   obtain ⟨_, rfl⟩ := h
   simp [sizeOf, typeInfo, hi]

theorem Y1j {T m b off : Nat} {v : Value} (h : Y1b P T = some (false, m)) (hc : w.cell? ⟨b, off, none⟩ = some v) : (loadVar T ⟨b, off, none⟩).run P w = .ok v w := by
 simp [loadVar, Y1h h, hc]

theorem Y1k {T m b off : Nat} {vs : List Value} (h : Y1b P T = some (true, m)) (hl : vs.length = m) (hc : Y0 w b off vs) : (loadVar T ⟨b, off, none⟩).run P w = .ok (.agg vs.toArray) w := by
 have := run_loadCells_list (P := P) (w := w) ⟨b, off, none⟩ vs (fun j v hj => by rw [Y1d]; exact hc j v hj)
 rw [hl] at this
 simp [loadVar, Y1h h, Y1i h, this]

theorem Y1l {T m : Nat} {x : Operand} {c : C} {cs : List C} (hl : Y1b P T = some (false, m)) (hx : ev es x = some (.ip (c :: cs))) (hn : Nat.blt d n = true) :
  VOp true P n es ps ⟨some d, .load T x, ty, pos, af, gd⟩ d (c) :=
 VOp.mk rfl hn fun a w F Gp hs ho => by
  obtain ⟨b, off, vs, hv, hb, h1, v, r, hvs, hc, _, _⟩ := hs.ev hx
  subst hvs
  refine ⟨v, fun w2 hw => ?_, hc⟩
  simp only [execOp, hv]
  simp [Instr.loadAt, Instr.sureAddr, Y1j hl (show w2.cell? ⟨b, off, none⟩ = some v from (h1.mono (hw rfl b (.inl hb))) 0 v rfl)]

theorem Y1m {T m : Nat} {x : Operand} {cs ds : List C} (hl : Y1b P T = some (true, m)) (hx : ev es x = some (.ip cs)) (hd : cs.take m = ds) (hm : Nat.ble m cs.length = true) (hn : Nat.blt d n = true) :
  VOp true P n es ps ⟨some d, .load T x, ty, pos, af, gd⟩ d (.agg ds) :=
 VOp.mk rfl hn fun a w F Gp hs ho => by
  obtain ⟨b, off, vs, hv, hb, h1, h2⟩ := hs.ev hx
  have hlen : (vs.take m).length = m := by rw [List.length_take, h2.length]; have := Nat.le_of_ble_eq_true hm; omega
  refine ⟨_, fun w2 hw => ?_, vs.take m, rfl, hd ▸ h2.take m⟩
  simp only [execOp, hv]
  simp [Instr.loadAt, Instr.sureAddr, Y1k hl hlen ((h1.mono (hw rfl b (.inl hb))).take m)]


def Obj.box (b T : Nat) (cs : List C) : Obj where
 rep w F G := (∀ b', G b' ↔ b' = b) ∧ ∃ vs, w.heap[b]? = some (.cells vs.toArray T (0, 0)) ∧ Y1 w F cs vs
 mono := by
  rintro w w' F F' G ⟨hg, vs, h1, h2⟩ k g
  exact ⟨hg, vs, (g b ((hg b).2 rfl)).trans h1, h2.mono k⟩

theorem Y1n {b T : Nat} {vs : List Value} {fr : Nat × Nat} (h : w.heap[b]? = some (.cells vs.toArray T fr)) : Y0 w b 0 vs := fun j u hu => by
 rw [cell_of_row w b (0 + j) _ _ _ h]
 simpa using hu

theorem Own.pick {os : List Obj} (h : Own w F os G) {p : Nat} {o : Obj} (hp : pick p os = some o) : ∃ G1, o.rep w F G1 ∧ ∀ b, G1 b → G b := by
 obtain ⟨r, hr⟩ := Y2 hp
 obtain ⟨G1, G2, hi, _, h1, _⟩ := h.perm hr
 exact ⟨G1, h1, fun b hb => (hi b).2 (.inl hb)⟩

theorem Y1o {T m b off p T' : Nat} {x : Operand} {cs : List C} {c : C} (hl : Y1b P T = some (false, m)) (hx : ev es x = some (.val (.pointer (some ⟨b, off, none⟩))))
  (hp : pick p ps = some (.box b T' cs)) (hc : cs[off]? = some c) (hn : Nat.blt d n = true) :
  VOp true P n es ps ⟨some d, .load T x, ty, pos, af, gd⟩ d (c) :=
 VOp.mk rfl hn fun a w F Gp hs ho => by
  obtain ⟨G1, ⟨hg, vs, hb, hcs⟩, hsub⟩ := ho.pick hp
  obtain ⟨v, hv, hr, _⟩ := hcs.get hc
  refine ⟨v, fun w2 hw => ?_, hr⟩
  have h0 := Y1n ((hw rfl b (.inr (hsub b ((hg b).2 rfl)))).trans hb) off v hv
  rw [Nat.zero_add] at h0
  simp only [execOp, hs.val hx]
  simp [Instr.loadAt, Instr.sureAddr, Y1j hl h0]

theorem Y1p {T m b off p T' : Nat} {x : Operand} {cs ds : List C} (hl : Y1b P T = some (true, m)) (hx : ev es x = some (.val (.pointer (some ⟨b, off, none⟩))))
  (hp : pick p ps = some (.box b T' cs)) (hd : (cs.drop off).take m = ds) (hm : Nat.ble (off + m) cs.length = true) (hn : Nat.blt d n = true) :
  VOp true P n es ps ⟨some d, .load T x, ty, pos, af, gd⟩ d (.agg ds) :=
 VOp.mk rfl hn fun a w F Gp hs ho => by
  obtain ⟨G1, ⟨hg, vs, hb, hcs⟩, hsub⟩ := ho.pick hp
  have hlen : ((vs.drop off).take m).length = m := by rw [List.length_take, List.length_drop, hcs.length]; have := Nat.le_of_ble_eq_true hm; omega
  refine ⟨_, fun w2 hw => ?_, (vs.drop off).take m, rfl, hd ▸ (hcs.drop off).take m⟩
  have h0 := ((Y1n ((hw rfl b (.inr (hsub b ((hg b).2 rfl)))).trans hb)).drop off).take m
  rw [Nat.zero_add] at h0
  simp only [execOp, hs.val hx]
  simp [Instr.loadAt, Instr.sureAddr, Y1k hl hlen h0]

theorem Turn.new (hf : ∀ b, F b → b < w.heap.size) (o : Obj) (b : Go.Obj) (ho : o.rep (w.alloc b) F (· = w.heap.size)) : Turn w F (fun _ => False) (w.alloc b) F (· = w.heap.size) [o] where
 own := ⟨(· = w.heap.size), fun _ => False, fun _ => by simp, fun _ _ h => h, ho, fun _ h => h⟩
 sub := fun _ h => h
 fin := fun b hb => ⟨by have := hf b hb; simp; omega, .inl hb⟩
 gin := fun b hb => ⟨by subst hb; simp, fun hb' => by have := hf b hb'; omega, .inr (by omega)⟩
 chg := ⟨rfl, rfl, rfl, by simp, (by first | exact Nat.le_refl _ | exact Nat.le_succ _), fun b hb _ => heap_alloc_old w _ hb⟩

theorem Y1q (hf : ∀ b, F b → b < w.heap.size) (o : Go.Obj) : ∀ b, F b → F b ∧ (w.alloc o).heap[b]? = w.heap[b]? := fun b hb => ⟨hb, heap_alloc_old w o (hf b hb)⟩

def One (c : C) : Prop := ∀ w F v, c.rep w F v → v.oneCell' = true
theorem One.val {x : Value} (h : x.oneCell' = true) : One (.val x) := fun _ _ v hv => by rw [show v = x from hv]; exact h
theorem One.im {α : Type} {k : α → List C} {sz : Nat} {xs : List α} : One (.im k sz xs) := fun _ _ v ⟨_, _, e, _⟩ => by rw [e]; rfl
theorem One.ip {cs : List C} : One (.ip cs) := fun _ _ v ⟨_, _, _, e, _⟩ => by rw [e]; rfl

theorem Y1r {c : C} {v : Value} (h1 : One c) (h : c.rep w F v) : Y1 w F [c] [v] := ⟨v, [], rfl, h, h1 _ _ _ h, rfl⟩
theorem Y1s {v : Value} (h : v.oneCell' = true) : v.cells = #[v] := by cases v <;> first | rfl | simp [Value.oneCell'] at h

theorem Y1t {T : Nat} {zs : List Value} {cs : List C} (hz : Y1c P T = some zs) (hc : ∀ w F, Y1 w F cs zs) (hn : Nat.blt d n = true) :
  HOp P n ⟨some d, .alloc T, ty, pos, af, gd⟩ es [] (fun e' qs => ∃ b, e' = (d, .val (.pointer (some ⟨b, 0, none⟩))) :: es ∧ qs = [.box b T cs]) :=
 HOp.of rfl hn fun a w F G1 hs h1 hf => by
  have hG1 : G1 = fun _ => False := funext fun b => eq_false (h1 b)
  subst hG1
  unfold Y1c at hz
  split at hz
  ·
   rename_i i hi
   simp only [Option.map_eq_some_iff] at hz
   obtain ⟨z, hz1, hz2⟩ := hz
   refine ⟨.pointer (some ⟨w.heap.size, 0, none⟩), w.alloc (.cells zs.toArray T), F, _, _, _, ?_, rfl, Turn.new hf.fin (.box w.heap.size T cs) _ ⟨fun _ => Iff.rfl, zs, heap_alloc_new w _, hc _ _⟩, _, rfl, rfl⟩
   simp [execOp, Instr.alloc, zeroValue, typeInfo, hi, hz1, newVar, newRow, ← hz2]
  ·
   cases hz

theorem Y1u {T : Nat} {x : Operand} {c : C} (hx : ev es x = some c) (h1 : One c) (hn : Nat.blt d n = true) :
  HOp P n ⟨some d, .box T x, ty, pos, af, gd⟩ es [] (fun e' qs => ∃ b, e' = (d, .val (.pointer (some ⟨b, 0, none⟩))) :: es ∧ qs = [.box b T [c]]) :=
 HOp.of rfl hn fun a w F G1 hs hG hf => by
  have hG1 : G1 = fun _ => False := funext fun b => eq_false (hG b)
  subst hG1
  have hv := hs.ev hx
  refine ⟨.pointer (some ⟨w.heap.size, 0, none⟩), w.alloc (.cells #[a.eval x] T), F, _, _, _, ?_, rfl, Turn.new hf.fin (.box w.heap.size T [c]) _ ⟨fun _ => Iff.rfl, [a.eval x], heap_alloc_new w _, Y1r h1 (C.mono _ hv (Y1q hf.fin _))⟩, _, rfl, rfl⟩
  simp [execOp, Instr.box, newVar, newRow, Y1s (h1 _ _ _ hv)]

theorem Y1v {T : Nat} {x : Operand} {cs : List C} (hx : ev es x = some (.agg cs)) (hn : Nat.blt d n = true) :
  HOp P n ⟨some d, .box T x, ty, pos, af, gd⟩ es [] (fun e' qs => ∃ b, e' = (d, .val (.pointer (some ⟨b, 0, none⟩))) :: es ∧ qs = [.box b T cs]) :=
 HOp.of rfl hn fun a w F G1 hs hG hf => by
  have hG1 : G1 = fun _ => False := funext fun b => eq_false (hG b)
  subst hG1
  obtain ⟨vs, hv, hcs⟩ := hs.ev hx
  refine ⟨.pointer (some ⟨w.heap.size, 0, none⟩), w.alloc (.cells vs.toArray T), F, _, _, _, ?_, rfl, Turn.new hf.fin (.box w.heap.size T cs) _ ⟨fun _ => Iff.rfl, vs, heap_alloc_new w _, hcs.mono (Y1q hf.fin _)⟩, _, rfl, rfl⟩
  simp [execOp, Instr.box, newVar, newRow, hv, Value.cells]

theorem Y1w {b T off : Nat} {old vs : List Value} (hb : w.heap[b]? = some (.cells old.toArray T (0, 0))) (hl : off + vs.length ≤ old.length) (h1 : ∀ u ∈ vs, u.oneCell' = true) :
  (storeCells ⟨b, off, none⟩ vs).run P w = .ok () (w.setRow b (old.take off ++ vs ++ old.drop (off + vs.length)).toArray) := by
 have := run_storeCells_at P b off T vs 0 old.toArray w hb (by simpa using hl) h1
 simpa using this

theorem Y1.set {cs ds : List C} {vs us : List Value} {off : Nat} (h : Y1 w F cs vs) (k : Y1 w F ds us) (hl : off + ds.length ≤ cs.length) :
  Y1 w F (cs.take off ++ ds ++ cs.drop (off + ds.length)) (vs.take off ++ us ++ vs.drop (off + us.length)) := by
 rw [k.length]
 exact ((h.take off).append k).append (h.drop _)

theorem Turn.set {b T : Nat} {gs : List C} {old vs : List Value} {G1 : BSet} (hf : Fit w F G1) (hG : ∀ b', G1 b' ↔ b' = b) (hb : w.heap[b]? = some (.cells old.toArray T (0, 0))) (hes : Y1 w F gs vs) : Turn w F G1 (w.setRow b vs.toArray) F G1 [.box b T gs] := by
 have hother : ∀ k, k ≠ b → (w.setRow b vs.toArray).heap[k]? = w.heap[k]? := fun k hk => setRow_other w b k _ hk
 have hFb : ∀ k, F k → F k ∧ (w.setRow b vs.toArray).heap[k]? = w.heap[k]? := fun k hk => ⟨hk, hother k fun e => (hf.gin b ((hG b).2 rfl)).2 (e ▸ hk)⟩
 refine ⟨⟨G1, fun _ => False, fun _ => by simp, fun _ _ h => h, ⟨hG, vs, ?_, hes.mono hFb⟩, fun _ h => h⟩, fun _ h => h, fun k hk => ⟨by simpa using hf.fin k hk, .inl hk⟩,
  fun k hk => ⟨by simpa using (hf.gin k hk).1, (hf.gin k hk).2, .inl hk⟩, ⟨rfl, rfl, rfl, by simp, (by first | exact Nat.le_refl _ | exact Nat.le_succ _), fun k _ hk => hother k fun e => hk ((hG k).2 e)⟩⟩
 exact setRow_heap w b _ vs.toArray T (0, 0) hb

theorem Own.only {o : Obj} {G1 : BSet} (h : Own w F [o] G1) : o.rep w F G1 := by
 obtain ⟨G2, G3, hi, _, ho, hno⟩ := h
 have : G1 = G2 := funext fun b => propext ((hi b).trans ⟨fun h => h.resolve_right (hno b), .inl⟩)
 exact this ▸ ho

theorem Y1x {T b off T' : Nat} {x y : Operand} {cs gs : List C} {c : C} (hl : Y1b P T = some (false, 1)) (hx : ev es x = some (.val (.pointer (some ⟨b, off, none⟩))))
  (hy : ev es y = some c) (h1 : One c) (hm : Nat.blt off cs.length = true) (he : cs.take off ++ [c] ++ cs.drop (off + 1) = gs) :
  HOp P n ⟨none, .store T x y, ty, pos, af, gd⟩ es [.box b T' cs] (fun e' qs => e' = es ∧ qs = [.box b T' gs]) :=
 HOp.of0 rfl fun a w F G1 hs ho hf => by
  obtain ⟨hG, vs, hb, hcs⟩ := ho.only
  have hv := hs.ev hy
  have hlen : off + [a.eval y].length ≤ vs.length := by rw [hcs.length]; exact Yl hm
  refine ⟨_, _, _, _, ?_, Turn.set (gs := gs) (vs := vs.take off ++ [a.eval y] ++ vs.drop (off + 1)) hf hG hb (he ▸ hcs.set (Y1r h1 hv) (show off + [c].length ≤ cs.length from Yl hm)), rfl, rfl⟩
  simp only [execOp, hs.val hx]
  simp [Instr.storeAt, Instr.sureAddr, storeVar, Y1i hl, Y1s (h1 _ _ _ hv), Y1w hb hlen (fun u hu => by rw [List.mem_singleton.1 hu]; exact h1 _ _ _ hv)]

theorem Y1y {T m b off T' : Nat} {x y : Operand} {cs ds gs : List C} (hl : Y1b P T = some (true, m)) (hx : ev es x = some (.val (.pointer (some ⟨b, off, none⟩))))
  (hy : ev es y = some (.agg ds)) (hdm : Nat.beq ds.length m = true) (hm : Nat.ble (off + ds.length) cs.length = true) (he : cs.take off ++ ds ++ cs.drop (off + ds.length) = gs) :
  HOp P n ⟨none, .store T x y, ty, pos, af, gd⟩ es [.box b T' cs] (fun e' qs => e' = es ∧ qs = [.box b T' gs]) :=
 HOp.of0 rfl fun a w F G1 hs ho hf => by
  obtain ⟨hG, vs, hb, hcs⟩ := ho.only
  obtain ⟨us, hv, hds⟩ := hs.ev hy
  have hlen : off + us.length ≤ vs.length := by rw [hcs.length, hds.length]; exact Nat.le_of_ble_eq_true hm
  have hum : us.length = m := by rw [hds.length]; exact Nat.eq_of_beq_eq_true hdm
  refine ⟨_, _, _, _, ?_, Turn.set (gs := gs) (vs := vs.take off ++ us ++ vs.drop (off + us.length)) hf hG hb (he ▸ hcs.set hds (Nat.le_of_ble_eq_true hm)), rfl, rfl⟩
  simp only [execOp, hs.val hx, hv]
  simp [Instr.storeAt, Instr.sureAddr, storeVar, Y1i hl, Value.cells, hum, Y1w hb hlen hds.one]
end
end Go.Abs
namespace Go.Abs
open Go

def Y1z (P : Program) (f : FuncId) : Prop := ∀ (args : Array Value) (w : World), (callFunc f args).run P w = .ok (.enter f args) w

theorem enters_of {P : Program} {f : FuncId} {fn : Func} {c : Code} (hf : P.funcs[f]? = some fn) (hname : (fn.name == "runtime.NumGoroutine") = false) (hb : fn.body = some c) : Y1z P f := by
 intro args w
 have h1 : fn.name ≠ "runtime.NumGoroutine" := by simpa using hname
 simp [callFunc, hf, h1, hb, mark]

def Ok (P : Program) (f : FuncId) (cs : List C) (os : List Obj) (R : C → List Obj → Prop) : Prop :=
 Y1z P f ∧ ∀ w F G vals, Reps w F cs vals → Own w F os G → Fit w F G →
  Calls P f vals.toArray w fun e w' => ∃ v c qs F' G', e = .returned v ∧ R c qs ∧ c.rep w' F' v ∧ Turn w F G w' F' G' qs

theorem Ok.mono {P : Program} {f : FuncId} {cs : List C} {os : List Obj} {R R' : C → List Obj → Prop} (h : Ok P f cs os R) (k : ∀ c qs, R c qs → R' c qs) : Ok P f cs os R' :=
 ⟨h.1, fun w F G vals h1 h2 h3 => (h.2 w F G vals h1 h2 h3).mono fun _ _ ⟨v, c, qs, F', G', he, hr, hc, ht⟩ => ⟨v, c, qs, F', G', he, k _ _ hr, hc, ht⟩⟩

def Y20 : Nat → List C → Env
 | _, [] => []
 | i, c :: cs => (i, c) :: Y20 (i + 1) cs

theorem Y21 {w : World} {F : BSet} : ∀ {cs : List C} {vals : List Value} {k i : Nat} {c : C}, Reps w F cs vals → get (Y20 k cs) i = some c → ∃ v, k ≤ i ∧ vals[i - k]? = some v ∧ c.rep w F v
 | [], _, _, _, _, _, hi => by cases hi
 | c0 :: cs, _, k, i, c, ⟨v, r, e, h1, h2⟩, hi => by
  subst e
  by_cases hk : k = i
  ·
   subst hk
   rw [Y20, Ya] at hi
   cases hi
   exact ⟨v, Nat.le_refl _, by simp, h1⟩
  ·
   rw [Y20, Yb _ _ hk] at hi
   obtain ⟨u, h3, h4, h5⟩ := Y21 h2 hi
   refine ⟨u, by omega, ?_, h5⟩
   rw [show i - k = (i - (k + 1)) + 1 from by omega, List.getElem?_cons_succ]
   exact h4

inductive ResV (P : Program) (s : St) : ResultVar → C → Prop
 | tmp {t : Nat} {c : C} (h : get s.e t = some c) : ResV P s (.tmp t) c
 | cell {t T T' b p m : Nat} {ds : List C} (h : get s.e t = some (.val (.pointer (some ⟨b, 0, none⟩)))) (hp : pick p s.o = some (.box b T' ds)) (hl : Y1b P T = some (true, m)) (hm : Nat.beq ds.length m = true) : ResV P s (.cell t T) (.agg ds)
 | cell1 {t T T' b p m : Nat} {c : C} {ds : List C} (h : get s.e t = some (.val (.pointer (some ⟨b, 0, none⟩)))) (hp : pick p s.o = some (.box b T' (c :: ds))) (hl : Y1b P T = some (false, m)) : ResV P s (.cell t T) c

inductive ResVs (P : Program) (s : St) : List ResultVar → List C → Prop
 | nil : ResVs P s [] []
 | cons {r : ResultVar} {c : C} {rs : List ResultVar} {cs : List C} (h : ResV P s r c) (k : ResVs P s rs cs) : ResVs P s (r :: rs) (c :: cs)

def Y22 : List C → C
 | [c] => c
 | cs => .tup cs

section
variable {P : Program} {n : Nat} {X : Ctx} {s : St} {a : Act} {w : World} {F G : BSet}

def Y23 (tmps : Array Value) : ResultVar → Sem Value
 | .tmp t => pure (tmps.getD t undef)
 | .cell a t => do loadVar t (← asAddr (tmps.getD a undef))

theorem ResV.run (h : Yd n X s a w F G) {r : ResultVar} {c : C} (hr : ResV P s r c) : ∃ v, (Y23 a.tmps r).run P w = .ok v w ∧ c.rep w F v := by
 cases hr with
 | tmp ht => exact ⟨_, rfl, h.env _ _ ht⟩
 | cell ht hp hl hm =>
  obtain ⟨G1, ⟨_, vs, hb, hcs⟩, _⟩ := h.own.pick hp
  have hv : a.tmps.getD _ undef = _ := h.env _ _ ht
  refine ⟨_, ?_, vs, rfl, hcs⟩
  simp only [Y23, hv]
  simp [asAddr, Y1k hl (by rw [hcs.length]; exact Nat.eq_of_beq_eq_true hm) (Y1n hb)]
 | cell1 ht hp hl =>
  obtain ⟨G1, ⟨_, vs, hb, v, r, hvs, hc, _, _⟩, _⟩ := h.own.pick hp
  have hv : a.tmps.getD _ undef = _ := h.env _ _ ht
  refine ⟨v, ?_, hc⟩
  subst hvs
  simp only [Y23, hv]
  have h0 : w.cell? ⟨_, 0, none⟩ = some v := Y1n hb 0 v rfl
  simp [asAddr, Y1j hl h0]

theorem ResVs.run (h : Yd n X s a w F G) {rs : List ResultVar} {cs : List C} (hr : ResVs P s rs cs) : ∃ vs, (rs.mapM (Y23 a.tmps)).run P w = .ok vs w ∧ Reps w F cs vs := by
 induction hr with
 | nil => exact ⟨[], rfl, rfl⟩
 | cons h1 _ ih =>
  obtain ⟨v, hv, hc⟩ := h1.run h
  obtain ⟨vs, hvs, hcs⟩ := ih
  exact ⟨v :: vs, by simp [hv, hvs], v, vs, rfl, hc, hcs⟩

theorem Y24 {fn : Func} {rs : List ResultVar} {cs : List C} (hfn : fn.results = rs.toArray) (h : Yd n X s a w F G) (hr : ResVs P s rs cs) :
  ∃ v, (results fn a.tmps).run P w = .ok v w ∧ (Y22 cs).rep w F v := by
 obtain ⟨vs, hvs, hcs⟩ := hr.run h
 have e : results fn a.tmps = (fn.results.mapM (Y23 a.tmps)) >>= fun vs => pure (if h : vs.size = 1 then vs[0] else .tuple vs) := rfl
 have hrun : (results fn a.tmps).run P w = .ok (if h : vs.toArray.size = 1 then vs.toArray[0] else .tuple vs.toArray) w := by
  rw [e, hfn, List.mapM_toArray]
  simp only [Sem.run_bind, Sem.run_map, hvs, Result.andThen_ok, Sem.run_pure]
 refine ⟨_, hrun, ?_⟩
 have hlen := hcs.length
 match cs, vs, hcs, hlen with
 | [c], [v], ⟨v', r, e, h1, h2⟩, _ =>
  cases e
  simpa [Y22] using h1
 | [], vs, hcs, hlen =>
  have : vs = [] := hcs
  subst this
  exact ⟨[], by simp, rfl⟩
 | c :: d :: cs, vs, hcs, hlen =>
  simp only [List.length_cons] at hlen
  rw [dif_neg (by simp; omega)]
  exact ⟨vs, rfl, hcs⟩

def Y25 (n : Nat) (X : Ctx) (s s' : St) : Prop := ∀ a w, Sim n X s a w → Sim n X s' a w

theorem Y25.refl (s : St) : Y25 n X s s := fun _ _ h => h
theorem Y25.trans {s s' s'' : St} (h : Y25 n X s s') (k : Y25 n X s' s'') : Y25 n X s s'' := fun a w hs => k a w (h a w hs)

theorem Y26 : ∀ {e : Env} {i : Nat} {c : C}, get e i = some c → (i, c) ∈ e
 | [], _, _, h => by cases h
 | (j, c') :: e, i, c, h => by
  by_cases hj : j = i
  ·
   subst hj
   rw [Ya] at h
   cases h
   exact List.mem_cons_self
  ·
   rw [Yb _ _ hj] at h
   exact List.mem_cons_of_mem _ (Y26 h)

theorem Y25.env {e e' : Env} {o : List Obj} (h : e'.map (fun p => get e p.1) = e'.map (fun p => some p.2)) : Y25 n X ⟨e, o⟩ ⟨e', o⟩ := fun _ _ hs =>
 hs.forget (fun i c hi => by
  have hm := Y26 hi
  obtain ⟨j, hj⟩ := List.mem_iff_getElem?.1 hm
  have := congrArg (fun l => l[j]?) h
  simp only [List.getElem?_map, hj, Option.map_some, Option.some.injEq] at this
  exact this) rfl

theorem Y25.objs {e : Env} {o qs r : List Obj} {ns : List Nat} (h : Y7 ns o = some (qs, r)) : Y25 n X ⟨e, o⟩ ⟨e, qs⟩ := by
 rintro a w ⟨F, G, hs⟩
 obtain ⟨G1, G2, hi, hd, h1, h2⟩ := Own.append.1 (hs.own.perm (Y8 h))
 exact ⟨F, G1, ⟨hs.env, h1, hs.fin, fun b hb => hs.gin b ((hi b).2 (.inl hb)), hs.sub, hs.chg, hs.size, hs.defs⟩⟩

theorem Y25.both {e e' : Env} {o qs r : List Obj} {ns : List Nat} (h : Y7 ns o = some (qs, r)) (he : e'.map (fun p => get e p.1) = e'.map (fun p => some p.2)) : Y25 n X ⟨e, o⟩ ⟨e', qs⟩ :=
 (Y25.objs h).trans (Y25.env he)

theorem AW.ghost {c : Code} {s' : St} {K : Exit → St → Prop} (g : Y25 n X s s') (h : AW P n X c s' K) : AW P n X c s K := fun a w hs => h a w (g a w hs)

theorem AW.cut {c : Code} {K : Exit → St → Prop} {τ : Type} (S : τ → St) (I : τ → Prop) (h : AW P n X c s (Yi (fun s' => ∃ x, I x ∧ Y25 n X s' (S x)) K)) (k : ∀ x, I x → K .normal (S x)) : AW P n X c s K :=
 fun a w hs => Code.wp_mono (fun e a' w' ⟨s', h1, h2⟩ => by
  cases e with
  | normal =>
   obtain ⟨x, hx, g⟩ := h2
   exact ⟨S x, g a' w' h1, k x hx⟩
  | _ => exact ⟨s', h1, h2⟩) (h a w hs)

def Fin (P : Program) (n : Nat) (X : Ctx) (rs : List ResultVar) (R : C → List Obj → Prop) (s : St) : Prop :=
 ∃ cs s', Y25 n X s s' ∧ ResVs P s' rs cs ∧ ∃ ns qs r, Y7 ns s'.o = some (qs, r) ∧ R (Y22 cs) qs

def finK (P : Program) (n : Nat) (X : Ctx) (rs : List ResultVar) (R : C → List Obj → Prop) : Exit → St → Prop
 | .normal, s => Fin P n X rs R s
 | .ret, s => Fin P n X rs R s
 | _, _ => False

theorem Ok.of_body {f : FuncId} {fn : Func} {c : Code} {rs : List ResultVar} {cs : List C} {os : List Obj} {R : C → List Obj → Prop} (hf : P.funcs[f]? = some fn) (hname : (fn.name == "runtime.NumGoroutine") = false) (hb : fn.body = some c)
  (hres : fn.results = rs.toArray) (hn : fn.ntmps = n) (hle : Nat.ble cs.length n = true) (H : ∀ X, AW P n X c ⟨Y20 0 cs, os⟩ (finK P n X rs R)) : Ok P f cs os R := by
 subst hn
 refine ⟨enters_of hf hname hb, fun w F G vals hv ho hf0 => ?_⟩
 have hlen := hv.length
 have h0 : Sim fn.ntmps ⟨w, F, G, hf0⟩ ⟨Y20 0 cs, os⟩ { tmps := vals.toArray ++ Array.replicate (fn.ntmps - vals.toArray.size) undef, defers := [] } w := by
  refine ⟨F, G, ⟨fun i c hi => ?_, ho, fun b hb => ⟨hf0.fin b hb, .inl hb⟩, fun b hb => ⟨(hf0.gin b hb).1, (hf0.gin b hb).2, .inl hb⟩, fun _ h => h, Chg.refl _ _, ?_, rfl⟩⟩
  ·
   obtain ⟨v, _, h2, h3⟩ := Y21 hv hi
   have : (vals.toArray ++ Array.replicate (fn.ntmps - vals.toArray.size) undef).getD i undef = v := by
    simp only [Nat.sub_zero] at h2
    have hlt : i < vals.length := by
     rcases Nat.lt_or_ge i vals.length with h | h
     ·
      exact h
     ·
      rw [List.getElem?_eq_none h] at h2; cases h2
    rw [Array.getD_eq_getD_getElem?, Array.getElem?_append_left (by simpa using hlt)]
    simp [h2]
   rw [this]
   exact h3
  ·
   have := Nat.le_of_ble_eq_true hle
   simp only [Array.size_append, List.size_toArray, Array.size_replicate]
   omega
 have hw := H ⟨w, F, G, hf0⟩ _ w h0
 refine calls_of_wp hf hb (Code.wp_mono ?_ hw)
 rintro e a' w' ⟨s', hs, hk⟩
 have fin : Fin P fn.ntmps ⟨w, F, G, hf0⟩ rs R s' → a'.defers = [] ∧ ∃ v, (results fn a'.tmps).run P w' = .ok v w' ∧ ∃ v' c qs F' G', Ending.returned v = .returned v' ∧ R c qs ∧ c.rep w' F' v' ∧ Turn w F G w' F' G' qs := by
  rintro ⟨ds, s'', g, hr, ns, qs, r, hp, hR⟩
  obtain ⟨F', G', hs'⟩ := g a' w' hs
  obtain ⟨v, hv, hc⟩ := Y24 hres hs' hr
  obtain ⟨G1, G2, hi, hd, h1, h2⟩ := Own.append.1 (hs'.own.perm (Y8 hp))
  exact ⟨hs'.defs, v, hv, v, _, qs, F', G1, rfl, hR, hc, ⟨h1, hs'.sub, hs'.fin, fun b hb => hs'.gin b ((hi b).2 (.inl hb)), hs'.chg⟩⟩
 cases e with
 | normal => exact fin hk
 | ret => exact fin hk
 | _ => exact hk.elim

def evs (e : Env) : List Operand → Option (List C)
 | [] => some []
 | x :: xs => match ev e x with
  | some c => match evs e xs with
   | some cs => some (c :: cs)
   | none => none
  | none => none

variable {es : Env} {ps : List Obj}

theorem Ym.evs (h : Ym w F es a) : ∀ {xs : List Operand} {cs : List C}, Abs.evs es xs = some cs → Reps w F cs (xs.map a.eval)
 | [], _, hx => by cases hx; rfl
 | x :: xs, cs, hx => by
  unfold Abs.evs at hx
  split at hx
  ·
   rename_i c hc
   split at hx
   ·
    rename_i cs' hcs
    cases hx
    exact ⟨_, _, rfl, h.ev hc, h.evs hcs⟩
   ·
    cases hx
  ·
   cases hx

variable {d ty : Nat} {pos : String} {af : Array Edge} {gd : Option (Nat × Bool)}

theorem Y27 {f : FuncId} {xs : List Operand} {ts : Array TypeId} {cs : List C} {R : C → List Obj → Prop} (h : Ok P f cs ps R) (hx : evs es xs = some cs) (hn : Nat.blt d n = true) :
  HOp P n ⟨some d, .call ⟨.value (.func f), xs.toArray, ts⟩, ty, pos, af, gd⟩ es ps (fun e' qs => ∃ c, R c qs ∧ e' = (d, c) :: es) := by
 intro a w F G1 hs ho hf hsz Kc Q hK
 have hcall := h.2 w F G1 _ (hs.evs hx) ho hf
 have hrun : (execOp a.eval ⟨some d, .call ⟨.value (.func f), xs.toArray, ts⟩, ty, pos, af, gd⟩).run P w = .ok (.enter f (xs.map a.eval).toArray) w := by
  simp [execOp, resolve, Act.eval, Deferred.ofValue, invoke, h.1 _ w]
 unfold Oper.wp
 rw [hrun]
 refine hcall.mono fun e w' ⟨v, c, qs, F', G', he, hr, hc, ht⟩ => ?_
 subst he
 exact hK v w' _ qs F' G' ht ⟨c, hr, rfl⟩ (Ym.put (hs.mono (ht.same hf)) (hsz ▸ Yl hn) hc)

theorem Y28 {f : FuncId} {xs : List Operand} {ts : Array TypeId} {cs : List C} {c : C} {qs : List Obj} (h : Ok P f cs ps fun c' qs' => c' = c ∧ qs' = qs) (hx : evs es xs = some cs) (hn : Nat.blt d n = true) :
  HOp P n ⟨some d, .call ⟨.value (.func f), xs.toArray, ts⟩, ty, pos, af, gd⟩ es ps (fun e' qs' => e' = (d, c) :: es ∧ qs' = qs) := by
 intro a w F G1 hs ho hf hsz Kc Q hK
 exact Y27 h hx hn a w F G1 hs ho hf hsz Kc Q fun v w' e' qs' F' G1' ht ⟨c', ⟨h1, h2⟩, h3⟩ he => hK v w' e' qs' F' G1' ht ⟨by rw [h3, h1], h2⟩ he

theorem Y29 {f : FuncId} {xs : List Operand} {ts : Array TypeId} {cs : List C} {R : C → List Obj → Prop} (h : Ok P f cs ps R) (hx : evs es xs = some cs) :
  HOp P n ⟨none, .call ⟨.value (.func f), xs.toArray, ts⟩, ty, pos, af, gd⟩ es ps (fun e' qs => ∃ c, R c qs ∧ e' = es) := by
 intro a w F G1 hs ho hf hsz Kc Q hK
 have hcall := h.2 w F G1 _ (hs.evs hx) ho hf
 have hrun : (execOp a.eval ⟨none, .call ⟨.value (.func f), xs.toArray, ts⟩, ty, pos, af, gd⟩).run P w = .ok (.enter f (xs.map a.eval).toArray) w := by
  simp [execOp, resolve, Act.eval, Deferred.ofValue, invoke, h.1 _ w]
 unfold Oper.wp
 rw [hrun]
 refine hcall.mono fun e w' ⟨v, c, qs, F', G', he, hr, hc, ht⟩ => ?_
 subst he
 exact hK v w' _ qs F' G' ht ⟨c, hr, rfl⟩ (hs.mono (ht.same hf))

theorem Y2a (w : World) (F : BSet) : ∀ l : List Value, Reps w F (l.map C.val) l
 | [] => rfl
 | v :: r => ⟨v, r, rfl, rfl, Y2a w F r⟩

theorem Reps.append {cs ds : List C} : ∀ {vs us : List Value}, Reps w F cs vs → Reps w F ds us → Reps w F (cs ++ ds) (vs ++ us) := by
 induction cs with
 | nil => intro vs us hv hu; rw [show vs = [] from hv]; exact hu
 | cons c l ih => rintro vs us ⟨v, r, rfl, h1, h2⟩ hu; exact ⟨v, r ++ us, rfl, h1, ih h2 hu⟩

theorem Y2b {f : FuncId} {x : Operand} {cap : List Value} {xs : List Operand} {ts : Array TypeId} {cs ds : List C} {R : C → List Obj → Prop} (hfv : ev es x = some (.val (.func (.func f) #[] cap.toArray))) (hds : ds = cap.map C.val)
  (h : Ok P f (cs ++ ds) ps R) (hx : evs es xs = some cs) (hn : Nat.blt d n = true) :
  HOp P n ⟨some d, .call ⟨.value x, xs.toArray, ts⟩, ty, pos, af, gd⟩ es ps (fun e' qs => ∃ c, R c qs ∧ e' = (d, c) :: es) := by
 intro a w F G1 hs ho hf hsz Kc Q hK
 have hcall := h.2 w F G1 _ (Reps.append (hs.evs hx) (hds ▸ Y2a w F cap)) ho hf
 have hrun : (execOp a.eval ⟨some d, .call ⟨.value x, xs.toArray, ts⟩, ty, pos, af, gd⟩).run P w = .ok (.enter f (xs.map a.eval ++ cap).toArray) w := by
  simp [execOp, resolve, hs.val hfv, Deferred.ofValue, invoke, h.1 _ w]
 unfold Oper.wp
 rw [hrun]
 refine hcall.mono fun e w' ⟨v, c, qs, F', G', he, hr, hc, ht⟩ => ?_
 subst he
 exact hK v w' _ qs F' G' ht ⟨c, hr, rfl⟩ (Ym.put (hs.mono (ht.same hf)) (hsz ▸ Yl hn) hc)
end
end Go.Abs
namespace Go.Abs
open Go

def Y2c (P : Program) (T : Nat) : Option (Nat × Nat × Nat) :=
 match P.underlying T with
 | some (.slice e) => match P.info? e with
  | some i => some (e, i.size, i.bytes)
  | none => none
 | _ => none

def getI {α : Type} (xs : List α) (i : Int) : Option α := if 0 ≤ i then xs[i.toNat]? else none
def Y2d {α : Type} (xs : List α) (l h : Int) : Option (List α) := if 0 ≤ l ∧ l ≤ h ∧ h ≤ xs.length then some ((xs.drop l.toNat).take (h.toNat - l.toNat)) else none
def Y2e (s : ByteArray) (l h : Int) : Option ByteArray := if 0 ≤ l ∧ l ≤ h ∧ h ≤ s.size then some (s.extract l.toNat h.toNat) else none

theorem Y2f {α : Type} {xs : List α} {i : Int} {x : α} (h : getI xs i = some x) : 0 ≤ i ∧ i < xs.length ∧ xs[i.toNat]? = some x := by
 unfold getI at h
 split at h
 ·
  rename_i h0
  have := (List.getElem?_eq_some_iff.1 h).1
  exact ⟨h0, by omega, h⟩
 ·
  cases h

section
variable {P : Program} {n : Nat} {a : Act} {w : World} {F G : BSet} {es : Env} {ps : List Obj}
variable {d ty : Nat} {pos : String} {af : Array Edge} {gd : Option (Nat × Bool)}

theorem Y2g {T E sz by' : Nat} (h : Y2c P T = some (E, sz, by')) : P.underlying T = some (.slice E) ∧ ∃ i, P.info? E = some i ∧ i.size = sz ∧ i.bytes = by' := by
 unfold Y2c at h
 split at h
 ·
  rename_i e hu
  split at h
  ·
   rename_i i hi
   cases h
   exact ⟨hu, i, hi, rfl, rfl⟩
  ·
   cases h
 ·
  cases h

theorem Y2h {E : Nat} {i : TypeInfo} (hi : P.info? E = some i) : (sizeOf E).run P w = .ok i.size w := by simp [sizeOf, typeInfo, hi]

theorem Y2i {α : Type} {k : α → List C} {T E sz by' m : Nat} {xs : List α} {x : Operand} (hT : Y2c P T = some (E, sz, by')) (hx : ev es x = some (.im k m xs)) (hn : Nat.blt d n = true) :
  VOp false P n es ps ⟨some d, .call ⟨.builtin .len, #[x], #[T]⟩, ty, pos, af, gd⟩ d (.int xs.length) :=
 VOp.mk rfl hn fun a w F Gp hs ho => by
  obtain ⟨A, cap, hv, _⟩ := hs.ev hx
  refine ⟨_, fun w2 _ => ?_, rfl⟩
  simp [execOp, resolve, invoke, builtin, hv, Builtin.len_, run_underlying (Y2g hT).1, goInt]

theorem Y2j {T E sz by' m cap : Nat} {A : Option Addr} {x : Operand} (hT : Y2c P T = some (E, sz, by')) (hx : ev es x = some (.val (.slice A m cap))) (hn : Nat.blt d n = true) :
  VOp false P n es ps ⟨some d, .call ⟨.builtin .len, #[x], #[T]⟩, ty, pos, af, gd⟩ d (.int m) :=
 VOp.mk rfl hn fun a w F Gp hs ho => by
  refine ⟨_, fun w2 _ => ?_, rfl⟩
  simp [execOp, resolve, invoke, builtin, hs.val hx, Builtin.len_, run_underlying (Y2g hT).1, goInt]

theorem Y2k {T : Nat} {t : ByteArray} {x : Operand} (hT : P.underlying T = some .string) (hx : ev es x = some (.str t)) (hn : Nat.blt d n = true) :
  VOp false P n es ps ⟨some d, .call ⟨.builtin .len, #[x], #[T]⟩, ty, pos, af, gd⟩ d (.int t.size) :=
 VOp.mk rfl hn fun a w F Gp hs ho => by
  refine ⟨_, fun w2 _ => ?_, rfl⟩
  simp [execOp, resolve, invoke, builtin, hs.val hx, Builtin.len_, run_underlying hT, goInt]

theorem Y2l {T U : Nat} {x y : Operand} {k : IntKind} {i j : Int} (hx : ev es x = some (.val (.int k i))) (hy : ev es y = some (.val (.int k j))) (hn : Nat.blt d n = true) :
  VOp false P n es ps ⟨some d, .call ⟨.builtin .max, #[x, y], #[T, U]⟩, ty, pos, af, gd⟩ d (.val (.int k (if j > i then j else i))) :=
 VOp.mk rfl hn fun a w F Gp hs ho => by
  refine ⟨_, fun w2 _ => ?_, rfl⟩
  simp [execOp, resolve, invoke, builtin, hs.val hx, hs.val hy, run_max_int2]
theorem Y2m {T U : Nat} {x y : Operand} {k : IntKind} {i j : Int} (hx : ev es x = some (.val (.int k i))) (hy : ev es y = some (.val (.int k j))) (hn : Nat.blt d n = true) :
  VOp false P n es ps ⟨some d, .call ⟨.builtin .min, #[x, y], #[T, U]⟩, ty, pos, af, gd⟩ d (.val (.int k (if j < i then j else i))) :=
 VOp.mk rfl hn fun a w F Gp hs ho => by
  refine ⟨_, fun w2 _ => ?_, rfl⟩
  simp [execOp, resolve, invoke, builtin, hs.val hx, hs.val hy, run_min_int2]

theorem Y2n {α : Type} {k : α → List C} {T E sz by' : Nat} {xs : List α} {e : α} {x y : Operand} {i : Int} {q : IntKind} (hT : Y2c P T = some (E, sz, by')) (hx : ev es x = some (.im k sz xs)) (hy : ev es y = some (.val (.int q i)))
  (hi : getI xs i = some e) (hn : Nat.blt d n = true) :
  VOp false P n es ps ⟨some d, .indexAddr T x y, ty, pos, af, gd⟩ d (.ip (k e)) :=
 VOp.mk rfl hn fun a w F Gp hs ho => by
  obtain ⟨A, cap, hv, _, h⟩ := hs.ev hx
  obtain ⟨h0, h1, h2⟩ := Y2f hi
  obtain ⟨b, off, vs, rfl, hb, hl, hcs, hcl⟩ := h _ _ h2
  obtain ⟨hu, inf, hinf, hsz, _⟩ := Y2g hT
  refine ⟨.pointer (some ⟨b, off + i.toNat * sz, none⟩), fun w2 _ => ?_, b, _, vs, rfl, hb, hcs, hcl⟩
  simp only [execOp, hv, hs.val hy]
  simp [Instr.indexAt, asIntOf, run_underlying hu, h0, h1, Y2h hinf, hsz, Y1d]

theorem Y2o {P : Program} {w : World} {T : Nat} {s r : ByteArray} {l h : Int} {lo hi : Option Value} (hT : P.underlying T = some .string) (hlo : lo = none ∧ l = 0 ∨ ∃ q, lo = some (.int q l)) (hhi : hi = none ∧ h = s.size ∨ ∃ q, hi = some (.int q h)) (hr : Y2e s l h = some r) :
  (Instr.slice T (.string s) lo hi none).run P w = .ok (.string r) w := by
 unfold Y2e at hr
 split at hr
 ·
  rename_i hc
  cases hr
  obtain ⟨h0, h1, h2⟩ := hc
  have hj : 0 ≤ h ∧ h ≤ (s.size : Int) := ⟨by omega, h2⟩
  have hi : 0 ≤ l ∧ l ≤ ((h.toNat : Nat) : Int) := ⟨h0, by omega⟩
  have hh : h ≤ l → s.extract l.toNat h.toNat = s.extract l.toNat h.toNat := fun _ => rfl
  rcases hlo with ⟨rfl, rfl⟩ | ⟨q, rfl⟩ <;> rcases hhi with ⟨rfl, rfl⟩ | ⟨q', rfl⟩
  ·
   simp [Instr.slice, Instr.sliceBounds, Instr.sliceBound, asIntOf, run_underlying hT]
  ·
   simp [Instr.slice, Instr.sliceBounds, Instr.sliceBound, asIntOf, run_underlying hT, hj]
  ·
   have : l ≤ (s.size : Int) := by omega
   simp [Instr.slice, Instr.sliceBounds, Instr.sliceBound, asIntOf, run_underlying hT, h0, this]
  ·
   simp [Instr.slice, Instr.sliceBounds, Instr.sliceBound, asIntOf, run_underlying hT, hj, hi]
   try (intro hc; omega)
 ·
  cases hr
theorem Y2p {T : Nat} {t r : ByteArray} {x y z : Operand} {l h : Int} {q q' : IntKind} (hT : P.underlying T = some .string) (hx : ev es x = some (.str t)) (hy : ev es y = some (.val (.int q l))) (hz : ev es z = some (.val (.int q' h))) (hs' : Y2e t l h = some r) (hn : Nat.blt d n = true) :
  VOp false P n es ps ⟨some d, .slice T x (some y) (some z) none, ty, pos, af, gd⟩ d (.str r) :=
 VOp.mk rfl hn fun a w F Gp hs ho => by
  refine ⟨_, fun w2 _ => ?_, rfl⟩
  simp only [execOp, hs.val hx, Option.map_some, hs.val hy, hs.val hz, Option.map_none]
  simp [Instr.sliceAt, run_underlying hT, Y2o hT (.inr ⟨q, rfl⟩) (.inr ⟨q', rfl⟩) hs']
theorem Y2q {T : Nat} {t r : ByteArray} {x y : Operand} {l : Int} {q : IntKind} (hT : P.underlying T = some .string) (hx : ev es x = some (.str t)) (hy : ev es y = some (.val (.int q l))) (hs' : Y2e t l t.size = some r) (hn : Nat.blt d n = true) :
  VOp false P n es ps ⟨some d, .slice T x (some y) none none, ty, pos, af, gd⟩ d (.str r) :=
 VOp.mk rfl hn fun a w F Gp hs ho => by
  refine ⟨_, fun w2 _ => ?_, rfl⟩
  simp only [execOp, hs.val hx, Option.map_some, hs.val hy, Option.map_none]
  simp [Instr.sliceAt, run_underlying hT, Y2o hT (.inr ⟨q, rfl⟩) (.inl ⟨rfl, rfl⟩) hs']
theorem Y2r {T : Nat} {t r : ByteArray} {x z : Operand} {h : Int} {q' : IntKind} (hT : P.underlying T = some .string) (hx : ev es x = some (.str t)) (hz : ev es z = some (.val (.int q' h))) (hs' : Y2e t 0 h = some r) (hn : Nat.blt d n = true) :
  VOp false P n es ps ⟨some d, .slice T x none (some z) none, ty, pos, af, gd⟩ d (.str r) :=
 VOp.mk rfl hn fun a w F Gp hs ho => by
  refine ⟨_, fun w2 _ => ?_, rfl⟩
  simp only [execOp, hs.val hx, Option.map_some, hs.val hz, Option.map_none]
  simp [Instr.sliceAt, run_underlying hT, Y2o hT (.inl ⟨rfl, rfl⟩) (.inr ⟨q', rfl⟩) hs']


theorem Y2s {α : Type} {k : α → List C} {sz E : Nat} {xs : List α} {l h : Nat} {A : Option Addr} {cap : Nat} (hl : l ≤ h) (hh : h ≤ xs.length) (hr : (C.im k sz xs).rep w F (.slice A xs.length cap)) :
  (C.im k sz ((xs.drop l).take (h - l))).rep w F (.slice (if cap = l then A else A.map (·.add (l * sz))) (h - l) (cap - l)) := by
 obtain ⟨A', cap', e, hc, hr⟩ := hr
 cases e
 have hlen : ((xs.drop l).take (h - l)).length = h - l := by simp; omega
 refine ⟨_, cap - l, by rw [hlen], by rw [hlen]; omega, fun i x hx => ?_⟩
 rw [List.getElem?_take] at hx
 split at hx
 ·
  rename_i hi
  rw [List.getElem?_drop] at hx
  obtain ⟨b, off, vs, rfl, hb, hvl, hcs, hcl⟩ := hr _ _ hx
  refine ⟨b, off + l * sz, vs, ?_, hb, hvl, ?_, hcl⟩
  ·
   rw [if_neg (by omega), Option.map_some, Y1d]
  ·
   rw [Nat.add_assoc, ← Nat.add_mul]; exact hcs
 ·
  cases hx

theorem Y2t {T E sz by' len cap : Nat} {A : Option Addr} (hT : Y2c P T = some (E, sz, by')) {lo hi : Option Value} {l h : Nat} (hlo : lo = none ∧ l = 0 ∨ ∃ q, lo = some (.int q l)) (hhi : hi = none ∧ h = len ∨ ∃ q, hi = some (.int q h)) (hlh : l ≤ h) (hh : h ≤ len) (hc : len ≤ cap) :
  (Instr.sliceAt T (.slice A len cap) lo hi none).run P w = .ok (.slice (if cap = l then A else A.map (·.add (l * sz))) (h - l) (cap - l)) w := by
 obtain ⟨hu, inf, hinf, hsz, _⟩ := Y2g hT
 have hb : ∀ (q : IntKind) (i y : Nat) (code : BoundsCode), i ≤ y → (Instr.sliceBound (.int q i) y code).run P w = .ok i w := fun q i y code hle => by
  simp [Instr.sliceBound, asIntOf, hle]
 rcases hlo with ⟨rfl, rfl⟩ | ⟨q, rfl⟩ <;> rcases hhi with ⟨rfl, rfl⟩ | ⟨q', rfl⟩
 ·
  simp [Instr.sliceAt, Instr.slice, run_underlying hu, Instr.sliceBounds, Y2h hinf, hsz]
 ·
  simp [Instr.sliceAt, Instr.slice, run_underlying hu, Instr.sliceBounds, Y2h hinf, hsz, hb _ h cap _ (by omega)]
 ·
  simp [Instr.sliceAt, Instr.slice, run_underlying hu, Instr.sliceBounds, Y2h hinf, hsz, hb _ l h _ hlh]
 ·
  simp [Instr.sliceAt, Instr.slice, run_underlying hu, Instr.sliceBounds, Y2h hinf, hsz, hb _ l h _ hlh, hb _ h cap _ (by omega)]

theorem Y2u {α : Type} {xs ys : List α} {l h : Int} (e : Y2d xs l h = some ys) : ∃ i j : Nat, l = i ∧ h = j ∧ i ≤ j ∧ j ≤ xs.length ∧ ys = (xs.drop i).take (j - i) := by
 unfold Y2d at e
 split at e
 ·
  rename_i hc
  cases e
  exact ⟨l.toNat, h.toNat, by omega, by omega, by omega, by omega, rfl⟩
 ·
  cases e

theorem Y2v {α : Type} {k : α → List C} {T E sz by' : Nat} {xs ys : List α} {x y z : Operand} {l h : Int} {q q' : IntKind} (hT : Y2c P T = some (E, sz, by')) (hx : ev es x = some (.im k sz xs)) (hy : ev es y = some (.val (.int q l))) (hz : ev es z = some (.val (.int q' h)))
  (hs' : Y2d xs l h = some ys) (hn : Nat.blt d n = true) :
  VOp false P n es ps ⟨some d, .slice T x (some y) (some z) none, ty, pos, af, gd⟩ d (.im k sz ys) :=
 VOp.mk rfl hn fun a w F Gp hs ho => by
  obtain ⟨i, j, rfl, rfl, hij, hj, rfl⟩ := Y2u hs'
  have hr := hs.ev hx
  have hr' := hr
  obtain ⟨A, cap, hv, hc, _⟩ := hr'
  rw [hv] at hr
  refine ⟨_, fun w2 _ => ?_, Y2s (E := E) hij hj hr⟩
  simp only [execOp, hv, Option.map_some, hs.val hy, hs.val hz, Option.map_none]
  simp [Y2t hT (.inr ⟨q, rfl⟩) (.inr ⟨q', rfl⟩) hij hj hc]
theorem Y2w {α : Type} {k : α → List C} {T E sz by' : Nat} {xs ys : List α} {x y : Operand} {l : Int} {q : IntKind} (hT : Y2c P T = some (E, sz, by')) (hx : ev es x = some (.im k sz xs)) (hy : ev es y = some (.val (.int q l)))
  (hs' : Y2d xs l xs.length = some ys) (hn : Nat.blt d n = true) :
  VOp false P n es ps ⟨some d, .slice T x (some y) none none, ty, pos, af, gd⟩ d (.im k sz ys) :=
 VOp.mk rfl hn fun a w F Gp hs ho => by
  obtain ⟨i, j, rfl, hj', hij, hj, rfl⟩ := Y2u hs'
  obtain rfl : xs.length = j := by omega
  have hr := hs.ev hx
  have hr' := hr
  obtain ⟨A, cap, hv, hc, _⟩ := hr'
  rw [hv] at hr
  refine ⟨_, fun w2 _ => ?_, Y2s (E := E) hij hj hr⟩
  simp only [execOp, hv, Option.map_some, hs.val hy, Option.map_none]
  simp [Y2t hT (.inr ⟨q, rfl⟩) (.inl ⟨rfl, rfl⟩) hij hj hc]
theorem Y2x {α : Type} {k : α → List C} {T E sz by' : Nat} {xs ys : List α} {x z : Operand} {h : Int} {q' : IntKind} (hT : Y2c P T = some (E, sz, by')) (hx : ev es x = some (.im k sz xs)) (hz : ev es z = some (.val (.int q' h)))
  (hs' : Y2d xs 0 h = some ys) (hn : Nat.blt d n = true) :
  VOp false P n es ps ⟨some d, .slice T x none (some z) none, ty, pos, af, gd⟩ d (.im k sz ys) :=
 VOp.mk rfl hn fun a w F Gp hs ho => by
  obtain ⟨i, j, hi', rfl, hij, hj, rfl⟩ := Y2u hs'
  obtain rfl : 0 = i := by omega
  have hr := hs.ev hx
  have hr' := hr
  obtain ⟨A, cap, hv, hc, _⟩ := hr'
  rw [hv] at hr
  refine ⟨_, fun w2 _ => ?_, Y2s (E := E) hij hj hr⟩
  simp only [execOp, hv, Option.map_some, hs.val hz, Option.map_none]
  simp [Y2t hT (.inl ⟨rfl, rfl⟩) (.inr ⟨q', rfl⟩) hij hj hc]
end
end Go.Abs
namespace Go.Abs
open Go

def Flat {α : Type} (w : World) (F : BSet) (k : α → List C) (sz : Nat) : List α → List Value → Prop
 | [], vs => vs = []
 | x :: xs, vs => ∃ a r, vs = a ++ r ∧ a.length = sz ∧ Y1 w F (k x) a ∧ Flat w F k sz xs r

section
variable {α : Type} {w w' : World} {F F' : BSet} {k : α → List C} {sz : Nat}

theorem Flat.mono : ∀ {xs : List α} {vs : List Value}, Flat w F k sz xs vs → (∀ b, F b → F' b ∧ w'.heap[b]? = w.heap[b]?) → Flat w' F' k sz xs vs
 | [], _, h, _ => h
 | _ :: _, _, ⟨a, r, e, hl, h1, h2⟩, m => ⟨a, r, e, hl, h1.mono m, h2.mono m⟩

theorem Flat.length : ∀ {xs : List α} {vs : List Value}, Flat w F k sz xs vs → vs.length = xs.length * sz
 | [], _, h => by rw [show _ = [] from h]; simp
 | _ :: _, _, ⟨a, r, e, hl, _, h2⟩ => by rw [e, List.length_append, hl, h2.length, List.length_cons, Nat.add_mul, Nat.one_mul, Nat.add_comm]

theorem Flat.append : ∀ {xs ys : List α} {vs us : List Value}, Flat w F k sz xs vs → Flat w F k sz ys us → Flat w F k sz (xs ++ ys) (vs ++ us)
 | [], _, _, _, h, m => by rw [show _ = [] from h]; exact m
 | _ :: _, _, _, _, ⟨a, r, e, hl, h1, h2⟩, m => ⟨a, r ++ _, by rw [e, List.append_assoc], hl, h1, h2.append m⟩

theorem Flat.one : ∀ {xs : List α} {vs : List Value}, Flat w F k sz xs vs → ∀ u ∈ vs, u.oneCell' = true
 | [], _, h, u, hu => by rw [show _ = [] from h] at hu; cases hu
 | _ :: _, _, ⟨a, r, e, _, h1, h2⟩, u, hu => by
  subst e
  rcases List.mem_append.1 hu with hu | hu
  ·
   exact h1.one u hu
  ·
   exact h2.one u hu

theorem Flat.get : ∀ {xs : List α} {vs : List Value} {i : Nat} {x : α}, Flat w F k sz xs vs → xs[i]? = some x → ∃ a, a.length = sz ∧ Y1 w F (k x) a ∧ ∀ j u, a[j]? = some u → vs[i * sz + j]? = some u
 | [], _, _, _, _, hi => by simp at hi
 | _ :: _, _, 0, _, ⟨a, r, e, hl, h1, _⟩, hi => by
  simp at hi
  subst hi
  refine ⟨a, hl, h1, fun j u hu => ?_⟩
  have hj : j < a.length := (List.getElem?_eq_some_iff.1 hu).1
  rw [e, Nat.zero_mul, Nat.zero_add, List.getElem?_append_left hj]
  exact hu
 | _ :: _, _, i + 1, _, ⟨a, r, e, hl, _, h2⟩, hi => by
  obtain ⟨a', hl', h1', hg⟩ := h2.get (by simpa using hi)
  refine ⟨a', hl', h1', fun j u hu => ?_⟩
  rw [e, Nat.add_mul, Nat.one_mul, List.getElem?_append_right (by omega)]
  rw [show i * sz + sz + j - a.length = i * sz + j from by omega]
  exact hg j u hu

theorem Flat.set : ∀ {xs : List α} {vs : List Value} {i : Nat} {x y : α} {us : List Value}, Flat w F k sz xs vs → xs[i]? = some x → us.length = sz → Y1 w F (k y) us → Flat w F k sz (xs.set i y) (vs.take (i * sz) ++ us ++ vs.drop (i * sz + sz))
 | [], _, _, _, _, _, _, hi, _, _ => by simp at hi
 | _ :: _, _, 0, _, y, us, ⟨a, r, e, hl, h1, h2⟩, _, hu, hy => by
  refine ⟨us, r, ?_, hu, hy, h2⟩
  rw [e]
  simp [← hl]
 | _ :: _, _, i + 1, _, y, us, ⟨a, r, e, hl, h1, h2⟩, hi, hu, hy => by
  refine ⟨a, _, ?_, hl, h1, h2.set (by simpa using hi) hu hy⟩
  subst e
  have e1 : (i + 1) * sz = a.length + i * sz := by rw [hl, Nat.add_mul, Nat.one_mul, Nat.add_comm]
  have e2 : (i + 1) * sz + sz = a.length + (i * sz + sz) := by rw [e1]; omega
  rw [e2, e1, List.take_length_add_append, List.drop_length_add_append]
  simp

theorem Y2y {xs : List α} {v : Value} (h : (C.im k sz xs).rep w F v) :
  ∃ A cap vs, v = .slice A xs.length cap ∧ xs.length ≤ cap ∧ Flat w F k sz xs vs ∧ (A = none → xs = []) ∧ (∀ a, A = some a → xs ≠ [] → F a.block) ∧ ∀ a, A = some a → ∀ j u, vs[j]? = some u → w.cell? (a.add j) = some u := by
 obtain ⟨A, cap, e, hc, h⟩ := h
 suffices H : ∀ (ys : List α) (m : Nat), (∀ i x, ys[i]? = some x → xs[m + i]? = some x) → ∃ vs, Flat w F k sz ys vs ∧ ∀ a, A = some a → ∀ j u, vs[j]? = some u → w.cell? (a.add (m * sz + j)) = some u by
  obtain ⟨vs, h1, h2⟩ := H xs 0 fun i x hx => by simpa using hx
  refine ⟨A, cap, vs, e, hc, h1, fun hA => ?_, fun a hA hne => ?_, fun a hA j u hu => by simpa using h2 a hA j u hu⟩
  ·
   cases xs with
   | nil => rfl
   | cons x xs =>
    obtain ⟨b, off, vs, h', _⟩ := h 0 x rfl
    rw [hA] at h'
    cases h'
  ·
   cases xs with
   | nil => exact absurd rfl hne
   | cons x xs =>
    obtain ⟨b, off, vs, h', hb, _⟩ := h 0 x rfl
    rw [hA] at h'
    cases h'
    exact hb
 intro ys
 induction ys with
 | nil => exact fun m _ => ⟨[], rfl, fun a _ j u hu => by simp at hu⟩
 | cons y ys ih =>
  intro m hm
  obtain ⟨vs, h1, h2⟩ := ih (m + 1) fun i x hx => by
   have := hm (i + 1) x (by simpa using hx)
   rwa [show m + (i + 1) = m + 1 + i from by omega] at this
  obtain ⟨b, off, us, hA', hb, hl, hcs, hcl⟩ := h m y (by simpa using hm 0 y rfl)
  refine ⟨us ++ vs, ⟨us, vs, rfl, hl, hcl, h1⟩, fun a hA j u hu => ?_⟩
  rw [hA'] at hA
  cases hA
  rw [Y1d]
  by_cases hj : j < us.length
  ·
   rw [List.getElem?_append_left hj] at hu
   rw [← Nat.add_assoc]
   exact hcs j u hu
  ·
   rw [List.getElem?_append_right (by omega)] at hu
   have := h2 _ hA' (j - us.length) u hu
   rw [Y1d] at this
   rw [show off + (m * sz + j) = off + ((m + 1) * sz + (j - us.length)) from by rw [Nat.add_mul, Nat.one_mul, hl]; omega]
   exact this
end

def Obj.arr {α : Type} (v : Value) (E : Nat) (k : α → List C) (sz : Nat) (xs : List α) : Obj where
 rep w F G := (∃ vs, w.ownsRow 0 E sz v xs.length vs ∧ Flat w F k sz xs vs) ∧ ∀ b, G b ↔ v.ownBlock = some b
 mono := by
  rintro w w' F F' G ⟨⟨vs, ⟨hl, ho⟩, hf⟩, hG⟩ m g
  refine ⟨⟨vs, ⟨hl, ?_⟩, hf.mono m⟩, hG⟩
  rcases ho with ho | ⟨b, cap, cur, rfl, h0, hb, r⟩
  ·
   exact .inl ho
  ·
   exact .inr ⟨b, cap, cur, rfl, h0, (g b ((hG b).2 rfl)).trans hb, r⟩

section
variable {P : Program} {w : World}

theorem Y2z (t ty e : TypeId) (i : TypeInfo) (z : Value) (size : Nat) (ht : P.underlying t = some (.slice e)) (hi : P.info? e = some i) (hz : i.zero = some z) (hsize : i.size = size) (hzs : z.cells.size = size)
  (v : Value) (n : Nat) (xs : List Value) (hown : w.ownsRow 0 e size v n xs) (A : Option Addr) (m c : Nat) (news : List Value) (hA : A = none → m = 0) (hl : news.length = m * size)
  (hnews : ∀ a, A = some a → ∀ j u, news[j]? = some u → w.cell? (a.add j) = some u) (h1 : ∀ u ∈ news, u.oneCell' = true) (h63 : n + m ≤ maxLen) (hbytes : (n + m) * i.bytes ≤ 140737488355328) :
  ∃ v' w', (Builtin.append_ #[t, t] ty #[v, .slice A m c]).run P w = .ok v' w' ∧ w'.ownsRow 0 e size v' (n + m) (xs ++ news) ∧ w.grownBy w' v.ownBlock ∧
   (v'.ownBlock = v.ownBlock ∨ v'.ownBlock = some w.heap.size ∧ w.heap.size < w'.heap.size) ∧ w.drawn ≤ w'.drawn := by
 subst hsize
 have hsame : w.grownBy w v.ownBlock := ⟨rfl, rfl, rfl, Nat.le_refl _, fun _ _ _ => rfl⟩
 cases A with
 | none =>
  obtain rfl := hA rfl
  have hn : news = [] := List.eq_nil_of_length_eq_zero (by simpa using hl)
  subst hn
  refine ⟨v, w, ?_, by simpa using hown, hsame, .inl rfl, Nat.le_refl _⟩
  rcases hown.2 with ⟨rfl, rfl⟩ | ⟨g, cap, cur, rfl, _, _, hnc, _⟩
  ·
   simp [Builtin.append_, run_underlying ht, sizeOf, typeInfo, hi, Builtin.lenOf, Builtin.firstCells]
  ·
   simp [Builtin.append_, run_underlying ht, sizeOf, typeInfo, hi, Builtin.lenOf, Builtin.firstCells, hnc, storeCells]
 | some ad =>
  have hnews' := hnews ad rfl
  have hlen : (xs ++ news).length = (n + m) * i.size := by rw [List.length_append, hown.1, hl, Nat.add_mul]
  have grown : ∀ (old : Nat), old < n + m → ∀ (row : Option Nat),
    (w.drew.alloc (.cells (xs.toArray ++ news.toArray ++ Builtin.zeroCells z.cells (grownCap w (n + m) old e - (n + m))) e)).ownsRow 0 e i.size
     (.slice (some ⟨w.heap.size, 0, none⟩) (n + m) (grownCap w (n + m) old e)) (n + m) (xs ++ news) ∧
    w.grownBy (w.drew.alloc (.cells (xs.toArray ++ news.toArray ++ Builtin.zeroCells z.cells (grownCap w (n + m) old e - (n + m))) e)) row := by
   intro old ho row
   have hge := grownCap_ge w (n + m) old e
   have hcm : grownCap w (n + m) old e ≤ maxLen := grownCap_le_maxLen w (n + m) old e h63
   refine ⟨⟨hlen, .inr ⟨w.heap.size, _, _, rfl, Nat.zero_le _, heap_alloc_new w.drew _, hge, hcm, ?_, ?_⟩⟩, ⟨rfl, rfl, rfl, by simp, fun k hk _ => heap_alloc_old w.drew _ hk⟩⟩
   ·
    simp only [Array.size_append, List.size_toArray, size_zeroCells, hzs, hown.1, hl, ← Nat.add_mul]
    congr 1
    omega
   ·
    simp only [Array.toList_append, List.append_assoc]
    rw [← List.append_assoc, ← hlen]
    exact List.take_left
  have hsmall : n + m ≤ 9223372036854775807 := by simp only [maxLen] at h63; omega
  rcases hown.2 with ⟨rfl, rfl⟩ | ⟨g, cap, cur, rfl, hbg, hg, hnc, hcm, hcs, htake⟩
  ·
   have hx : xs = [] := List.eq_nil_of_length_eq_zero (by simpa using hown.1)
   subst hx
   by_cases hm : m = 0
   ·
    subst hm
    have hn : news = [] := List.eq_nil_of_length_eq_zero (by simpa using hl)
    subst hn
    refine ⟨.slice none 0 0, w, ?_, World.ownsRow_nil w 0 e i.size, hsame, .inl rfl, Nat.le_refl _⟩
    simp [Builtin.append_, run_underlying ht, sizeOf, typeInfo, hi, Builtin.lenOf, Builtin.firstCells, loadCells, loadCellsFrom]
   ·
    have hr := run_append_nil (P := P) w t ty e i z ht hi hz ad m c news hl hnews' (by omega) (by omega) (by have hb := hbytes; simp only [Nat.zero_add] at hb; omega)
    have hgr := grown 0 (by omega) (Value.ownBlock (.slice none 0 0))
    simp only [Nat.zero_add, List.nil_append, Array.empty_append] at hgr ⊢
    exact ⟨_, _, hr, hgr.1, hgr.2, .inr ⟨rfl, by simp⟩, (by first | exact Nat.le_refl _ | exact Nat.le_succ _)⟩
  ·
   by_cases hroom : n + m ≤ cap
   ·
    have hfit : n * i.size + news.length ≤ cur.size := by rw [hl, hcs, ← Nat.add_mul]; exact Nat.mul_le_mul_right _ hroom
    have hr := run_append_room (P := P) w t ty e i ht hi g n cap cur hg ad m c news hl hnews' h1 hroom hfit
    refine ⟨_, _, hr, ⟨hlen, .inr ⟨g, cap, _, rfl, hbg, setRow_heap w g cur _ e _ hg, hroom, hcm, ?_, ?_⟩⟩, ⟨rfl, rfl, rfl, by simp, fun k _ hk => setRow_other w g k _ (fun e => hk (by simp [Value.ownBlock, e]))⟩, .inl rfl, (by first | exact Nat.le_refl _ | exact Nat.le_succ _)⟩
    ·
     simp only [List.size_toArray, List.length_append, List.length_take, List.length_drop, Array.length_toList]
     omega
    ·
     rw [htake, ← hlen]
     exact List.take_left
   ·
    have holds : ∀ j u, xs[j]? = some u → w.cell? ((⟨g, 0, none⟩ : Addr).add j) = some u := hown.cells (g := g) rfl
    have hr := run_append_grow (P := P) w t ty e i z ht hi hz ⟨g, 0, none⟩ n cap xs hown.1 holds ad m c news hl hnews' (by omega) (by omega) (growslice_fits (by omega) hbytes)
    have hgr := grown cap (by omega) (Value.ownBlock (.slice (some ⟨g, 0, none⟩) n cap))
    exact ⟨_, _, hr, hgr.1, hgr.2, .inr ⟨rfl, by simp⟩, (by first | exact Nat.le_refl _ | exact Nat.le_succ _)⟩
end

def Y30 (P : Program) (T : Nat) : Option (Nat × Nat × Nat) :=
 match P.underlying T with
 | some (.slice e) => match P.info? e with
  | some i => match i.zero with
   | some z => if z.cells.size = i.size ∧ 0 < i.size then some (e, i.size, i.bytes) else none
   | none => none
  | none => none
 | _ => none

theorem Y31 {P : Program} {T E sz by' : Nat} (h : Y30 P T = some (E, sz, by')) : P.underlying T = some (.slice E) ∧ ∃ i z, P.info? E = some i ∧ i.size = sz ∧ i.bytes = by' ∧ i.zero = some z ∧ z.cells.size = sz ∧ 0 < sz := by
 unfold Y30 at h
 split at h
 ·
  rename_i e hu
  split at h
  ·
   rename_i i hi
   split at h
   ·
    rename_i z hz
    split at h
    ·
     rename_i hc
     cases h
     exact ⟨hu, i, z, hi, rfl, rfl, hz, hc.1, hc.2⟩
    ·
     cases h
   ·
    cases h
  ·
   cases h
 ·
  cases h

section
variable {P : Program} {n : Nat} {X : Ctx} {a : Act} {w : World} {F G : BSet} {es : Env} {ps : List Obj} {α : Type} {k : α → List C} {sz : Nat}
variable {d ty : Nat} {pos : String} {af : Array Edge} {gd : Option (Nat × Bool)}

theorem Own.of_one {o : Obj} {G1 : BSet} (h : o.rep w F G1) : Own w F [o] G1 := ⟨G1, fun _ => False, fun _ => by simp, fun _ _ h => h, h, fun _ h => h⟩

theorem Y25.nil {e : Env} {o : List Obj} (E : Nat) (k : α → List C) (sz : Nat) : Y25 n X ⟨e, o⟩ ⟨e, .arr (.slice none 0 0) E k sz [] :: o⟩ := by
 rintro a w ⟨F, G, h⟩
 exact ⟨F, G, ⟨h.env, ⟨fun _ => False, G, fun b => by simp, fun b hb => hb.elim, ⟨⟨[], World.ownsRow_nil w 0 E sz, rfl⟩, fun b => by simp [Value.ownBlock]⟩, h.own⟩, h.fin, h.gin, h.sub, h.chg, h.size, h.defs⟩⟩

theorem Y32 {T E by' : Nat} {v : Value} {xs ys : List α} {A : Option Addr} {c : Nat} {G1 : BSet} (hT : Y30 P T = some (E, sz, by')) (hft : Fit w F G1) (ho : (Obj.arr v E k sz xs).rep w F G1)
  {news : List Value} (hA : A = none → ys = []) (hf : Flat w F k sz ys news) (hnews : ∀ a, A = some a → ∀ j u, news[j]? = some u → w.cell? (a.add j) = some u) (hb : (xs.length + ys.length) * by' ≤ 140737488355328) (h63 : xs.length + ys.length ≤ 9223372036854775807) (ty : TypeId) :
  ∃ v' w' G1', (Builtin.append_ #[T, T] ty #[v, .slice A ys.length c]).run P w = .ok v' w' ∧ Turn w F G1 w' F G1' [.arr v' E k sz (xs ++ ys)] := by
 obtain ⟨hu, i, z, hi, hsz, hby, hz, hzs, hpos⟩ := Y31 hT
 obtain ⟨⟨vs, hrow, hfl⟩, hG⟩ := ho
 subst hby
 obtain ⟨v', w', hr, h2, h3, h4, hdr⟩ := Y2z (P := P) T ty E i z sz hu hi hz hsz hzs v xs.length vs hrow A ys.length c news (fun h => by rw [hA h]; rfl) hf.length hnews hf.one (by simp only [maxLen]; omega) hb
 have hFsame : ∀ b, F b → F b ∧ w'.heap[b]? = w.heap[b]? := fun b hb => ⟨hb, h3.block b (hft.fin b hb) fun e => (hft.gin b ((hG b).2 e.symm)).2 hb⟩
 refine ⟨v', w', fun b => v'.ownBlock = some b, hr, ⟨Own.of_one ⟨⟨vs ++ news, by rw [List.length_append]; exact h2, (hfl.append hf).mono hFsame⟩, fun b => Iff.rfl⟩, fun _ h => h, fun b hb => ⟨Nat.lt_of_lt_of_le (hft.fin b hb) h3.size, .inl hb⟩, fun b hb => ?_, ⟨h3.os, h3.tape, h3.output, h3.size, hdr, fun b hb hn => h3.block b hb fun e => hn ((hG b).2 e.symm)⟩⟩⟩
 rcases h4 with h4 | ⟨h4, h5⟩
 ·
  have hg1 := (hG b).2 (h4 ▸ hb)
  have hg := hft.gin b hg1
  exact ⟨Nat.lt_of_lt_of_le hg.1 h3.size, hg.2, .inl hg1⟩
 ·
  rw [h4] at hb
  cases hb
  exact ⟨h5, fun hf => by have := hft.fin _ hf; omega, .inr (Nat.le_refl _)⟩

theorem Y33 {T E by' : Nat} {x y : Operand} {v : Value} {xs ys : List α} (hT : Y30 P T = some (E, sz, by')) (hx : ev es x = some (.val v)) (hy : ev es y = some (.im k sz ys))
  (hb : (xs.length + ys.length) * by' ≤ 140737488355328) (h63 : xs.length + ys.length ≤ 9223372036854775807) (hn : Nat.blt d n = true) :
  HOp P n ⟨some d, .call ⟨.builtin .append, #[x, y], #[T, T]⟩, ty, pos, af, gd⟩ es [.arr v E k sz xs] (fun e' qs => ∃ v', e' = (d, .val v') :: es ∧ qs = [.arr v' E k sz (xs ++ ys)]) :=
 HOp.of rfl hn fun a w F G1 hs ho hft => by
  obtain ⟨A, cap, news, hv, _, hf, hA, _, hnews⟩ := Y2y (hs.ev hy)
  obtain ⟨v', w', G1', hr, ht⟩ := Y32 hT hft ho.only hA hf hnews hb h63 ty (c := cap)
  refine ⟨v', w', F, G1', .val v', _, ?_, rfl, ht, v', rfl, rfl⟩
  simp [execOp, resolve, invoke, builtin, hs.val hx, hv, hr]

theorem Y34 {T E by' : Nat} {x y : Operand} {v u : Value} {xs ys : List α} (hT : Y30 P T = some (E, sz, by')) (hx : ev es x = some (.val v)) (hy : ev es y = some (.val u))
  (hb : (xs.length + ys.length) * by' ≤ 140737488355328) (h63 : xs.length + ys.length ≤ 9223372036854775807) (hn : Nat.blt d n = true) :
  HOp P n ⟨some d, .call ⟨.builtin .append, #[x, y], #[T, T]⟩, ty, pos, af, gd⟩ es [.arr v E k sz xs, .arr u E k sz ys] (fun e' qs => ∃ v', e' = (d, .val v') :: es ∧ qs = [.arr v' E k sz (xs ++ ys)]) :=
 HOp.of rfl hn fun a w F G1 hs ho hft => by
  obtain ⟨G3, G4, hi, hd, h1, h2⟩ := ho
  obtain ⟨⟨us, hrow, hf⟩, hG3⟩ := h2.only
  have hu : ∃ A c, u = .slice A ys.length c ∧ (A = none → ys = []) ∧ ∀ a, A = some a → ∀ j v, us[j]? = some v → w.cell? (a.add j) = some v := by
   rcases hrow.2 with ⟨rfl, h0⟩ | ⟨g, cap, cur, rfl, _, _⟩
   ·
    refine ⟨none, 0, (by rw [h0]), (fun _ => List.eq_nil_of_length_eq_zero h0), (fun a h => by cases h)⟩
   ·
    exact ⟨some ⟨g, 0, none⟩, cap, rfl, (fun h => by cases h), (fun a ha => by cases ha; exact hrow.cells rfl)⟩
  obtain ⟨A, c, rfl, hA, hnews⟩ := hu
  have hft' : Fit w F G3 := ⟨hft.fin, fun b hb => hft.gin b ((hi b).2 (.inl hb)), hft.glob⟩
  obtain ⟨v', w', G1', hr, ht⟩ := Y32 (c := c) hT hft' h1 hA hf hnews hb h63 ty
  refine ⟨v', w', F, G1', .val v', _, ?_, rfl, ⟨ht.own, ht.sub, fun b hb => ⟨(ht.fin b hb).1, ?_⟩, fun b hb => ⟨(ht.gin b hb).1, (ht.gin b hb).2.1, ?_⟩, ⟨ht.chg.os, ht.chg.tape, ht.chg.output, ht.chg.size, ht.chg.drawn, fun b hb hn => ht.chg.block b hb fun h => hn ((hi b).2 (.inl h))⟩⟩, v', rfl, rfl⟩
  ·
   simp [execOp, resolve, invoke, builtin, hs.val hx, hs.val hy, hr]
  ·
   exact (ht.fin b hb).2.imp id fun h => h.imp (fun h => (hi b).2 (.inl h)) id
  ·
   exact (ht.gin b hb).2.2.imp (fun h => (hi b).2 (.inl h)) id

theorem Y25.freeze {e : Env} {o r : List Obj} {p E t : Nat} {v : Value} {xs : List α} (hp : Y7 [p] o = some ([.arr v E k sz xs], r)) (ht : get e t = some (.val v)) : Y25 n X ⟨e, o⟩ ⟨(t, .im k sz xs) :: e, r⟩ := by
 rintro a w ⟨F, G, h⟩
 obtain ⟨G1, G2, hi, hd, h1, h2⟩ := Own.append.1 (h.own.perm (Y8 hp))
 obtain ⟨⟨vs, hrow, hf⟩, hG⟩ := h1.only
 have hmono : ∀ b, F b → (F b ∨ G1 b) ∧ w.heap[b]? = w.heap[b]? := fun b hb => ⟨.inl hb, rfl⟩
 refine ⟨fun b => F b ∨ G1 b, G2, ⟨fun i c hc => ?_, h2.mono hmono fun _ _ => rfl, fun b hb => ?_, fun b hb => ?_, fun b hb => .inl (h.sub b hb), h.chg, h.size, h.defs⟩⟩
 ·
  by_cases hit : t = i
  ·
   subst hit
   rw [Ya] at hc
   cases hc
   rw [show a.tmps.getD t undef = v from h.env t _ ht]
   rcases hrow.2 with ⟨rfl, h0⟩ | ⟨g, cap, cur, rfl, _, hg, hnc, _⟩
   ·
    have : xs = [] := List.eq_nil_of_length_eq_zero h0
    subst this
    exact ⟨none, 0, rfl, Nat.le_refl _, fun i x hx => by simp at hx⟩
   ·
    refine ⟨_, cap, rfl, hnc, fun i x hx => ?_⟩
    obtain ⟨us, hl, hcl, hus⟩ := hf.get hx
    refine ⟨g, 0, us, rfl, .inr ((hG g).2 rfl), hl, fun j u hu => ?_, hcl.mono hmono⟩
    have := hrow.cells (g := g) rfl _ u (hus j u hu)
    rwa [Y1d, ← Nat.add_assoc] at this
  ·
   rw [Yb _ _ hit] at hc
   exact C.mono _ (h.env i c hc) hmono
 ·
  rcases hb with hb | hb
  ·
   exact h.fin b hb
  ·
   have := h.gin b ((hi b).2 (.inl hb))
   exact ⟨this.1, this.2.2.elim (fun h => .inr (.inl h)) fun h => .inr (.inr h)⟩
 ·
  have := h.gin b ((hi b).2 (.inr hb))
  exact ⟨this.1, fun hf => hf.elim this.2.1 fun hg => hd b hg hb, this.2.2⟩
end
end Go.Abs
namespace Go.Abs
open Go

section
variable {P : Program} {n : Nat} {X : Ctx} {s : St} {a : Act} {w : World} {F G : BSet} {es : Env} {ps : List Obj} {α : Type} {k : α → List C} {sz : Nat}
variable {d ty : Nat} {pos : String} {af : Array Edge} {gd : Option (Nat × Bool)}

theorem Y35 {E : Nat} {v : Value} {xs : List α} {G1 : BSet} (h : (Obj.arr v E k sz xs).rep w F G1) (hx : xs ≠ []) : ∃ b cap, v = .slice (some ⟨b, 0, none⟩) xs.length cap := by
 obtain ⟨⟨vs, hrow, _⟩, _⟩ := h
 rcases hrow.2 with ⟨_, h0⟩ | ⟨g, cap, cur, rfl, _⟩
 ·
  exact absurd (List.eq_nil_of_length_eq_zero h0) hx
 ·
  exact ⟨g, cap, rfl⟩

theorem AW.learn {c : Code} {K : Exit → St → Prop} {Q : Prop} (h : ∀ a w, Sim n X s a w → Q) (m : Q → AW P n X c s K) : AW P n X c s K := fun a w hs => m (h a w hs) a w hs
theorem Ops.learn {ops : Array Oper} {l : List Oper} {e : Env} {os : List Obj} {K : St → Prop} {Q : Prop} (h : ∀ a w, Sim n X ⟨e, os⟩ a w → Q) (m : Q → Ops P n X ops l e os K) : Ops P n X ops l e os K := fun a w R hs => m (h a w hs) a w R hs
theorem Ops.ghost {ops : Array Oper} {l : List Oper} {e e' : Env} {os os' : List Obj} {K : St → Prop} (g : Y25 n X ⟨e, os⟩ ⟨e', os'⟩) (m : Ops P n X ops l e' os' K) : Ops P n X ops l e os K := fun a w R hs => m a w R (g a w hs)

theorem Sim.arr_one {E p : Nat} {v : Value} {xs : List α} (hp : pick p s.o = some (.arr v E k sz xs)) (a : Act) (w : World) (h : Sim n X s a w) : v.oneCell' = true := by
 obtain ⟨F, G, h⟩ := h
 obtain ⟨G1, ⟨⟨vs, hrow, _⟩, _⟩, _⟩ := h.own.pick hp
 rcases hrow.2 with ⟨rfl, _⟩ | ⟨_, _, _, rfl, _⟩ <;> rfl

theorem Y36 {T E sz' by' p E' : Nat} {x : Operand} {v : Value} {xs : List α} (hT : Y2c P T = some (E', sz', by')) (hx : ev es x = some (.val v)) (hp : pick p ps = some (.arr v E k sz xs)) (hn : Nat.blt d n = true) :
  VOp false P n es ps ⟨some d, .call ⟨.builtin .len, #[x], #[T]⟩, ty, pos, af, gd⟩ d (.int xs.length) :=
 VOp.mk rfl hn fun a w F Gp hs ho => by
  obtain ⟨G1, ⟨⟨vs, hrow, _⟩, _⟩, _⟩ := ho.pick hp
  refine ⟨_, fun w2 _ => ?_, rfl⟩
  rcases hrow.2 with ⟨hv, h0⟩ | ⟨g, cap, cur, hv, _⟩
  ·
   simp [execOp, resolve, invoke, builtin, hs.val hx, hv, Builtin.len_, run_underlying (Y2g hT).1, goInt, h0]
  ·
   simp [execOp, resolve, invoke, builtin, hs.val hx, hv, Builtin.len_, run_underlying (Y2g hT).1, goInt]

def Y37 (v : Value) (i sz j : Nat) : Value :=
 match v with
 | .slice (some a) _ _ => .pointer (some (a.add (i * sz + j)))
 | _ => undef

theorem Y38 (b m cap i sz j : Nat) : Y37 (.slice (some ⟨b, 0, none⟩) m cap) i sz j = .pointer (some ⟨b, i * sz + j, none⟩) := by
 simp [Y37, Y1d]

theorem Y39 {T E by' p E' : Nat} {x y : Operand} {v : Value} {xs : List α} {e : α} {i : Int} {q : IntKind} (hT : Y2c P T = some (E, sz, by')) (hx : ev es x = some (.val v)) (hp : pick p ps = some (.arr v E' k sz xs)) (hy : ev es y = some (.val (.int q i)))
  (hi : getI xs i = some e) (hn : Nat.blt d n = true) :
  VOp false P n es ps ⟨some d, .indexAddr T x y, ty, pos, af, gd⟩ d (.val (Y37 v i.toNat sz 0)) :=
 VOp.mk rfl hn fun a w F Gp hs ho => by
  obtain ⟨h0, h1, h2⟩ := Y2f hi
  obtain ⟨G1, hrep, _⟩ := ho.pick hp
  obtain ⟨b, cap, rfl⟩ := Y35 hrep (fun e => by rw [e] at h2; simp at h2)
  obtain ⟨hu, inf, hinf, hsz, _⟩ := Y2g hT
  refine ⟨_, fun w2 _ => ?_, rfl⟩
  simp only [execOp, hs.val hx, hs.val hy, Y38]
  simp [Instr.indexAt, asIntOf, run_underlying hu, h0, h1, Y2h hinf, hsz, Y1d]

theorem Y3a {T E p j j0 fo i : Nat} {x : Operand} {v : Value} {xs : List α} {e : α} (hf : Y1a P T j = some fo) (hx : ev es x = some (.val (Y37 v i sz j0))) (hp : pick p ps = some (.arr v E k sz xs)) (hi : xs[i]? = some e) (hn : Nat.blt d n = true) :
  VOp false P n es ps ⟨some d, .fieldAddr T x j, ty, pos, af, gd⟩ d (.val (Y37 v i sz (j0 + fo))) :=
 VOp.mk rfl hn fun a w F Gp hs ho => by
  obtain ⟨G1, hrep, _⟩ := ho.pick hp
  obtain ⟨b, cap, rfl⟩ := Y35 hrep (fun e => by rw [e] at hi; simp at hi)
  refine ⟨_, fun w2 _ => ?_, rfl⟩
  simp only [execOp, hs.val hx, Y38]
  simp [Y1e hf, Nat.add_assoc]

theorem Y3b {E : Nat} {b m cap i : Nat} {xs : List α} {e : α} {G1 : BSet} (h : (Obj.arr (.slice (some ⟨b, 0, none⟩) m cap) E k sz xs).rep w F G1) (hi : xs[i]? = some e) : ∃ us, us.length = sz ∧ Y1 w F (k e) us ∧ Y0 w b (i * sz) us := by
 obtain ⟨⟨vs, hrow, hf⟩, _⟩ := h
 obtain ⟨us, hl, hc, hus⟩ := hf.get hi
 refine ⟨us, hl, hc, fun j u hu => ?_⟩
 have := hrow.cells (g := b) rfl _ u (hus j u hu)
 rwa [Y1d, Nat.zero_add] at this

theorem Y3c {T M p E i j : Nat} {x : Operand} {v : Value} {xs : List α} {e : α} {c : C} (hl : Y1b P T = some (false, M)) (hx : ev es x = some (.val (Y37 v i sz j)))
  (hp : pick p ps = some (.arr v E k sz xs)) (hi : xs[i]? = some e) (hc : (k e)[j]? = some c) (hn : Nat.blt d n = true) :
  VOp true P n es ps ⟨some d, .load T x, ty, pos, af, gd⟩ d (c) :=
 VOp.mk rfl hn fun a w F Gp hs ho => by
  obtain ⟨G1, hrep, hsub⟩ := ho.pick hp
  obtain ⟨b, cap, rfl⟩ := Y35 hrep (fun e => by rw [e] at hi; simp at hi)
  obtain ⟨us, _, hcl, hat⟩ := Y3b hrep hi
  obtain ⟨v, hv, hr, _⟩ := hcl.get hc
  refine ⟨v, fun w2 hw => ?_, hr⟩
  simp only [execOp, hs.val hx, Y38]
  simp [Instr.loadAt, Instr.sureAddr, Y1j hl ((hat.mono (hw rfl b (.inr (hsub b ((hrep.2 b).2 rfl))))) j v hv)]

theorem Y3d {T M p E i j : Nat} {x : Operand} {v : Value} {xs : List α} {e : α} {ds : List C} (hl : Y1b P T = some (true, M)) (hx : ev es x = some (.val (Y37 v i sz j)))
  (hp : pick p ps = some (.arr v E k sz xs)) (hi : xs[i]? = some e) (hd : ((k e).drop j).take M = ds) (hm : Nat.ble (j + M) (k e).length = true) (hn : Nat.blt d n = true) :
  VOp true P n es ps ⟨some d, .load T x, ty, pos, af, gd⟩ d (.agg ds) :=
 VOp.mk rfl hn fun a w F Gp hs ho => by
  obtain ⟨G1, hrep, hsub⟩ := ho.pick hp
  obtain ⟨b, cap, rfl⟩ := Y35 hrep (fun e => by rw [e] at hi; simp at hi)
  obtain ⟨us, _, hcl, hat⟩ := Y3b hrep hi
  have hlen : ((us.drop j).take M).length = M := by rw [List.length_take, List.length_drop, hcl.length]; have := Nat.le_of_ble_eq_true hm; omega
  refine ⟨_, fun w2 hw => ?_, (us.drop j).take M, rfl, hd ▸ (hcl.drop j).take M⟩
  simp only [execOp, hs.val hx, Y38]
  simp [Instr.loadAt, Instr.sureAddr, Y1k hl hlen (((hat.mono (hw rfl b (.inr (hsub b ((hrep.2 b).2 rfl))))).drop j).take M)]

theorem Y3e {E b m cap i j : Nat} {xs : List α} {e e' : α} {G1 : BSet} {us : List Value} {ds : List C} (hft : Fit w F G1) (hrep : (Obj.arr (.slice (some ⟨b, 0, none⟩) m cap) E k sz xs).rep w F G1) (hi : xs[i]? = some e)
  (hds : Y1 w F ds us) (hjm : j + us.length ≤ (k e).length) (he : (k e).take j ++ ds ++ (k e).drop (j + ds.length) = k e') :
  ∃ w', (storeCells ⟨b, i * sz + j, none⟩ us).run P w = .ok () w' ∧ Turn w F G1 w' F G1 [.arr (.slice (some ⟨b, 0, none⟩) m cap) E k sz (xs.set i e')] := by
 obtain ⟨⟨vs, ⟨hvl, hrow⟩, hf⟩, hG⟩ := hrep
 rcases hrow with ⟨h, _⟩ | ⟨g, cap', cur, hv, _, hg, hnc, hcm, hcs, htake⟩
 ·
  cases h
 ·
  cases hv
  obtain ⟨old, hol, hoc, hog⟩ := hf.get hi
  have hG' : ∀ b', G1 b' ↔ b' = b := fun b' => by rw [hG b']; simp [Value.ownBlock]; exact eq_comm
  have hin : i < xs.length := (List.getElem?_eq_some_iff.1 hi).1
  have hkl : (k e).length = sz := by rw [← hoc.length, hol]
  have hbound : i * sz + sz ≤ xs.length * sz := by rw [← Nat.succ_mul]; exact Nat.mul_le_mul_right _ hin
  have hcl : xs.length * sz ≤ cur.size := by rw [hcs]; exact Nat.mul_le_mul_right _ hnc
  have hg' : w.heap[b]? = some (.cells cur.toList.toArray E (0, 0)) := by simpa using hg
  have hst := Y1w (P := P) (off := i * sz + j) (vs := us) hg' (by simp only [Array.length_toList]; omega) hds.one
  refine ⟨_, hst, ?_⟩
  have hother : ∀ c, c ≠ b → (w.setRow b (cur.toList.take (i * sz + j) ++ us ++ cur.toList.drop (i * sz + j + us.length)).toArray).heap[c]? = w.heap[c]? := fun c hc => setRow_other w b c _ hc
  have hFb : ∀ c, F c → F c ∧ (w.setRow b (cur.toList.take (i * sz + j) ++ us ++ cur.toList.drop (i * sz + j + us.length)).toArray).heap[c]? = w.heap[c]? := fun c hc => ⟨hc, hother c fun e => (hft.gin b ((hG' b).2 rfl)).2 (e ▸ hc)⟩
  refine ⟨Own.of_one ⟨⟨vs.take (i * sz) ++ (old.take j ++ us ++ old.drop (j + us.length)) ++ vs.drop (i * sz + sz), ⟨?_, .inr ⟨b, cap, _, by rw [List.length_set], Nat.zero_le _, setRow_heap w b _ _ E (0, 0) hg, ?_, hcm, ?_, ?_⟩⟩, ?_⟩, hG⟩, fun _ h => h, fun c hc => ⟨by simpa using hft.fin c hc, .inl hc⟩,
   fun c hc => ⟨by simpa using (hft.gin c hc).1, (hft.gin c hc).2, .inl hc⟩, ⟨rfl, rfl, rfl, by simp, (by first | exact Nat.le_refl _ | exact Nat.le_succ _), fun c _ hc => hother c fun e => hc ((hG' c).2 e)⟩⟩
  ·
   simp only [List.length_append, List.length_take, List.length_drop, List.length_set]
   have := hf.length
   omega
  ·
   rw [List.length_set]; exact hnc
  ·
   simp only [List.size_toArray, List.length_append, List.length_take, List.length_drop, Array.length_toList, ← hcs]
   omega
  ·
   simp only [List.length_set]
   have hvs := hf.length
   apply List.ext_getElem?
   intro t
   have hold : ∀ t, t < sz → old[t]? = vs[i * sz + t]? := fun t ht => by
    rw [hog t _ (We (by omega))]
    exact We (by omega)
   have hcur : ∀ t, t < xs.length * sz → cur.toList[t]? = vs[t]? := fun t ht => by rw [← htake, List.getElem?_take_of_lt ht]
   by_cases ht : t < xs.length * sz
   ·
    rw [List.getElem?_take_of_lt ht]
    simp only [List.getElem?_append, List.length_append, List.length_take, List.length_drop, Array.length_toList, List.getElem?_take, List.getElem?_drop]
    by_cases h1 : t < i * sz
    ·
     rw [if_pos (by omega), if_pos (by omega), if_pos (by omega), if_pos (by omega), if_pos (by omega), if_pos h1]
     exact hcur t ht
    ·
     by_cases h2 : t < i * sz + j
     ·
      rw [if_pos (by omega), if_pos (by omega), if_pos (by omega), if_pos (by omega), if_neg (by omega), if_pos (by omega), if_pos (by omega), if_pos (by omega)]
      rw [hcur t ht, show min (i * sz) vs.length = i * sz from by omega, hold _ (by omega)]
      congr 1
      omega
     ·
      by_cases h3 : t < i * sz + j + us.length
      ·
       rw [if_pos (by omega), if_neg (by omega), if_pos (by omega), if_neg (by omega), if_pos (by omega), if_neg (by omega)]
       congr 1
       omega
      ·
       by_cases h4 : t < i * sz + sz
       ·
        rw [if_neg (by omega), if_pos (by omega), if_neg (by omega), if_neg (by omega)]
        rw [hcur _ (by omega), hold _ (by omega)]
        congr 1
        omega
       ·
        rw [if_neg (by omega), if_neg (by omega)]
        rw [hcur _ (by omega)]
        congr 1
        omega
   ·
    rw [List.getElem?_eq_none (by simp only [List.length_take, List.length_append, List.length_drop, Array.length_toList]; omega), List.getElem?_eq_none (by simp only [List.length_append, List.length_take, List.length_drop]; omega)]
  ·
   refine (hf.mono hFb).set hi ?_ ?_
   ·
    simp only [List.length_append, List.length_take, List.length_drop]
    omega
   ·
    rw [← he]
    exact ((hoc.set hds (by rw [← hds.length]; omega)).mono hFb)

theorem Y3f {T E i j : Nat} {x y : Operand} {v : Value} {xs : List α} {e e' : α} {c : C} (hl : Y1b P T = some (false, 1)) (hx : ev es x = some (.val (Y37 v i sz j))) (hy : ev es y = some c) (h1 : One c)
  (hi : xs[i]? = some e) (hj : Nat.blt j (k e).length = true) (he : (k e).take j ++ [c] ++ (k e).drop (j + 1) = k e') :
  HOp P n ⟨none, .store T x y, ty, pos, af, gd⟩ es [.arr v E k sz xs] (fun f qs => f = es ∧ qs = [.arr v E k sz (xs.set i e')]) :=
 HOp.of0 rfl fun a w F G1 hs hown hft => by
  have hrep := hown.only
  obtain ⟨b, cap, rfl⟩ := Y35 hrep (fun e => by rw [e] at hi; simp at hi)
  have hv := hs.ev hy
  obtain ⟨w', hr, ht⟩ := Y3e (P := P) (us := [a.eval y]) (ds := [c]) (e' := e') hft hrep hi (Y1r h1 hv) (Yl hj) he
  refine ⟨w', F, G1, _, ?_, ht, rfl, rfl⟩
  simp only [execOp, hs.val hx, Y38]
  simp [Instr.storeAt, Instr.sureAddr, storeVar, Y1i hl, Y1s (h1 _ _ _ hv), hr]

theorem Y3g {T M E i j : Nat} {x y : Operand} {v : Value} {xs : List α} {e e' : α} {ds : List C} (hl : Y1b P T = some (true, M)) (hx : ev es x = some (.val (Y37 v i sz j))) (hy : ev es y = some (.agg ds)) (hdm : Nat.beq ds.length M = true)
  (hi : xs[i]? = some e) (hj : Nat.ble (j + ds.length) (k e).length = true) (he : (k e).take j ++ ds ++ (k e).drop (j + ds.length) = k e') :
  HOp P n ⟨none, .store T x y, ty, pos, af, gd⟩ es [.arr v E k sz xs] (fun f qs => f = es ∧ qs = [.arr v E k sz (xs.set i e')]) :=
 HOp.of0 rfl fun a w F G1 hs hown hft => by
  have hrep := hown.only
  obtain ⟨b, cap, rfl⟩ := Y35 hrep (fun e => by rw [e] at hi; simp at hi)
  obtain ⟨us, hv, hds⟩ := hs.ev hy
  have hum : us.length = M := by rw [hds.length]; exact Nat.eq_of_beq_eq_true hdm
  obtain ⟨w', hr, ht⟩ := Y3e (P := P) (us := us) (ds := ds) (e' := e') hft hrep hi hds (by rw [hds.length]; exact Nat.le_of_ble_eq_true hj) he
  refine ⟨w', F, G1, _, ?_, ht, rfl, rfl⟩
  simp only [execOp, hs.val hx, hv, Y38]
  simp [Instr.storeAt, Instr.sureAddr, storeVar, Y1i hl, Value.cells, hum, hr]
end
end Go.Abs
namespace Go.Abs
open Go

def places (P : Program) (T : Nat) : Option (List (Nat × Nat)) :=
 match P.underlying T with
 | some (.struct fields) => fields.toList.mapM fun f => (P.info? f.type).map fun i => (f.offset, i.size)
 | _ => none

section
variable {P : Program} {n : Nat} {a : Act} {w : World} {F G : BSet} {es : Env} {os : List Obj}
variable {d ty : Nat} {pos : String} {af : Array Edge} {gd : Option (Nat × Bool)}

theorem Y3h (off : Nat) : ∀ (us cs : List Value) (i : Nat), off + i + us.length ≤ cs.length →
  ((us.zipIdx i).foldl (fun (cs : Array Value) (x : Value × Nat) => cs.setIfInBounds (off + x.2) x.1) cs.toArray) = (cs.take (off + i) ++ us ++ cs.drop (off + i + us.length)).toArray
 | [], cs, i, _ => by simp
 | u :: us, cs, i, h => by
  simp only [List.length_cons] at h
  simp only [List.zipIdx_cons, List.foldl_cons, List.setIfInBounds_toArray]
  rw [Y3h off us (cs.set (off + i) u) (i + 1) (by simp; omega)]
  congr 1
  apply List.ext_getElem?
  intro t
  simp only [List.getElem?_append, List.length_append, List.length_take, List.getElem?_take, List.getElem?_drop, List.getElem?_set, List.length_set, List.length_cons]
  by_cases h1 : t < off + i
  ·
   rw [if_pos (by omega), if_pos (by omega), if_pos (by omega), if_neg (by omega), if_pos (by omega), if_pos (by omega), if_pos h1]
  ·
   by_cases h2 : t = off + i
   ·
    subst h2
    rw [if_pos (by omega), if_pos (by omega), if_pos (by omega), if_pos rfl, if_pos (by omega), if_pos (by omega), if_neg (by omega)]
    rw [show off + i - min (off + i) cs.length = 0 from by omega]
    rfl
   ·
    by_cases h3 : t < off + i + 1 + us.length
    ·
     rw [if_pos (by omega), if_neg (by omega), if_pos (by omega), if_neg (by omega)]
     rw [show t - min (off + i) cs.length = (t - min (off + (i + 1)) cs.length) + 1 from by omega, List.getElem?_cons_succ]
    ·
     rw [if_neg (by omega), if_neg (by omega), if_neg (by omega)]
     congr 1
     omega

theorem Y3i {place : Nat → Option (Nat × Nat)} {cs us : List Value} {i off : Nat} {v : Value} {rest : List (Nat × Value)} (hp : place i = some (off, us.length)) (hv : v.cells = us.toArray) (hl : off + us.length ≤ cs.length) :
  Instr.fill place cs.toArray ((i, v) :: rest) = Instr.fill place (cs.take off ++ us ++ cs.drop (off + us.length)).toArray rest := by
 rw [Instr.fill, hp]
 simp only [hv, List.size_toArray]
 rw [if_neg (by simp; omega)]
 congr 1
 have := Y3h off us cs 0 (by simpa using hl)
 simp only [Nat.add_zero] at this
 rw [← this, ← Array.foldl_toList, Array.toList_zipIdx]

inductive Bld (e : Env) (place : Nat → Option (Nat × Nat)) : List C → List (Nat × Operand) → List C → Prop
 | nil {cs : List C} : Bld e place cs [] cs
 | one {cs ds : List C} {i off : Nat} {x : Operand} {c : C} {r : List (Nat × Operand)} (hx : ev e x = some c) (h1 : One c) (hp : place i = some (off, 1)) (hl : Nat.blt off cs.length = true) (k : Bld e place (cs.take off ++ [c] ++ cs.drop (off + 1)) r ds) : Bld e place cs ((i, x) :: r) ds
 | agg {cs es ds : List C} {i off : Nat} {x : Operand} {r : List (Nat × Operand)} (hx : ev e x = some (.agg es)) (hp : place i = some (off, es.length)) (hl : Nat.ble (off + es.length) cs.length = true) (k : Bld e place (cs.take off ++ es ++ cs.drop (off + es.length)) r ds) : Bld e place cs ((i, x) :: r) ds

theorem Bld.run {place : Nat → Option (Nat × Nat)} (hs : Ym w F es a) : ∀ {cs ds : List C} {ps : List (Nat × Operand)}, Bld es place cs ps ds → ∀ {vs : List Value}, Y1 w F cs vs →
  ∃ us, Instr.fill place vs.toArray (ps.map fun p => (p.1, a.eval p.2)) = some us.toArray ∧ Y1 w F ds us := by
 intro cs ds ps h
 induction h with
 | nil => exact fun {vs} hv => ⟨vs, rfl, hv⟩
 | @one cs ds i off x c r hx h1 hp hl _ ih =>
  intro vs hv
  have hc := hs.ev hx
  have hlt := Yl hl
  obtain ⟨us, h2, h3⟩ := ih (hv.set (Y1r h1 hc) (show off + 1 ≤ cs.length from hlt))
  refine ⟨us, ?_, h3⟩
  rw [List.map_cons, Y3i (us := [a.eval x]) hp (Y1s (h1 _ _ _ hc)) (by rw [hv.length]; exact hlt)]
  exact h2
 | @agg cs es ds i off x r hx hp hl _ ih =>
  intro vs hv
  obtain ⟨us', hv', hc⟩ := hs.ev hx
  have hle := Nat.le_of_ble_eq_true hl
  obtain ⟨us, h2, h3⟩ := ih (hv.set hc hle)
  refine ⟨us, ?_, h3⟩
  rw [List.map_cons, Y3i (us := us') (by rw [hc.length]; exact hp) (by rw [hv']; rfl) (by rw [hv.length, hc.length]; exact hle)]
  exact h2

theorem Y3j {T : Nat} {ps : List (Nat × Nat)} {fields : Array Field} (hu : P.underlying T = some (.struct fields)) (hp : places P T = some ps) :
  (fields.mapM fun f => (do pure (f.offset, ← sizeOf f.type) : Sem (Nat × Nat))).run P w = .ok ps.toArray w := by
 unfold places at hp
 rw [hu] at hp
 simp only at hp
 obtain ⟨l⟩ := fields
 rw [List.mapM_toArray]
 simp only [Sem.run_map]
 have H : ∀ (l : List Field) (ps : List (Nat × Nat)), (l.mapM fun f => (P.info? f.type).map fun i => (f.offset, i.size)) = some ps → (l.mapM fun f => (do pure (f.offset, ← sizeOf f.type) : Sem (Nat × Nat))).run P w = .ok ps w := by
  intro l
  induction l with
  | nil => intro ps h; simp at h; subst h; simp
  | cons f l ih =>
   intro ps h
   simp only [List.mapM_cons, Option.bind_eq_bind, Option.bind_eq_some_iff, Option.map_eq_some_iff, Option.pure_def, Option.some.injEq] at h
   obtain ⟨p, ⟨i, hi, rfl⟩, qs, hqs, rfl⟩ := h
   simp only [List.mapM_cons, Sem.run_bind, Y2h hi, Result.andThen_ok, Sem.run_pure, ih _ hqs]
 rw [H l ps hp]
 rfl

theorem Y3k {T : Nat} {parts : List (Nat × Operand)} {ps : List (Nat × Nat)} {zs : List Value} {cs ds : List C} (hp : places P T = some ps) (hz : Y1c P T = some zs) (hc : ∀ w F, Y1 w F cs zs) (hb : Bld es (fun i => ps[i]?) cs parts ds) (hn : Nat.blt d n = true) :
  VOp false P n es os ⟨some d, .build T parts.toArray, ty, pos, af, gd⟩ d (.agg ds) :=
 VOp.mk rfl hn fun a w F Gp hs ho => by
  obtain ⟨us, hf, hds⟩ := hb.run hs (hc w F)
  refine ⟨.agg us.toArray, fun w2 _ => ?_, us, rfl, hds⟩
  have hu : ∃ fields, P.underlying T = some (.struct fields) := by
   unfold places at hp
   split at hp
   ·
    exact ⟨_, by assumption⟩
   ·
    cases hp
  obtain ⟨fields, hu⟩ := hu
  unfold Y1c at hz
  split at hz
  ·
   rename_i i hi
   simp only [Option.map_eq_some_iff] at hz
   obtain ⟨z, hz1, hz2⟩ := hz
   have hzc : z.cells = zs.toArray := by rw [← hz2]
   have hpl := Y3j (w := w2) hu hp
   have hf' : Instr.fill (fun i => ps.toArray[i]?) zs.toArray (parts.map fun p => (p.1, a.eval p.2)) = some us.toArray := by
    rw [← hf]; congr 1; funext i; simp
   simp only [execOp, Instr.build, zeroValue, typeInfo, Sem.run_bind, run_program, Result.andThen_ok, hi, Sem.run_pure, hz1, run_underlying hu, hpl, hzc, List.map_toArray, hf']
  ·
   cases hz

variable {α : Type} {k : α → List C} {sz : Nat}

inductive Parts (e : Env) (k : α → List C) (sz : Nat) : Nat → List (Nat × Operand) → List α → Prop
 | nil {i : Nat} : Parts e k sz i [] []
 | one {i : Nat} {x : Operand} {c : C} {r : List (Nat × Operand)} {y : α} {ys : List α} (hx : ev e x = some c) (h1 : One c) (hk : k y = [c]) (hz : sz = 1) (m : Parts e k sz (i + 1) r ys) : Parts e k sz i ((i, x) :: r) (y :: ys)
 | agg {i : Nat} {x : Operand} {r : List (Nat × Operand)} {y : α} {ys : List α} (hx : ev e x = some (.agg (k y))) (hz : Nat.beq (k y).length sz = true) (m : Parts e k sz (i + 1) r ys) : Parts e k sz i ((i, x) :: r) (y :: ys)

theorem Parts.run (hs : Ym w F es a) : ∀ {i : Nat} {ps : List (Nat × Operand)} {ys : List α}, Parts es k sz i ps ys → ∀ (pre rest : List Value), pre.length = i * sz → rest.length = ys.length * sz →
  ∃ us, Instr.fill (fun i => some (i * sz, sz)) (pre ++ rest).toArray (ps.map fun p => (p.1, a.eval p.2)) = some (pre ++ us).toArray ∧ Flat w F k sz ys us := by
 intro i ps ys h
 induction h with
 | nil => intro pre rest _ hr; exact ⟨[], by rw [show rest = [] from List.eq_nil_of_length_eq_zero (by simpa using hr)]; rfl, rfl⟩
 | @one i x c r y ys hx h1 hk hz _ ih =>
  intro pre rest hp hr
  subst hz
  have hc := hs.ev hx
  obtain ⟨us, h2, h3⟩ := ih (pre ++ [a.eval x]) (rest.drop 1) (by simp [hp]) (by simp at hr ⊢; omega)
  refine ⟨a.eval x :: us, ?_, [a.eval x], us, rfl, rfl, hk ▸ Y1r h1 hc, h3⟩
  rw [List.map_cons, Y3i (us := [a.eval x]) (off := i * 1) rfl (Y1s (h1 _ _ _ hc)) (by simp at hr hp ⊢; omega)]
  rw [show (pre ++ rest).take (i * 1) = pre from by rw [← hp]; exact List.take_left, show (pre ++ rest).drop (i * 1 + [a.eval x].length) = rest.drop 1 from by rw [← hp]; simp]
  rw [h2]; simp
 | @agg i x r y ys hx hz _ ih =>
  intro pre rest hp hr
  have hz := Nat.eq_of_beq_eq_true hz
  obtain ⟨vs, hv, hc⟩ := hs.ev hx
  have hvl : vs.length = sz := by rw [hc.length, hz]
  have hle : sz ≤ rest.length := by rw [hr, List.length_cons, Nat.add_mul, Nat.one_mul]; exact Nat.le_add_left _ _
  obtain ⟨us, h2, h3⟩ := ih (pre ++ vs) (rest.drop sz) (by rw [List.length_append, hp, hvl, Nat.add_mul, Nat.one_mul]) (by rw [List.length_drop, hr, List.length_cons, Nat.add_mul, Nat.one_mul]; omega)
  refine ⟨vs ++ us, ?_, vs, us, rfl, hvl, hc, h3⟩
  rw [List.map_cons, Y3i (us := vs) (off := i * sz) (by rw [hvl]) (by rw [hv]; rfl) (by rw [List.length_append, hp, hvl]; omega)]
  rw [show (pre ++ rest).take (i * sz) = pre from by rw [← hp]; exact List.take_left, show (pre ++ rest).drop (i * sz + vs.length) = rest.drop sz from by rw [← hp, hvl]; simp]
  rw [h2]; simp

theorem Parts.length {e : Env} {i : Nat} {ps : List (Nat × Operand)} {ys : List α} (h : Parts e k sz i ps ys) : ys.length = ps.length := by
 induction h with
 | nil => rfl
 | one _ _ _ _ _ ih => simp [ih]
 | agg _ _ _ ih => simp [ih]

theorem Y3l {T E by' : Nat} {ps : List (Nat × Operand)} {ys : List α} {m : Nat} (hT : Y30 P T = some (E, sz, by')) (hp : Parts es k sz 0 ps ys) (hm : Nat.beq m ps.length = true) (hb : Nat.ble (m * sz) 16777216 = true) (hn : Nat.blt d n = true) :
  HOp P n ⟨some d, .buildSlice T m ps.toArray, ty, pos, af, gd⟩ es [] (fun e' qs => ∃ b, e' = (d, .val (.slice (some ⟨b, 0, none⟩) m m)) :: es ∧ qs = [.arr (.slice (some ⟨b, 0, none⟩) m m) E k sz ys]) :=
 HOp.of rfl hn fun a w F G1 hs hG hft => by
  have hG1 : G1 = fun _ => False := funext fun b => eq_false (hG b)
  subst hG1
  obtain rfl := Nat.eq_of_beq_eq_true hm
  have hb := Nat.le_of_ble_eq_true hb
  obtain ⟨hu, i, z, hi, hsz, hby, hz, hzs, hpos⟩ := Y31 hT
  obtain ⟨us, hf, hfl⟩ := hp.run hs [] ((Array.range (ps.length * sz)).map ((if ps.length * i.size = 0 then #[] else z.cells)[· % (if ps.length * i.size = 0 then (#[] : Array Value) else z.cells).size]!)).toList (by simp) (by simp [hp.length])
  refine ⟨.slice (some ⟨w.heap.size, 0, none⟩) ps.length ps.length, w.alloc (.cells us.toArray E), F, _, _, _, ?_, rfl, Turn.new hft.fin (.arr (.slice (some ⟨w.heap.size, 0, none⟩) ps.length ps.length) E k sz ys) _ ⟨⟨us, ⟨hfl.length, .inr ⟨w.heap.size, ps.length, us.toArray, by rw [hp.length], Nat.zero_le _, heap_alloc_new w _, by rw [hp.length]; exact Nat.le_refl _, ?_, ?_, ?_⟩⟩, hfl.mono (Y1q hft.fin _)⟩, fun b => by simp [Value.ownBlock]; exact eq_comm⟩, _, rfl, rfl⟩
  ·
   simp only [List.nil_append, Array.toArray_toList] at hf
   have hfit : ¬ ps.length * sz > 2 ^ 24 := by omega
   by_cases h0 : ps.length * sz = 0
   ·
    simp only [hsz, h0, if_true] at hf
    have hf2 : Instr.fill (fun i => some (i * sz, sz)) (Array.map (fun _ => (default : Value)) (Array.range 0)) (ps.map fun x => (x.1, a.eval x.2)) = some us.toArray := by
     rw [← hf]
     congr 1
    simp [execOp, Instr.buildSlice, run_underlying hu, Y2h hi, hsz, h0, hf2, newRow]
   ·
    simp only [hsz, h0, if_false] at hf
    simp [execOp, Instr.buildSlice, run_underlying hu, Y2h hi, hsz, h0, hfit, zeroValue, typeInfo, hi, hz, hf, newRow]
  ·
   have : ps.length ≤ ps.length * sz := Nat.le_mul_of_pos_right _ hpos
   simp only [maxLen]; omega
  ·
   rw [List.size_toArray, hfl.length, hp.length]
  ·
   rw [← hfl.length]; simp

theorem Y3m {z : List Value} {x : α} (hz : z.length = sz) (hpos : 0 < sz) (hx : Y1 w F (k x) z) : ∀ m, Flat w F k sz (List.replicate m x) (madeCells z.toArray (m * sz)).toList := by
 have hmade : ∀ m, (madeCells z.toArray (m * sz)).toList = (List.replicate m z).flatten := by
  intro m
  apply List.ext_getElem?
  intro t
  induction m generalizing t with
  | zero => simp [madeCells]
  | succ m ih =>
   rw [List.replicate_succ, List.flatten_cons]
   by_cases ht : t < (m + 1) * sz
   ·
    have hl : (madeCells z.toArray ((m + 1) * sz)).toList[t]? = some z[t % sz]! := by
     simp [madeCells, ht, hz]
    rw [hl]
    by_cases h1 : t < sz
    ·
     rw [List.getElem?_append_left (by omega), Nat.mod_eq_of_lt h1, getElem!_pos z t (by omega)]
     simp [hz, h1]
    ·
     rw [List.getElem?_append_right (by omega), ← ih, hz]
     have : (t - sz) % sz = t % sz := by rw [← Nat.mod_eq_sub_mod (by omega)]
     have h2 : t - sz < m * sz := by rw [Nat.add_mul, Nat.one_mul] at ht; omega
     simp [madeCells, h2, hz, this]
   ·
    rw [List.getElem?_eq_none (by simp [size_madeCells]; omega), List.getElem?_eq_none]
    simp [hz]
    rw [Nat.add_mul, Nat.one_mul] at ht
    omega
 intro m
 rw [hmade]
 induction m with
 | zero => rfl
 | succ m ih => exact ⟨z, _, by rw [List.replicate_succ, List.flatten_cons], hz, hx, ih⟩

theorem Y3n {T E by' : Nat} {x y : Operand} {i : Int} {q q' : IntKind} {z : α} {zs : List Value} (hT : Y30 P T = some (E, sz, by')) (hz : Y1c P E = some zs) (hk : ∀ w F, Y1 w F (k z) zs) (hx : ev es x = some (.val (.int q i))) (hy : ev es y = some (.val (.int q' i))) (h0 : 0 ≤ i) (hb : i * by' ≤ 140737488355328) (h63 : i ≤ 9223372036854775807) (hn : Nat.blt d n = true) :
  HOp P n ⟨some d, .makeSlice T x y, ty, pos, af, gd⟩ es [] (fun e' qs => ∃ b, e' = (d, .val (.slice (some ⟨b, 0, none⟩) i.toNat i.toNat)) :: es ∧ qs = [.arr (.slice (some ⟨b, 0, none⟩) i.toNat i.toNat) E k sz (List.replicate i.toNat z)]) :=
 HOp.of rfl hn fun a w F G1 hs hG hft => by
  have hG1 : G1 = fun _ => False := funext fun b => eq_false (hG b)
  subst hG1
  obtain ⟨m, rfl⟩ := Int.eq_ofNat_of_zero_le h0
  simp only [Int.toNat_natCast]
  obtain ⟨hu, inf, zv, hi, hsz, hby, hzv, hzs, hpos⟩ := Y31 hT
  have hzc : zv.cells.toList = zs := by
   unfold Y1c at hz
   rw [hi] at hz
   simpa [hzv] using hz
  have hzl : zs.length = sz := by rw [← hzc]; simpa using hzs
  have hr := run_make (P := P) w T E inf zv hu hi hzv q q' (m : Int) (m : Int) (by omega) (by omega) (by rw [hby, Int.mul_comm]; omega) h63
  have hfl : Flat w F k sz (List.replicate m z) (madeCells zs.toArray (m * sz)).toList := Y3m hzl hpos (hk w F) m
  refine ⟨.slice (some ⟨w.heap.size, 0, none⟩) m m, w.alloc (.cells (madeCells zs.toArray (m * sz)) E), F, _, _, _, ?_, rfl, Turn.new hft.fin (.arr (.slice (some ⟨w.heap.size, 0, none⟩) m m) E k sz (List.replicate m z)) _ ⟨⟨_, ⟨hfl.length, .inr ⟨w.heap.size, m, _, by simp, Nat.zero_le _, heap_alloc_new w _, by simp, ?_, ?_, ?_⟩⟩, hfl.mono (Y1q hft.fin _)⟩, fun b => by simp [Value.ownBlock]; exact eq_comm⟩, _, rfl, rfl⟩
  ·
   simp only [execOp, hs.val hx, hs.val hy, Sem.run_bind, hr, Result.andThen_ok, Sem.run_pure, Int.toNat_natCast, hsz]
   rw [show zv.cells = zs.toArray from by rw [← hzc]]
  ·
   simp only [maxLen]; omega
  ·
   simp [size_madeCells]
  ·
   rw [List.length_replicate, List.take_of_length_le (by simp [size_madeCells])]
end
end Go.Abs
namespace Go.Abs
open Go

section
variable {P : Program} {ops : Array Oper} {Q : Exit → Act → World → Prop} {S : World → Prop} {L Lt : List Nat}

def Y3o (ops : Array Oper) (L Lt : List Nat) : Bool :=
 Lt.all fun j => match ops[j]? with
  | some o => L.all fun l => o.after.any fun e => Region.binds .any e && e.on == l
  | none => true

theorem Y3p {i j : Nat} {oj : Oper} (h : Y3o ops L Lt = true) (hj : ops[j]? = some oj) (hi : L.contains i = true) (hno : ∀ e ∈ oj.after, Region.binds .any e = true → e.on ≠ i) : Lt.contains j = false := by
 rw [Bool.eq_false_iff]
 intro hc
 simp only [Y3o, List.all_eq_true] at h
 have h1 := h j (by simpa using hc)
 simp only [hj, List.all_eq_true] at h1
 have h2 := h1 i (by simpa using hi)
 obtain ⟨e, he, hb⟩ := Array.any_eq_true'.1 h2
 simp only [Bool.and_eq_true, beq_iff_eq] at hb
 exact hno e he hb.1 hb.2

def Y3q (P : Program) (ops : Array Oper) (Q : Exit → Act → World → Prop) (S : World → Prop) (Lt : List Nat) : Nat → Bool → Array Bool → Act → World → Prop
 | 0, _, listed, a, w => Region.ready .any ops listed = [] ∧ Q .normal a w
 | fuel + 1, b, listed, a, w =>
  (Region.ready .any ops listed = [] → Q .normal a w) ∧
  ∀ i ∈ Region.ready .any ops listed, wpOp P ops Q i (fun a' w' => ((b && !Lt.contains i) = true → S w') ∧ Y3q P ops Q S Lt fuel (b && !Lt.contains i) (listed.setIfInBounds i true) a' w') a w

theorem Y3r : ∀ (fuel : Nat) (b : Bool) (listed : Array Bool) (a : Act) (w : World), Y3q P ops Q S Lt fuel b listed a w → wpAny P .any ops Q fuel listed a w
 | 0, _, _, _, _, h => h
 | fuel + 1, _, _, _, _, h => ⟨h.1, fun i hi => wpOp_mono (fun a' w' h' => Y3r fuel _ _ a' w' h'.2) (h.2 i hi)⟩

theorem Y3s {S' : World → Prop} (k : ∀ w, S' w → S w) : ∀ (fuel : Nat) (b : Bool) (listed : Array Bool) (a : Act) (w : World), Y3q P ops Q S' Lt fuel b listed a w → Y3q P ops Q S Lt fuel b listed a w
 | 0, _, _, _, _, h => h
 | fuel + 1, _, _, _, _, h => ⟨h.1, fun i hi => wpOp_mono (fun a' w' h' => ⟨fun hb => k w' (h'.1 hb), Y3s k fuel _ _ a' w' h'.2⟩) (h.2 i hi)⟩

theorem Y3t {S' : World → Prop} : ∀ (fuel : Nat) (listed : Array Bool) (a : Act) (w : World), Y3q P ops Q S' Lt fuel false listed a w → Y3q P ops Q S Lt fuel false listed a w
 | 0, _, _, _, h => h
 | fuel + 1, _, _, _, h => ⟨h.1, fun i hi => wpOp_mono (fun a' w' h' => ⟨fun hb => by simp at hb, Y3t fuel _ a' w' h'.2⟩) (h.2 i hi)⟩

theorem Y3u {S' : World → Prop} {i : Nat} {oi : Oper} {v : Value} {b : Bool} (hi : ops[i]? = some oi) (hsel : ∀ (j : Nat) (o : Oper) cs b, ops[j]? = some o → o.op ≠ .select cs b)
  (hQ : ∀ c a w, Q (.panic c) (a.put oi.dst v) w → Q (.panic c) a w) (hlt : Y3o ops L Lt = true) (hil : Lt.contains i = false) (hkeep : (∀ w, S' w) ∨ (b = true ∧ L.contains i = true ∧ ∀ w, S w → S' w)) :
  ∀ (fuel : Nat) (b' : Bool) (listed : Array Bool) (a : Act) (w : World), (b = true → L.contains i = true → b' = true) →
   (∀ j oj, ops[j]? = some oj → j ≠ i → listed.getD j true = false → (∀ e ∈ oj.after, Region.binds .any e = true → e.on ≠ i) → oi.apart ops oj = true) →
   i ∈ Region.ready .any ops listed → YieldsIf P ops S' oi v a → (b' = true → S w) →
   Y3q P ops Q S Lt fuel b' (listed.setIfInBounds i true) (a.put oi.dst v) w → Y3q P ops Q S Lt (fuel + 1) b' listed a w := by
 intro fuel
 induction fuel with
 | zero =>
  intro b' listed a w hbb _ hr hy hS H
  have hS' : S' w := hkeep.elim (fun h => h w) fun h => h.2.2 w (hS (hbb h.1 h.2.1))
  refine ⟨fun h => (by rw [h] at hr; cases hr), fun j hj => ?_⟩
  by_cases hji : j = i
  ·
   subst hji
   have e : (b' && !Lt.contains j) = b' := by rw [hil]; simp
   rw [e]
   exact hy.wpOp hi hS' ⟨hS, H⟩
  ·
   have := ready_mono hj hji
   rw [H.1] at this
   cases this
 | succ fuel ih =>
  intro b' listed a w hbb hfree hr hy hS H
  have hS' : S' w := hkeep.elim (fun h => h w) fun h => h.2.2 w (hS (hbb h.1 h.2.1))
  refine ⟨fun h => (by rw [h] at hr; cases hr), fun j hj => ?_⟩
  by_cases hji : j = i
  ·
   subst hji
   have e : (b' && !Lt.contains j) = b' := by rw [hil]; simp
   rw [e]
   exact hy.wpOp hi hS' ⟨hS, H⟩
  ·
   have h1 := H.2 j (ready_mono hj hji)
   obtain ⟨hjun, oj, hoj, hall⟩ := mem_ready.1 hj
   have hnot : ∀ e ∈ oj.after, Region.binds .any e = true → e.on ≠ i := fun e he hb heq => by
    have h1 := hall e he hb
    have h0 := (mem_ready.1 hr).1
    rw [heq] at h1
    rcases Nat.lt_or_ge i listed.size with h' | h'
    ·
     simp [h'] at h0 h1; rw [h0] at h1; cases h1
    ·
     simp [Array.getElem?_eq_none h'] at h1
   have h2 := wpOp_putIf hoj (hfree j oj hoj hji hjun hnot) (fun cs b => hsel i oi cs b hi) (fun cs b => hsel j oj cs b hoj) hQ hy h1
   have hfree' : ∀ k ok, ops[k]? = some ok → k ≠ i → (listed.setIfInBounds j true).getD k true = false →
     (∀ e ∈ ok.after, Region.binds .any e = true → e.on ≠ i) → oi.apart ops ok = true := fun k ok hk hki hun hno => by
    refine hfree k ok hk hki ?_ hno
    by_cases hjk : j = k
    ·
     subst hjk; exact hjun
    ·
     rw [getD_set_ne true hjk] at hun; exact hun
   refine wpOp_mono (fun a' w' h3 => ⟨h3.2.1, ih _ (listed.setIfInBounds j true) a' w' (fun hb hl => ?_) hfree' (ready_mono hr (Ne.symm hji)) h3.1 h3.2.1 ?_⟩) h2
   ·
    rw [hbb hb hl, Y3p hlt hoj hl hnot]; rfl
   ·
    rw [Array.setIfInBounds_comm _ _ hji]
    exact h3.2.2


inductive Sch where
 | done
 | light (i : Nat) (m : Bool) (k : Sch)
 | one (i : Nat) (k : Sch)
 | two (i j : Nat) (k k' : Sch)
 | late (i : Nat) (k : Sch)
 | three (i j p : Nat) (k k' k'' : Sch)
 | four (i j p q : Nat) (k k' k'' k''' : Sch)

def Sch.ok (ops : Array Oper) (L Lt : List Nat) : Sch → Nat → Bool → Array Bool → Bool
 | .done, _, _, listed => (Region.ready .any ops listed).isEmpty
 | .light _ _ _, 0, _, _ => false
 | .light i m k, fuel + 1, b, listed => Region.free .any ops listed i && (Region.ready .any ops listed).contains i && (!m || (b && L.contains i)) && !Lt.contains i && k.ok ops L Lt fuel b (listed.setIfInBounds i true)
 | .one _ _, 0, _, _ => false
 | .one i k, fuel + 1, b, listed => Region.ready .any ops listed == [i] && !Lt.contains i && k.ok ops L Lt fuel b (listed.setIfInBounds i true)
 | .two _ _ _ _, 0, _, _ => false
 | .two i j k k', fuel + 1, b, listed => Region.ready .any ops listed == [i, j] && !Lt.contains i && !Lt.contains j && k.ok ops L Lt fuel b (listed.setIfInBounds i true) && k'.ok ops L Lt fuel b (listed.setIfInBounds j true)
 | .late _ _, 0, _, _ => false
 | .late i k, fuel + 1, _, listed => Region.ready .any ops listed == [i] && Lt.contains i && k.ok ops L Lt fuel false (listed.setIfInBounds i true)
 | .three _ _ _ _ _ _, 0, _, _ => false
 | .three i j p k k' k'', fuel + 1, b, listed => Region.ready .any ops listed == [i, j, p] && !Lt.contains i && !Lt.contains j && !Lt.contains p && k.ok ops L Lt fuel b (listed.setIfInBounds i true) && k'.ok ops L Lt fuel b (listed.setIfInBounds j true) && k''.ok ops L Lt fuel b (listed.setIfInBounds p true)
 | .four _ _ _ _ _ _ _ _, 0, _, _ => false
 | .four i j p q k k' k'' k''', fuel + 1, b, listed => Region.ready .any ops listed == [i, j, p, q] && !Lt.contains i && !Lt.contains j && !Lt.contains p && !Lt.contains q && k.ok ops L Lt fuel b (listed.setIfInBounds i true) && k'.ok ops L Lt fuel b (listed.setIfInBounds j true) && k''.ok ops L Lt fuel b (listed.setIfInBounds p true) && k'''.ok ops L Lt fuel b (listed.setIfInBounds q true)

def nth : List Oper → Nat → Option Oper
 | [], _ => none
 | o :: _, 0 => some o
 | _ :: l, i + 1 => nth l i

theorem Y3v : ∀ (l : List Oper) (i : Nat), nth l i = l.toArray[i]?
 | [], i => by simp [nth]
 | o :: l, 0 => by simp [nth]
 | o :: l, i + 1 => by simp [nth, Y3v l i]

def Same (w : World) (F G : BSet) : World → Prop := fun w2 => ∀ b, F b ∨ G b → w2.heap[b]? = w.heap[b]?

def Y3w (Q : Act → World → Prop) : Exit → Act → World → Prop
 | .normal, a, w => Q a w
 | _, _, _ => False

variable {n : Nat} {X : Ctx} {l : List Oper} {e : Env} {os ot : List Obj} {K : St → Prop} {k : Sch} {i : Nat} {o : Oper}

def OpsD (P : Program) (n : Nat) (X : Ctx) (l : List Oper) (L Lt : List Nat) (sch : Sch) (b : Bool) (e : Env) (os ot : List Obj) (K : St → Prop) : Prop :=
 ∀ fuel listed, sch.ok l.toArray L Lt fuel b listed = true → Region.noSelect l.toArray = true → Y3o l.toArray L Lt = true →
  ∀ a w F Gs Gt (Q : Act → World → Prop), Yd n X ⟨e, os ++ ot⟩ a w F (fun c => Gs c ∨ Gt c) → (∀ c, Gs c → ¬ Gt c) → Own w F os Gs → Own w F ot Gt →
   (∀ a' w' s', Sim n X s' a' w' → K s' → Q a' w') → Y3q P l.toArray (Y3w Q) (Same w F Gs) Lt fuel b listed a w

theorem OpsD.done {b : Bool} (h : appK os ot fun l => K ⟨e, l⟩) : OpsD P n X l L Lt .done b e os ot K := by
 intro fuel listed hok _ _ a w F Gs Gt Q hs _ _ _ hQ
 have hr : Region.ready .any l.toArray listed = [] := List.isEmpty_iff.1 hok
 have := hQ a w _ ⟨F, _, hs⟩ (Y9.1 h)
 cases fuel with
 | zero => exact ⟨hr, this⟩
 | succ fuel => exact ⟨fun _ => this, fun i hi => by rw [hr] at hi; cases hi⟩

theorem OpsD.light {m b : Bool} {d : Nat} {c : C} (ho : nth l i = some o)
  (hy : ∀ (a : Act) (w : World) (F G Gs : BSet), Yd n X ⟨e, os ++ ot⟩ a w F G → Own w F os Gs → ∃ v, c.rep w F v ∧ YieldsIf P l.toArray (fun w2 => m = true → Same w F Gs w2) o v a) (hd : o.dst = some d) (hn : Nat.blt d n = true)
  (h : OpsD P n X l L Lt k b ((d, c) :: e) os ot K) : OpsD P n X l L Lt (.light i m k) b e os ot K := by
 intro fuel listed hok hsel hlt a w F Gs Gt Q hs hdj h1 h2 hQ
 cases fuel with
 | zero => simp [Sch.ok] at hok
 | succ fuel =>
  simp only [Sch.ok, Bool.and_eq_true] at hok
  obtain ⟨⟨⟨⟨hf, hr⟩, hm⟩, hil⟩, hk⟩ := hok
  rw [Y3v] at ho
  obtain ⟨v, hc, hy⟩ := hy a w F _ Gs hs h1
  refine Y3u (L := L) (b := b) ho (Region.noSelect_spec hsel) (fun _ _ _ h => h) hlt (by simpa using hil) ?_ fuel b listed a w (fun h _ => h) (Region.free_spec ho hf) (by simpa using hr) hy (fun _ _ _ => rfl) ?_
  ·
   cases m with
   | false => exact .inl fun _ h => by cases h
   | true =>
    simp only [Bool.not_true, Bool.false_or, Bool.and_eq_true] at hm
    exact .inr ⟨hm.1, hm.2, fun _ h _ => h⟩
  ·
   rw [hd]
   exact h fuel _ hk hsel hlt _ w F Gs Gt Q (hs.put (Yl hn) hc) hdj h1 h2 hQ

theorem OpsD.v {m b : Bool} {d : Nat} {c : C} (ho : nth l i = some o) (hg : o.guard = none) (h : VOp m P n e os o d c) (hk : OpsD P n X l L Lt k b ((d, c) :: e) os ot K) : OpsD P n X l L Lt (.light i m k) b e os ot K :=
 OpsD.light ho (fun a w F G Gs hs h1 => by
  obtain ⟨v, hr, hc⟩ := h.run a w F Gs hs.env h1
  exact ⟨v, hc, .inl ⟨by simp [Region.wanted, hg], fun w2 hw => hr w2 hw⟩⟩) h.dst h.lt hk

theorem OpsD.gv {m b : Bool} {d j t : Nat} {want y : Bool} {c : C} (ho : nth l i = some o) (hg : o.guard = some (j, want)) (hj : (nth l j).bind (·.dst) = some t) (ht : get e t = some (.bool y)) (htn : Nat.blt t n = true) (hb : y = want)
  (h : VOp m P n e os o d c) (hk : OpsD P n X l L Lt k b ((d, c) :: e) os ot K) : OpsD P n X l L Lt (.light i m k) b e os ot K :=
 OpsD.light ho (fun a w F G Gs hs h1 => by
  obtain ⟨v, hr, hc⟩ := h.run a w F Gs hs.env h1
  rw [Y3v] at hj
  exact ⟨v, hc, .inl ⟨by rw [Yp hg (Sim.yielded ⟨F, G, hs⟩ hj ht htn), hb]; simp, fun w2 hw => hr w2 hw⟩⟩) h.dst h.lt hk

theorem OpsD.gs {m b : Bool} {d j t : Nat} {want : Bool} (ho : nth l i = some o) (hg : o.guard = some (j, want)) (hj : (nth l j).bind (·.dst) = some t) (htn : Nat.blt t n = true) (hw : NotWanted e t want)
  (hd : o.dst = some d) (hn : Nat.blt d n = true) (hk : OpsD P n X l L Lt k b ((d, .val undef) :: e) os ot K) : OpsD P n X l L Lt (.light i m k) b e os ot K :=
 OpsD.light ho (fun a w F G Gs hs _ => by
  rw [Y3v] at hj
  exact ⟨undef, rfl, .inr ⟨Yq ⟨F, G, hs⟩ hg hj htn hw, rfl⟩⟩) hd hn hk

theorem Y3x {b b' : Bool} {ps r : List Obj} {ns : List Nat} {T : Env → List Obj → Prop} {a : Act} {w : World} {F Gs Gt : BSet} {Q : Act → World → Prop} {fuel : Nat} {listed : Array Bool} (ho : l.toArray[i]? = some o) (hw : Region.wanted o (yielded l.toArray a.tmps) = true)
  (hp : Y7 ns ot = some (ps, r)) (h : HOp P n o e ps T) (hk : ∀ e' qs, T e' qs → appK qs r fun l' => OpsD P n X l L Lt k b' e' os l' K) (hok : k.ok l.toArray L Lt fuel b' listed = true) (hsel : Region.noSelect l.toArray = true) (hlt : Y3o l.toArray L Lt = true)
  (hs : Yd n X ⟨e, os ++ ot⟩ a w F (fun c => Gs c ∨ Gt c)) (hdj : ∀ c, Gs c → ¬ Gt c) (h1 : Own w F os Gs) (h2 : Own w F ot Gt) (hQ : ∀ a' w' s', Sim n X s' a' w' → K s' → Q a' w') :
  wpOp P l.toArray (Y3w Q) i (fun a' w' => (b = true → Same w F Gs w') ∧ Y3q P l.toArray (Y3w Q) (Same w F Gs) Lt fuel b' listed a' w') a w := by
 unfold wpOp
 simp only [ho, hw, if_true]
 refine .inl ?_
 obtain ⟨G1, G2, hi, hd, h3, h4⟩ := Own.append.1 (h2.perm (Y8 hp))
 have hfit : Fit w F G1 := hs.fit fun c hc => .inr ((hi c).2 (.inl hc))
 refine h a w F G1 hs.env h3 hfit hs.size _ _ fun v w' e' qs F' G1' ht hT he => ?_
 have hsame : ∀ c, Gs c → w'.heap[c]? = w.heap[c]? := fun c hc => ht.chg.block c (hs.gin c (.inl hc)).1 fun hg => hdj c hc ((hi c).2 (.inl hg))
 have hS : Same w F Gs w' := fun c hc => hc.elim (fun hc => (ht.same hfit c hc).2) (hsame c)
 refine ⟨fun _ => hS, ?_⟩
 have hrest : Own w F (os ++ r) (fun c => Gs c ∨ G2 c) := Own.append.2 ⟨Gs, G2, fun _ => Iff.rfl, fun c hc hx => hdj c hc ((hi c).2 (.inr hx)), h1, h4⟩
 have hs' := hs.moved (e' := e') (ps := ps) (G1 := G1) (G2 := fun c => Gs c ∨ G2 c) (a' := a.put o.dst v) (fun c => by
   simp only [hi c]
   constructor
   ·
    rintro (h | h | h)
    ·
     exact .inr (.inl h)
    ·
     exact .inl h
    ·
     exact .inr (.inr h)
   ·
    rintro (h | h | h)
    ·
     exact .inr (.inl h)
    ·
     exact .inl h
    ·
     exact .inr (.inr h)) (fun c hc hx => hx.elim (fun h => hdj c h ((hi c).2 (.inl hc))) (hd c hc)) hrest ht he (by rw [Yn]; exact hs.size) (by rw [Yo]; exact hs.defs)
 -- the objects put in order
 have hnot : ∀ c, G1' c → ¬ Gs c ∧ ¬ G2 c := fun c hc => by
  rcases (ht.gin c hc).2.2 with hg | hg
  ·
   exact ⟨fun h => hdj c h ((hi c).2 (.inl hg)), hd c hg⟩
  ·
   exact ⟨fun h => absurd (hs.gin c (.inl h)).1 (by omega), fun h => absurd (hs.gin c (.inr ((hi c).2 (.inr h)))).1 (by omega)⟩
 have hF : ∀ c, F c → F' c ∧ w'.heap[c]? = w.heap[c]? := ht.same hfit
 have ho1 : Own w' F' os Gs := h1.mono hF hsame
 have ho2 : Own w' F' (qs ++ r) (fun c => G1' c ∨ G2 c) := Own.append.2 ⟨G1', G2, fun _ => Iff.rfl, fun c hc => (hnot c hc).2, ht.own, h4.mono hF fun c hc => ht.chg.block c (hs.gin c (.inr ((hi c).2 (.inr hc)))).1 fun hg => hd c hg hc⟩
 have hdj' : ∀ c, Gs c → ¬ (G1' c ∨ G2 c) := fun c hc hx => hx.elim (fun h => (hnot c h).1 hc) fun h => hdj c hc ((hi c).2 (.inr h))
 have hs'' : Yd n X ⟨e', os ++ (qs ++ r)⟩ (a.put o.dst v) w' F' (fun c => Gs c ∨ (G1' c ∨ G2 c)) :=
  ⟨hs'.env, Own.append.2 ⟨Gs, _, fun _ => Iff.rfl, hdj', ho1, ho2⟩, hs'.fin, fun c hc => hs'.gin c (by
   rcases hc with h | h | h
   ·
    exact .inr (.inl h)
   ·
    exact .inl h
   ·
    exact .inr (.inr h)), hs'.sub, hs'.chg, hs'.size, hs'.defs⟩
 have hfin := Y9.1 (hk e' qs hT) fuel listed hok hsel hlt (a.put o.dst v) w' F' Gs _ Q hs'' hdj' ho1 ho2 hQ
 refine Y3s (fun w2 h2 c hc => ?_) fuel b' listed _ _ hfin
 rw [← hS c hc]
 exact h2 c (hc.imp (fun h => (hF c h).1) id)

theorem Y3y {a : Act} (hg : o.guard = none) : Region.wanted o (yielded l.toArray a.tmps) = true := by simp [Region.wanted, hg]

def Y3z (P : Program) (n : Nat) (X : Ctx) (l : List Oper) (L Lt : List Nat) (i : Nat) (k : Sch) (b : Bool) (e : Env) (os ot : List Obj) (K : St → Prop) : Prop :=
 ∀ fuel listed, k.ok l.toArray L Lt fuel b listed = true → Region.noSelect l.toArray = true → Y3o l.toArray L Lt = true →
  ∀ a w F Gs Gt (Q : Act → World → Prop), Yd n X ⟨e, os ++ ot⟩ a w F (fun c => Gs c ∨ Gt c) → (∀ c, Gs c → ¬ Gt c) → Own w F os Gs → Own w F ot Gt →
   (∀ a' w' s', Sim n X s' a' w' → K s' → Q a' w') → wpOp P l.toArray (Y3w Q) i (fun a' w' => (b = true → Same w F Gs w') ∧ Y3q P l.toArray (Y3w Q) (Same w F Gs) Lt fuel b listed a' w') a w

theorem Y3z.h {b : Bool} {ps r : List Obj} {ns : List Nat} {T : Env → List Obj → Prop} (ho : nth l i = some o) (hg : o.guard = none) (hp : Y7 ns ot = some (ps, r)) (h : HOp P n o e ps T)
  (hk : ∀ e' qs, T e' qs → appK qs r fun l' => OpsD P n X l L Lt k b e' os l' K) : Y3z P n X l L Lt i k b e os ot K :=
 fun _ _ hok hsel hlt _ _ _ _ _ _ hs hdj h1 h2 hQ => Y3x (Y3v l i ▸ ho) (Y3y hg) hp h hk hok hsel hlt hs hdj h1 h2 hQ

theorem Y3z.gh {b : Bool} {j t : Nat} {want y : Bool} {ps r : List Obj} {ns : List Nat} {T : Env → List Obj → Prop} (ho : nth l i = some o) (hg : o.guard = some (j, want)) (hj : (nth l j).bind (·.dst) = some t) (ht : get e t = some (.bool y)) (htn : Nat.blt t n = true) (hb : y = want)
  (hp : Y7 ns ot = some (ps, r)) (h : HOp P n o e ps T) (hk : ∀ e' qs, T e' qs → appK qs r fun l' => OpsD P n X l L Lt k b e' os l' K) : Y3z P n X l L Lt i k b e os ot K :=
 fun _ _ hok hsel hlt _ _ F _ _ _ hs hdj h1 h2 hQ => Y3x (Y3v l i ▸ ho) (by rw [Y3v] at hj; rw [Yp hg (Sim.yielded ⟨F, _, hs⟩ hj ht htn), hb]; simp) hp h hk hok hsel hlt hs hdj h1 h2 hQ

theorem Y3z.v {m b : Bool} {d : Nat} {c : C} (ho : nth l i = some o) (hg : o.guard = none) (h : VOp m P n e (os ++ ot) o d c) (hk : OpsD P n X l L Lt k b ((d, c) :: e) os ot K) : Y3z P n X l L Lt i k b e os ot K := by
 intro fuel listed hok hsel hlt a w F Gs Gt Q hs hdj h1 h2 hQ
 rw [Y3v] at ho
 unfold wpOp
 simp only [ho, Y3y hg, if_true]
 refine .inl ?_
 obtain ⟨v, hr', hc⟩ := h.run a w F _ hs.env hs.own
 unfold Oper.wp
 rw [hr' w fun _ _ _ => rfl]
 show _ ∧ _
 rw [h.dst]
 exact ⟨fun _ _ _ => rfl, hk fuel _ hok hsel hlt _ w F Gs Gt Q (hs.put (Yl h.lt) hc) hdj h1 h2 hQ⟩

theorem Y3z.gs {b : Bool} {d j t : Nat} {want : Bool} (ho : nth l i = some o) (hg : o.guard = some (j, want)) (hj : (nth l j).bind (·.dst) = some t) (htn : Nat.blt t n = true) (hw : NotWanted e t want)
  (hd : o.dst = some d) (hn : Nat.blt d n = true) (hk : OpsD P n X l L Lt k b ((d, .val undef) :: e) os ot K) : Y3z P n X l L Lt i k b e os ot K := by
 intro fuel listed hok hsel hlt a w F Gs Gt Q hs hdj h1 h2 hQ
 rw [Y3v] at ho hj
 unfold wpOp
 simp only [ho]
 rw [if_neg (by rw [Yq ⟨F, _, hs⟩ hg hj htn hw]; simp), hd]
 exact ⟨fun _ _ _ => rfl, hk fuel _ hok hsel hlt _ w F Gs Gt Q (hs.put (c := .val undef) (v := undef) (Yl hn) rfl) hdj h1 h2 hQ⟩
theorem Y3z.gs0 {b : Bool} {j t : Nat} {want : Bool} (ho : nth l i = some o) (hg : o.guard = some (j, want)) (hj : (nth l j).bind (·.dst) = some t) (htn : Nat.blt t n = true) (hw : NotWanted e t want)
  (hd : o.dst = none) (hk : OpsD P n X l L Lt k b e os ot K) : Y3z P n X l L Lt i k b e os ot K := by
 intro fuel listed hok hsel hlt a w F Gs Gt Q hs hdj h1 h2 hQ
 rw [Y3v] at ho hj
 unfold wpOp
 simp only [ho]
 rw [if_neg (by rw [Yq ⟨F, _, hs⟩ hg hj htn hw]; simp), hd]
 exact ⟨fun _ _ _ => rfl, hk fuel _ hok hsel hlt _ w F Gs Gt Q hs hdj h1 h2 hQ⟩

theorem OpsD.one {b : Bool} (h : Y3z P n X l L Lt i k b e os ot K) : OpsD P n X l L Lt (.one i k) b e os ot K := by
 intro fuel listed hok hsel hlt a w F Gs Gt Q hs hdj h1 h2 hQ
 cases fuel with
 | zero => simp [Sch.ok] at hok
 | succ fuel =>
  simp only [Sch.ok, Bool.and_eq_true, beq_iff_eq] at hok
  obtain ⟨⟨hr, hil⟩, hk'⟩ := hok
  refine ⟨fun h0 => (by rw [hr] at h0; cases h0), fun j hj => ?_⟩
  rw [hr] at hj
  obtain rfl := List.mem_singleton.1 hj
  have e1 : (b && !Lt.contains j) = b := by rw [hil]; simp
  rw [e1]
  exact h fuel _ hk' hsel hlt a w F Gs Gt Q hs hdj h1 h2 hQ

theorem OpsD.two {b : Bool} {j : Nat} {k' : Sch} (h : Y3z P n X l L Lt i k b e os ot K) (h' : Y3z P n X l L Lt j k' b e os ot K) : OpsD P n X l L Lt (.two i j k k') b e os ot K := by
 intro fuel listed hok hsel hlt a w F Gs Gt Q hs hdj h1 h2 hQ
 cases fuel with
 | zero => simp [Sch.ok] at hok
 | succ fuel =>
  simp only [Sch.ok, Bool.and_eq_true, beq_iff_eq] at hok
  obtain ⟨⟨⟨⟨hr, hil⟩, hjl⟩, hk1⟩, hk2⟩ := hok
  refine ⟨fun h0 => (by rw [hr] at h0; cases h0), fun j' hj' => ?_⟩
  rw [hr] at hj'
  rcases List.mem_cons.1 hj' with rfl | hj'
  ·
   have e1 : (b && !Lt.contains j') = b := by rw [hil]; simp
   rw [e1]
   exact h fuel _ hk1 hsel hlt a w F Gs Gt Q hs hdj h1 h2 hQ
  ·
   obtain rfl := List.mem_singleton.1 hj'
   have e1 : (b && !Lt.contains j') = b := by rw [hjl]; simp
   rw [e1]
   exact h' fuel _ hk2 hsel hlt a w F Gs Gt Q hs hdj h1 h2 hQ

theorem OpsD.three {b : Bool} {j p : Nat} {k' k'' : Sch} (h0 : Y3z P n X l L Lt i k b e os ot K) (h1 : Y3z P n X l L Lt j k' b e os ot K) (h2 : Y3z P n X l L Lt p k'' b e os ot K) : OpsD P n X l L Lt (.three i j p k k' k'') b e os ot K := by
 intro fuel listed hok hsel hlt a w F Gs Gt Q hs hdj h1_ h2_ hQ
 cases fuel with
 | zero => simp [Sch.ok] at hok
 | succ fuel =>
  simp only [Sch.ok, Bool.and_eq_true, beq_iff_eq] at hok
  obtain ⟨⟨⟨⟨⟨⟨hr, l0⟩, l1⟩, l2⟩, g0⟩, g1⟩, g2⟩ := hok
  refine ⟨fun h0 => (by rw [hr] at h0; cases h0), fun j' hj' => ?_⟩
  rw [hr] at hj'
  rcases List.mem_cons.1 hj' with rfl | hj'
  ·
   have e1 : (b && !Lt.contains j') = b := by rw [l0]; simp
   rw [e1]
   exact h0 fuel _ g0 hsel hlt a w F Gs Gt Q hs hdj h1_ h2_ hQ
  rcases List.mem_cons.1 hj' with rfl | hj'
  ·
   have e1 : (b && !Lt.contains j') = b := by rw [l1]; simp
   rw [e1]
   exact h1 fuel _ g1 hsel hlt a w F Gs Gt Q hs hdj h1_ h2_ hQ
  obtain rfl := List.mem_singleton.1 hj'
  have e1 : (b && !Lt.contains j') = b := by rw [l2]; simp
  rw [e1]
  exact h2 fuel _ g2 hsel hlt a w F Gs Gt Q hs hdj h1_ h2_ hQ

theorem OpsD.four {b : Bool} {j p q : Nat} {k' k'' k''' : Sch} (h0 : Y3z P n X l L Lt i k b e os ot K) (h1 : Y3z P n X l L Lt j k' b e os ot K) (h2 : Y3z P n X l L Lt p k'' b e os ot K) (h3 : Y3z P n X l L Lt q k''' b e os ot K) : OpsD P n X l L Lt (.four i j p q k k' k'' k''') b e os ot K := by
 intro fuel listed hok hsel hlt a w F Gs Gt Q hs hdj h1_ h2_ hQ
 cases fuel with
 | zero => simp [Sch.ok] at hok
 | succ fuel =>
  simp only [Sch.ok, Bool.and_eq_true, beq_iff_eq] at hok
  obtain ⟨⟨⟨⟨⟨⟨⟨⟨hr, l0⟩, l1⟩, l2⟩, l3⟩, g0⟩, g1⟩, g2⟩, g3⟩ := hok
  refine ⟨fun h0 => (by rw [hr] at h0; cases h0), fun j' hj' => ?_⟩
  rw [hr] at hj'
  rcases List.mem_cons.1 hj' with rfl | hj'
  ·
   have e1 : (b && !Lt.contains j') = b := by rw [l0]; simp
   rw [e1]
   exact h0 fuel _ g0 hsel hlt a w F Gs Gt Q hs hdj h1_ h2_ hQ
  rcases List.mem_cons.1 hj' with rfl | hj'
  ·
   have e1 : (b && !Lt.contains j') = b := by rw [l1]; simp
   rw [e1]
   exact h1 fuel _ g1 hsel hlt a w F Gs Gt Q hs hdj h1_ h2_ hQ
  rcases List.mem_cons.1 hj' with rfl | hj'
  ·
   have e1 : (b && !Lt.contains j') = b := by rw [l2]; simp
   rw [e1]
   exact h2 fuel _ g2 hsel hlt a w F Gs Gt Q hs hdj h1_ h2_ hQ
  obtain rfl := List.mem_singleton.1 hj'
  have e1 : (b && !Lt.contains j') = b := by rw [l3]; simp
  rw [e1]
  exact h3 fuel _ g3 hsel hlt a w F Gs Gt Q hs hdj h1_ h2_ hQ

def Y40 (ns : List Nat) : List Obj → List Obj → Option (List Obj × List Obj)
 | os, ot => appO os ot fun l => Y7 ns l
where
 appO : List Obj → List Obj → (List Obj → Option (List Obj × List Obj)) → Option (List Obj × List Obj)
  | [], r, k => k r
  | q :: qs, r, k => appO qs r fun l => k (q :: l)

theorem Y41 : ∀ (qs r : List Obj) (k : List Obj → Option (List Obj × List Obj)), Y40.appO qs r k = k (qs ++ r)
 | [], _, _ => rfl
 | _ :: qs, r, k => Y41 qs r _
theorem Y42 {ns : List Nat} {os ot : List Obj} {x : List Obj × List Obj} (h : Y40 ns os ot = some x) : Y7 ns (os ++ ot) = some x := by
 rw [← h]; exact (Y41 os ot _).symm

theorem OpsD.late {b : Bool} {ps r : List Obj} {ns : List Nat} {T : Env → List Obj → Prop} (ho : nth l i = some o) (hg : o.guard = none) (hp : Y40 ns os ot = some (ps, r)) (h : HOp P n o e ps T)
  (hk : ∀ e' qs, T e' qs → appK qs r fun l' => OpsD P n X l L Lt k false e' [] l' K) : OpsD P n X l L Lt (.late i k) b e os ot K := by
 intro fuel listed hok hsel hlt a w F Gs Gt Q hs hdj h1 h2 hQ
 cases fuel with
 | zero => simp [Sch.ok] at hok
 | succ fuel =>
  simp only [Sch.ok, Bool.and_eq_true, beq_iff_eq] at hok
  obtain ⟨⟨hr, hil⟩, hk'⟩ := hok
  rw [Y3v] at ho
  refine ⟨fun h0 => (by rw [hr] at h0; cases h0), fun j hj => ?_⟩
  rw [hr] at hj
  obtain rfl := List.mem_singleton.1 hj
  have e1 : (b && !Lt.contains j) = false := by rw [hil]; simp
  rw [e1]
  have hs0 : Yd n X ⟨e, [] ++ (os ++ ot)⟩ a w F (fun c => False ∨ (Gs c ∨ Gt c)) := by simpa using hs
  refine wpOp_mono (fun a' w' h' => ⟨(fun hb => by cases hb), Y3t fuel _ a' w' h'.2⟩) (Y3x (b := false) (os := []) (Gs := fun _ => False) ho (Y3y hg) (Y42 hp) h hk hk' hsel hlt hs0 (fun c h _ => h) (fun _ h => h) hs.own hQ)

theorem OpsD.rest {b : Bool} {ps r : List Obj} {ns : List Nat} (hp : Y7 ns ot = some (ps, r)) (h : appK ps os fun l' => OpsD P n X l L Lt k b e l' r K) : OpsD P n X l L Lt k b e os ot K := by
 intro fuel listed hok hsel hlt a w F Gs Gt Q hs hdj h1 h2 hQ
 obtain ⟨G1, G2, hi, hd, h3, h4⟩ := Own.append.1 (h2.perm (Y8 hp))
 have ha : Own w F (ps ++ os) (fun c => G1 c ∨ Gs c) := Own.append.2 ⟨G1, Gs, fun _ => Iff.rfl, fun c hc hx => hdj c hx ((hi c).2 (.inl hc)), h3, h1⟩
 have hb : ∀ c, G1 c ∨ Gs c → ¬ G2 c := fun c hc hx => hc.elim (fun h => hd c h hx) fun h => hdj c h ((hi c).2 (.inr hx))
 refine Y3s (fun w2 h2 c hc => h2 c (hc.imp id .inr)) fuel b listed a w (Y9.1 h fuel listed hok hsel hlt a w F (fun c => G1 c ∨ Gs c) G2 Q ⟨hs.env, Own.append.2 ⟨_, G2, fun _ => Iff.rfl, hb, ha, h4⟩, hs.fin, fun c hc => hs.gin c ?_, hs.sub, hs.chg, hs.size, hs.defs⟩ hb ha h4 hQ)
 rcases hc with (h | h) | h
 ·
  exact .inr ((hi c).2 (.inl h))
 ·
  exact .inl h
 ·
  exact .inr ((hi c).2 (.inr h))

theorem OpsD.learn {b : Bool} {R : Prop} (h : ∀ a w, Sim n X ⟨e, os ++ ot⟩ a w → R) (m : R → OpsD P n X l L Lt k b e os ot K) : OpsD P n X l L Lt k b e os ot K :=
 fun fuel listed hok hsel hlt a w F Gs Gt Q hs => m (h a w ⟨F, _, hs⟩) fuel listed hok hsel hlt a w F Gs Gt Q hs

theorem AW.regionD {id : Nat} {e : Env} {os0 : List Obj} {K : Exit → St → Prop} {os ot : List Obj} {ns : List Nat} {L Lt : List Nat} {k : Sch} (hm : P.follows .mixedOrders = true) (hsel : Region.noSelect l.toArray = true) (hlt : Y3o l.toArray L Lt = true)
  (hok : k.ok l.toArray L Lt l.toArray.size true (Array.replicate l.toArray.size false) = true) (hp : Y7 ns os0 = some (os, ot)) (h : OpsD P n X l L Lt k true e os ot (K .normal)) : AW P n X (.region id l.toArray true) ⟨e, os0⟩ K := by
 rintro a w ⟨F, G, hs⟩
 obtain ⟨Gs, Gt, hi, hd, h1, h2⟩ := Own.append.1 (hs.own.perm (Y8 hp))
 have hs' : Yd n X ⟨e, os ++ ot⟩ a { w with drawn := w.drawn + 1 } F (fun c => Gs c ∨ Gt c) :=
  ⟨fun i c hc => C.mono _ (hs.env i c hc) fun _ h => ⟨h, rfl⟩, (Own.append.2 ⟨Gs, Gt, fun _ => Iff.rfl, hd, h1, h2⟩ : Own w F (os ++ ot) _).mono (fun _ h => ⟨h, rfl⟩) fun _ _ => rfl, hs.fin, fun c hc => hs.gin c ((hi c).2 hc), hs.sub, ⟨hs.chg.os, hs.chg.tape, hs.chg.output, hs.chg.size, Nat.le_succ_of_le hs.chg.drawn, hs.chg.block⟩, hs.size, hs.defs⟩
 have := h l.toArray.size _ hok hsel hlt a _ F Gs Gt (fun a' w' => ∃ s', Sim n X s' a' w' ∧ K .normal s') hs' hd (h1.mono (fun _ h => ⟨h, rfl⟩) fun _ _ => rfl) (h2.mono (fun _ h => ⟨h, rfl⟩) fun _ _ => rfl) (fun a' w' s' h1 h2 => ⟨s', h1, h2⟩)
 refine Code.wp_mono (fun ex a' w' h' => ?_) (wp_region_any (Q := Y3w fun a' w' => ∃ s', Sim n X s' a' w' ∧ K .normal s') hm (Y3r _ _ _ _ _ this))
 cases ex with
 | normal => exact h'
 | _ => exact h'.elim
end
end Go.Abs
namespace Go.Abs
open Go


theorem ob {α β : Type} {x : Option α} {f : α → Option β} {b : β} (h : x.bind f = some b) : ∃ a, x = some a ∧ f a = some b := Option.bind_eq_some_iff.1 h
theorem Y43 {α : Type} {e : Bool} {A B r : Option α} (hb : e = true) (h : cond e A B = r) : A = r := by rw [hb] at h; exact h
theorem Y44 {α : Type} {e : Bool} {A B r : Option α} (hb : e = false) (h : cond e A B = r) : B = r := by rw [hb] at h; exact h
theorem tf (b : Bool) : b = true ∨ b = false := by cases b <;> simp

theorem ob' {α β : Type} {x : Option α} {f : α → Option β} {b : β} {Q : Prop} (h : x.bind f = some b) (k : ∀ a, x = some a → f a = some b → Q) : Q := let ⟨a, h1, h2⟩ := ob h; k a h1 h2
theorem tf' (b : Bool) {Q : Prop} (h1 : b = true → Q) (h2 : b = false → Q) : Q := (tf b).elim h1 h2

def chk (b : Bool) : Option Unit := cond b (some ()) none
theorem Y45 {b : Bool} {u : Unit} (h : chk b = some u) : b = true := by cases b <;> simp [chk] at h ⊢

theorem Y46 {b : Bool} (h : b = true) : (!b) = false := by rw [h]; rfl
theorem Y47 {b : Bool} (h : b = false) : (!b) = true := by rw [h]; rfl
theorem Y48 {j : Int} {u : Unit} (h : chk (j != 0) = some u) : j ≠ 0 := by have := Y45 h; simpa using this
theorem Y49 {a b c : Nat} (hc : 0 < c) {u : Unit} (h : chk (decide ((a + b) * c ≤ 140737488355328)) = some u) : a + b ≤ 9223372036854775807 := by
 have h1 := Wo (Y45 h)
 have : a + b ≤ (a + b) * c := Nat.le_mul_of_pos_right _ hc
 omega
theorem Y4a {i c : Int} {u : Unit} (h : chk (decide (0 ≤ i ∧ i * c ≤ 140737488355328)) = some u) : 0 ≤ i ∧ i * c ≤ 140737488355328 := Wo (Y45 h)
theorem Y4b {i c : Int} (hc : 0 < c) {u : Unit} (h : chk (decide (0 ≤ i ∧ i * c ≤ 140737488355328)) = some u) : i ≤ 9223372036854775807 := by
 obtain ⟨h1, h2⟩ := Y4a h
 have h3 : i * 1 ≤ i * c := Int.mul_le_mul_of_nonneg_left (by omega) h1
 omega
def Y4c (k : IntKind) (i j : Int) : Int := k.wrap (BitVec.ofInt k.bits i ^^^ BitVec.ofInt k.bits j).toNat
def shlI (k : IntKind) (i j : Int) : Int := k.wrap (i * 2 ^ (min j.toNat k.bits))
def shrI (k : IntKind) (i j : Int) : Int := i.fdiv (2 ^ (min j.toNat k.bits))

def iter {τ ω : Type} (step : τ → Option (τ ⊕ ω)) : Nat → τ → Option ω
 | 0, _ => none
 | k + 1, x => (step x).bind fun y => match y with
  | .inl x' => iter step k x'
  | .inr o => some o

def Y4d {τ ω : Type} (step : τ → Option (τ ⊕ ω)) (k : Nat) : τ ⊕ ω → Option ω
 | .inl x' => iter step k x'
 | .inr o => some o

theorem Y4e {τ ω : Type} {step : τ → Option (τ ⊕ ω)} {k : Nat} {x : τ} {o : ω} (h : iter step k x = some o) : ∃ k' y, k = k' + 1 ∧ step x = some y ∧ Y4d step k' y = some o := by
 cases k with
 | zero => cases h
 | succ k =>
  obtain ⟨y, h1, h2⟩ := ob h
  refine ⟨k, y, rfl, h1, ?_⟩
  cases y <;> exact h2

theorem Y4f {τ ω : Type} {step : τ → Option (τ ⊕ ω)} {k : Nat} {x : τ} {o : ω} {Q : Prop} (h : iter step k x = some o) (m : ∀ k' y, k' < k → step x = some y → Y4d step k' y = some o → Q) : Q :=
 let ⟨k', y, e, h1, h2⟩ := Y4e h
 m k' y (e ▸ Nat.lt_succ_self k') h1 h2

def big : Nat := 2 ^ 64


def Imp (c c' : C) : Prop := ∀ w F v, c.rep w F v → c'.rep w F v
theorem Imp.refl (c : C) : Imp c c := fun _ _ _ h => h
theorem Imp.any (c : C) : Imp c .any := fun _ _ _ _ => trivial
theorem Imp.nil {α : Type} (k : α → List C) (sz : Nat) : Imp (.val (.slice none 0 0)) (.im k sz []) := fun w F v h => by
 rw [show v = _ from h]
 exact ⟨none, 0, rfl, Nat.le_refl _, fun i x hx => by simp at hx⟩

inductive Imps : List C → List C → Prop
 | nil : Imps [] []
 | cons {c c' : C} {cs cs' : List C} (h : Imp c c') (k : Imps cs cs') : Imps (c :: cs) (c' :: cs')

theorem Imps.cells {w : World} {F : BSet} {cs cs' : List C} (h : Imps cs cs') : ∀ {vs : List Value}, Y1 w F cs vs → Y1 w F cs' vs := by
 induction h with
 | nil => exact fun h => h
 | cons h _ ih => rintro _ ⟨v, r, rfl, h1, h2, h3⟩; exact ⟨v, r, rfl, h _ _ _ h1, h2, ih h3⟩
theorem Imps.reps {w : World} {F : BSet} {cs cs' : List C} (h : Imps cs cs') : ∀ {vs : List Value}, Reps w F cs vs → Reps w F cs' vs := by
 induction h with
 | nil => exact fun h => h
 | cons h _ ih => rintro _ ⟨v, r, rfl, h1, h3⟩; exact ⟨v, r, rfl, h _ _ _ h1, ih h3⟩
theorem Imp.agg {cs cs' : List C} (h : Imps cs cs') : Imp (.agg cs) (.agg cs') := fun _ _ _ ⟨vs, e, hc⟩ => ⟨vs, e, h.cells hc⟩
theorem Imp.tup {cs cs' : List C} (h : Imps cs cs') : Imp (.tup cs) (.tup cs') := fun _ _ _ ⟨vs, e, hc⟩ => ⟨vs, e, h.reps hc⟩
theorem Imps.refl : ∀ cs : List C, Imps cs cs
 | [] => .nil
 | c :: cs => .cons (Imp.refl c) (Imps.refl cs)

section
variable {P : Program} {n : Nat} {X : Ctx}

theorem Y25.imp {e : Env} {o : List Obj} {t : Nat} {c c' : C} (ht : get e t = some c) (h : Imp c c') : Y25 n X ⟨e, o⟩ ⟨(t, c') :: e, o⟩ := by
 rintro a w ⟨F, G, hs⟩
 refine ⟨F, G, ⟨fun i d hi => ?_, hs.own, hs.fin, hs.gin, hs.sub, hs.chg, hs.size, hs.defs⟩⟩
 by_cases e1 : t = i
 ·
  subst e1
  rw [Ya] at hi
  cases hi
  exact h _ _ _ (hs.env t c ht)
 ·
  rw [Yb _ _ e1] at hi
  exact hs.env i d hi

theorem Ok.pre {f : FuncId} {cs cs' : List C} {os : List Obj} {R : C → List Obj → Prop} (h : Ok P f cs' os R) (k : Imps cs cs') : Ok P f cs os R :=
 ⟨h.1, fun w F G vals h1 h2 h3 => h.2 w F G vals (k.reps h1) h2 h3⟩

theorem Y4g {zs : List Value} {cs : List C} (h : cs = zs.map C.val) (h1 : (zs.all fun v => v.oneCell') = true) : ∀ w F, Y1 w F cs zs := by
 subst h
 intro w F
 induction zs with
 | nil => rfl
 | cons v r ih =>
  simp only [List.all_cons, Bool.and_eq_true] at h1
  exact ⟨v, r, rfl, rfl, h1.1, ih h1.2⟩

theorem Y4h {α : Type} {k : α → List C} {sz E : Nat} {v : Value} {xs : List α} {w : World} {F G1 F' : BSet} (h : (Obj.arr v E k sz xs).rep w F G1) (hF : ∀ b, F b → F' b) (hG : ∀ b, G1 b → F' b) : (C.im k sz xs).rep w F' v := by
 obtain ⟨⟨vs, hrow, hf⟩, hg⟩ := h
 rcases hrow.2 with ⟨rfl, h0⟩ | ⟨g, cap, cur, rfl, _, hb, hnc, _⟩
 ·
  have : xs = [] := List.eq_nil_of_length_eq_zero h0
  subst this
  exact ⟨none, 0, rfl, Nat.le_refl _, fun i x hx => by simp at hx⟩
 ·
  refine ⟨_, cap, rfl, hnc, fun i x hx => ?_⟩
  obtain ⟨us, hl, hcl, hus⟩ := hf.get hx
  refine ⟨g, 0, us, rfl, hG g ((hg g).2 rfl), hl, fun j u hu => ?_, hcl.mono fun b hb => ⟨hF b hb, rfl⟩⟩
  have := hrow.cells (g := g) rfl _ u (hus j u hu)
  rwa [Y1d, ← Nat.add_assoc] at this

def Frz (c : C) (qs : List Obj) (c' : C) : Prop := ∀ w F G F' v, c.rep w F v → Own w F qs G → (∀ b, F b → F' b) → (∀ b, G b → F' b) → c'.rep w F' v

theorem Frz.same (c : C) : Frz c [] c := fun _ _ _ _ _ h _ hF _ => C.mono _ h fun b hb => ⟨hF b hb, rfl⟩
theorem Frz.arr {α : Type} {k : α → List C} {sz E : Nat} {v : Value} {xs : List α} : Frz (.val v) [.arr v E k sz xs] (.im k sz xs) := fun w F G F' u h ho hF hG => by
 rw [show u = v from h]
 exact Y4h ho.only hF hG

def FrzL (cs : List C) (qs : List Obj) (cs' : List C) : Prop := ∀ w F G F' vs, Y1 w F cs vs → Own w F qs G → (∀ b, F b → F' b) → (∀ b, G b → F' b) → Y1 w F' cs' vs
theorem FrzL.nil : FrzL [] [] [] := fun _ _ _ _ _ h _ _ _ => h
theorem FrzL.cons {c c' : C} {cs cs' : List C} {os qs : List Obj} (h : Frz c os c') (k : FrzL cs qs cs') : FrzL (c :: cs) (os ++ qs) (c' :: cs') := by
 rintro w F G F' _ ⟨v, r, rfl, h1, h2, h3⟩ ho hF hG
 obtain ⟨G1, G2, hi, _, o1, o2⟩ := Own.append.1 ho
 exact ⟨v, r, rfl, h _ _ _ _ _ h1 o1 hF fun b hb => hG b ((hi b).2 (.inl hb)), h2, k _ _ _ _ _ h3 o2 hF fun b hb => hG b ((hi b).2 (.inr hb))⟩
theorem Frz.agg {cs cs' : List C} {qs : List Obj} (h : FrzL cs qs cs') : Frz (.agg cs) qs (.agg cs') := fun w F G F' v ⟨vs, e, hc⟩ ho hF hG => ⟨vs, e, h _ _ _ _ _ hc ho hF hG⟩
def FrzT (cs : List C) (qs : List Obj) (cs' : List C) : Prop := ∀ w F G F' vs, Reps w F cs vs → Own w F qs G → (∀ b, F b → F' b) → (∀ b, G b → F' b) → Reps w F' cs' vs
theorem FrzT.nil : FrzT [] [] [] := fun _ _ _ _ _ h _ _ _ => h
theorem FrzT.cons {c c' : C} {cs cs' : List C} {os qs : List Obj} (h : Frz c os c') (k : FrzT cs qs cs') : FrzT (c :: cs) (os ++ qs) (c' :: cs') := by
 rintro w F G F' _ ⟨v, r, rfl, h1, h3⟩ ho hF hG
 obtain ⟨G1, G2, hi, _, o1, o2⟩ := Own.append.1 ho
 exact ⟨v, r, rfl, h _ _ _ _ _ h1 o1 hF fun b hb => hG b ((hi b).2 (.inl hb)), k _ _ _ _ _ h3 o2 hF fun b hb => hG b ((hi b).2 (.inr hb))⟩
theorem Frz.tup {cs cs' : List C} {qs : List Obj} (h : FrzT cs qs cs') : Frz (.tup cs) qs (.tup cs') := fun w F G F' v ⟨vs, e, hc⟩ ho hF hG => ⟨vs, e, h _ _ _ _ _ hc ho hF hG⟩

theorem Ok.freeze {f : FuncId} {cs : List C} {os : List Obj} {R : C → List Obj → Prop} {c' : C} (h : Ok P f cs os R) (k : ∀ c qs, R c qs → Frz c qs c') : Ok P f cs os fun c qs => c = c' ∧ qs = [] :=
 ⟨h.1, fun w F G vals h1 h2 h3 => (h.2 w F G vals h1 h2 h3).mono fun _ w' ⟨v, c, qs, F', G', he, hr, hc, ht⟩ => by
  refine ⟨v, c', [], fun b => F' b ∨ G' b, fun _ => False, he, ⟨rfl, rfl⟩, k c qs hr w' F' G' _ v hc ht.own (fun _ h => .inl h) (fun _ h => .inr h), ⟨fun _ h => h, fun b hb => .inl (ht.sub b hb), fun b hb => ?_, fun _ h => h.elim, ht.chg⟩⟩
  rcases hb with hb | hb
  ·
   exact ht.fin b hb
  ·
   exact ⟨(ht.gin b hb).1, .inr (ht.gin b hb).2.2⟩⟩

def Y4i (c : C) : Prop := ∀ w F w' F' v, c.rep w F v → c.rep w' F' v
theorem Y4i.val (x : Value) : Y4i (.val x) := fun _ _ _ _ _ h => h
theorem Y4i.any : Y4i .any := fun _ _ _ _ _ h => h
def Y4j (cs : List C) : Prop := ∀ c ∈ cs, Y4i c
theorem Y4j.cells {cs : List C} (h : Y4j cs) {w w' : World} {F F' : BSet} : ∀ {vs : List Value}, Y1 w F cs vs → Y1 w' F' cs vs := by
 induction cs with
 | nil => exact fun h => h
 | cons c cs ih => rintro _ ⟨v, r, rfl, h1, h2, h3⟩; exact ⟨v, r, rfl, h c (by simp) _ _ _ _ _ h1, h2, ih (fun c hc => h c (by simp [hc])) h3⟩
theorem Y4j.reps {cs : List C} (h : Y4j cs) {w w' : World} {F F' : BSet} : ∀ {vs : List Value}, Reps w F cs vs → Reps w' F' cs vs := by
 induction cs with
 | nil => exact fun h => h
 | cons c cs ih => rintro _ ⟨v, r, rfl, h1, h3⟩; exact ⟨v, r, rfl, h c (by simp) _ _ _ _ _ h1, ih (fun c hc => h c (by simp [hc])) h3⟩
theorem Y4j.nil : Y4j [] := fun _ h => by cases h
theorem Y4j.cons {c : C} {cs : List C} (h : Y4i c) (k : Y4j cs) : Y4j (c :: cs) := fun d hd => by
 rcases List.mem_cons.1 hd with rfl | hd
 ·
  exact h
 ·
  exact k d hd
theorem Y4i.agg {cs : List C} (h : Y4j cs) : Y4i (.agg cs) := fun _ _ _ _ _ ⟨vs, e, hc⟩ => ⟨vs, e, h.cells hc⟩
theorem Y4i.tup {cs : List C} (h : Y4j cs) : Y4i (.tup cs) := fun _ _ _ _ _ ⟨vs, e, hc⟩ => ⟨vs, e, h.reps hc⟩
def Y4k (o : Obj) : Prop := ∀ w F F' G, o.rep w F G → o.rep w F' G
theorem Flat.plain {α : Type} {k : α → List C} {sz : Nat} (h : ∀ x, Y4j (k x)) {w : World} {F F' : BSet} : ∀ {xs : List α} {vs : List Value}, Flat w F k sz xs vs → Flat w F' k sz xs vs
 | [], _, h => h
 | _ :: _, _, ⟨a, r, e, hl, h1, h2⟩ => ⟨a, r, e, hl, (h _).cells h1, h2.plain h⟩
theorem Y4k.arr {α : Type} {k : α → List C} {sz E : Nat} {v : Value} {xs : List α} (h : ∀ x, Y4j (k x)) : Y4k (.arr v E k sz xs) := fun _ _ _ _ ⟨⟨vs, hr, hf⟩, hg⟩ => ⟨⟨vs, hr, hf.plain h⟩, hg⟩
theorem Y4k.box {b T : Nat} {cs : List C} (h : Y4j cs) : Y4k (.box b T cs) := fun _ _ _ _ ⟨hg, vs, hb, hc⟩ => ⟨hg, vs, hb, h.cells hc⟩
theorem Own.plain {w : World} {F F' : BSet} : ∀ {os : List Obj} {G : BSet}, (∀ o ∈ os, Y4k o) → Own w F os G → Own w F' os G
 | [], _, _, h => h
 | o :: _, _, hp, ⟨G1, G2, hi, hd, h1, h2⟩ => ⟨G1, G2, hi, hd, hp o (by simp) _ _ _ _ h1, h2.plain fun o ho => hp o (by simp [ho])⟩

def Lend (cs : List C) (ps : List Obj) (cs' : List C) : Prop := FrzT cs ps cs'

theorem Ok.lend {f : FuncId} {cs cs' : List C} {ps : List Obj} {R : C → List Obj → Prop} (h : Ok P f cs' [] R) (k : Lend cs ps cs') (hpl : ∀ c qs, R c qs → Y4i c ∧ ∀ o ∈ qs, Y4k o) :
  Ok P f cs ps fun c qs => ∃ qs', R c qs' ∧ qs = qs' ++ ps := by
 refine ⟨h.1, fun w F G vals h1 h2 h3 => ?_⟩
 have hfit : Fit w (fun b => F b ∨ G b) (fun _ => False) := ⟨fun b hb => hb.elim (h3.fin b) fun hb => (h3.gin b hb).1, fun _ h => h.elim, h3.glob.mono fun b hb => ⟨.inl hb, rfl⟩⟩
 refine (h.2 w (fun b => F b ∨ G b) (fun _ => False) vals (k w F G _ vals h1 h2 (fun _ h => .inl h) fun _ h => .inr h) (fun _ h => h) hfit).mono fun _ w' ⟨v, c, qs, F', G', he, hr, hc, ht⟩ => ?_
 obtain ⟨hpc, hpo⟩ := hpl c qs hr
 have hG : ∀ b, G b → w'.heap[b]? = w.heap[b]? := fun b hb => ht.chg.block b (h3.gin b hb).1 fun h => h
 have hF : ∀ b, F b → F b ∧ w'.heap[b]? = w.heap[b]? := fun b hb => ⟨hb, ht.chg.block b (h3.fin b hb) fun h => h⟩
 have hnew : ∀ b, G' b → w.heap.size ≤ b := fun b hb => (ht.gin b hb).2.2.resolve_left fun h => h
 refine ⟨v, c, qs ++ ps, F, fun b => G' b ∨ G b, he, ⟨qs, hr, rfl⟩, hpc _ _ _ _ _ hc, ⟨Own.append.2 ⟨G', G, fun _ => Iff.rfl, fun b hb hg => ?_, ht.own.plain hpo, h2.mono hF hG⟩, fun _ h => h, fun b hb => ⟨Nat.lt_of_lt_of_le (h3.fin b hb) ht.chg.size, .inl hb⟩, fun b hb => ?_, ⟨ht.chg.os, ht.chg.tape, ht.chg.output, ht.chg.size, ht.chg.drawn, fun b hb _ => ht.chg.block b hb fun h => h⟩⟩⟩
 ·
  have := hnew b hb; have := (h3.gin b hg).1; omega
 ·
  rcases hb with hb | hb
  ·
   exact ⟨(ht.gin b hb).1, fun hf => by have := hnew b hb; have := h3.fin b hf; omega, .inr (hnew b hb)⟩
  ·
   exact ⟨Nat.lt_of_lt_of_le (h3.gin b hb).1 ht.chg.size, (h3.gin b hb).2, .inl hb⟩

theorem Y4l : ∀ o ∈ ([] : List Obj), Y4k o := fun _ h => by cases h
theorem Y4m {o : Obj} {os : List Obj} (h : Y4k o) (k : ∀ o ∈ os, Y4k o) : ∀ p ∈ o :: os, Y4k p := fun p hp => by
 rcases List.mem_cons.1 hp with rfl | hp
 ·
  exact h
 ·
  exact k p hp

theorem Ok.lendE {f : FuncId} {cs cs' : List C} {ps : List Obj} {c1 : C} (h : Ok P f cs' [] fun c qs => c = c1 ∧ qs = []) (k : FrzT cs ps cs') (hpl : Y4i c1) : Ok P f cs ps fun c qs => c = c1 ∧ qs = ps :=
 (Ok.lend h k fun c qs ⟨h1, h2⟩ => by subst h1; subst h2; exact ⟨hpl, fun o ho => by cases ho⟩).mono fun c qs ⟨qs', ⟨h1, h2⟩, h3⟩ => by subst h2; exact ⟨h1, h3⟩
end
end Go.Abs
namespace Go.Abs
open Go Go.ChangeShapes Go.WideShapes Go.RowKit

def OldF (w : World) : BSet := fun b => b < w.heap.size

structure Y4n (P : Program) (t : TypeId) {α : Type} (k : α → List C) (good : α → Prop) : Prop where
 out : ∀ {H : Type} {enc : TypeId × Value → H} {w : World} {base : Nat} {spare : Nat → Bool} {held : Bool} {fuel : Nat} {cs : List Value} {x : DataW H × List MemPlace},
  DataW.trod enc P w base spare held fuel t cs = some x → ∃ a, good a ∧ Y1 w (OldF w) (k a) cs

section
variable {P : Program} {t : TypeId} {α β γ : Type}

theorem Y4n.int {kd : IntKind} (ht : P.underlying t = some (.int kd)) : Y4n P t (fun i : Int => [C.val (.int kd i)]) (fun i => kd.min ≤ i ∧ i ≤ kd.max) := by
 constructor
 intro H enc w base spare held fuel cs x h
 obtain ⟨n, rfl, _, hw⟩ := DataW.trod_int ht h
 simp [Lit.wf] at hw
 exact ⟨n, hw, .int kd n, [], rfl, rfl, rfl, rfl⟩

theorem Y4n.bool (ht : P.underlying t = some .bool) : Y4n P t (fun b : Bool => [C.bool b]) (fun _ => True) := by
 constructor
 intro H enc w base spare held fuel cs x h
 obtain ⟨b, rfl, _⟩ := DataW.trod_bool ht h
 exact ⟨b, trivial, .bool b, [], rfl, rfl, rfl, rfl⟩

theorem Y4n.string (ht : P.underlying t = some .string) : Y4n P t (fun s : ByteArray => [C.str s]) (fun s => s.size ≤ maxLen) := by
 constructor
 intro H enc w base spare held fuel cs x h
 obtain ⟨s, rfl, _, hs⟩ := DataW.trod_string ht h
 exact ⟨s, hs, .string s, [], rfl, rfl, rfl, rfl⟩

theorem Y4o {p : Nat → α → Prop} : ∀ n : Nat, (∀ i, i < n → ∃ y, p i y) → ∃ ys : List α, ys.length = n ∧ ∀ i y, ys[i]? = some y → p i y
 | 0, _ => ⟨[], rfl, fun i y h => by simp at h⟩
 | n + 1, h => by
  obtain ⟨ys, hl, hy⟩ := Y4o n fun i hi => h i (Nat.lt_succ_of_lt hi)
  obtain ⟨y, hn⟩ := h n (Nat.lt_succ_self n)
  refine ⟨ys ++ [y], by simp [hl], fun i z hz => ?_⟩
  by_cases hi : i < ys.length
  ·
   rw [List.getElem?_append_left hi] at hz; exact hy i z hz
  ·
   rw [List.getElem?_append_right (by omega)] at hz
   have : i - ys.length = 0 := by
    have := (List.getElem?_eq_some_iff.1 hz).1
    simp at this; omega
   rw [this] at hz
   simp at hz
   subst hz
   rw [show i = n from by omega]
   exact hn

theorem Y4p {w : World} {a : Addr} {u : Value} (h : w.cell? a = some u) : a = ⟨a.block, a.off, none⟩ ∧ a.block < w.heap.size := by
 unfold World.cell? at h
 split at h
 ·
  rename_i c t fr hb
  split at h
  ·
   cases h
  ·
   rename_i hs
   refine ⟨?_, ?_⟩
   ·
    cases a with
    | mk b o s => cases s with
     | none => rfl
     | some _ => simp at hs
   ·
    exact (Array.getElem?_eq_some_iff.1 hb).1
 ·
  cases h

theorem Y4n.slice {e sz : Nat} {k : α → List C} {good : α → Prop} (ht : P.underlying t = some (.slice e)) (he : Y4n P e k good) (hsz : P.cellsOf e = sz) (hpos : 0 < sz) :
  Y4n P t (fun xs : List α => [C.im k sz xs]) (fun xs => xs.length ≤ maxLen ∧ ∀ x ∈ xs, good x) := by
 constructor
 intro H enc w base spare held fuel cs x h
 rcases Deep.open_slice ht h with ⟨rfl, _⟩ | ⟨a, len, cap, m, n, D, Pl, rfl, _, hl, hm, hmm, _, hx⟩
 ·
  exact ⟨[], ⟨Nat.zero_le _, fun _ h => by cases h⟩, .slice none 0 0, [], rfl, ⟨none, 0, rfl, Nat.le_refl _, fun i x hx => by simp at hx⟩, rfl, rfl⟩
 ·
  have hlm : len ≤ m := by rw [hmm]; split <;> omega
  obtain ⟨ys, hyl, hy⟩ := Y4o (p := fun i y => good y ∧ ∃ cs', w.cells? base (a.add (i * P.cellsOf e)) (P.cellsOf e) = some cs' ∧ Y1 w (OldF w) (k y) cs') len fun i hi => by
   obtain ⟨cs', h1, h2⟩ := hx i (by omega)
   obtain ⟨y, hg, hc⟩ := he.out h2
   exact ⟨y, hg, cs', h1, hc⟩
  refine ⟨ys, ⟨by omega, fun y hyy => ?_⟩, .slice (some a) len cap, [], rfl, ⟨some a, cap, by rw [hyl], by omega, fun i y hiy => ?_⟩, rfl, rfl⟩
  ·
   obtain ⟨i, hi⟩ := List.mem_iff_getElem?.1 hyy
   exact (hy i y hi).1
  ·
   have hlen : 0 < ys.length := by have := (List.getElem?_eq_some_iff.1 hiy).1; omega
   obtain ⟨_, cs0, h0, _⟩ := hy 0 _ (We hlen)
   obtain ⟨_, hl0, hc0⟩ := World.cells?_some h0
   have h00 := hc0 0 (by omega)
   rw [hsz, Nat.zero_mul] at h00
   have hcell : ∃ u, w.cell? a = some u := by
    have e1 : (a.add 0).add 0 = a := by simp [Addr.add]
    rw [e1, We (by omega)] at h00
    exact ⟨_, h00⟩
   obtain ⟨u, hu⟩ := hcell
   obtain ⟨ea, hlt⟩ := Y4p hu
   obtain ⟨_, cs', h1, hc⟩ := hy i y hiy
   obtain ⟨_, hl1, hc1⟩ := World.cells?_some h1
   refine ⟨a.block, a.off, cs', congrArg some ea, hlt, by rw [hl1, hsz], fun j v hv => ?_, hc⟩
   have hj : j < cs'.length := (List.getElem?_eq_some_iff.1 hv).1
   have := hc1 j (by omega)
   rw [hv, ea, Y1d, Y1d, hsz] at this
   exact this

structure Y4q (P : Program) (fs : List Field) (off m : Nat) (k : γ → List C) (good : γ → Prop) : Prop where
 out : ∀ {H : Type} {enc : TypeId × Value → H} {w : World} {base : Nat} {spare : Nat → Bool} {held : Bool} {n : Nat} {cs : List Value},
  (∀ f ∈ fs, ∃ x : DataW H × List MemPlace, DataW.trod enc P w base spare held n f.type ((cs.drop f.offset).take (P.cellsOf f.type)) = some x) → ∃ g, good g ∧ Y1 w (OldF w) (k g) ((cs.drop off).take m)

theorem Y4q.nil {off : Nat} : Y4q P [] off 0 (fun _ : Unit => []) (fun _ => True) := ⟨fun _ => ⟨(), trivial, by simp [Y1]⟩⟩
theorem Y4q.cons {f : Field} {fs : List Field} {off sz m : Nat} {k : α → List C} {good : α → Prop} {k' : γ → List C} {good' : γ → Prop} (ho : f.offset = off) (hs : P.cellsOf f.type = sz) (h : Y4n P f.type k good) (hk : Y4q P fs (off + sz) m k' good') :
  Y4q P (f :: fs) off (sz + m) (fun g : α × γ => k g.1 ++ k' g.2) (fun g => good g.1 ∧ good' g.2) := by
 constructor
 intro H enc w base spare held n cs hx
 obtain ⟨x, h1⟩ := hx f (by simp)
 obtain ⟨a, ha, hc⟩ := h.out h1
 obtain ⟨g, hg, hc'⟩ := hk.out fun f' hf' => hx f' (by simp [hf'])
 refine ⟨(a, g), ⟨ha, hg⟩, ?_⟩
 rw [List.take_add, List.drop_drop]
 rw [ho, hs] at hc
 exact hc.append hc'

theorem Y4n.struct {fs : Array Field} {k : γ → List C} {good : γ → Prop} {m : Nat} (ht : P.underlying t = some (.struct fs)) (h : Y4q P fs.toList 0 m k good) (hm : P.cellsOf t = m) : Y4n P t k good := by
 constructor
 intro H enc w base spare held fuel cs x hx
 obtain ⟨xs, n, _, _, hl, hxl, hf⟩ := DataW.trod_struct ht hx
 obtain ⟨g, hg, hc⟩ := h.out (H := H) (enc := enc) (w := w) (base := base) (spare := spare) (held := held) (n := n) (cs := cs) fun f hff => by
  obtain ⟨i, hi⟩ := List.mem_iff_getElem?.1 hff
  have hi' : fs[i]? = some f := by simpa using hi
  have hlt : i < xs.length := by rw [hxl]; exact (Array.getElem?_eq_some_iff.1 hi').1
  exact ⟨xs[i], by rw [hf i f hi', We hlt]⟩
 refine ⟨g, hg, ?_⟩
 rw [List.drop_zero, List.take_of_length_le (by omega)] at hc
 exact hc

theorem Y4n.map {k : γ → List C} {good : γ → Prop} {k' : α → List C} {good' : α → Prop} (f : γ → α) (h : Y4n P t k good) (e : ∀ g, k' (f g) = k g) (hg : ∀ g, good g → good' (f g)) : Y4n P t k' good' := by
 constructor
 intro H enc w base spare held fuel cs x hx
 obtain ⟨g, h1, h2⟩ := h.out hx
 exact ⟨f g, hg g h1, by rw [e]; exact h2⟩


structure Y4r (P : Program) (ts : List TypeId) (k : γ → List C) (good : γ → Prop) : Prop where
 out : ∀ {H : Type} {enc : TypeId × Value → H} {w : World} {r : Reach} {b0 base : Nat} {spare : Nat → Bool} {held : Bool} {vs : List Value} {ds : List (DataW H)} {ps : List MemPlace},
  (∀ (j : Nat) t v, ts[j]? = some t → vs[j]? = some v → Value.okWide P w r b0 t v) → DataW.TrodAll enc P w base spare held ts vs ds ps → ∃ g, good g ∧ Reps w (OldF w) (k g) vs

theorem Y4r.nil : Y4r P [] (fun _ : Unit => []) (fun _ => True) := by
 constructor
 intro H enc w r b0 base spare held vs ds ps _ h
 match vs, ds, h with
 | [], [], _ => exact ⟨(), trivial, rfl⟩

def Y4s : TypeDesc → Bool
 | .bool | .int _ | .string | .slice _ => true
 | _ => false

theorem Y4t {w : World} {r : Reach} {b0 : Nat} {d : TypeDesc} {v : Value} (ht : P.underlying t = some d) (hd : Y4s d = true) (h : Value.okWide P w r b0 t v) : v.cells.toList = [v] := by
 cases d <;> simp [Y4s] at hd
 ·
  obtain ⟨b, rfl⟩ := okWide_bool ht h; rfl
 ·
  obtain ⟨n, rfl⟩ := okWide_int ht h; rfl
 ·
  obtain ⟨s, rfl⟩ := okWide_string ht h; rfl
 ·
  obtain ⟨a, l, c, rfl⟩ := okWide_slice ht h; rfl

theorem Y4r.cons {ts : List TypeId} {d : TypeDesc} {c : α → C} {good : α → Prop} {k' : γ → List C} {good' : γ → Prop} (ht : P.underlying t = some d) (hd : Y4s d = true) (h : Y4n P t (fun a => [c a]) good) (hk : Y4r P ts k' good') :
  Y4r P (t :: ts) (fun g : α × γ => c g.1 :: k' g.2) (fun g => good g.1 ∧ good' g.2) := by
 constructor
 intro H enc w r b0 base spare held vs ds ps hval h0
 match vs, ds, h0 with
 | v :: vs, dd :: ds, ⟨p, q, ⟨fuel, h1⟩, h2, _⟩ =>
  rw [Y4t ht hd (hval 0 t v rfl rfl)] at h1
  obtain ⟨a, ha, u, r', e, hc, _, _⟩ := h.out h1
  cases e
  obtain ⟨g, hg, hr⟩ := hk.out (fun j t' v' hj hv => hval (j + 1) t' v' (by simpa using hj) (by simpa using hv)) h2
  exact ⟨(a, g), ⟨ha, hg⟩, v, vs, rfl, hc, hr⟩

theorem Y4u {H : Type} {enc : TypeId × Value → H} {W W' : World} (hl : laidOutB P = true) (hb : Below W.heap.size W W') : ∀ {ts : List TypeId} {vs : List Value} {ds : List (DataW H)} {ps : List MemPlace},
  (ts.all fun t => P.readableRec t && decide (t < P.types.size)) = true → DataW.TrodAll enc P W 0 (fun _ => true) true ts vs ds ps → (∀ x ∈ ps, x.block < W.heap.size) →
  DataW.TrodAll enc P W' 0 (fun b => decide (b < W.heap.size)) true ts vs ds ps
 | [], [], [], _, _, h, _ => h
 | t :: ts, v :: vs, d :: ds, _, hr, ⟨p, q, h1, h2, e⟩, hlt => by
  subst e
  simp only [List.all_cons, Bool.and_eq_true, decide_eq_true_eq] at hr
  exact ⟨p, q, Below.trod hl hr.1.1 hr.1.2 h1 hb fun x hx => hlt x (List.mem_append.2 (.inl hx)), Y4u hl hb hr.2 h2 fun x hx => hlt x (List.mem_append.2 (.inr hx)), rfl⟩
 | [], [], _ :: _, _, _, h, _ => h.elim
 | [], _ :: _, _, _, _, h, _ => h.elim
 | _ :: _, [], _, _, _, h, _ => h.elim
 | _ :: _, _ :: _, [], _, _, h, _ => h.elim

theorem Ok.calls {f : FuncId} {cs : List C} {c1 : Value} {W : World} {args : Array Value} (hgl : Glob W (OldF W)) (h : Ok P f cs [] fun c qs => c = C.val c1 ∧ qs = []) (hr : Reps W (OldF W) cs args.toList) : Calls P f args W fun e W' => e = .returned c1 ∧ Below W.heap.size W W' := by
 have := h.2 W (OldF W) (fun _ => False) args.toList hr (fun _ h => h) ⟨fun _ h => h, fun _ h => h.elim, hgl⟩
 rw [Array.toArray_toList] at this
 refine this.mono fun e W' ⟨v, c, qs, F', G', he, ⟨hc, hq⟩, hv, ht⟩ => ?_
 subst hc
 rw [show v = c1 from hv] at he
 exact ⟨he, ht.chg.os, ht.chg.tape, ht.chg.output, ht.chg.size, fun b hb => ht.chg.block b hb fun h => h⟩

theorem Y4v {w : World} {b off : Nat} {u : Value} (h : w.cell? ⟨b, off, none⟩ = some u) : b < w.heap.size := (Y4p h).2
theorem Y4w {C : Checked} {f : FuncId} {fn : Func} {s : ChangeSpec} {fresh handsOn : Bool} {H : Type} {enc : TypeId × Value → H} {k : γ → List Abs.C} {good : γ → Prop} {tb : TypeId} {ts : List TypeId}
  (hl : laidOutB C.prog = true) (hts : fn.params = ts.toArray) (hrd : (ts.all fun t => C.prog.readableRec t && decide (t < C.prog.types.size)) = true) (hres : fn.resultTypes = #[tb]) (htb : C.prog.underlying tb = some .bool)
  (hvars : s.vars = []) (hspec : ∀ ds : List (DataW H), ds.length = ts.length → s.fn H ds = { results := [.lit (.bool true)], args := ds })
  (ho : Y4r C.prog ts k good) (law : ∀ g, good g → Ok C.prog f (k g) [] fun c qs => c = Abs.C.bool true ∧ qs = [])
  (gl : ∀ w : World, w.ShapedOpen C.prog → ∀ q, GlbP q → ∃ m, w.cell? ⟨q, 0, none⟩ = some (.int .i64 m))
  (W : World) (base : Nat) (args : Array Value) (ds gs : List (DataW H)) (before : List MemPlace)
  (hval : ∀ (j : Nat) t v, fn.params[j]? = some t → args[j]? = some v → Value.okWide C.prog W .any base t v)
  (hW : DataW.Whole enc C.prog fn.params.toList s.vars false W args.toList ds gs before) (hsh : W.ShapedOpen C.prog) :
  Calls C.prog f args W fun e W' => ∃ v, e = .returned v ∧ s.post enc C.prog fn false fresh handsOn false W args v W' := by
 have hW' := hW
 obtain ⟨p, q, hA, hV, rfl, _, _⟩ := hW
 rw [hvars] at hV
 obtain ⟨rfl, rfl⟩ := trodVars_none hV
 have htl : fn.params.toList = ts := by rw [hts]
 rw [htl] at hA
 obtain ⟨g, hg, hr⟩ := ho.out (r := .any) (b0 := base) (fun j t v hj hv => hval j t v (by rw [hts]; simpa using hj) (by simpa using hv)) hA
 have hlt : ∀ x ∈ p ++ [], x.block < W.heap.size := hW'.lt
 have hlen : ds.length = ts.length := by
  have : ∀ {ts : List TypeId} {vs : List Value} {ds : List (DataW H)} {ps : List MemPlace}, DataW.TrodAll enc C.prog W 0 (fun _ => true) true ts vs ds ps → ds.length = ts.length := by
   intro ts
   induction ts with
   | nil => intro vs ds ps h; match vs, ds, h with | [], [], _ => rfl
   | cons t ts ih => intro vs ds ps h; match vs, ds, h with | _ :: _, _ :: _, ⟨_, _, _, h2, _⟩ => simp [ih h2]
  exact this hA
 refine (Ok.calls (fun q hq => by obtain ⟨m, hm⟩ := gl W hsh q hq; exact ⟨m, Y4v hm, hm⟩) (law g hg) hr).mono fun e W' ⟨he, hb⟩ => ?_
 have hf := hspec ds hlen
 have hf' : s.fn H (ds ++ []) = { results := [.lit (.bool true)], args := ds } := by rw [List.append_nil]; exact hf
 refine ⟨_, he, ds, [], p ++ [], [], p ++ [], [], hW', ?_, ?_, ?_, hb.frame _, fun h => by cases h⟩
 ·
  rw [hf', hres]
  exact trodAll_mk1 (shut_bool htb _)
 ·
  rw [hf', htl]
  exact Y4u hl hb hrd (by simpa using hA) hlt
 ·
  rw [hf', hvars]
  exact rfl

theorem Y4x {C : Checked} {os : Os} {f : FuncId} {fn : Func} {s : ChangeSpec} {conds : List PathCond} {fresh handsOn : Bool} {H : Type} {enc : TypeId × Value → H} {k : γ → List Abs.C} {good : γ → Prop} {tb : TypeId} {ts : List TypeId}
  (own : ownKnob C.prog.godebug = none) (started : os.Started) (noInit : C.prog.inits.idxOf? f = none) (hfn : C.prog.funcs[f]? = some fn)
  (witness : ∃ (w : World) (tape : Tape) (i : Input), w.os = os ∧ (w.forCall tape i).Shaped C.prog ∧ i.vars = [] ∧ Input.okWide C.prog (w.forCall tape i) .any w.heap.size f i ∧
   s.pre6 enc C.prog fn conds false (w.forCall tape i).memory i.args ∧ ({} : Assume).holds C.prog (lone (Frame.enter C.prog f i.args .normal) [] (w.forCall tape i)))
  (hl : laidOutB C.prog = true) (hts : fn.params = ts.toArray) (hrd : (ts.all fun t => C.prog.readableRec t && decide (t < C.prog.types.size)) = true) (hres : fn.resultTypes = #[tb]) (htb : C.prog.underlying tb = some .bool)
  (hvars : s.vars = []) (hspec : ∀ ds : List (DataW H), ds.length = ts.length → s.fn H ds = { results := [.lit (.bool true)], args := ds })
  (ho : Y4r C.prog ts k good) (law : ∀ g, good g → Ok C.prog f (k g) [] fun c qs => c = Abs.C.bool true ∧ qs = [])
  (gl : ∀ w : World, w.ShapedOpen C.prog → ∀ q, GlbP q → ∃ m, w.cell? ⟨q, 0, none⟩ = some (.int .i64 m)) :
  ReturnsInHanded {} C os f .any (s.pre6 enc C.prog fn conds false) (s.post enc C.prog fn false fresh handsOn false) := by
 refine returnsInHanded_of_change_shaped own started noInit hfn witness ?_
 intro W base args ds gs before hval hW _ _ hsh _
 exact Y4w hl hts hrd hres htb hvars hspec ho law gl W base args ds gs before hval hW hsh

end
end Go.Abs
namespace Go.Abs
open Go

theorem Y4y {n : Int} (h0 : -9223372036854775808 ≤ n) (h1 : n ≤ 9223372036854775807) : IntKind.i64.wrap n = n := IntWalk.i64_in n ⟨h0, h1⟩

theorem Y4z {b : Bool} (h : b = true) : chk b = some () := by rw [h]; rfl

section
variable {α τ ω τ' ω' : Type}

theorem Y50 {xs : List α} {i : Nat} {x : α} (h : xs[i]? = some x) : getI xs (i : Int) = some x := by
 rw [getI, if_pos (by omega)]; simpa using h

theorem Y51 {step : τ → Option (τ ⊕ ω)} {p : ω → Prop} (R : Nat → τ → Prop)
  (h : ∀ m x, R m x → (∃ o, step x = some (.inr o) ∧ p o) ∨ ∃ x' m', step x = some (.inl x') ∧ m' < m ∧ R m' x') : ∀ k m x, R m x → m < k → ∃ o, iter step k x = some o ∧ p o
 | 0, _, _, _, hk => by omega
 | k + 1, m, x, hr, hk => by
  rcases h m x hr with ⟨o, ho, hp⟩ | ⟨x', m', hx, hm, hr'⟩
  ·
   exact ⟨o, by rw [iter, ho]; rfl, hp⟩
  ·
   obtain ⟨o, ho, hp⟩ := Y51 R h k m' x' hr' (by omega)
   exact ⟨o, by rw [iter, hx]; exact ho, hp⟩

theorem Y52 {step : τ → Option (τ ⊕ ω)} {o : ω} (R : Nat → τ → Prop)
  (h : ∀ m x, R m x → step x = some (.inr o) ∨ ∃ x' m', step x = some (.inl x') ∧ m' < m ∧ R m' x') {k m : Nat} {x : τ} (hr : R m x) (hk : m < k) : iter step k x = some o := by
 obtain ⟨o', ho, rfl⟩ := Y51 (p := fun o' => o' = o) R (fun m x hr => (h m x hr).imp (fun h => ⟨o, h, rfl⟩) id) k m x hr hk
 exact ho

end

theorem Y53 {n : Nat} (h : n < 18446744073709551616) : n < big := h
end Go.Abs
