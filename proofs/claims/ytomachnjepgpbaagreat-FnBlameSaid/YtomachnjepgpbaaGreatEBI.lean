/- Walks that go by themselves along hints: what changes where ways meet again and in loops, contracts with objects, operations in any place. -/
import Derived.Test.YtomachnjepgpbaaGreatEX
import Derived.Lib.AppendStr
import Derived.Lib.ConvBytes
set_option autoImplicit false
set_option linter.unusedVariables false
set_option linter.unusedSimpArgs false
namespace Go.Abs
open Go

inductive De : Type 1
 | d (e : Env) (o : List Obj)
 | x {γ : Type} (S : γ → De)
inductive Hn : Type 1
 | z
 | q (k : Nat) (h : Hn)
 | b (l r : Hn)
 | k (h : Hn)
 | p (h : Hn)
 | f (t : Nat) (N : List C) (h : Hn)
 | r (ns L Lt k : List Nat) (h : Hn)
 | R (ns L Lt : List Nat) (k : Sch) (h : Hn)
 | a (p : Nat) (S : Value → Hn)
 | A (p : Nat) (S : Value → Hn)
 | o (p : Nat) (S : Nat → Hn)
 | O (p : Nat) (S : Nat → Hn)
 | e {A : Type} (t : Nat) (f : A → C) (S : A → Hn)
 | E {A : Type} (t : Nat) (f : A → C) (S : A → Hn)
 | c0 (S : De) (ks ko : List Nat) (l r : Hn)
 | c1 {A : Type} (S : A → De) (ks ko : List Nat) (l r : Hn)
 | c2 {A B : Type} (S : A → B → De) (ks ko : List Nat) (l r : Hn)
 | c3 {A B D : Type} (S : A → B → D → De) (ks ko : List Nat) (l r : Hn)
 | c4 {A B D E : Type} (S : A → B → D → E → De) (ks ko : List Nat) (l r : Hn)
 | c5 {A B D E G : Type} (S : A → B → D → E → G → De) (ks ko : List Nat) (l r : Hn)
 | c9 {A B D E G A' B' D' E' : Type} (S : A → B → D → E → G → A' → B' → D' → E' → De) (ks ko : List Nat) (l r : Hn)
 | c10 {A B D E G A' B' D' E' G' : Type} (S : A → B → D → E → G → A' → B' → D' → E' → G' → De) (ks ko : List Nat) (l r : Hn)
 | h (n : Nat) (h : Hn)
 | H (f : Nat) (h : Hn)
 | w (i : Nat) (h : Hn)
 | v (p j : Nat) (S : Value → Hn)
 | V (p j : Nat) (S : Value → Hn)
 | g (t : Nat) (N : List C) (h : Hn)
 | l0 (S : De) (ks ko : List Nat) (l : Hn)
 | l1 {A : Type} (S : A → De) (ks ko : List Nat) (l : Hn)
 | l2 {A B : Type} (S : A → B → De) (ks ko : List Nat) (l : Hn)
 | l3 {A B D : Type} (S : A → B → D → De) (ks ko : List Nat) (l : Hn)
 | l4 {A B D E : Type} (S : A → B → D → E → De) (ks ko : List Nat) (l : Hn)
 | l5 {A B D E G : Type} (S : A → B → D → E → G → De) (ks ko : List Nat) (l : Hn)
structure HH (x : Hn) : Prop
theorem HH.i {x : Hn} : HH x := ⟨⟩

def Y90 {γ : Type} (e : Env) : List Nat → (Env → Option γ) → Option γ
 | [], k => k []
 | t :: ts, k => match get e t with
  | some c => Y90 e ts fun r => k ((t, c) :: r)
  | none => none
def Y91 {γ : Type} (os : List Obj) : List Nat → (List Obj → Option γ) → Option γ
 | [], k => k []
 | p :: ps, k => match pick p os with
  | some o => Y91 os ps fun r => k (o :: r)
  | none => none
def base (e : Env) (os : List Obj) (ks ko : List Nat) : Option (Env × List Obj) := Y90 e ks fun e1 => Y91 os ko fun o1 => some (e1, o1)
def appE : Env → Env → (Env → Prop) → Prop
 | [], r, k => k r
 | q :: qs, r, k => appE qs r fun l => k (q :: l)
theorem Y92 : ∀ {qs r : Env} {k : Env → Prop}, appE qs r k ↔ k (qs ++ r)
 | [], _, _ => Iff.rfl
 | _ :: qs, r, k => Y92 (qs := qs) (r := r)
def allE : De → Env → List Obj → (St → Prop) → Prop
 | .d e o, e1, o1, K => appE e e1 fun e' => appK o o1 fun o' => K ⟨e', o'⟩
 | .x S, e1, o1, K => ∀ v, allE (S v) e1 o1 K
def exE : De → Env → List Obj → (St → Prop) → Prop
 | .d e o, e1, o1, K => appE e e1 fun e' => appK o o1 fun o' => K ⟨e', o'⟩
 | .x S, e1, o1, K => ∃ v, exE (S v) e1 o1 K
def InDe : De → Env → List Obj → St → Prop
 | .d e o, e1, o1, s => s = ⟨e ++ e1, o ++ o1⟩
 | .x S, e1, o1, s => ∃ v, InDe (S v) e1 o1 s
theorem allE.out : ∀ {D : De} {e1 : Env} {o1 : List Obj} {K : St → Prop} {s : St}, allE D e1 o1 K → InDe D e1 o1 s → K s
 | .d _ _, _, _, _, _, h, hi => by
  subst hi
  exact Y9.1 (Y92.1 h)
 | .x _, _, _, _, _, h, ⟨v, hi⟩ => (h v).out hi
theorem exE.out : ∀ {D : De} {e1 : Env} {o1 : List Obj} {K : St → Prop}, exE D e1 o1 K → ∃ s, InDe D e1 o1 s ∧ K s
 | .d _ _, _, _, _, h => ⟨_, rfl, Y9.1 (Y92.1 h)⟩
 | .x _, _, _, _, ⟨v, h⟩ => by
  obtain ⟨s, h1, h2⟩ := exE.out h
  exact ⟨s, ⟨v, h1⟩, h2⟩
theorem alx {γ : Type} {S : γ → De} {e1 : Env} {o1 : List Obj} {K : St → Prop} (h : ∀ v, allE (S v) e1 o1 K) : allE (.x S) e1 o1 K := h
theorem ald {e e1 : Env} {o o1 : List Obj} {K : St → Prop} (h : appE e e1 fun e' => appK o o1 fun o' => K ⟨e', o'⟩) : allE (.d e o) e1 o1 K := h
theorem exx {γ : Type} {S : γ → De} {v : γ} {e1 : Env} {o1 : List Obj} {K : St → Prop} (h : exE (S v) e1 o1 K) : exE (.x S) e1 o1 K := ⟨v, h⟩
theorem exd {e e1 : Env} {o o1 : List Obj} {K : St → Prop} (h : appE e e1 fun e' => appK o o1 fun o' => K ⟨e', o'⟩) : exE (.d e o) e1 o1 K := h

def GhF (n : Nat) (X : Ctx) (s s' : St) : Prop := ∀ a w F G, Yd n X s a w F G → ∃ F' G', (∀ b, F b → F' b) ∧ (∀ b, F' b → F b ∨ G b) ∧ (∀ b, G' b → G b) ∧ Yd n X s' a w F' G'
section
variable {P : Program} {n : Nat} {X : Ctx} {s : St} {e es : Env} {o os r qs fs : List Obj} {t : Nat} {c c0 : C}
theorem GhF.ghost {s' : St} (h : GhF n X s s') : Y25 n X s s' := fun a w ⟨F, G, hs⟩ => by
 obtain ⟨F', G', _, _, _, h'⟩ := h a w F G hs
 exact ⟨F', G', h'⟩
theorem GhF.done : GhF n X ⟨e, o⟩ ⟨[], []⟩ := fun a w F G h =>
 ⟨F, fun _ => False, fun _ hb => hb, fun _ hb => .inl hb, fun _ hb => hb.elim, ⟨fun i c hi => (by cases hi), fun _ hb => hb, h.fin, fun _ hb => hb.elim, h.sub, h.chg, h.size, h.defs⟩⟩
theorem Y93 {a : Act} {w : World} {F : BSet} (hc : c.rep w F (a.tmps.getD t undef)) (h : ∀ i c, get es i = some c → c.rep w F (a.tmps.getD i undef)) : ∀ i c', get ((t, c) :: es) i = some c' → c'.rep w F (a.tmps.getD i undef) := fun i c' hi => by
 by_cases hit : t = i
 ·
  subst hit
  rw [Ya] at hi
  cases hi
  exact hc
 ·
  rw [Yb _ _ hit] at hi
  exact h i c' hi
theorem GhF.imp (h : get e t = some c0) (i : Imp c0 c) (k : GhF n X ⟨e, o⟩ ⟨es, qs⟩) : GhF n X ⟨e, o⟩ ⟨(t, c) :: es, qs⟩ := fun a w F G hs => by
 obtain ⟨F', G', h1, h2, h3, h4⟩ := k a w F G hs
 exact ⟨F', G', h1, h2, h3, ⟨Y93 (i w F' _ (C.mono _ (hs.env t c0 h) fun b hb => ⟨h1 b hb, rfl⟩)) h4.env, h4.own, h4.fin, h4.gin, h4.sub, h4.chg, h4.size, h4.defs⟩⟩
theorem GhF.same (h : get e t = some c) (k : GhF n X ⟨e, o⟩ ⟨es, qs⟩) : GhF n X ⟨e, o⟩ ⟨(t, c) :: es, qs⟩ := GhF.imp h (Imp.refl c) k
theorem Yd.freeze {a : Act} {w : World} {F G : BSet} {ns : List Nat} (h : Yd n X ⟨e, o⟩ a w F G) (hp : Y7 ns o = some (fs, r)) : ∃ G1 G2, (∀ b, G b ↔ G1 b ∨ G2 b) ∧ Own w F fs G1 ∧ Yd n X ⟨e, r⟩ a w (fun b => F b ∨ G1 b) G2 := by
 obtain ⟨G1, G2, hi, hd, h1, h2⟩ := Own.append.1 (h.own.perm (Y8 hp))
 have hmono : ∀ b, F b → (F b ∨ G1 b) ∧ w.heap[b]? = w.heap[b]? := fun b hb => ⟨.inl hb, rfl⟩
 refine ⟨G1, G2, hi, h1, ⟨fun i c hc => C.mono _ (h.env i c hc) hmono, h2.mono hmono fun _ _ => rfl, fun b hb => ?_, fun b hb => ?_, fun b hb => .inl (h.sub b hb), h.chg, h.size, h.defs⟩⟩
 ·
  rcases hb with hb | hb
  ·
   exact h.fin b hb
  ·
   have := h.gin b ((hi b).2 (.inl hb))
   exact ⟨this.1, this.2.2.elim (fun h => .inr (.inl h)) fun h => .inr (.inr h)⟩
 ·
  have := h.gin b ((hi b).2 (.inr hb))
  exact ⟨this.1, fun hf => hf.elim this.2.1 fun hg => hd b hg hb, this.2.2⟩
theorem GhF.frz {ns : List Nat} (h : get e t = some c0) (hp : Y7 ns o = some (fs, r)) (f : Frz c0 fs c) (k : GhF n X ⟨e, r⟩ ⟨es, qs⟩) : GhF n X ⟨e, o⟩ ⟨(t, c) :: es, qs⟩ := fun a w F G hs => by
 obtain ⟨G1, G2, hi, h1, hs'⟩ := hs.freeze hp
 obtain ⟨F', G', k1, k2, k3, k4⟩ := k a w _ _ hs'
 exact ⟨F', G', fun b hb => k1 b (.inl hb), fun b hb => (k2 b hb).elim (fun h => h.elim .inl fun h => .inr ((hi b).2 (.inl h))) fun h => .inr ((hi b).2 (.inr h)), fun b hb => (hi b).2 (.inr (k3 b hb)),
  ⟨Y93 (f w F G1 F' _ (hs.env t c0 h) h1 (fun b hb => k1 b (.inl hb)) fun b hb => k1 b (.inr hb)) k4.env, k4.own, k4.fin, k4.gin, k4.sub, k4.chg, k4.size, k4.defs⟩⟩
theorem GhF.fz {v : Value} {α : Type} {E sz : Nat} {k : α → List C} {xs : List α} (h : get e t = some (.val v)) (i : ArI v o E k sz xs r) (kk : GhF n X ⟨e, r⟩ ⟨es, qs⟩) : GhF n X ⟨e, o⟩ ⟨(t, .im k sz xs) :: es, qs⟩ := by
 obtain ⟨p, _, hp⟩ := i.pick
 exact GhF.frz h hp Frz.arr kk
theorem GhF.ob {p : Nat} {q : Obj} (hp : Y7 [p] o = some ([q], r)) (k : GhF n X ⟨e, r⟩ ⟨[], qs⟩) : GhF n X ⟨e, o⟩ ⟨[], q :: qs⟩ := fun a w F G hs => by
 obtain ⟨G1, G2, hi, hd, h1, h2⟩ := Own.append.1 (hs.own.perm (Y8 hp))
 have h1 := h1.only
 obtain ⟨F', G', k1, k2, k3, k4⟩ := k a w F G2 ⟨hs.env, h2, hs.fin, fun b hb => hs.gin b ((hi b).2 (.inr hb)), hs.sub, hs.chg, hs.size, hs.defs⟩
 have hmono : ∀ b, F b → F' b ∧ w.heap[b]? = w.heap[b]? := fun b hb => ⟨k1 b hb, rfl⟩
 refine ⟨F', fun b => G1 b ∨ G' b, k1, fun b hb => (k2 b hb).imp id fun h => (hi b).2 (.inr h), fun b hb => (hi b).2 (hb.imp id (k3 b)), ⟨fun i c hc => (by cases hc), ⟨G1, G', fun _ => Iff.rfl, fun b hb hb' => hd b hb (k3 b hb'), q.mono h1 hmono fun _ _ => rfl, k4.own⟩, k4.fin, fun b hb => ?_, k4.sub, k4.chg, k4.size, k4.defs⟩⟩
 rcases hb with hb | hb
 ·
  have := hs.gin b ((hi b).2 (.inl hb))
  exact ⟨this.1, fun hf => (k2 b hf).elim this.2.1 (hd b hb), this.2.2⟩
 ·
  exact k4.gin b hb
theorem GhF.nl {α : Type} {E sz : Nat} {k : α → List C} (kk : GhF n X ⟨e, o⟩ ⟨[], qs⟩) : GhF n X ⟨e, o⟩ ⟨[], .arr s0 E k sz [] :: qs⟩ := fun a w F G hs => by
 obtain ⟨F', G', k1, k2, k3, k4⟩ := kk a w F G hs
 exact ⟨F', G', k1, k2, k3, ⟨fun i c hc => (by cases hc), ⟨fun _ => False, G', fun b => by simp, fun b hb => hb.elim, Y69, k4.own⟩, k4.fin, k4.gin, k4.sub, k4.chg, k4.size, k4.defs⟩⟩
theorem GhF.bx {b T T' : Nat} {cs cs' : List C} (i : BxI b o T' cs' r) (he : Obj.box b T' cs' = Obj.box b T cs) (k : GhF n X ⟨e, r⟩ ⟨[], qs⟩) : GhF n X ⟨e, o⟩ ⟨[], .box b T cs :: qs⟩ := by
 obtain ⟨p, _, hp⟩ := i.pick
 exact he ▸ GhF.ob hp k
theorem GhF.ar {v : Value} {α α' : Type} {E sz E' sz' : Nat} {k : α → List C} {k' : α' → List C} {xs : List α} {xs' : List α'} (i : ArI v o E' k' sz' xs' r) (he : Obj.arr v E' k' sz' xs' = Obj.arr v E k sz xs) (kk : GhF n X ⟨e, r⟩ ⟨[], qs⟩) : GhF n X ⟨e, o⟩ ⟨[], .arr v E k sz xs :: qs⟩ := by
 obtain ⟨p, _, hp⟩ := i.pick
 exact he ▸ GhF.ob hp kk
class MpI (b : Nat) (os : List Obj) {β : outParam Type} (kd : outParam IntKind) (kc : outParam (β → C)) (m : outParam (List (Int × β))) (r : outParam (List Obj)) : Prop where
 h : ∃ p, ∀ (δ : Type) (q : Obj → List Obj → Option δ), Y3 p os q = q (.map b kd kc m) r
instance {b : Nat} {β : Type} {kd : IntKind} {kc : β → C} {m : List (Int × β)} {r : List Obj} : MpI b (.map b kd kc m :: r) kd kc m r := ⟨0, fun _ _ => rfl⟩
instance {b : Nat} {β : Type} {kd : IntKind} {kc : β → C} {m : List (Int × β)} {o : Obj} {os r : List Obj} [i : MpI b os kd kc m r] : MpI b (o :: os) kd kc m (o :: r) := by
 obtain ⟨p, h⟩ := i.h
 exact ⟨p + 1, fun δ q => h δ _⟩
instance {b : Nat} {β : Type} {kd : IntKind} {kc : β → C} {m : List (Int × β)} {o : Obj} {os ot r : List Obj} [i : MpI b (o :: (os ++ ot)) kd kc m r] : MpI b ((o :: os) ++ ot) kd kc m r := i
instance {b : Nat} {β : Type} {kd : IntKind} {kc : β → C} {m : List (Int × β)} {ot r : List Obj} [i : MpI b ot kd kc m r] : MpI b ([] ++ ot) kd kc m r := i
theorem MpI.pick {b : Nat} {β : Type} {kd : IntKind} {kc : β → C} {m : List (Int × β)} (i : MpI b os kd kc m r) : ∃ p, Go.Abs.pick p os = some (.map b kd kc m) ∧ Y7 [p] os = some ([.map b kd kc m], r) := by
 obtain ⟨p, h⟩ := i.h
 exact ⟨p, Y8t.symm.trans (h _ _), h _ _⟩
theorem GhF.mp {b : Nat} {β β' : Type} {kd kd' : IntKind} {kc : β → C} {kc' : β' → C} {m : List (Int × β)} {m' : List (Int × β')} (i : MpI b o kd' kc' m' r) (he : Obj.map b kd' kc' m' = Obj.map b kd kc m) (k : GhF n X ⟨e, r⟩ ⟨[], qs⟩) : GhF n X ⟨e, o⟩ ⟨[], .map b kd kc m :: qs⟩ := by
 obtain ⟨p, _, hp⟩ := i.pick
 exact he ▸ GhF.ob hp k
theorem GhF.at {q : Obj} (p : Nat) (h : Y3 p o (fun o r => some (o, r)) = some (q, r)) (k : GhF n X ⟨e, r⟩ ⟨[], qs⟩) : GhF n X ⟨e, o⟩ ⟨[], q :: qs⟩ := by
 obtain ⟨o', r', h1, h2⟩ := Y8y h
 cases h1
 exact GhF.ob (p := p) (h2 _ _) k
end

section
variable {P : Program} {n : Nat} {X : Ctx} {e e1 : Env} {os o1 : List Obj} {K : Exit → St → Prop} {β A B D E G : Type} {b : β} {ks ko : List Nat} {l r : Hn} {c y : Code} {x0 : Option β}
theorem hcut {τ : Type} {S : τ → De} {F : τ → Option β} (m1 : AW P n X c ⟨e, os⟩ (Yi (fun s' => ∃ x, F x = some b ∧ exE (S x) e1 o1 (GhF n X s')) (Yg P n X y K)))
  (m2 : ∀ x, F x = some b → allE (S x) e1 o1 fun s => AW P n X y s K) : AW P n X (.seq c y) ⟨e, os⟩ K :=
 AW.seq (AW.cut (τ := {p : τ × St // F p.1 = some b ∧ InDe (S p.1) e1 o1 p.2}) (fun p => p.1.2) (fun _ => True) (AW.mono m1 fun ex s' h => by
  cases ex with
  | normal =>
   obtain ⟨x, hx, g⟩ := h
   obtain ⟨s2, hi, hg⟩ := g.out
   exact ⟨⟨(x, s2), hx, hi⟩, trivial, hg.ghost⟩
  | _ => exact h) fun ⟨(x, s2), hx, hi⟩ _ => (m2 x hx).out hi)
theorem hc0 {S : De} {F : Option β} (hs : HH (.c0 S ks ko l r)) (h : x0 = some b) (hk : base e os ks ko = some (e1, o1))
  (m1 : HH l → AW P n X c ⟨e, os⟩ (Yi (fun s' => F = some b ∧ exE S e1 o1 (GhF n X s')) (Yg P n X y K))) (m2 : HH r → F = some b → allE S e1 o1 fun s => AW P n X y s K) : AW P n X (.seq c y) ⟨e, os⟩ K :=
 hcut (S := fun (_ : Unit) => S) (F := fun _ => F) (AW.mono (m1 ⟨⟩) fun ex s' h => by
  cases ex with
  | normal => exact ⟨(), h⟩
  | _ => exact h) fun _ => m2 ⟨⟩
theorem hc1 {S : A → De} {F : A → Option β} (hs : HH (.c1 S ks ko l r)) (h : x0 = some b) (hk : base e os ks ko = some (e1, o1))
  (m1 : HH l → AW P n X c ⟨e, os⟩ (Yi (fun s' => ∃ x, F x = some b ∧ exE (S x) e1 o1 (GhF n X s')) (Yg P n X y K))) (m2 : ∀ x, HH r → F x = some b → allE (S x) e1 o1 fun s => AW P n X y s K) : AW P n X (.seq c y) ⟨e, os⟩ K :=
 hcut (m1 ⟨⟩) fun x => m2 x ⟨⟩
theorem hc2 {S : A → B → De} {F : A → B → Option β} (hs : HH (.c2 S ks ko l r)) (h : x0 = some b) (hk : base e os ks ko = some (e1, o1))
  (m1 : HH l → AW P n X c ⟨e, os⟩ (Yi (fun s' => ∃ x x2, F x x2 = some b ∧ exE (S x x2) e1 o1 (GhF n X s')) (Yg P n X y K))) (m2 : ∀ x x2, HH r → F x x2 = some b → allE (S x x2) e1 o1 fun s => AW P n X y s K) : AW P n X (.seq c y) ⟨e, os⟩ K :=
 hcut (S := fun x : A × B => S x.1 x.2) (F := fun x => F x.1 x.2) (AW.mono (m1 ⟨⟩) fun ex s' h => by
  cases ex with
  | normal => obtain ⟨a, b, h⟩ := h; exact ⟨(a, b), h⟩
  | _ => exact h) fun x => m2 x.1 x.2 ⟨⟩
theorem hc3 {S : A → B → D → De} {F : A → B → D → Option β} (hs : HH (.c3 S ks ko l r)) (h : x0 = some b) (hk : base e os ks ko = some (e1, o1))
  (m1 : HH l → AW P n X c ⟨e, os⟩ (Yi (fun s' => ∃ x x2 x3, F x x2 x3 = some b ∧ exE (S x x2 x3) e1 o1 (GhF n X s')) (Yg P n X y K))) (m2 : ∀ x x2 x3, HH r → F x x2 x3 = some b → allE (S x x2 x3) e1 o1 fun s => AW P n X y s K) : AW P n X (.seq c y) ⟨e, os⟩ K :=
 hcut (S := fun x : A × B × D => S x.1 x.2.1 x.2.2) (F := fun x => F x.1 x.2.1 x.2.2) (AW.mono (m1 ⟨⟩) fun ex s' h => by
  cases ex with
  | normal => obtain ⟨a, b, c, h⟩ := h; exact ⟨(a, b, c), h⟩
  | _ => exact h) fun x => m2 x.1 x.2.1 x.2.2 ⟨⟩
theorem hc4 {S : A → B → D → E → De} {F : A → B → D → E → Option β} (hs : HH (.c4 S ks ko l r)) (h : x0 = some b) (hk : base e os ks ko = some (e1, o1))
  (m1 : HH l → AW P n X c ⟨e, os⟩ (Yi (fun s' => ∃ x x2 x3 x4, F x x2 x3 x4 = some b ∧ exE (S x x2 x3 x4) e1 o1 (GhF n X s')) (Yg P n X y K))) (m2 : ∀ x x2 x3 x4, HH r → F x x2 x3 x4 = some b → allE (S x x2 x3 x4) e1 o1 fun s => AW P n X y s K) : AW P n X (.seq c y) ⟨e, os⟩ K :=
 hcut (S := fun x : A × B × D × E => S x.1 x.2.1 x.2.2.1 x.2.2.2) (F := fun x => F x.1 x.2.1 x.2.2.1 x.2.2.2) (AW.mono (m1 ⟨⟩) fun ex s' h => by
  cases ex with
  | normal => obtain ⟨a, b, c, d, h⟩ := h; exact ⟨(a, b, c, d), h⟩
  | _ => exact h) fun x => m2 x.1 x.2.1 x.2.2.1 x.2.2.2 ⟨⟩
theorem hc5 {S : A → B → D → E → G → De} {F : A → B → D → E → G → Option β} (hs : HH (.c5 S ks ko l r)) (h : x0 = some b) (hk : base e os ks ko = some (e1, o1))
  (m1 : HH l → AW P n X c ⟨e, os⟩ (Yi (fun s' => ∃ x x2 x3 x4 x5, F x x2 x3 x4 x5 = some b ∧ exE (S x x2 x3 x4 x5) e1 o1 (GhF n X s')) (Yg P n X y K))) (m2 : ∀ x x2 x3 x4 x5, HH r → F x x2 x3 x4 x5 = some b → allE (S x x2 x3 x4 x5) e1 o1 fun s => AW P n X y s K) : AW P n X (.seq c y) ⟨e, os⟩ K :=
 hcut (S := fun x : A × B × D × E × G => S x.1 x.2.1 x.2.2.1 x.2.2.2.1 x.2.2.2.2) (F := fun x => F x.1 x.2.1 x.2.2.1 x.2.2.2.1 x.2.2.2.2) (AW.mono (m1 ⟨⟩) fun ex s' h => by
  cases ex with
  | normal => obtain ⟨a, b, c, d, e, h⟩ := h; exact ⟨(a, b, c, d, e), h⟩
  | _ => exact h) fun x => m2 x.1 x.2.1 x.2.2.1 x.2.2.2.1 x.2.2.2.2 ⟨⟩

theorem hc9 {A' B' D' E' : Type} {S : A → B → D → E → G → A' → B' → D' → E' → De} {F : A → B → D → E → G → A' → B' → D' → E' → Option β} (hs : HH (.c9 S ks ko l r)) (h : x0 = some b) (hk : base e os ks ko = some (e1, o1))
  (m1 : HH l → AW P n X c ⟨e, os⟩ (Yi (fun s' => ∃ x x2 x3 x4 x5 x6 x7 x8 x9, F x x2 x3 x4 x5 x6 x7 x8 x9 = some b ∧ exE (S x x2 x3 x4 x5 x6 x7 x8 x9) e1 o1 (GhF n X s')) (Yg P n X y K))) (m2 : ∀ x x2 x3 x4 x5 x6 x7 x8 x9, HH r → F x x2 x3 x4 x5 x6 x7 x8 x9 = some b → allE (S x x2 x3 x4 x5 x6 x7 x8 x9) e1 o1 fun s => AW P n X y s K) : AW P n X (.seq c y) ⟨e, os⟩ K :=
 hcut (S := fun x : A × B × D × E × G × A' × B' × D' × E' => S x.1 x.2.1 x.2.2.1 x.2.2.2.1 x.2.2.2.2.1 x.2.2.2.2.2.1 x.2.2.2.2.2.2.1 x.2.2.2.2.2.2.2.1 x.2.2.2.2.2.2.2.2) (F := fun x => F x.1 x.2.1 x.2.2.1 x.2.2.2.1 x.2.2.2.2.1 x.2.2.2.2.2.1 x.2.2.2.2.2.2.1 x.2.2.2.2.2.2.2.1 x.2.2.2.2.2.2.2.2) (AW.mono (m1 ⟨⟩) fun ex s' h => by
  cases ex with
  | normal => obtain ⟨a, b, c, d, e, f, g, i, j, h⟩ := h; exact ⟨(a, b, c, d, e, f, g, i, j), h⟩
  | _ => exact h) fun x => m2 x.1 x.2.1 x.2.2.1 x.2.2.2.1 x.2.2.2.2.1 x.2.2.2.2.2.1 x.2.2.2.2.2.2.1 x.2.2.2.2.2.2.2.1 x.2.2.2.2.2.2.2.2 ⟨⟩

theorem hc10 {A' B' D' E' G' : Type} {S : A → B → D → E → G → A' → B' → D' → E' → G' → De} {F : A → B → D → E → G → A' → B' → D' → E' → G' → Option β} (hs : HH (.c10 S ks ko l r)) (h : x0 = some b) (hk : base e os ks ko = some (e1, o1))
  (m1 : HH l → AW P n X c ⟨e, os⟩ (Yi (fun s' => ∃ x x2 x3 x4 x5 x6 x7 x8 x9 y1, F x x2 x3 x4 x5 x6 x7 x8 x9 y1 = some b ∧ exE (S x x2 x3 x4 x5 x6 x7 x8 x9 y1) e1 o1 (GhF n X s')) (Yg P n X y K))) (m2 : ∀ x x2 x3 x4 x5 x6 x7 x8 x9 y1, HH r → F x x2 x3 x4 x5 x6 x7 x8 x9 y1 = some b → allE (S x x2 x3 x4 x5 x6 x7 x8 x9 y1) e1 o1 fun s => AW P n X y s K) : AW P n X (.seq c y) ⟨e, os⟩ K :=
 hcut (S := fun x : A × B × D × E × G × A' × B' × D' × E' × G' => S x.1 x.2.1 x.2.2.1 x.2.2.2.1 x.2.2.2.2.1 x.2.2.2.2.2.1 x.2.2.2.2.2.2.1 x.2.2.2.2.2.2.2.1 x.2.2.2.2.2.2.2.2.1 x.2.2.2.2.2.2.2.2.2) (F := fun x => F x.1 x.2.1 x.2.2.1 x.2.2.2.1 x.2.2.2.2.1 x.2.2.2.2.2.1 x.2.2.2.2.2.2.1 x.2.2.2.2.2.2.2.1 x.2.2.2.2.2.2.2.2.1 x.2.2.2.2.2.2.2.2.2) (AW.mono (m1 ⟨⟩) fun ex s' h => by
  cases ex with
  | normal => obtain ⟨a, b, c, d, e, f, g, i, j, k, h⟩ := h; exact ⟨(a, b, c, d, e, f, g, i, j, k), h⟩
  | _ => exact h) fun x => m2 x.1 x.2.1 x.2.2.1 x.2.2.2.1 x.2.2.2.2.1 x.2.2.2.2.2.1 x.2.2.2.2.2.2.1 x.2.2.2.2.2.2.2.1 x.2.2.2.2.2.2.2.2.1 x.2.2.2.2.2.2.2.2.2 ⟨⟩

variable {ω : Type} {F : ω → Option β}
theorem Y94 {τ : Type} {S : τ → De} {step : τ → Option (τ ⊕ ω)} {x : τ} (h : (iter step big x).bind F = some b) (h0 : exE (S x) e1 o1 (GhF n X ⟨e, os⟩))
  (m : ∀ x y, step x = some y → allE (S x) e1 o1 fun s => AW P n X c s (Yi (fun s' => ∃ x', y = .inl x' ∧ exE (S x') e1 o1 (GhF n X s')) (lpK y F b K))) : AW P n X (.loop c) ⟨e, os⟩ K := by
 obtain ⟨o, g, q⟩ := ob h
 obtain ⟨s1, hi1, hg1⟩ := exE.out h0
 refine AW.loop (τ := {p : τ × St // InDe (S p.1) e1 o1 p.2}) (x := ⟨(x, s1), hi1⟩) (fun z => z.1.2) (fun k z => iter step k z.1.1 = some o) g hg1.ghost fun k ⟨(z, s2), hi2⟩ i => Y4f i fun k' y hk h1 h2 => ((m z y h1).out hi2).mono fun e s' he => ?_
 cases e with
 | normal =>
  obtain ⟨x', rfl, g'⟩ := he
  obtain ⟨s3, hi3, hg3⟩ := exE.out g'
  exact ⟨k', ⟨(x', s3), hi3⟩, hk, h2, hg3.ghost⟩
 | _ =>
  obtain ⟨o', rfl, f⟩ := he
  cases h2
  exact f q
theorem hl0 {S : De} {step : Unit → Option (Unit ⊕ ω)} (hs : HH (.l0 S ks ko l)) (h : (iter step big ()).bind F = some b) (hk : base e os ks ko = some (e1, o1)) (h0 : exE S e1 o1 (GhF n X ⟨e, os⟩))
  (m : ∀ y, HH l → step () = some y → allE S e1 o1 fun s => AW P n X c s (Yi (fun s' => y = .inl () ∧ exE S e1 o1 (GhF n X s')) (lpK y F b K))) : AW P n X (.loop c) ⟨e, os⟩ K :=
 Y94 (S := fun _ => S) h h0 fun _ y hy => (by
  have := m y ⟨⟩ hy
  refine cast ?_ this
  congr 1
  funext s
  congr 1
  congr 1
  funext s'
  exact propext ⟨fun h => ⟨(), h⟩, fun ⟨_, h⟩ => h⟩)
theorem hl1 {S : A → De} {step : A → Option (A ⊕ ω)} {a : A} (hs : HH (.l1 S ks ko l)) (h : (iter step big a).bind F = some b) (hk : base e os ks ko = some (e1, o1)) (h0 : exE (S a) e1 o1 (GhF n X ⟨e, os⟩))
  (m : ∀ x y, HH l → step x = some y → allE (S x) e1 o1 fun s => AW P n X c s (Yi (fun s' => ∃ x', y = .inl x' ∧ exE (S x') e1 o1 (GhF n X s')) (lpK y F b K))) : AW P n X (.loop c) ⟨e, os⟩ K :=
 Y94 h h0 fun x y => m x y ⟨⟩
theorem hl2 {S : A → B → De} {step : A × B → Option ((A × B) ⊕ ω)} {a1 : A} {a2 : B} (hs : HH (.l2 S ks ko l)) (h : (iter step big (a1, a2)).bind F = some b) (hk : base e os ks ko = some (e1, o1)) (h0 : exE (S a1 a2) e1 o1 (GhF n X ⟨e, os⟩))
  (m : ∀ x1 x2 y, HH l → step (x1, x2) = some y → allE (S x1 x2) e1 o1 fun s => AW P n X c s (Yi (fun s' => ∃ x1' x2', y = .inl (x1', x2') ∧ exE (S x1' x2') e1 o1 (GhF n X s')) (lpK y F b K))) : AW P n X (.loop c) ⟨e, os⟩ K :=
 Y94 (S := fun x : A × B => S x.1 x.2) h h0 fun x y hy => (by
  have := m x.1 x.2 y ⟨⟩ hy
  refine cast ?_ this
  congr 1
  funext s
  congr 1
  congr 1
  funext s'
  exact propext ⟨fun ⟨a, b, h⟩ => ⟨(a, b), h⟩, fun ⟨x, h⟩ => ⟨x.1, x.2, h⟩⟩)
theorem hl3 {S : A → B → D → De} {step : A × B × D → Option ((A × B × D) ⊕ ω)} {a1 : A} {a2 : B} {a3 : D} (hs : HH (.l3 S ks ko l)) (h : (iter step big (a1, a2, a3)).bind F = some b) (hk : base e os ks ko = some (e1, o1)) (h0 : exE (S a1 a2 a3) e1 o1 (GhF n X ⟨e, os⟩))
  (m : ∀ x1 x2 x3 y, HH l → step (x1, x2, x3) = some y → allE (S x1 x2 x3) e1 o1 fun s => AW P n X c s (Yi (fun s' => ∃ x1' x2' x3', y = .inl (x1', x2', x3') ∧ exE (S x1' x2' x3') e1 o1 (GhF n X s')) (lpK y F b K))) : AW P n X (.loop c) ⟨e, os⟩ K :=
 Y94 (S := fun x : A × B × D => S x.1 x.2.1 x.2.2) h h0 fun x y hy => (by
  have := m x.1 x.2.1 x.2.2 y ⟨⟩ hy
  refine cast ?_ this
  congr 1
  funext s
  congr 1
  congr 1
  funext s'
  exact propext ⟨fun ⟨a, b, c, h⟩ => ⟨(a, b, c), h⟩, fun ⟨x, h⟩ => ⟨x.1, x.2.1, x.2.2, h⟩⟩)
theorem hl4 {S : A → B → D → E → De} {step : A × B × D × E → Option ((A × B × D × E) ⊕ ω)} {a1 : A} {a2 : B} {a3 : D} {a4 : E} (hs : HH (.l4 S ks ko l)) (h : (iter step big (a1, a2, a3, a4)).bind F = some b) (hk : base e os ks ko = some (e1, o1)) (h0 : exE (S a1 a2 a3 a4) e1 o1 (GhF n X ⟨e, os⟩))
  (m : ∀ x1 x2 x3 x4 y, HH l → step (x1, x2, x3, x4) = some y → allE (S x1 x2 x3 x4) e1 o1 fun s => AW P n X c s (Yi (fun s' => ∃ x1' x2' x3' x4', y = .inl (x1', x2', x3', x4') ∧ exE (S x1' x2' x3' x4') e1 o1 (GhF n X s')) (lpK y F b K))) : AW P n X (.loop c) ⟨e, os⟩ K :=
 Y94 (S := fun x : A × B × D × E => S x.1 x.2.1 x.2.2.1 x.2.2.2) h h0 fun x y hy => (by
  have := m x.1 x.2.1 x.2.2.1 x.2.2.2 y ⟨⟩ hy
  refine cast ?_ this
  congr 1
  funext s
  congr 1
  congr 1
  funext s'
  exact propext ⟨fun ⟨a, b, c, d, h⟩ => ⟨(a, b, c, d), h⟩, fun ⟨x, h⟩ => ⟨x.1, x.2.1, x.2.2.1, x.2.2.2, h⟩⟩)
end
end Go.Abs
namespace Go.Abs
open Go

def isV (o : Oper) : Bool := match o.op with
 | .alloc _ | .box _ _ | .store _ _ _ | .buildSlice _ _ _ | .makeSlice _ _ _ | .makeMap _ _ | .mapUpdate _ _ _ _ | .mapEntry _ _ _ | .entryStore _ _ _ _ => false
 | .call c => match c.callee with
  | .builtin .len | .builtin .max | .builtin .min | .builtin .cap => true
  | _ => false
 | _ => true
def VoK (m : Bool) (P : Program) (n : Nat) (e : Env) (ls vs : List Obj) (o : Oper) (Q : Env → Prop) : Prop := ∀ w F G, Own w F ls G → ∃ d c, VOp m P n e vs o d c ∧ Q ((d, c) :: e)
def HoK (P : Program) (n : Nat) (e : Env) (vs os : List Obj) (o : Oper) (Q : Env → List Obj → Prop) : Prop :=
 ∀ w F G, Own w F vs G → ∃ ns ps r T, Y7 ns os = some (ps, r) ∧ HOp P n o e ps T ∧ ∀ e' qs, T e' qs → appK qs r fun l => Q e' l
section
variable {P : Program} {n : Nat} {X : Ctx} {ops : Array Oper} {o : Oper} {rest : List Oper} {e : Env} {os ot vs : List Obj} {K : St → Prop} {m y : Bool} {j t : Nat} {want z : Bool}
theorem Ops.vk (hg : o.guard = none) (hv : isV o = true) (h : VoK m P n e os os o fun e' => Ops P n X ops rest e' os K) : Ops P n X ops (o :: rest) e os K := fun a w Q hs hQ => by
 obtain ⟨F, G, hs⟩ := hs
 obtain ⟨d, c, h1, h2⟩ := h w F G hs.own
 exact Ops.v hg h1 h2 a w Q ⟨F, G, hs⟩ hQ
theorem Ops.gvk (hg : o.guard = some (j, want)) (hj : (ops[j]?).bind (·.dst) = some t) (ht : get e t = some (.bool z)) (htn : Nat.blt t n = true) (hb : z = want) (hv : isV o = true) (h : VoK m P n e os os o fun e' => Ops P n X ops rest e' os K) : Ops P n X ops (o :: rest) e os K := fun a w Q hs hQ => by
 obtain ⟨F, G, hs⟩ := hs
 obtain ⟨d, c, h1, h2⟩ := h w F G hs.own
 exact Ops.gv hg hj ht htn hb h1 h2 a w Q ⟨F, G, hs⟩ hQ
theorem Ops.hk (hg : o.guard = none) (h : HoK P n e os os o fun e' l => Ops P n X ops rest e' l K) : Ops P n X ops (o :: rest) e os K := fun a w Q hs hQ => by
 obtain ⟨F, G, hs⟩ := hs
 obtain ⟨ns, ps, r, T, h1, h2, h3⟩ := h w F G hs.own
 exact Ops.h hg h1 h2 h3 a w Q ⟨F, G, hs⟩ hQ
theorem Ops.ghk (hg : o.guard = some (j, want)) (hj : (ops[j]?).bind (·.dst) = some t) (ht : get e t = some (.bool z)) (htn : Nat.blt t n = true) (hb : z = want) (h : HoK P n e os os o fun e' l => Ops P n X ops rest e' l K) : Ops P n X ops (o :: rest) e os K := fun a w Q hs hQ => by
 obtain ⟨F, G, hs⟩ := hs
 obtain ⟨ns, ps, r, T, h1, h2, h3⟩ := h w F G hs.own
 exact Ops.gh hg hj ht htn hb h1 h2 h3 a w Q ⟨F, G, hs⟩ hQ
variable {l : List Oper} {L Lt : List Nat} {i : Nat} {k : Sch}
theorem OpsD.vk (ho : nth l i = some o) (hg : o.guard = none) (h : VoK m P n e (os ++ ot) os o fun e' => OpsD P n X l L Lt k y e' os ot K) : OpsD P n X l L Lt (.light i m k) y e os ot K := fun fuel listed hok hsel hlt a w F Gs Gt Q hs hdj k1 k2 hQ => by
 obtain ⟨d, c, h1, h2⟩ := h w F _ hs.own
 exact OpsD.v ho hg h1 h2 fuel listed hok hsel hlt a w F Gs Gt Q hs hdj k1 k2 hQ
theorem OpsD.gvk (ho : nth l i = some o) (hg : o.guard = some (j, want)) (hj : (nth l j).bind (·.dst) = some t) (ht : get e t = some (.bool z)) (htn : Nat.blt t n = true) (hb : z = want) (h : VoK m P n e (os ++ ot) os o fun e' => OpsD P n X l L Lt k y e' os ot K) : OpsD P n X l L Lt (.light i m k) y e os ot K := fun fuel listed hok hsel hlt a w F Gs Gt Q hs hdj k1 k2 hQ => by
 obtain ⟨d, c, h1, h2⟩ := h w F _ hs.own
 exact OpsD.gv ho hg hj ht htn hb h1 h2 fuel listed hok hsel hlt a w F Gs Gt Q hs hdj k1 k2 hQ
theorem Y3z.vk (ho : nth l i = some o) (hg : o.guard = none) (hv : isV o = true) (h : VoK m P n e (os ++ ot) (os ++ ot) o fun e' => OpsD P n X l L Lt k y e' os ot K) : Y3z P n X l L Lt i k y e os ot K := fun fuel listed hok hsel hlt a w F Gs Gt Q hs hdj k1 k2 hQ => by
 obtain ⟨d, c, h1, h2⟩ := h w F _ hs.own
 exact Y3z.v ho hg h1 h2 fuel listed hok hsel hlt a w F Gs Gt Q hs hdj k1 k2 hQ
theorem Y3z.gvk (ho : nth l i = some o) (hg : o.guard = some (j, want)) (hj : (nth l j).bind (·.dst) = some t) (ht : get e t = some (.bool z)) (htn : Nat.blt t n = true) (hb : z = want) (hv : isV o = true) (h : VoK m P n e (os ++ ot) (os ++ ot) o fun e' => OpsD P n X l L Lt k y e' os ot K) : Y3z P n X l L Lt i k y e os ot K := fun fuel listed hok hsel hlt a w F Gs Gt Q hs hdj k1 k2 hQ => by
 obtain ⟨d, c, h1, h2⟩ := h w F _ hs.own
 exact Y3z.gv ho hg hj ht htn hb h1 h2 fuel listed hok hsel hlt a w F Gs Gt Q hs hdj k1 k2 hQ
theorem Y3z.hk (ho : nth l i = some o) (hg : o.guard = none) (h : HoK P n e (os ++ ot) ot o fun e' l' => OpsD P n X l L Lt k y e' os l' K) : Y3z P n X l L Lt i k y e os ot K := fun fuel listed hok hsel hlt a w F Gs Gt Q hs hdj h1 h2 hQ => by
 obtain ⟨ns, ps, r, T, k1, k2, k3⟩ := h w F _ hs.own
 exact Y3z.h ho hg k1 k2 k3 fuel listed hok hsel hlt a w F Gs Gt Q hs hdj h1 h2 hQ
theorem Y3z.ghk (ho : nth l i = some o) (hg : o.guard = some (j, want)) (hj : (nth l j).bind (·.dst) = some t) (ht : get e t = some (.bool z)) (htn : Nat.blt t n = true) (hb : z = want) (h : HoK P n e (os ++ ot) ot o fun e' l' => OpsD P n X l L Lt k y e' os l' K) : Y3z P n X l L Lt i k y e os ot K := fun fuel listed hok hsel hlt a w F Gs Gt Q hs hdj h1 h2 hQ => by
 obtain ⟨ns, ps, r, T, k1, k2, k3⟩ := h w F _ hs.own
 exact Y3z.gh ho hg hj ht htn hb k1 k2 k3 fuel listed hok hsel hlt a w F Gs Gt Q hs hdj h1 h2 hQ
theorem OpsD.lk (ho : nth l i = some o) (hg : o.guard = none) (h : HoK P n e (os ++ ot) (os ++ ot) o fun e' l' => OpsD P n X l L Lt k false e' [] l' K) : OpsD P n X l L Lt (.late i k) y e os ot K := fun fuel listed hok hsel hlt a w F Gs Gt Q hs hdj h1 h2 hQ => by
 obtain ⟨ns, ps, r, T, k1, k2, k3⟩ := h w F _ hs.own
 exact OpsD.late ho hg ((Y41 os ot _).trans k1) k2 k3 fuel listed hok hsel hlt a w F Gs Gt Q hs hdj h1 h2 hQ
end

section
variable {P : Program} {n : Nat} {e : Env} {ls vs os r : List Obj} {o : Oper} {Q : Env → List Obj → Prop} {d ty T : Nat} {pos : String} {af : Array Edge} {gd : Option (Nat × Bool)} {x y : Operand} {c : C}
theorem vk {m : Bool} {Q : Env → Prop} (h : VOp m P n e vs o d c) (k : Q ((d, c) :: e)) : VoK m P n e ls vs o Q := fun _ _ _ _ => ⟨d, c, h, k⟩
theorem HoK.of {ps : List Obj} {ns : List Nat} {T : Env → List Obj → Prop} (hp : Y7 ns os = some (ps, r)) (h : HOp P n o e ps T) (k : ∀ e' qs, T e' qs → appK qs r fun l => Q e' l) : HoK P n e vs os o Q := fun _ _ _ _ => ⟨ns, ps, r, T, hp, h, k⟩
theorem HoK.learn {R : Prop} (h : ∀ w F G, Own w F vs G → R) (k : R → HoK P n e vs os o Q) : HoK P n e vs os o Q := fun w F G ho => k (h w F G ho) w F G ho
theorem HoK.mk {γ : Type} {E : γ → Env} {R : γ → List Obj} (h : HOp P n o e [] fun e' qs => ∃ v, e' = E v ∧ qs = R v) (k : ∀ v, appK (R v) os fun l => Q (E v) l) : HoK P n e vs os o Q :=
 HoK.of (ns := []) rfl h fun _ _ ⟨v, h1, h2⟩ => by rw [h1, h2]; exact k v

class OneO (c : C) (vs : List Obj) : Prop where
 h : ∀ w F G, Own w F vs G → One c
instance {α : Type} {k : α → List C} {sz : Nat} {xs : List α} : OneO (.im k sz xs) vs := ⟨fun _ _ _ _ => One.im⟩
instance {cs : List C} : OneO (.ip cs) vs := ⟨fun _ _ _ _ => One.ip⟩
instance {f : Nat} {cs : List C} : OneO (.clo f cs) vs := ⟨fun _ _ _ _ => One.clo⟩
instance {q : IntKind} {i : Int} : OneO (.val (.int q i)) vs := ⟨fun _ _ _ _ => One.val rfl⟩
instance {b : Bool} : OneO (.val (.bool b)) vs := ⟨fun _ _ _ _ => One.val rfl⟩
instance {b : ByteArray} : OneO (.val (.string b)) vs := ⟨fun _ _ _ _ => One.val rfl⟩
instance {a : Option Addr} : OneO (.val (.pointer a)) vs := ⟨fun _ _ _ _ => One.val rfl⟩
instance {a : Option Nat} : OneO (.val (.map a)) vs := ⟨fun _ _ _ _ => One.val rfl⟩
instance {a : Option Addr} {m c : Nat} : OneO (.val (.slice a m c)) vs := ⟨fun _ _ _ _ => One.val rfl⟩
theorem Y95 {v : Value} {α : Type} {E sz : Nat} {k : α → List C} {xs : List α} {w : World} {F G : BSet} (i : ArI v vs E k sz xs r) (h : Own w F vs G) : v.oneCell' = true := by
 obtain ⟨p, hp, _⟩ := i.pick
 obtain ⟨G1, h1, _⟩ := h.pick hp
 obtain ⟨⟨vs', ⟨_, ho⟩, _⟩, _⟩ := h1
 rcases ho with ⟨rfl, _⟩ | ⟨g, cap, cur, rfl, _⟩ <;> rfl
instance (priority := low) {v : Value} {α : Type} {E sz : Nat} {k : α → List C} {xs : List α} [i : ArI v vs E k sz xs r] : OneO (.val v) vs := ⟨fun _ _ _ h => One.val (Y95 i h)⟩

theorem hal {zs : List Value} {cs : List C} (k : ∀ b, Q ((d, pt b) :: e) (.box b T cs :: os)) (i : AlI P T zs cs := by infer_instance) (hn : Nat.blt d n = true := by exact rfl) : HoK P n e vs os ⟨some d, .alloc T, ty, pos, af, gd⟩ Q :=
 HoK.mk (Y1t i.h i.c hn) k
theorem hbx {cs : List C} (k : ∀ b, Q ((d, pt b) :: e) (.box b T cs :: os)) (hx : ev e x = some (.agg cs) := by exact rfl) (hn : Nat.blt d n = true := by exact rfl) : HoK P n e vs os ⟨some d, .box T x, ty, pos, af, gd⟩ Q :=
 HoK.mk (Y1v hx hn) k
theorem hb1 (k : ∀ b, Q ((d, pt b) :: e) (.box b T [c] :: os)) (hx : ev e x = some c := by exact rfl) (i : OneO c vs := by infer_instance) (hn : Nat.blt d n = true := by exact rfl) : HoK P n e vs os ⟨some d, .box T x, ty, pos, af, gd⟩ Q :=
 HoK.learn i.h fun h1 => HoK.mk (Y1u hx h1 hn) k
variable {b off m T' : Nat} {cs ds gs : List C}
theorem hsA (kk : Q e (.box b T' gs :: r)) (hl : LdI P T true m := by infer_instance) (hx : ev e x = some (.val (.pointer (some ⟨b, off, none⟩))) := by exact rfl) (hy : ev e y = some (.agg ds) := by exact rfl) (hdm : Nat.beq ds.length m = true := by exact rfl) (i : BxI b os T' cs r := by infer_instance) (hs : setO off ds cs = some gs := by exact rfl) :
  HoK P n e vs os ⟨none, .store T x y, ty, pos, af, gd⟩ Q := by
 obtain ⟨p, _, h⟩ := i.pick
 obtain ⟨h1, h2⟩ := Y8w hs
 exact HoK.of h (Y1y hl.h hx hy hdm (Nat.ble_eq_true_of_le h2) h1) fun _ _ ⟨h3, h4⟩ => by rw [h3, h4]; exact kk
theorem hs1 (kk : Q e (.box b T' gs :: r)) (hl : LdI P T false 1 := by infer_instance) (hx : ev e x = some (.val (.pointer (some ⟨b, off, none⟩))) := by exact rfl) (hy : ev e y = some c := by exact rfl) (h1 : OneO c vs := by infer_instance) (i : BxI b os T' cs r := by infer_instance) (hs : setO off [c] cs = some gs := by exact rfl) :
  HoK P n e vs os ⟨none, .store T x y, ty, pos, af, gd⟩ Q := by
 obtain ⟨p, _, h⟩ := i.pick
 obtain ⟨h3, h2⟩ := Y8w hs
 exact HoK.learn h1.h fun h1 => HoK.of h (Y1x hl.h hx hy h1 (Nat.ble_eq_true_of_le h2) h3) fun _ _ ⟨h3, h4⟩ => by rw [h3, h4]; exact kk
class Mk {α : Type} (k : α → List C) (cs : List C) (e : outParam α) : Prop where
 h : k e = cs
variable {α : Type} {k : α → List C} {sz E : Nat} {v u : Value} {xs : List α} {el el' : α} {j : Nat} {t : Int}
theorem ha1 (kk : Q e (.arr v E k sz (xs.set t.toNat el') :: r)) (hl : LdI P T false 1 := by infer_instance) (hx : ev e x = some (.val (Y37 v t.toNat sz j)) := by exact rfl) (i : ArI v os E k sz xs r := by infer_instance) (hi : getI xs t = some el := by assumption) (hy : ev e y = some c := by exact rfl) (h1 : OneO c vs := by infer_instance)
  (hs : setO j [c] (k el) = some gs := by exact rfl) (hm : Mk k gs el' := by infer_instance) : HoK P n e vs os ⟨none, .store T x y, ty, pos, af, gd⟩ Q := by
 obtain ⟨p, _, h⟩ := i.pick
 obtain ⟨h3, h2⟩ := Y8w hs
 exact HoK.learn h1.h fun h1 => HoK.of h (Y3f hl.h hx hy h1 (Y2f hi).2.2 (Nat.ble_eq_true_of_le h2) (h3.trans hm.h.symm)) fun _ _ ⟨h3, h4⟩ => by rw [h3, h4]; exact kk
theorem haA (kk : Q e (.arr v E k sz (xs.set t.toNat el') :: r)) (hl : LdI P T true m := by infer_instance) (hx : ev e x = some (.val (Y37 v t.toNat sz j)) := by exact rfl) (i : ArI v os E k sz xs r := by infer_instance) (hi : getI xs t = some el := by assumption) (hy : ev e y = some (.agg ds) := by exact rfl) (hdm : Nat.beq ds.length m = true := by exact rfl)
  (hs : setO j ds (k el) = some gs := by exact rfl) (hm : Mk k gs el' := by infer_instance) : HoK P n e vs os ⟨none, .store T x y, ty, pos, af, gd⟩ Q := by
 obtain ⟨p, _, h⟩ := i.pick
 obtain ⟨h3, h2⟩ := Y8w hs
 exact HoK.of h (Y3g hl.h hx hy hdm (Y2f hi).2.2 (Nat.ble_eq_true_of_le h2) (h3.trans hm.h.symm)) fun _ _ ⟨h3, h4⟩ => by rw [h3, h4]; exact kk
class ArT (P : Program) (T : Nat) (E sz by' : outParam Nat) {α : outParam Type} (k : outParam (α → List C)) : Prop where
 h : Y30 P T = some (E, sz, by')
class ZeK (P : Program) (E : Nat) {α : Type} (k : α → List C) (zs : outParam (List Value)) (z : outParam α) : Prop where
 h : Y1c P E = some zs
 c : ∀ w F, Y1 w F (k z) zs
variable {β : Type} {g : Unit → Option β} {b0 : β} {by' : Nat} {r1 : List Obj} {ys : List α}
theorem Y96 {p1 p2 : Obj} (h1 : ∃ p, Go.Abs.pick p os = some p1 ∧ Y7 [p] os = some ([p1], r1)) (h2 : ∃ p, Go.Abs.pick p r1 = some p2 ∧ Y7 [p] r1 = some ([p2], r)) : ∃ ns, Y7 ns os = some ([p1, p2], r) := by
 obtain ⟨p, _, h1⟩ := h1
 obtain ⟨q, _, h2⟩ := h2
 obtain ⟨o', r', k1, k2⟩ := Y8y (show Y3 p os (fun o r => some ([o], r)) = some ([p1], r1) from h1)
 cases k1
 obtain ⟨o', r', k3, k4⟩ := Y8y (show Y3 q r1 (fun o r => some ([o], r)) = some ([p2], r) from h2)
 cases k3
 exact ⟨[p, q], (k2 _ _).trans (k4 _ _)⟩
theorem hap (h : (chk (decide ((xs.length + ys.length) * by' ≤ 140737488355328))).bind g = some b0) (kk : ∀ v', g () = some b0 → Q ((d, cV v') :: e) (.arr v' E k sz (xs ++ ys) :: r))
  (hx : ev e x = some (.val v) := by exact rfl) (hy : ev e y = some (.val u) := by exact rfl) (i : ArI v os E k sz xs r1 := by infer_instance) (j : ArI u r1 E k sz ys r := by infer_instance) (hT : ArT P T E sz by' k := by infer_instance) (h0 : Nat.blt 0 by' = true := by exact rfl) (hn : Nat.blt d n = true := by exact rfl) :
  HoK P n e vs os ⟨some d, .call ⟨.builtin .append, #[x, y], #[T, T]⟩, ty, pos, af, gd⟩ Q := by
 obtain ⟨w, hc, h⟩ := ob h
 obtain ⟨ns, hp⟩ := Y96 i.pick j.pick
 exact HoK.of hp (Y34 hT.h hx hy (Wo (Y45 hc)) (Y49 (Yl h0) hc) hn) fun _ _ ⟨v', h1, h2⟩ => by rw [h1, h2]; exact kk v' h
theorem hapI (h : (chk (decide ((xs.length + ys.length) * by' ≤ 140737488355328))).bind g = some b0) (kk : ∀ v', g () = some b0 → Q ((d, cV v') :: e) (.arr v' E k sz (xs ++ ys) :: r))
  (hx : ev e x = some (.val v) := by exact rfl) (hy : ev e y = some (.im k sz ys) := by exact rfl) (i : ArI v os E k sz xs r := by infer_instance) (hT : ArT P T E sz by' k := by infer_instance) (h0 : Nat.blt 0 by' = true := by exact rfl) (hn : Nat.blt d n = true := by exact rfl) :
  HoK P n e vs os ⟨some d, .call ⟨.builtin .append, #[x, y], #[T, T]⟩, ty, pos, af, gd⟩ Q := by
 obtain ⟨w, hc, h⟩ := ob h
 obtain ⟨p, _, hp⟩ := i.pick
 exact HoK.of hp (Y33 hT.h hx hy (Wo (Y45 hc)) (Y49 (Yl h0) hc) hn) fun _ _ ⟨v', h1, h2⟩ => by rw [h1, h2]; exact kk v' h
theorem Y97 {w : World} {F G : BSet} (h : Own w F os G) : Own w F (.arr s0 E k sz ([] : List α) :: os) G := ⟨fun _ => False, G, fun b => by simp, fun b hb => hb.elim, Y69, h⟩
theorem hapN (h : (chk (decide ((([] : List α).length + ys.length) * by' ≤ 140737488355328))).bind g = some b0) (kk : ∀ v', g () = some b0 → Q ((d, cV v') :: e) (.arr v' E k sz ([] ++ ys) :: r))
  (hx : ev e x = some (.val s0) := by exact rfl) (hy : ev e y = some (.val u) := by exact rfl) (j : ArI u os E k sz ys r := by infer_instance) (hT : ArT P T E sz by' k := by infer_instance) (h0 : Nat.blt 0 by' = true := by exact rfl) (hn : Nat.blt d n = true := by exact rfl) :
  HoK P n e vs os ⟨some d, .call ⟨.builtin .append, #[x, y], #[T, T]⟩, ty, pos, af, gd⟩ Q := by
 obtain ⟨w, hc, h⟩ := ob h
 obtain ⟨p, _, hp⟩ := j.pick
 exact HoK.of hp (HOp.pre fun w F G ho => ⟨_, Y97 ho, Y34 hT.h hx hy (Wo (Y45 hc)) (Y49 (Yl h0) hc) hn⟩) fun _ _ ⟨v', h1, h2⟩ => by rw [h1, h2]; exact kk v' h
theorem hapM (h : (chk (decide ((([] : List α).length + ys.length) * by' ≤ 140737488355328))).bind g = some b0) (kk : ∀ v', g () = some b0 → Q ((d, cV v') :: e) (.arr v' E k sz ([] ++ ys) :: os))
  (hx : ev e x = some (.val s0) := by exact rfl) (hy : ev e y = some (.im k sz ys) := by exact rfl) (hT : ArT P T E sz by' k := by infer_instance) (h0 : Nat.blt 0 by' = true := by exact rfl) (hn : Nat.blt d n = true := by exact rfl) :
  HoK P n e vs os ⟨some d, .call ⟨.builtin .append, #[x, y], #[T, T]⟩, ty, pos, af, gd⟩ Q := by
 obtain ⟨w, hc, h⟩ := ob h
 exact HoK.of (ns := []) rfl (HOp.pre fun w F G ho => ⟨_, Y97 ho, Y33 hT.h hx hy (Wo (Y45 hc)) (Y49 (Yl h0) hc) hn⟩) fun _ _ ⟨v', h1, h2⟩ => by rw [h1, h2]; exact kk v' h
def Y98 (e : Env) {α : Type} (k : α → List C) (sz i : Nat) (ps : List (Nat × Operand)) (K : List α → Prop) : Prop := ∃ ys, Parts e k sz i ps ys ∧ K ys
def AllB (p : Nat → Prop) : Prop := ∀ b, p b
theorem alb {p : Nat → Prop} (h : ∀ b, p b) : AllB p := h
section
variable {K : List α → Prop} {i : Nat} {ps : List (Nat × Operand)}
theorem Y98.nil (h : K []) : Y98 e k sz i [] K := ⟨[], .nil, h⟩
theorem Y98.oo (hx : ev e x = some c) (h1 : One c) (hm : Mk k [c] el) (hz : sz = 1) (m : Y98 e k sz (i + 1) ps fun ys => K (el :: ys)) : Y98 e k sz i ((i, x) :: ps) K := by
 obtain ⟨ys, h2, h3⟩ := m
 exact ⟨_, .one hx h1 hm.h hz h2, h3⟩
theorem Y98.aa (hx : ev e x = some (.agg cs)) (hm : Mk k cs el) (hz : Nat.beq cs.length sz = true) (m : Y98 e k sz (i + 1) ps fun ys => K (el :: ys)) : Y98 e k sz i ((i, x) :: ps) K := by
 obtain ⟨ys, h2, h3⟩ := m
 exact ⟨_, .agg (hm.h.symm ▸ hx) (hm.h.symm ▸ hz) h2, h3⟩
end
theorem hbs {ps : List (Nat × Operand)} (hT : ArT P T E sz by' k) (hm : Nat.beq m ps.length = true) (hb : Nat.ble (m * sz) 16777216 = true) (hn : Nat.blt d n = true) (kk : Y98 e k sz 0 ps fun ys => AllB fun b => Q ((d, cV (sv b m m)) :: e) (.arr (sv b m m) E k sz ys :: os)) :
  HoK P n e vs os ⟨some d, .buildSlice T m ps.toArray, ty, pos, af, gd⟩ Q := by
 obtain ⟨ys, hp, kk⟩ := kk
 exact HoK.mk (Y3l hT.h hp hm hb hn) kk
def BldK (e : Env) (vs : List Obj) (place : Nat → Option (Nat × Nat)) (cs : List C) (ps : List (Nat × Operand)) (K : List C → Prop) : Prop := ∀ w F G, Own w F vs G → ∃ ds, Bld e place cs ps ds ∧ K ds
section
variable {K : List C → Prop} {i : Nat} {r : List (Nat × Operand)} {place : Nat → Option (Nat × Nat)} {cs' es : List C}
theorem BldK.nil (h : K cs) : BldK e vs place cs [] K := fun _ _ _ _ => ⟨cs, .nil, h⟩
theorem BldK.one (hx : ev e x = some c) (h1 : OneO c vs) (hp : place i = some (off, 1)) (hs : setO off [c] cs = some cs') (k : BldK e vs place cs' r K) : BldK e vs place cs ((i, x) :: r) K := fun w F G h => by
 obtain ⟨ds, h2, h3⟩ := k w F G h
 exact ⟨ds, Bld.one' hx (h1.h w F G h) hp hs h2, h3⟩
theorem BldK.agg (hx : ev e x = some (.agg es)) (hp : place i = some (off, es.length)) (hs : setO off es cs = some cs') (k : BldK e vs place cs' r K) : BldK e vs place cs ((i, x) :: r) K := fun w F G h => by
 obtain ⟨ds, h2, h3⟩ := k w F G h
 exact ⟨ds, Bld.agg' hx hp hs h2, h3⟩
end
theorem vbS {parts : List (Nat × Operand)} {ps : List (Nat × Nat)} {zs : List Value} {R : Env → Prop} (i : PlI P T ps) (z : AlI P T zs cs) (hn : Nat.blt d n = true) (kk : BldK e ls (fun i => ps[i]?) cs parts fun ds => R ((d, .agg ds) :: e)) : VoK false P n e ls vs ⟨some d, .build T parts.toArray, ty, pos, af, gd⟩ R := fun w F G h => by
 obtain ⟨ds, hb, kk⟩ := kk w F G h
 exact ⟨d, _, Y3k i.h z.h z.c hb hn, kk⟩
theorem hms {z : α} {zs : List Value} {qk qk' : IntKind} (h : (chk (decide (0 ≤ t ∧ t * (by' : Int) ≤ 140737488355328))).bind g = some b0) (kk : ∀ b, g () = some b0 → Q ((d, cV (sn b t)) :: e) (.arr (sn b t) E k sz (List.replicate t.toNat z) :: os))
  (hx : ev e x = some (.val (.int qk t)) := by exact rfl) (hy : ev e y = some (.val (.int qk' t)) := by exact rfl) (hT : ArT P T E sz by' k := by infer_instance) (hz : ZeK P E k zs z := by infer_instance) (h0 : Nat.blt 0 by' = true := by exact rfl) (hn : Nat.blt d n = true := by exact rfl) :
  HoK P n e vs os ⟨some d, .makeSlice T x y, ty, pos, af, gd⟩ Q := by
 obtain ⟨w, hc, h⟩ := ob h
 exact HoK.mk (Y3n hT.h hz.h hz.c hx hy (Y4a hc).1 (Y4a hc).2 (Y4b (by have := Yl h0; omega) hc) hn) fun b => kk b h
theorem hmsA {z : α} {zs : List Value} {qk qk' : IntKind} {w0 : Unit} (kk : ∀ b, Q ((d, cV (sn b t)) :: e) (.arr (sn b t) E k sz (List.replicate t.toNat z) :: os))
  (hx : ev e x = some (.val (.int qk t)) := by exact rfl) (hy : ev e y = some (.val (.int qk' t)) := by exact rfl) (hT : ArT P T E sz by' k := by infer_instance) (hz : ZeK P E k zs z := by infer_instance) (h0 : Nat.blt 0 by' = true := by exact rfl) (hn : Nat.blt d n = true := by exact rfl) (hc : chk (decide (0 ≤ t ∧ t * (by' : Int) ≤ 140737488355328)) = some w0 := by assumption) :
  HoK P n e vs os ⟨some d, .makeSlice T x y, ty, pos, af, gd⟩ Q :=
 HoK.mk (Y3n hT.h hz.h hz.c hx hy (Y4a hc).1 (Y4a hc).2 (Y4b (by have := Yl h0; omega) hc) hn) fun b => kk b
class MpT (P : Program) (T : Nat) {γ : outParam Type} (kd : outParam IntKind) (kc : outParam (γ → C)) (E : outParam Nat) (zv : outParam Value) (z0 : outParam γ) : Prop where
 h : Y6g P T = some (kd, E)
 z : Y6i P E = some zv
 c : ∀ w F, (kc z0).rep w F zv
class Mc {γ : Type} (kc : γ → C) (c : C) (v : outParam γ) : Prop where
 h : c = kc v
variable {γ : Type} {kd : IntKind} {kc : γ → C} {mm : List (Int × γ)} {zv : Value} {z0 w0 : γ} {z : Operand}
theorem hmk (kk : ∀ b, Q ((d, mt b) :: e) (.map b kd kc [] :: os)) (i : MpT P T kd kc E zv z0 := by infer_instance) (hn : Nat.blt d n = true := by exact rfl) : HoK P n e vs os ⟨some d, .makeMap T none, ty, pos, af, gd⟩ Q :=
 HoK.mk (Y6n hn) kk
theorem hmu (kk : Q e (.map b kd kc (mset mm t w0) :: r)) (hx : ev e x = some (.val (.map (some b))) := by exact rfl) (i : MpI b os kd kc mm r := by infer_instance) (hT : MpT P T kd kc E zv z0 := by infer_instance) (hy : ev e y = some (.val (.int kd t)) := by exact rfl) (hz : ev e z = some c := by exact rfl) (hc : Mc kc c w0 := by infer_instance) :
  HoK P n e vs os ⟨none, .mapUpdate T x y z, ty, pos, af, gd⟩ Q := by
 obtain ⟨p, _, h⟩ := i.pick
 exact HoK.of h (Y6r hT.h hx hy hz hc.h) fun _ _ ⟨h3, h4⟩ => by rw [h3, h4]; exact kk
theorem vlk {vr : List Obj} (hx : ev e x = some (.val (.map (some b)))) (i : MpI b vs kd kc mm vr) (hT : MpT P T kd kc E zv z0) (hy : ev e y = some (.val (.int kd t))) (hn : Nat.blt d n = true) : VOp true P n e vs ⟨some d, .lookup T x y false, ty, pos, af, gd⟩ d (kc ((mget mm t).getD z0)) := by
 obtain ⟨p, h, _⟩ := i.pick
 exact Y6p hT.h hT.z hT.c hx hy h hn
theorem vlo {vr : List Obj} (hx : ev e x = some (.val (.map (some b)))) (i : MpI b vs kd kc mm vr) (hT : MpT P T kd kc E zv z0) (hy : ev e y = some (.val (.int kd t))) (hn : Nat.blt d n = true) : VOp true P n e vs ⟨some d, .lookup T x y true, ty, pos, af, gd⟩ d (.tup [kc ((mget mm t).getD z0), .bool (mget mm t).isSome]) := by
 obtain ⟨p, h, _⟩ := i.pick
 exact Y6q hT.h hT.z hT.c hx hy h hn
theorem vlI (hx : ev e x = some (.imap kd kc mm)) (hT : MpT P T kd kc E zv z0) (hy : ev e y = some (.val (.int kd t))) (hn : Nat.blt d n = true) : VOp true P n e vs ⟨some d, .lookup T x y false, ty, pos, af, gd⟩ d (kc ((mget mm t).getD z0)) := Y8e hT.h hT.z hT.c hx hy hn
theorem vlIo (hx : ev e x = some (.imap kd kc mm)) (hT : MpT P T kd kc E zv z0) (hy : ev e y = some (.val (.int kd t))) (hn : Nat.blt d n = true) : VOp true P n e vs ⟨some d, .lookup T x y true, ty, pos, af, gd⟩ d (.tup [kc ((mget mm t).getD z0), .bool (mget mm t).isSome]) := Y8f hT.h hT.z hT.c hx hy hn

variable {G : α → Option β} {R : Env → Prop} {qk : IntKind} {E' : Nat}
theorem vii (h : (getI xs t).bind G = some b0) (kk : ∀ el, getI xs t = some el → G el = some b0 → R ((d, .ip (k el)) :: e)) (hx : ev e x = some (.im k sz xs) := by exact rfl) (hy : ev e y = some (.val (.int qk t)) := by exact rfl) (hT : SlI P T E sz by' := by infer_instance) (hn : Nat.blt d n = true := by exact rfl) :
  VoK false P n e ls vs ⟨some d, .indexAddr T x y, ty, pos, af, gd⟩ R := by
 obtain ⟨el, h1, h2⟩ := ob h
 exact vk (Y2n hT.h hx hy h1 hn) (kk el h1 h2)
theorem via (h : (getI xs t).bind G = some b0) (kk : ∀ el, getI xs t = some el → G el = some b0 → R ((d, .val (Y37 v t.toNat sz 0)) :: e)) (hx : ev e x = some (.val v) := by exact rfl) (hy : ev e y = some (.val (.int qk t)) := by exact rfl) (i : ArI v vs E' k sz xs r := by infer_instance) (hT : SlI P T E sz by' := by infer_instance) (hn : Nat.blt d n = true := by exact rfl) :
  VoK false P n e ls vs ⟨some d, .indexAddr T x y, ty, pos, af, gd⟩ R := by
 obtain ⟨el, h1, h2⟩ := ob h
 obtain ⟨p, hp, _⟩ := i.pick
 exact vk (Y39 hT.h hx hp hy h1 hn) (kk el h1 h2)
variable {H : List α → Option β} {l1 l2 : Int} {qk' : IntKind}
theorem vsb (h : (Y2d xs l1 l2).bind H = some b0) (kk : ∀ ys, Y2d xs l1 l2 = some ys → H ys = some b0 → R ((d, .im k sz ys) :: e)) (hx : ev e x = some (.im k sz xs) := by exact rfl) (hy : ev e y = some (.val (.int qk l1)) := by exact rfl) (hz : ev e z = some (.val (.int qk' l2)) := by exact rfl) (hT : SlI P T E sz by' := by infer_instance) (hn : Nat.blt d n = true := by exact rfl) :
  VoK false P n e ls vs ⟨some d, .slice T x (some y) (some z) none, ty, pos, af, gd⟩ R := by
 obtain ⟨ys, h1, h2⟩ := ob h
 exact vk (Y2v hT.h hx hy hz h1 hn) (kk ys h1 h2)
theorem vsl (h : (Y2d xs l1 xs.length).bind H = some b0) (kk : ∀ ys, Y2d xs l1 xs.length = some ys → H ys = some b0 → R ((d, .im k sz ys) :: e)) (hx : ev e x = some (.im k sz xs) := by exact rfl) (hy : ev e y = some (.val (.int qk l1)) := by exact rfl) (hT : SlI P T E sz by' := by infer_instance) (hn : Nat.blt d n = true := by exact rfl) :
  VoK false P n e ls vs ⟨some d, .slice T x (some y) none none, ty, pos, af, gd⟩ R := by
 obtain ⟨ys, h1, h2⟩ := ob h
 exact vk (Y2w hT.h hx hy h1 hn) (kk ys h1 h2)
theorem vsh (h : (Y2d xs 0 l2).bind H = some b0) (kk : ∀ ys, Y2d xs 0 l2 = some ys → H ys = some b0 → R ((d, .im k sz ys) :: e)) (hx : ev e x = some (.im k sz xs) := by exact rfl) (hz : ev e z = some (.val (.int qk' l2)) := by exact rfl) (hT : SlI P T E sz by' := by infer_instance) (hn : Nat.blt d n = true := by exact rfl) :
  VoK false P n e ls vs ⟨some d, .slice T x none (some z) none, ty, pos, af, gd⟩ R := by
 obtain ⟨ys, h1, h2⟩ := ob h
 exact vk (Y2x hT.h hx hz h1 hn) (kk ys h1 h2)
theorem vtb {s1 : ByteArray} {H : ByteArray → Option β} (h : (Y2e s1 l1 l2).bind H = some b0) (kk : ∀ r, Y2e s1 l1 l2 = some r → H r = some b0 → R ((d, C.str r) :: e)) (hx : ev e x = some (.str s1) := by exact rfl) (hy : ev e y = some (.val (.int qk l1)) := by exact rfl) (hz : ev e z = some (.val (.int qk' l2)) := by exact rfl) (hT : UnI P T .string := by infer_instance) (hn : Nat.blt d n = true := by exact rfl) :
  VoK false P n e ls vs ⟨some d, .slice T x (some y) (some z) none, ty, pos, af, gd⟩ R := by
 obtain ⟨r, h1, h2⟩ := ob h
 exact vk (Y2p hT.h hx hy hz h1 hn) (kk r h1 h2)
theorem vtl {s1 : ByteArray} {H : ByteArray → Option β} (h : (Y2e s1 l1 s1.size).bind H = some b0) (kk : ∀ r, Y2e s1 l1 s1.size = some r → H r = some b0 → R ((d, C.str r) :: e)) (hx : ev e x = some (.str s1) := by exact rfl) (hy : ev e y = some (.val (.int qk l1)) := by exact rfl) (hT : UnI P T .string := by infer_instance) (hn : Nat.blt d n = true := by exact rfl) :
  VoK false P n e ls vs ⟨some d, .slice T x (some y) none none, ty, pos, af, gd⟩ R := by
 obtain ⟨r, h1, h2⟩ := ob h
 exact vk (Y2q hT.h hx hy h1 hn) (kk r h1 h2)
theorem vth {s1 : ByteArray} {H : ByteArray → Option β} (h : (Y2e s1 0 l2).bind H = some b0) (kk : ∀ r, Y2e s1 0 l2 = some r → H r = some b0 → R ((d, C.str r) :: e)) (hx : ev e x = some (.str s1) := by exact rfl) (hz : ev e z = some (.val (.int qk' l2)) := by exact rfl) (hT : UnI P T .string := by infer_instance) (hn : Nat.blt d n = true := by exact rfl) :
  VoK false P n e ls vs ⟨some d, .slice T x none (some z) none, ty, pos, af, gd⟩ R := by
 obtain ⟨r, h1, h2⟩ := ob h
 exact vk (Y2r hT.h hx hz h1 hn) (kk r h1 h2)
theorem vas {s1 s2 : ByteArray} {u1 : Nat} (h : (chk (decide (s1.size + s2.size ≤ 9223372036854775807))).bind g = some b0) (kk : g () = some b0 → R ((d, C.str (s1 ++ s2)) :: e)) (hx : ev e x = some (.str s1) := by exact rfl) (hy : ev e y = some (.str s2) := by exact rfl) (hn : Nat.blt d n = true := by exact rfl) :
  VoK false P n e ls vs ⟨some d, .binOp .add T x y u1, ty, pos, af, gd⟩ R := by
 obtain ⟨w, hc, h⟩ := ob h
 exact vk (Y77 hx hy (Wo (Y45 hc)) hn) (kk h)
class FiI (P : Program) (T j : Nat) (fo m : outParam Nat) (a : outParam Bool) : Prop where
 h : Y6y P T j = some (fo, m, a)
theorem vfd {fo jj : Nat} (i : FiI P T jj fo m false) (hx : ev e x = some (.agg cs)) (hc : cs[fo]? = some c) (hn : Nat.blt d n = true) : VOp false P n e vs ⟨some d, .field T x jj, ty, pos, af, gd⟩ d c := Y70 i.h hx hc hn
theorem vfA {fo jj : Nat} (i : FiI P T jj fo m true) (hx : ev e x = some (.agg cs)) (hd : Y8u fo m cs = some ds) (hn : Nat.blt d n = true) : VOp false P n e vs ⟨some d, .field T x jj, ty, pos, af, gd⟩ d (.agg ds) :=
 Y71 i.h hx (by rcases Y8v hd with h | ⟨h1, h2⟩; exact h.1; subst h1 h2; rfl) hn
class ByI (P : Program) (T : Nat) : Prop where
 h : Y73 P T = true
theorem vsA {U : Nat} {kk : Int → List C} {is : List Int} (hT : ByI P T) (hU : P.underlying U = some .string) (hx : ev e x = some (.val v)) (i : ArI v vs E kk 1 is r) (hk : ∀ x, kk x = [C.val (.int .u8 x)]) (hn : Nat.blt d n = true) : VOp true P n e vs ⟨some d, .convert T U x, ty, pos, af, gd⟩ d (.str (Y72 is)) := by
 obtain ⟨p, hp, _⟩ := i.pick
 exact Y76 hT.h hU hk hx hp hn
class VlI (cs : List C) (us : outParam (List Value)) : Prop where
 h : cs = us.map C.val
instance : VlI [] [] := ⟨rfl⟩
instance {v : Value} {us : List Value} [i : VlI cs us] : VlI (.val v :: cs) (v :: us) := ⟨by rw [i.h]; rfl⟩
class EqK (P : Program) (T : Nat) (ks : outParam (List Nat)) : Prop where
 h : Y5u P T = some ks
theorem veq {us ws : List Value} {kk : List Nat} {b : Bool} {u1 : Nat} (hk : EqK P T kk) (hx : ev e x = some (.agg cs)) (hy : ev e y = some (.agg ds)) (h1 : VlI cs us) (h2 : VlI ds ws) (hb : Y5w kk us ws = some b) (hn : Nat.blt d n = true) : VOp false P n e vs ⟨some d, .binOp .eql T x y u1, ty, pos, af, gd⟩ d (.bool b) := Y61 us ws hk.h hx hy h1.h h2.h hb hn
theorem vne {us ws : List Value} {kk : List Nat} {b : Bool} {u1 : Nat} (hk : EqK P T kk) (hx : ev e x = some (.agg cs)) (hy : ev e y = some (.agg ds)) (h1 : VlI cs us) (h2 : VlI ds ws) (hb : Y5w kk us ws = some b) (hn : Nat.blt d n = true) : VOp false P n e vs ⟨some d, .binOp .neq T x y u1, ty, pos, af, gd⟩ d (.bool !b) := Y62 us ws hk.h hx hy h1.h h2.h hb hn
theorem val (h : (chk (decide ((0 : Int) ≤ t ∧ t ≤ (xs.length : Int)))).bind g = some b0) (kk : chk (decide ((0 : Int) ≤ t ∧ t ≤ (xs.length : Int))) = some () → g () = some b0 → R ((d, .val (dropV v sz t.toNat)) :: e)) (hx : ev e x = some (.val v) := by exact rfl) (i : ArI v vs E k sz xs r := by infer_instance) (hy : ev e y = some (.val (.int qk t)) := by exact rfl) (hT : SlI P T E' sz by' := by infer_instance) (hn : Nat.blt d n = true := by exact rfl) :
  VoK false P n e ls vs ⟨some d, .slice T x (some y) none none, ty, pos, af, gd⟩ R := by
 obtain ⟨w, hc, h⟩ := ob h
 obtain ⟨p, hp, _⟩ := i.pick
 exact vk (Y79 hT.h hx hp hy (Wo (Y45 hc)) rfl hn) (kk hc h)
theorem vah (h : (chk (decide ((0 : Int) ≤ t ∧ t ≤ (xs.length : Int)))).bind g = some b0) (kk : chk (decide ((0 : Int) ≤ t ∧ t ≤ (xs.length : Int))) = some () → g () = some b0 → R ((d, .val (takeV v t.toNat)) :: e)) (hx : ev e x = some (.val v) := by exact rfl) (i : ArI v vs E k sz xs r := by infer_instance) (hy : ev e y = some (.val (.int qk t)) := by exact rfl) (hT : SlI P T E' sz by' := by infer_instance) (hn : Nat.blt d n = true := by exact rfl) :
  VoK false P n e ls vs ⟨some d, .slice T x none (some y) none, ty, pos, af, gd⟩ R := by
 obtain ⟨w, hc, h⟩ := ob h
 obtain ⟨p, hp, _⟩ := i.pick
 exact vk (Y7a hT.h hx hp hy (Wo (Y45 hc)) rfl hn) (kk hc h)
theorem hpD {l : Nat} (h : (chk (decide (l ≤ ys.length))).bind (fun _ => (chk (decide ((xs.length + (ys.drop l).length) * by' ≤ 140737488355328))).bind g) = some b0) (kk : ∀ v', g () = some b0 → Q ((d, cV v') :: e) (.arr v' E k sz (xs ++ ys.drop l) :: .arr u E' k sz ys :: r))
  (hx : ev e x = some (.val v) := by exact rfl) (hy : ev e y = some (.val (dropV u sz l)) := by exact rfl) (i : ArI v os E k sz xs r1 := by infer_instance) (j : ArI u r1 E' k sz ys r := by infer_instance) (hT : ArT P T E sz by' k := by infer_instance) (h0 : Nat.blt 0 by' = true := by exact rfl) (hn : Nat.blt d n = true := by exact rfl) :
  HoK P n e vs os ⟨some d, .call ⟨.builtin .append, #[x, y], #[T, T]⟩, ty, pos, af, gd⟩ Q := by
 obtain ⟨w1, hc1, h⟩ := ob h
 obtain ⟨w, hc, h⟩ := ob h
 obtain ⟨ns, hp⟩ := Y96 i.pick j.pick
 exact HoK.of hp (Y7j hT.h hx hy (Part.drop l (Wo (Y45 hc1))) (Wo (Y45 hc)) (Y49 (Yl h0) hc) hn) fun _ _ ⟨v', h1, h2⟩ => by rw [h1, h2]; exact kk v' h
theorem hpT {l : Nat} (h : (chk (decide (l ≤ ys.length))).bind (fun _ => (chk (decide ((xs.length + (ys.take l).length) * by' ≤ 140737488355328))).bind g) = some b0) (kk : ∀ v', g () = some b0 → Q ((d, cV v') :: e) (.arr v' E k sz (xs ++ ys.take l) :: .arr u E' k sz ys :: r))
  (hx : ev e x = some (.val v) := by exact rfl) (hy : ev e y = some (.val (takeV u l)) := by exact rfl) (i : ArI v os E k sz xs r1 := by infer_instance) (j : ArI u r1 E' k sz ys r := by infer_instance) (hT : ArT P T E sz by' k := by infer_instance) (h0 : Nat.blt 0 by' = true := by exact rfl) (hn : Nat.blt d n = true := by exact rfl) :
  HoK P n e vs os ⟨some d, .call ⟨.builtin .append, #[x, y], #[T, T]⟩, ty, pos, af, gd⟩ Q := by
 obtain ⟨w1, hc1, h⟩ := ob h
 obtain ⟨w, hc, h⟩ := ob h
 obtain ⟨ns, hp⟩ := Y96 i.pick j.pick
 exact HoK.of hp (Y7j hT.h hx hy (Part.take l (Wo (Y45 hc1))) (Wo (Y45 hc)) (Y49 (Yl h0) hc) hn) fun _ _ ⟨v', h1, h2⟩ => by rw [h1, h2]; exact kk v' h
class MeI (b : Nat) (os : List Obj) {β : outParam Type} (kd : outParam IntKind) (kc : outParam (β → C)) (m : outParam (List (Int × β))) (z0 : outParam β) (j st : outParam Int) (r : outParam (List Obj)) : Prop where
 h : ∃ p, ∀ (δ : Type) (q : Obj → List Obj → Option δ), Y3 p os q = q (.mapE b kd kc m z0 j st) r
class PmI (b : Nat) (os : List Obj) {β : outParam Type} (kc : outParam (β → C)) (m : outParam (List ((Int × Int) × β))) (r : outParam (List Obj)) : Prop where
 h : ∃ p, ∀ (δ : Type) (q : Obj → List Obj → Option δ), Y3 p os q = q (.pmap b kc m) r
section
variable {β : Type} {kd : IntKind} {kc : β → C} {m : List (Int × β)} {m2 : List ((Int × Int) × β)} {z0 : β} {j st : Int} {b : Nat} {o : Obj} {ot : List Obj}
instance : MeI b (.mapE b kd kc m z0 j st :: r) kd kc m z0 j st r := ⟨0, fun _ _ => rfl⟩
instance [i : MeI b os kd kc m z0 j st r] : MeI b (o :: os) kd kc m z0 j st (o :: r) := by
 obtain ⟨p, h⟩ := i.h
 exact ⟨p + 1, fun δ q => h δ _⟩
instance [i : MeI b (o :: (os ++ ot)) kd kc m z0 j st r] : MeI b ((o :: os) ++ ot) kd kc m z0 j st r := i
instance [i : MeI b ot kd kc m z0 j st r] : MeI b ([] ++ ot) kd kc m z0 j st r := i
instance : PmI b (.pmap b kc m2 :: r) kc m2 r := ⟨0, fun _ _ => rfl⟩
instance [i : PmI b os kc m2 r] : PmI b (o :: os) kc m2 (o :: r) := by
 obtain ⟨p, h⟩ := i.h
 exact ⟨p + 1, fun δ q => h δ _⟩
instance [i : PmI b (o :: (os ++ ot)) kc m2 r] : PmI b ((o :: os) ++ ot) kc m2 r := i
instance [i : PmI b ot kc m2 r] : PmI b ([] ++ ot) kc m2 r := i
theorem hme {T E : Nat} {zv : Value} {mm : List (Int × β)} (kk : ∀ st : Int, Q ((d, .tup [.any, .int st]) :: e) (.mapE b kd kc mm z0 j st :: r)) (hx : ev e x = some (.val (.map (some b))) := by exact rfl) (i : MpI b os kd kc mm r := by infer_instance) (hT : MpT P T kd kc E zv z0 := by infer_instance) (hy : ev e y = some (.val (.int kd j)) := by exact rfl) (hn : Nat.blt d n = true := by exact rfl) :
  HoK P n e vs os ⟨some d, .mapEntry T x y, ty, pos, af, gd⟩ Q := by
 obtain ⟨p, _, h⟩ := i.pick
 exact HoK.of h (Y6t hT.h hT.z hT.c hx hy hn) fun _ _ ⟨v', h1, h2⟩ => by rw [h1, h2]; exact kk v'
theorem hes {w0 : β} {z : Operand} {T : Nat} (kk : Q e (.map b kd kc (mset m j w0) :: r)) (hx : ev e x = some (.val (.map (some b))) := by exact rfl) (i : MeI b os kd kc m z0 j st r := by infer_instance) (hy : ev e y = some (.int st) := by exact rfl) (hz : ev e z = some c := by exact rfl) (hc : Mc kc c w0 := by infer_instance) :
  HoK P n e vs os ⟨none, .entryStore T x y z, ty, pos, af, gd⟩ Q := by
 obtain ⟨p, h⟩ := i.h
 have h2 : Y7 [p] os = some ([.mapE b kd kc m z0 j st], r) := h _ _
 exact HoK.of h2 (Y6u hx hy hz hc.h) fun _ _ ⟨h3, h4⟩ => by rw [h3, h4]; exact kk
class PpT (P : Program) (T : Nat) {γ : outParam Type} (kc : outParam (γ → C)) (k E : outParam Nat) (zv : outParam Value) (z0 : outParam γ) : Prop where
 h : Y8i P T = some (k, E)
 z : Y6i P E = some zv
 c : ∀ w F, (kc z0).rep w F zv
variable {T k0 E : Nat} {zv : Value} {mp : List ((Int × Int) × β)} {j1 j2 : Int}
theorem hpk (kk : ∀ b, Q ((d, mt b) :: e) (.pmap b kc [] :: os)) (i : PpT P T kc k0 E zv z0 := by infer_instance) (hn : Nat.blt d n = true := by exact rfl) : HoK P n e vs os ⟨some d, .makeMap T none, ty, pos, af, gd⟩ Q :=
 HoK.mk (Y8p hn) kk
theorem vlp {vr : List Obj} (hx : ev e x = some (.val (.map (some b)))) (i : PmI b vs kc mp vr) (hT : PpT P T kc k0 E zv z0) (hy : ev e y = some (.agg [.int j1, .int j2])) (hn : Nat.blt d n = true) : VOp true P n e vs ⟨some d, .lookup T x y false, ty, pos, af, gd⟩ d (kc ((pget mp (j1, j2)).getD z0)) := by
 obtain ⟨p, h⟩ := i.h
 exact Y8r (j := (j1, j2)) hT.h hT.z hT.c hx hy (Y8t.symm.trans (h _ _)) hn
theorem hmp {w0 : β} {z : Operand} (kk : Q e (.pmap b kc (pset mp (j1, j2) w0) :: r)) (hx : ev e x = some (.val (.map (some b))) := by exact rfl) (i : PmI b os kc mp r := by infer_instance) (hT : PpT P T kc k0 E zv z0 := by infer_instance) (hy : ev e y = some (.agg [.int j1, .int j2]) := by exact rfl) (hz : ev e z = some c := by exact rfl) (hc : Mc kc c w0 := by infer_instance) :
  HoK P n e vs os ⟨none, .mapUpdate T x y z, ty, pos, af, gd⟩ Q := by
 obtain ⟨p, h⟩ := i.h
 have h2 : Y7 [p] os = some ([.pmap b kc mp], r) := h _ _
 exact HoK.of h2 (Y8s (j := (j1, j2)) hT.h hx hy hz hc.h) fun _ _ ⟨h3, h4⟩ => by rw [h3, h4]; exact kk
end
end
end Go.Abs
namespace Go.Abs
open Go

inductive Dr : Type 1
 | d (c : C) (qs : List Obj)
 | x {γ : Type} (S : γ → Dr)
 | b (t : Bool) (l r : Dr)
def Rel : Dr → C → List Obj → Prop
 | .d c qs, c', qs' => c' = c ∧ qs' = qs
 | .x S, c', qs' => ∃ v, Rel (S v) c' qs'
 | .b t l r, c', qs' => (t = true ∧ Rel l c' qs') ∨ (t = false ∧ Rel r c' qs')
def allR : Dr → (C → List Obj → Prop) → Prop
 | .d c qs, K => K c qs
 | .x S, K => ∀ v, allR (S v) K
 | .b t l r, K => (t = true → allR l K) ∧ (t = false → allR r K)
def exR : Dr → (C → List Obj → Prop) → Prop
 | .d c qs, K => K c qs
 | .x S, K => ∃ v, exR (S v) K
 | .b t l r, K => (t = true ∧ exR l K) ∨ (t = false ∧ exR r K)
def RelF {β : Type} (D : β → Dr) (r : β) : C → List Obj → Prop := Rel (D r)
theorem allR.out : ∀ {D : Dr} {K : C → List Obj → Prop} {c : C} {qs : List Obj}, allR D K → Rel D c qs → K c qs
 | .d _ _, _, _, _, h, ⟨h1, h2⟩ => h1 ▸ h2 ▸ h
 | .x _, _, _, _, h, ⟨v, hv⟩ => (h v).out hv
 | .b _ _ _, _, _, _, h, .inl ⟨ht, hr⟩ => (h.1 ht).out hr
 | .b _ _ _, _, _, _, h, .inr ⟨ht, hr⟩ => (h.2 ht).out hr
theorem exR.out : ∀ {D : Dr} {K : C → List Obj → Prop}, exR D K → ∃ c qs, Rel D c qs ∧ K c qs
 | .d c qs, _, h => ⟨c, qs, ⟨rfl, rfl⟩, h⟩
 | .x _, _, ⟨v, h⟩ => by
  obtain ⟨c, qs, h1, h2⟩ := exR.out h
  exact ⟨c, qs, ⟨v, h1⟩, h2⟩
 | .b _ _ _, _, .inl ⟨ht, h⟩ => by
  obtain ⟨c, qs, h1, h2⟩ := exR.out h
  exact ⟨c, qs, .inl ⟨ht, h1⟩, h2⟩
 | .b _ _ _, _, .inr ⟨ht, h⟩ => by
  obtain ⟨c, qs, h1, h2⟩ := exR.out h
  exact ⟨c, qs, .inr ⟨ht, h1⟩, h2⟩
inductive Ct (β : Type) : Type 1
 | d (cs : List C) (ps : List Obj) (D : β → Dr)
 | x {κ : Type} (S : κ → Ct β)
def CtOk (P : Program) (f : Nat) {β : Type} (x : Option β) : Ct β → Prop
 | .d cs ps D => ∀ r, x = some r → Ok P f cs ps (Rel (D r))
 | .x S => ∀ k, CtOk P f x (S k)
class SpO (P : Program) {β : Type} (f : Nat) (x : Option β) (T : outParam (Ct β)) : Prop where
 h : CtOk P f x T

section
variable {P : Program} {f : Nat} {β : Type} {x : Option β} {r0 : β} {cs0 cs : List C} {os ps qs rest r : List Obj} {Q : C → List Obj → Prop} {D : β → Dr}
def Y99 (P : Program) (f : Nat) (cs0 : List C) (os : List Obj) (Q : C → List Obj → Prop) : Prop := ∃ ns ps rest R, Y7 ns os = some (ps, rest) ∧ Ok P f cs0 ps R ∧ ∀ c qs, R c qs → appK qs rest fun l => Q c l
def UsC (P : Program) (f : Nat) {β : Type} (x : Option β) (r0 : β) (T : Ct β) (cs0 : List C) (os : List Obj) (Q : C → List Obj → Prop) : Prop := CtOk P f x T → x = some r0 → Y99 P f cs0 os Q
def PkG (ps os rest : List Obj) : Prop := ∃ ns, Y7 ns os = some (ps, rest)
theorem PkG.nil : PkG [] os os := ⟨[], rfl⟩
theorem PkG.cons {o o' : Obj} (i : ∃ p, Go.Abs.pick p os = some o' ∧ Y7 [p] os = some ([o'], r)) (he : o' = o) (k : PkG ps r rest) : PkG (o :: ps) os rest := by
 subst he
 obtain ⟨p, _, h1⟩ := i
 obtain ⟨ns, k⟩ := k
 obtain ⟨a, b, k1, k2⟩ := Y8y (show Y3 p os (fun o r => some ([o], r)) = some ([o'], r) from h1)
 cases k1
 obtain ⟨qs, q, k3, k4⟩ := Y8z (show Y5 ns r (fun ps r => some (ps, r)) = some (ps, rest) from k)
 cases k3
 exact ⟨p :: ns, (k2 _ _).trans (k4 _ _)⟩
def PkK (ps os : List Obj) (K : List Obj → Prop) : Prop := ∃ ps' rest, (∀ w F G, Own w F ps' G → Own w F ps G) ∧ PkG ps' os rest ∧ K rest
section
variable {K : List Obj → Prop}
theorem PkK.nil (h : K os) : PkK [] os K := ⟨[], os, fun _ _ _ h => h, PkG.nil, h⟩
theorem PkK.cons {o o' : Obj} (i : ∃ p, Go.Abs.pick p os = some o' ∧ Y7 [p] os = some ([o'], r)) (he : o' = o) (k : PkK ps r K) : PkK (o :: ps) os K := by
 obtain ⟨ps', rest, h0, h1, h2⟩ := k
 exact ⟨o :: ps', rest, fun w F G ⟨G1, G2, hi, hd, k1, k2⟩ => ⟨G1, G2, hi, hd, k1, h0 w F G2 k2⟩, h1.cons i he, h2⟩
theorem PkK.nl {α : Type} {E sz : Nat} {k : α → List C} (kk : PkK ps os K) : PkK (.arr s0 E k sz ([] : List α) :: ps) os K := by
 obtain ⟨ps', rest, h0, h1, h2⟩ := kk
 exact ⟨ps', rest, fun w F G h => Y97 (h0 w F G h), h1, h2⟩
theorem PkK.bx {b T T' : Nat} {cs cs' : List C} (i : BxI b os T' cs' r) (he : Obj.box b T' cs' = Obj.box b T cs) (k : PkK ps r K) : PkK (.box b T cs :: ps) os K := PkK.cons i.pick he k
theorem PkK.ar {v : Value} {α α' : Type} {E sz E' sz' : Nat} {k : α → List C} {k' : α' → List C} {xs : List α} {xs' : List α'} (i : ArI v os E' k' sz' xs' r) (he : Obj.arr v E' k' sz' xs' = Obj.arr v E k sz xs) (kk : PkK ps r K) : PkK (.arr v E k sz xs :: ps) os K := PkK.cons i.pick he kk
theorem PkK.mp {b : Nat} {β β' : Type} {kd kd' : IntKind} {kc : β → C} {kc' : β' → C} {m : List (Int × β)} {m' : List (Int × β')} (i : MpI b os kd' kc' m' r) (he : Obj.map b kd' kc' m' = Obj.map b kd kc m) (k : PkK ps r K) : PkK (.map b kd kc m :: ps) os K := PkK.cons i.pick he k
theorem PkK.at {q : Obj} (p : Nat) (h : Y3 p os (fun o r => some (o, r)) = some (q, r)) (k : PkK ps r K) : PkK (q :: ps) os K := by
 obtain ⟨o', r', h1, h2⟩ := Y8y h
 cases h1
 exact PkK.cons ⟨p, Y8t.symm.trans (h2 _ _), h2 _ _⟩ rfl k
end
theorem usx {κ : Type} {S : κ → Ct β} {k : κ} (h : UsC P f x r0 (S k) cs0 os Q) : UsC P f x r0 (.x S) cs0 os Q := fun hc hx => h (hc k) hx
theorem usd (hcs : cs0 = cs) (k : PkK ps os fun rest => allR (D r0) fun c qs => appK qs rest fun l => Q c l) : UsC P f x r0 (.d cs ps D) cs0 os Q := fun hc hx => by
 obtain ⟨ps', rest, h0, ⟨ns, pk⟩, k⟩ := k
 subst hcs
 exact ⟨ns, ps', rest, _, pk, ⟨(hc r0 hx).1, fun w F G vals h1 h2 h3 => (hc r0 hx).2 w F G vals h1 (h0 w F G h2) h3⟩, fun c qs h => k.out h⟩
def LenT (cs0 cs : List C) (os : List Obj) (K : List Obj → List Obj → Prop) : Prop := ∃ qs rest, FrzT cs0 qs cs ∧ PkG qs os rest ∧ K qs rest
def LenL (cs0 cs : List C) (os : List Obj) (K : List Obj → List Obj → Prop) : Prop := ∃ qs rest, FrzL cs0 qs cs ∧ PkG qs os rest ∧ K qs rest
theorem PkG.app {ps' r' : List Obj} (h : PkG ps os r) (k : PkG ps' r r') : PkG (ps ++ ps') os r' := by
 obtain ⟨ns, h⟩ := h
 obtain ⟨ms, k⟩ := k
 refine ⟨ns ++ ms, ?_⟩
 revert os ps
 induction ns with
 | nil => intro os ps h; cases h; exact k
 | cons n ns ih =>
  intro os ps h
  obtain ⟨o, r2, h1, h2⟩ := Y8y (show Y3 n os (fun o r => Y5 ns r fun ps q => some (o :: ps, q)) = some (ps, r) from h)
  obtain ⟨ps2, q2, h3, h4⟩ := Y8z h1
  cases h3
  have := ih (os := r2) (ps := ps2) (h4 _ _)
  refine (h2 _ _).trans ?_
  obtain ⟨a, b, k1, k2⟩ := Y8z (show Y5 (ns ++ ms) r2 (fun ps r => some (ps, r)) = some (ps2 ++ ps', r') from this)
  cases k1
  exact k2 _ _
section
variable {K : List Obj → List Obj → Prop}
theorem LenT.nil (h : K [] os) : LenT [] [] os K := ⟨[], os, FrzT.nil, PkG.nil, h⟩
theorem LenL.nil (h : K [] os) : LenL [] [] os K := ⟨[], os, FrzL.nil, PkG.nil, h⟩
theorem LenT.same {c : C} (k : LenT cs0 cs os K) : LenT (c :: cs0) (c :: cs) os K := by
 obtain ⟨qs, rest, h1, h2, h3⟩ := k
 exact ⟨qs, rest, FrzT.cons (os := []) (Frz.same c) h1, h2, h3⟩
theorem LenL.same {c : C} (k : LenL cs0 cs os K) : LenL (c :: cs0) (c :: cs) os K := by
 obtain ⟨qs, rest, h1, h2, h3⟩ := k
 exact ⟨qs, rest, FrzL.cons (os := []) (Frz.same c) h1, h2, h3⟩
variable {v : Value} {α : Type} {E sz : Nat} {k : α → List C} {xs : List α}
theorem LenT.ar (i : ArI v os E k sz xs r) (kk : LenT cs0 cs r fun qs rest => K (.arr v E k sz xs :: qs) rest) : LenT (.val v :: cs0) (.im k sz xs :: cs) os K := by
 obtain ⟨qs, rest, h1, h2, h3⟩ := kk
 exact ⟨_, rest, FrzT.cons (os := [.arr v E k sz xs]) Frz.arr h1, h2.cons i.pick rfl, h3⟩
theorem LenL.ar (i : ArI v os E k sz xs r) (kk : LenL cs0 cs r fun qs rest => K (.arr v E k sz xs :: qs) rest) : LenL (.val v :: cs0) (.im k sz xs :: cs) os K := by
 obtain ⟨qs, rest, h1, h2, h3⟩ := kk
 exact ⟨_, rest, FrzL.cons (os := [.arr v E k sz xs]) Frz.arr h1, h2.cons i.pick rfl, h3⟩
theorem LenT.nl (kk : LenT cs0 cs os K) : LenT (.val s0 :: cs0) (.im k sz [] :: cs) os K := by
 obtain ⟨qs, rest, h1, h2, h3⟩ := kk
 exact ⟨qs, rest, FrzT.cons (os := []) (Frz.imp (Imp.nil k sz)) h1, h2, h3⟩
theorem LenL.nl (kk : LenL cs0 cs os K) : LenL (.val s0 :: cs0) (.im k sz [] :: cs) os K := by
 obtain ⟨qs, rest, h1, h2, h3⟩ := kk
 exact ⟨qs, rest, FrzL.cons (os := []) (Frz.imp (Imp.nil k sz)) h1, h2, h3⟩
theorem LenT.ag {ds0 ds : List C} (h : LenL ds0 ds os fun ps r => LenT cs0 cs r fun qs rest => appK ps qs fun l => K l rest) : LenT (.agg ds0 :: cs0) (.agg ds :: cs) os K := by
 obtain ⟨ps, r, h1, h2, qs, rest, h3, h4, h5⟩ := h
 exact ⟨ps ++ qs, rest, FrzT.cons (Frz.agg h1) h3, h2.app h4, Y9.1 h5⟩
end
section
variable {K : List Obj → List Obj → Prop} {b T : Nat} {ds0 ds : List C} {β : Type} {kd : IntKind} {kc : β → C} {m : List (Int × β)}
theorem LenT.bx (i : BxI b os T ds0 r) (h : LenL ds0 ds r fun ps r2 => LenT cs0 cs r2 fun qs rest => appK ps qs fun l => K (.box b T ds0 :: l) rest) : LenT (.val (.pointer (some ⟨b, 0, none⟩)) :: cs0) (.ip ds :: cs) os K := by
 obtain ⟨ps, r2, h1, h2, qs, rest, h3, h4, h5⟩ := h
 exact ⟨(.box b T ds0 :: ps) ++ qs, rest, FrzT.cons (Frz.box h1) h3, (h2.app h4).cons i.pick rfl, Y9.1 h5⟩
theorem LenL.bx (i : BxI b os T ds0 r) (h : LenL ds0 ds r fun ps r2 => LenL cs0 cs r2 fun qs rest => appK ps qs fun l => K (.box b T ds0 :: l) rest) : LenL (.val (.pointer (some ⟨b, 0, none⟩)) :: cs0) (.ip ds :: cs) os K := by
 obtain ⟨ps, r2, h1, h2, qs, rest, h3, h4, h5⟩ := h
 exact ⟨(.box b T ds0 :: ps) ++ qs, rest, FrzL.cons (Frz.box h1) h3, (h2.app h4).cons i.pick rfl, Y9.1 h5⟩
theorem LenT.mp (i : MpI b os kd kc m r) (kk : LenT cs0 cs r fun qs rest => K (.map b kd kc m :: qs) rest) : LenT (.val (.map (some b)) :: cs0) (.imap kd kc m :: cs) os K := by
 obtain ⟨qs, rest, h1, h2, h3⟩ := kk
 exact ⟨_, rest, FrzT.cons (os := [.map b kd kc m]) Frz.map h1, h2.cons i.pick rfl, h3⟩
theorem LenL.mp (i : MpI b os kd kc m r) (kk : LenL cs0 cs r fun qs rest => K (.map b kd kc m :: qs) rest) : LenL (.val (.map (some b)) :: cs0) (.imap kd kc m :: cs) os K := by
 obtain ⟨qs, rest, h1, h2, h3⟩ := kk
 exact ⟨_, rest, FrzL.cons (os := [.map b kd kc m]) Frz.map h1, h2.cons i.pick rfl, h3⟩
end
class PnC (c : C) : Prop where
 h : Y4i c
class PnCs (cs : List C) : Prop where
 h : Y4j cs
instance {v : Value} : PnC (.val v) := ⟨Y4i.val v⟩
instance : PnCs [] := ⟨Y4j.nil⟩
instance {c : C} {cs : List C} [i : PnC c] [j : PnCs cs] : PnCs (c :: cs) := ⟨Y4j.cons i.h j.h⟩
instance {cs : List C} [i : PnCs cs] : PnC (.agg cs) := ⟨Y4i.agg i.h⟩
instance {cs : List C} [i : PnCs cs] : PnC (.tup cs) := ⟨Y4i.tup i.h⟩
class PnK {α : Type} (k : α → List C) : Prop where
 h : ∀ x, Y4j (k x)
class PnO (qs : List Obj) : Prop where
 h : ∀ o ∈ qs, Y4k o
instance : PnO [] := ⟨Y4l⟩
instance {v : Value} {α : Type} {E sz : Nat} {k : α → List C} {xs : List α} [i : PnK k] [j : PnO qs] : PnO (.arr v E k sz xs :: qs) := ⟨Y4m (Y4k.arr i.h) j.h⟩
theorem plr {c : C} {R : Prop} (i : PnC c) (j : PnO qs) (h : R) : (Y4i c ∧ ∀ o ∈ qs, Y4k o) ∧ R := ⟨⟨i.h, j.h⟩, h⟩
theorem Y9a {a b : List Obj} {K : List Obj → Prop} (h : appK a (b ++ rest) K) : appK (a ++ b) rest K := Y9.2 (by rw [List.append_assoc]; exact Y9.1 h)
theorem usl (k : LenT cs0 cs os fun qs rest => allR (D r0) fun c qs' => (Y4i c ∧ ∀ o ∈ qs', Y4k o) ∧ appK qs rest fun r => appK qs' r fun l => Q c l) : UsC P f x r0 (.d cs [] D) cs0 os Q := fun hc hx => by
 obtain ⟨qs, rest, hf, ⟨ns, hp⟩, k⟩ := k
 refine ⟨ns, qs, rest, _, hp, Ok.lend (hc r0 hx) hf fun c qs' h => ((k.out h).1), ?_⟩
 rintro c _ ⟨qs', h1, rfl⟩
 exact Y9a (Y9.2 (Y9.1 (Y9.1 (k.out h1).2)))
theorem Sp.ct {ret : β → C} (i : Sp P f cs x ret) : CtOk P f x (.d cs [] fun r => .d (ret r) []) := fun r h => i.h r h
end

class DpI (v : Value) (os : List Obj) {α γ : outParam Type} (E : outParam Nat) (k : outParam (α → γ → List C)) (ob : outParam (α → γ → List Obj)) (sz : outParam Nat) (xs : outParam (List α)) (r : outParam (List Obj)) : Prop where
 h : ∃ p, ∀ (δ : Type) (q : Obj → List Obj → Option δ), Y3 p os q = q (.deep v E k ob sz xs) r
section
variable {v : Value} {α γ : Type} {E sz : Nat} {k : α → γ → List C} {ob : α → γ → List Obj} {xs : List α} {o : Obj} {os ot r : List Obj}
instance : DpI v (.deep v E k ob sz xs :: r) E k ob sz xs r := ⟨0, fun _ _ => rfl⟩
instance [i : DpI v os E k ob sz xs r] : DpI v (o :: os) E k ob sz xs (o :: r) := by
 obtain ⟨p, h⟩ := i.h
 exact ⟨p + 1, fun δ q => h δ _⟩
instance [i : DpI v (o :: (os ++ ot)) E k ob sz xs r] : DpI v ((o :: os) ++ ot) E k ob sz xs r := i
instance [i : DpI v ot E k ob sz xs r] : DpI v ([] ++ ot) E k ob sz xs r := i
theorem DpI.pick (i : DpI v os E k ob sz xs r) : ∃ p, Go.Abs.pick p os = some (.deep v E k ob sz xs) ∧ Y7 [p] os = some ([.deep v E k ob sz xs], r) := by
 obtain ⟨p, h⟩ := i.h
 exact ⟨p, Y8t.symm.trans (h _ _), h _ _⟩
instance (priority := low) [i : DpI v os E k ob sz xs r] : OneO (.val v) os := ⟨fun w F G h => One.val (by
 obtain ⟨p, hp, _⟩ := i.pick
 obtain ⟨G1, ⟨us, _, Ga, Gb, _, _, ⟨⟨vs, hrow, _⟩, _⟩, _⟩, _⟩ := h.pick hp
 rcases hrow.2 with ⟨rfl, _⟩ | ⟨_, _, _, rfl, _⟩ <;> rfl)⟩
class FzD {α γ : Type} (k : α → γ → List C) (ob : α → γ → List Obj) (kim : outParam (α → List C)) : Prop where
 h : ∀ x u, FrzL (k x u) (ob x u) (kim x)
end
theorem PkK.dp {v : Value} {α γ α' γ' : Type} {E sz E' sz' : Nat} {k : α → γ → List C} {ob : α → γ → List Obj} {xs : List α} {k' : α' → γ' → List C} {ob' : α' → γ' → List Obj} {xs' : List α'} {ps os r : List Obj} {K : List Obj → Prop} (i : DpI v os E' k' ob' sz' xs' r) (he : Obj.deep v E' k' ob' sz' xs' = Obj.deep v E k ob sz xs) (kk : PkK ps r K) : PkK (.deep v E k ob sz xs :: ps) os K := PkK.cons i.pick he kk
class NlC (c : C) : Prop where
 h : Imp (.val s0) c
instance {α : Type} {k : α → List C} {sz : Nat} : NlC (.im k sz []) := ⟨Imp.nil k sz⟩
def FzK (N : List C) (c : C) (os : List Obj) (K : List C → C → List Obj → List Obj → Prop) : Prop := ∃ N' c' fs rest, Frz c fs c' ∧ PkG fs os rest ∧ K N' c' fs rest
def FzLK (N : List C) (cs : List C) (os : List Obj) (K : List C → List C → List Obj → List Obj → Prop) : Prop := ∃ N' cs' fs rest, FrzL cs fs cs' ∧ PkG fs os rest ∧ K N' cs' fs rest
section
variable {N : List C} {c : C} {cs : List C} {os r : List Obj} {K : List C → C → List Obj → List Obj → Prop} {L : List C → List C → List Obj → List Obj → Prop}
theorem FzK.same (h : K N c [] os) : FzK N c os K := ⟨N, c, [], os, Frz.same c, PkG.nil, h⟩
theorem FzK.ar {v : Value} {α : Type} {E sz : Nat} {k : α → List C} {xs : List α} (i : ArI v os E k sz xs r) (h : K N (.im k sz xs) [.arr v E k sz xs] r) : FzK N (.val v) os K := ⟨N, _, _, r, Frz.arr, PkG.cons i.pick rfl PkG.nil, h⟩
theorem FzK.dp {v : Value} {α γ : Type} {E sz : Nat} {k : α → γ → List C} {ob : α → γ → List Obj} {kim : α → List C} {xs : List α} (i : DpI v os E k ob sz xs r) (j : FzD k ob kim) (h : K N (.im kim sz xs) [.deep v E k ob sz xs] r) : FzK N (.val v) os K := ⟨N, _, _, r, Frz.deep j.h, PkG.cons i.pick rfl PkG.nil, h⟩
theorem FzK.mp {b : Nat} {β : Type} {kd : IntKind} {kc : β → C} {m : List (Int × β)} (i : MpI b os kd kc m r) (h : K N (.imap kd kc m) [.map b kd kc m] r) : FzK N (.val (.map (some b))) os K := ⟨N, _, _, r, Frz.map, PkG.cons i.pick rfl PkG.nil, h⟩
theorem FzK.nl (j : NlC c) (h : K N c [] os) : FzK (c :: N) (.val s0) os K := ⟨N, c, [], os, Frz.imp j.h, PkG.nil, h⟩
theorem FzK.ag (h : FzLK N cs os fun N' cs' fs rest => K N' (.agg cs') fs rest) : FzK N (.agg cs) os K := by
 obtain ⟨N', cs', fs, rest, h1, h2, h3⟩ := h
 exact ⟨N', _, fs, rest, Frz.agg h1, h2, h3⟩
theorem FzK.bx {b T : Nat} (i : BxI b os T cs r) (h : FzLK N cs r fun N' cs' fs rest => K N' (.ip cs') (.box b T cs :: fs) rest) : FzK N (.val (.pointer (some ⟨b, 0, none⟩))) os K := by
 obtain ⟨N', cs', fs, rest, h1, h2, h3⟩ := h
 exact ⟨N', _, _, rest, Frz.box h1, PkG.cons i.pick rfl h2, h3⟩
theorem FzLK.nil (h : L N [] [] os) : FzLK N [] os L := ⟨N, [], [], os, FrzL.nil, PkG.nil, h⟩
theorem FzLK.cons (h : FzK N c os fun N' c' fs r => FzLK N' cs r fun N2 cs' gs rest => appK fs gs fun l => L N2 (c' :: cs') l rest) : FzLK N (c :: cs) os L := by
 obtain ⟨N', c', fs, r, h1, h2, N2, cs', gs, rest, h3, h4, h5⟩ := h
 exact ⟨N2, _, _, rest, FrzL.cons h1 h3, h2.app h4, Y9.1 h5⟩
theorem HoK.frz {P : Program} {n : Nat} {e : Env} {vs : List Obj} {o : Oper} {Q : Env → List Obj → Prop} {t : Nat} {h0 : Hn} (hs : HH (.f t N h0)) (hx : get e t = some c) (k : HH h0 → FzK N c os fun _ c' fs rest => HoK P n ((t, c') :: e) [] rest o Q) : HoK P n e vs os o Q := by
 obtain ⟨N', c', fs, rest, h1, h2, h3⟩ := k ⟨⟩
 intro w F G _
 obtain ⟨ns, ps, r, T, k1, k2, k3⟩ := h3 w F (fun _ => False) fun _ h => h
 obtain ⟨ms, hp⟩ := h2.app ⟨ns, k1⟩
 exact ⟨ms, fs ++ ps, r, T, hp, HOp.frz hx h1 k2, k3⟩
end
section
variable {P : Program} {n : Nat} {X : Ctx} {e : Env} {os ot : List Obj} {t : Nat} {c : C} {N : List C} {h0 : Hn} {K : St → Prop}
theorem OpsD.fz {l : List Oper} {L Lt : List Nat} {kk : Sch} {y : Bool} (hs : HH (.g t N h0)) (hx : get e t = some c) (k : HH h0 → FzK N c ot fun _ c' fs rest => OpsD P n X l L Lt kk y ((t, c') :: e) os rest K) : OpsD P n X l L Lt kk y e os ot K := fun fuel listed hok hsel hlt a w F Gs Gt Q hs' hdj h1 h2 hQ => by
 obtain ⟨N', c', fs, rest, hf, ⟨ns, hp⟩, hk⟩ := k ⟨⟩
 obtain ⟨Gf, Gr, hi, hd, k1, k2⟩ := Own.append.1 (h2.perm (Y8 hp))
 have hmono : ∀ b, F b → (F b ∨ Gf b) ∧ w.heap[b]? = w.heap[b]? := fun b hb => ⟨.inl hb, rfl⟩
 refine Y3s (S' := Same w (fun b => F b ∨ Gf b) Gs) (fun w2 h b hb => h b (hb.imp .inl id)) fuel y listed a w (hk fuel listed hok hsel hlt a w (fun b => F b ∨ Gf b) Gs Gr Q
  ⟨Y93 (hf w F Gf _ _ (hs'.env t c hx) k1 (fun _ h => .inl h) fun _ h => .inr h) fun i c hi => C.mono _ (hs'.env i c hi) hmono, Own.append.2 ⟨Gs, Gr, fun _ => Iff.rfl, fun b hb hb' => hdj b hb ((hi b).2 (.inr hb')), h1.mono hmono fun _ _ => rfl, k2.mono hmono fun _ _ => rfl⟩, fun b hb => ?_, fun b hb => ?_, fun b hb => .inl (hs'.sub b hb), hs'.chg, hs'.size, hs'.defs⟩
  (fun b hb hb' => hdj b hb ((hi b).2 (.inr hb'))) (h1.mono hmono fun _ _ => rfl) (k2.mono hmono fun _ _ => rfl) hQ)
 ·
  rcases hb with hb | hb
  ·
   exact hs'.fin b hb
  ·
   have := hs'.gin b (.inr ((hi b).2 (.inl hb)))
   exact ⟨this.1, this.2.2.elim (fun h => .inr (.inl h)) fun h => .inr (.inr h)⟩
 ·
  rcases hb with hb | hb
  ·
   have := hs'.gin b (.inl hb)
   exact ⟨this.1, fun h => h.elim this.2.1 fun h => hdj b hb ((hi b).2 (.inl h)), this.2.2⟩
  ·
   have := hs'.gin b (.inr ((hi b).2 (.inr hb)))
   exact ⟨this.1, fun h => h.elim this.2.1 fun h => hd b h hb, this.2.2⟩
theorem OpsD.al {l : List Oper} {L Lt : List Nat} {kk : Sch} {y m : Bool} {i : Nat} (hs : HH (.w i h0)) (k : HH h0 → appK ot os fun l' => OpsD P n X l L Lt (.light i m kk) y e l' [] K) : OpsD P n X l L Lt (.light i m kk) y e os ot K := by
 obtain ⟨ns, hp⟩ : ∃ ns, Y7 ns ot = some (ot, []) := by
  have : ∀ qs : List Obj, ∃ ns, Y7 ns qs = some (qs, []) := fun qs => by
   induction qs with
   | nil => exact ⟨[], rfl⟩
   | cons q qs ih => exact (PkG.cons (o := q) (os := q :: qs) ⟨0, rfl, rfl⟩ rfl ih : PkG (q :: qs) (q :: qs) [])
  exact this ot
 exact OpsD.rest hp (k ⟨⟩)
theorem Ops.fz {ops : Array Oper} {l : List Oper} (hs : HH (.g t N h0)) (hx : get e t = some c) (k : HH h0 → FzK N c os fun _ c' fs rest => Ops P n X ops l ((t, c') :: e) rest K) : Ops P n X ops l e os K := by
 obtain ⟨N', c', fs, rest, h1, ⟨ns, hp⟩, h3⟩ := k ⟨⟩
 exact Ops.ghost (Y25.freezeBy hp hx h1) h3
end
section
variable {n : Nat} {X : Ctx} {e es : Env} {o r qs : List Obj} {v : Value} {α γ : Type} {E sz t : Nat} {k : α → γ → List C} {ob : α → γ → List Obj} {xs : List α}
theorem GhF.dp {E' sz' : Nat} {α' γ' : Type} {k' : α' → γ' → List C} {ob' : α' → γ' → List Obj} {xs' : List α'} (i : DpI v o E' k' ob' sz' xs' r) (he : Obj.deep v E' k' ob' sz' xs' = Obj.deep v E k ob sz xs) (kk : GhF n X ⟨e, r⟩ ⟨[], qs⟩) : GhF n X ⟨e, o⟩ ⟨[], .deep v E k ob sz xs :: qs⟩ := by
 obtain ⟨p, _, hp⟩ := i.pick
 exact he ▸ GhF.ob hp kk
theorem GhF.nld (kk : GhF n X ⟨e, o⟩ ⟨[], qs⟩) : GhF n X ⟨e, o⟩ ⟨[], .deep s0 E k ob sz [] :: qs⟩ := fun a w F G hs => by
 obtain ⟨F', G', k1, k2, k3, k4⟩ := kk a w F G hs
 exact ⟨F', G', k1, k2, k3, ⟨fun i c hc => (by cases hc), ⟨fun _ => False, G', fun b => by simp, fun b hb => hb.elim, Y6a, k4.own⟩, k4.fin, k4.gin, k4.sub, k4.chg, k4.size, k4.defs⟩⟩
theorem GhF.fzd {kim : α → List C} (h : get e t = some (.val v)) (i : DpI v o E k ob sz xs r) (j : FzD k ob kim) (kk : GhF n X ⟨e, r⟩ ⟨es, qs⟩) : GhF n X ⟨e, o⟩ ⟨(t, .im kim sz xs) :: es, qs⟩ := by
 obtain ⟨p, _, hp⟩ := i.pick
 exact GhF.frz h hp (Frz.deep j.h) kk
end
theorem GhF.fzp {n : Nat} {X : Ctx} {e es : Env} {o r qs : List Obj} {t b T : Nat} {cs0 ds : List C} (h : get e t = some (.val (.pointer (some ⟨b, 0, none⟩)))) (i : BxI b o T cs0 r) (hf : LenL cs0 ds r fun _ rest => GhF n X ⟨e, rest⟩ ⟨es, qs⟩) : GhF n X ⟨e, o⟩ ⟨(t, .ip ds) :: es, qs⟩ := by
 obtain ⟨fs, rest, h1, h2, h3⟩ := hf
 obtain ⟨ns, hp⟩ := PkG.cons i.pick rfl h2
 exact GhF.frz h hp (Frz.box h1) h3
class PnD {α γ : Type} (k : α → γ → List C) (ob : α → γ → List Obj) : Prop where
 h : ∀ x u, Y4j (k x u)
 o : ∀ x u, ∀ o ∈ ob x u, Y4k o
instance {v : Value} {α γ : Type} {E sz : Nat} {k : α → γ → List C} {ob : α → γ → List Obj} {xs : List α} {qs : List Obj} [i : PnD k ob] [j : PnO qs] : PnO (.deep v E k ob sz xs :: qs) := ⟨Y4m (Y4k.deep i.h i.o) j.h⟩
section
variable {v : Value} {α γ : Type} {E sz : Nat} {k : α → γ → List C} {ob : α → γ → List Obj} {xs : List α} {os r : List Obj} {cs0 cs : List C} {K : List Obj → List Obj → Prop} {kim : α → List C}
theorem LenT.dp (i : DpI v os E k ob sz xs r) (j : FzD k ob kim) (kk : LenT cs0 cs r fun qs rest => K (.deep v E k ob sz xs :: qs) rest) : LenT (.val v :: cs0) (.im kim sz xs :: cs) os K := by
 obtain ⟨qs, rest, h1, h2, h3⟩ := kk
 exact ⟨_, rest, FrzT.cons (os := [.deep v E k ob sz xs]) (Frz.deep j.h) h1, h2.cons i.pick rfl, h3⟩
theorem LenL.dp (i : DpI v os E k ob sz xs r) (j : FzD k ob kim) (kk : LenL cs0 cs r fun qs rest => K (.deep v E k ob sz xs :: qs) rest) : LenL (.val v :: cs0) (.im kim sz xs :: cs) os K := by
 obtain ⟨qs, rest, h1, h2, h3⟩ := kk
 exact ⟨_, rest, FrzL.cons (os := [.deep v E k ob sz xs]) (Frz.deep j.h) h1, h2.cons i.pick rfl, h3⟩
end
section
variable {n : Nat} {X : Ctx} {e : Env} {o r qs : List Obj}
theorem GhF.bf {b T : Nat} {cs0 ds : List C} (i : BxI b o T cs0 r) (hf : LenL cs0 ds r fun _ rest => GhF n X ⟨e, rest⟩ ⟨[], qs⟩) : GhF n X ⟨e, o⟩ ⟨[], .box b T ds :: qs⟩ := fun a w F G hs => by
 obtain ⟨p, _, hp⟩ := i.pick
 obtain ⟨fs, rest, hfz, ⟨ns, hpk⟩, k⟩ := hf
 obtain ⟨G1, G2, hi, hd, h1, h2⟩ := Own.append.1 (hs.own.perm (Y8 hp))
 obtain ⟨hb, vs, hw, hc⟩ := h1.only
 have hs2 : Yd n X ⟨e, r⟩ a w F G2 := ⟨hs.env, h2, hs.fin, fun b hb => hs.gin b ((hi b).2 (.inr hb)), hs.sub, hs.chg, hs.size, hs.defs⟩
 obtain ⟨Gf, Gr, hi2, hof, hs3⟩ := hs2.freeze hpk
 obtain ⟨F', G', k1, k2, k3, k4⟩ := k a w _ _ hs3
 refine ⟨F', fun b => G1 b ∨ G' b, fun b hb => k1 b (.inl hb), fun b hb => ?_, fun b hb => (hi b).2 (hb.imp id fun h => (hi2 b).2 (.inr (k3 b h))), ⟨fun i c hc => (by cases hc), ⟨G1, G', fun _ => Iff.rfl, fun b hb hb' => hd b hb ((hi2 b).2 (.inr (k3 b hb'))), ⟨hb, vs, hw, hfz w F Gf F' vs hc hof (fun b hb => k1 b (.inl hb)) fun b hb => k1 b (.inr hb)⟩, k4.own⟩, k4.fin, fun b hb => ?_, k4.sub, k4.chg, k4.size, k4.defs⟩⟩
 ·
  rcases k2 b hb with (h | h) | h
  ·
   exact .inl h
  ·
   exact .inr ((hi b).2 (.inr ((hi2 b).2 (.inl h))))
  ·
   exact .inr ((hi b).2 (.inr ((hi2 b).2 (.inr h))))
 ·
  rcases hb with hb | hb
  ·
   have := hs.gin b ((hi b).2 (.inl hb))
   refine ⟨this.1, fun hf => ?_, this.2.2⟩
   rcases k2 b hf with (h | h) | h
   ·
    exact this.2.1 h
   ·
    exact hd b hb ((hi2 b).2 (.inl h))
   ·
    exact hd b hb ((hi2 b).2 (.inr h))
  ·
   exact k4.gin b hb
end

section
variable {P : Program} {n : Nat} {e : Env} {vs os : List Obj} {Q : Env → List Obj → Prop} {d ty f : Nat} {pos : String} {af : Array Edge} {gd : Option (Nat × Bool)} {xs : List Operand} {y : Operand} {ts : Array TypeId} {cs ds cs1 : List C} {β α : Type} {x : Option β} {ret : β → C} {g : β → Option α} {b : α} {T : Ct β}
theorem HoK.call {Q0 : C → List Obj → Prop} (h : Y99 P f cs os Q0) (hx : evs e xs = some cs) (hn : Nat.blt d n = true) (k : ∀ c l, Q0 c l → Q ((d, c) :: e) l) : HoK P n e vs os ⟨some d, .call ⟨.value (.func f), xs.toArray, ts⟩, ty, pos, af, gd⟩ Q := by
 obtain ⟨ns, ps, rest, R, h1, h2, h3⟩ := h
 exact HoK.of h1 (Y27 h2 hx hn) fun e' qs ⟨c, hc, he⟩ => by rw [he]; exact Y9.2 (k c _ (Y9.1 (h3 c qs hc)))
theorem HoK.call0 {Q0 : C → List Obj → Prop} (h : Y99 P f cs os Q0) (hx : evs e xs = some cs) (k : ∀ c l, Q0 c l → Q e l) : HoK P n e vs os ⟨none, .call ⟨.value (.func f), xs.toArray, ts⟩, ty, pos, af, gd⟩ Q := by
 obtain ⟨ns, ps, rest, R, h1, h2, h3⟩ := h
 exact HoK.of h1 (Y29 h2 hx) fun e' qs ⟨c, hc, he⟩ => by rw [he]; exact Y9.2 (k c _ (Y9.1 (h3 c qs hc)))
theorem hcl (h : x.bind g = some b) (k : ∀ r, x = some r → g r = some b → Q ((d, ret r) :: e) os) (i : Sp P f cs x ret := by infer_instance) (hx : evs e xs = some cs := by exact rfl) (hn : Nat.blt d n = true := by exact rfl) :
  HoK P n e vs os ⟨some d, .call ⟨.value (.func f), xs.toArray, ts⟩, ty, pos, af, gd⟩ Q := by
 obtain ⟨r, h1, h2⟩ := ob h
 exact HoK.of (ns := []) rfl (Y28 (i.h r h1) hx hn) fun _ _ ⟨h3, h4⟩ => by rw [h3, h4]; exact k r h1 h2
theorem hclA {c1 : C} (k : Q ((d, c1) :: e) os) (hx : evs e xs = some cs := by exact rfl) (hn : Nat.blt d n = true := by exact rfl) (hok : Ok P f cs [] (fun c qs => c = c1 ∧ qs = []) := by assumption) :
  HoK P n e vs os ⟨some d, .call ⟨.value (.func f), xs.toArray, ts⟩, ty, pos, af, gd⟩ Q :=
 HoK.of (ns := []) rfl (Y28 hok hx hn) fun _ _ ⟨h3, h4⟩ => by rw [h3, h4]; exact k
theorem hcll (h : x.bind g = some b) (i : Sp P f cs x ret) (hx : evs e xs = some cs1) (hn : Nat.blt d n = true) (k : ∀ r, x = some r → g r = some b → UsC P f x r (.d cs [] fun r => .d (ret r) []) cs1 os fun c l => Q ((d, c) :: e) l) :
  HoK P n e vs os ⟨some d, .call ⟨.value (.func f), xs.toArray, ts⟩, ty, pos, af, gd⟩ Q := by
 obtain ⟨r, h1, h2⟩ := ob h
 exact HoK.call (k r h1 h2 i.ct h1) hx hn fun c l h => h
theorem hco (h : x.bind g = some b) (i : SpO P f x T) (hx : evs e xs = some cs1) (hn : Nat.blt d n = true) (k : ∀ r, x = some r → g r = some b → UsC P f x r T cs1 os fun c l => Q ((d, c) :: e) l) :
  HoK P n e vs os ⟨some d, .call ⟨.value (.func f), xs.toArray, ts⟩, ty, pos, af, gd⟩ Q := by
 obtain ⟨r, h1, h2⟩ := ob h
 exact HoK.call (k r h1 h2 i.h h1) hx hn fun c l h => h
theorem hco0 (h : x.bind g = some b) (i : SpO P f x T) (hx : evs e xs = some cs1) (k : ∀ r, x = some r → g r = some b → UsC P f x r T cs1 os fun _ l => Q e l) :
  HoK P n e vs os ⟨none, .call ⟨.value (.func f), xs.toArray, ts⟩, ty, pos, af, gd⟩ Q := by
 obtain ⟨r, h1, h2⟩ := ob h
 exact HoK.call0 (k r h1 h2 i.h h1) hx fun c l h => h
theorem hcp {l : Hn} (hs : HH (.p l)) (h : x.bind g = some b) (k : ∀ r, x = some r → g r = some b → HH l → Q ((d, ret r) :: e) os) (i : Sp P f cs x ret := by infer_instance) (hx : evs e xs = some cs := by exact rfl) (hn : Nat.blt d n = true := by exact rfl) :
  HoK P n e vs os ⟨some d, .call ⟨.value (.func f), xs.toArray, ts⟩, ty, pos, af, gd⟩ Q := hcl h (fun r h1 h2 => k r h1 h2 ⟨⟩) i hx hn
theorem hcpl {l : Hn} (hs : HH (.p l)) (h : x.bind g = some b) (i : Sp P f cs x ret) (hx : evs e xs = some cs1) (hn : Nat.blt d n = true) (k : ∀ r, x = some r → g r = some b → HH l → UsC P f x r (.d cs [] fun r => .d (ret r) []) cs1 os fun c l => Q ((d, c) :: e) l) :
  HoK P n e vs os ⟨some d, .call ⟨.value (.func f), xs.toArray, ts⟩, ty, pos, af, gd⟩ Q := hcll h i hx hn fun r h1 h2 => k r h1 h2 ⟨⟩
theorem hck {l : Hn} (hs : HH (.k l)) (h : x.bind g = some b) (i : SpO P f x T) (hx : evs e xs = some cs1) (hn : Nat.blt d n = true) (k : ∀ r, x = some r → g r = some b → HH l → UsC P f x r T cs1 os fun c l => Q ((d, c) :: e) l) :
  HoK P n e vs os ⟨some d, .call ⟨.value (.func f), xs.toArray, ts⟩, ty, pos, af, gd⟩ Q := hco h i hx hn fun r h1 h2 => k r h1 h2 ⟨⟩
class SrI (P : Program) (f : Nat) (sz : outParam Nat) : Prop where
 h : Y89 P f sz
class SrJ (P : Program) (f : Nat) : Prop where
 h : Y8c P f
theorem hso {γ : Type} {cf : γ → γ → Option Int} {zs : List γ} {G : List γ → Option α} {fS sz E : Nat} {yo xo : Operand} {v : Value} {k : γ → List C} {r1 : List Obj} {cc cc' : List C} {css : γ → γ → List C} (h : (Y80 cf zs).bind G = some b) (hS : SrI P fS sz) (hx : ev e xo = some (.val v)) (i : ArI v os E k sz zs r1) (hy : ev e yo = some (.clo f cc)) (ic : ∀ x y, Sp P f (css x y) (cf x y) fun r => .int r)
  (hc : ∀ x y, css x y = [.agg (k x), .agg (k y)] ++ cc') (hsz : Nat.blt 0 sz = true) (hn : Nat.blt d n = true) (kk : ∀ r, Y80 cf zs = some r → G r = some b → LenT cc cc' r1 fun ps rest => appK (.arr v E k sz r :: ps) rest fun l => Q ((d, .tup []) :: e) l) :
  HoK P n e vs os ⟨some d, .call ⟨.value (.func fS), #[xo, yo], ts⟩, ty, pos, af, gd⟩ Q := by
 obtain ⟨r, h1, h2⟩ := ob h
 obtain ⟨ps, rest, hf, hp, h5⟩ := kk r h1 h2
 obtain ⟨ns, hp⟩ := PkG.cons i.pick rfl hp
 exact HoK.of hp (Y8b hS.h hsz hx (Y8a.clo hy) hf (fun x y r hr => (hc x y) ▸ (ic x y).h r hr) h1 hn) fun _ _ ⟨h3, h4⟩ => by rw [h3, h4]; exact h5
theorem hso0 {γ : Type} {cf : γ → γ → Option Int} {zs : List γ} {G : List γ → Option α} {fS sz E : Nat} {yo xo : Operand} {v : Value} {k : γ → List C} {r1 : List Obj} {css : γ → γ → List C} (h : (Y80 cf zs).bind G = some b) (hS : SrI P fS sz) (hx : ev e xo = some (.val v)) (i : ArI v os E k sz zs r1) (hy : ev e yo = some (.val (.func (.func f) #[] #[]))) (ic : ∀ x y, Sp P f (css x y) (cf x y) fun r => .int r)
  (hc : ∀ x y, css x y = [.agg (k x), .agg (k y)]) (hsz : Nat.blt 0 sz = true) (hn : Nat.blt d n = true) (kk : ∀ r, Y80 cf zs = some r → G r = some b → Q ((d, .tup []) :: e) (.arr v E k sz r :: r1)) :
  HoK P n e vs os ⟨some d, .call ⟨.value (.func fS), #[xo, yo], ts⟩, ty, pos, af, gd⟩ Q := by
 obtain ⟨r, h1, h2⟩ := ob h
 obtain ⟨p, _, hp⟩ := i.pick
 exact HoK.of hp (Y8b hS.h hsz hx (Y8a.val hy) FrzT.nil (fun x y r hr => by rw [List.append_nil]; exact (hc x y) ▸ (ic x y).h r hr) h1 hn) fun _ _ ⟨h3, h4⟩ => by rw [h3, h4]; exact kk r h1 h2
theorem hsi {ki : Int → List C} {zs : List Int} {G : Unit → Option α} {fS E : Nat} {xo : Operand} {v : Value} {r1 : List Obj} (h : (chk (decide (zs.length < 4611686018427387904))).bind G = some b) (kk : G () = some b → Q ((d, .tup []) :: e) (.arr v E ki 1 (zs.mergeSort fun x y => decide (x ≤ y)) :: r1)) (hS : SrJ P fS) (hx : ev e xo = some (.val v)) (i : ArI v os E ki 1 zs r1) (hk : ∀ x, ki x = [.int x]) (hn : Nat.blt d n = true) :
  HoK P n e vs os ⟨some d, .call ⟨.value (.func fS), #[xo], ts⟩, ty, pos, af, gd⟩ Q := by
 obtain ⟨w, hc, h⟩ := ob h
 obtain ⟨p, _, hp⟩ := i.pick
 exact HoK.of hp (Y8d hS.h hk (Wo (Y45 hc)) hx hn) fun _ _ ⟨h3, h4⟩ => by rw [h3, h4]; exact kk h
theorem hcv (h : x.bind g = some b) (hf : ev e y = some (.clo f ds)) (k : ∀ r, x = some r → g r = some b → Q ((d, ret r) :: e) os) (i : Sp P f cs x ret) (hx : evs e xs = some cs1) (hc : cs = cs1 ++ ds) (hn : Nat.blt d n = true) :
  HoK P n e vs os ⟨some d, .call ⟨.value y, xs.toArray, ts⟩, ty, pos, af, gd⟩ Q := by
 obtain ⟨r, h1, h2⟩ := ob h
 subst hc
 exact HoK.of (ns := []) rfl (Y6x hf (i.h r h1) hx hn) fun _ _ ⟨h3, h4⟩ => by rw [h3, h4]; exact k r h1 h2
theorem hcvo (h : x.bind g = some b) (hf : ev e y = some (.clo f ds)) (i : SpO P f x T) (hx : evs e xs = some cs1) (hn : Nat.blt d n = true) (k : ∀ r, x = some r → g r = some b → UsC P f x r T (cs1 ++ ds) os fun c l => Q ((d, c) :: e) l) :
  HoK P n e vs os ⟨some d, .call ⟨.value y, xs.toArray, ts⟩, ty, pos, af, gd⟩ Q := by
 obtain ⟨r, h1, h2⟩ := ob h
 obtain ⟨ns, ps, rest, R, k1, k2, k3⟩ := k r h1 h2 i.h h1
 exact HoK.of k1 (Y6w hf k2 hx hn) fun e' qs ⟨c, hc, he⟩ => by rw [he]; exact k3 c qs hc
theorem hcw (h : x.bind g = some b) (hf : ev e y = some (.val (.func (.func f) #[] #[]))) (k : ∀ r, x = some r → g r = some b → Q ((d, ret r) :: e) os) (i : Sp P f cs x ret) (hx : evs e xs = some cs) (hn : Nat.blt d n = true) :
  HoK P n e vs os ⟨some d, .call ⟨.value y, xs.toArray, ts⟩, ty, pos, af, gd⟩ Q := by
 obtain ⟨r, h1, h2⟩ := ob h
 exact HoK.of (ns := []) rfl (Y2b (cap := []) hf (ds := []) (R := fun c qs => c = ret r ∧ qs = []) rfl (by rw [List.append_nil]; exact i.h r h1) hx hn) fun _ _ ⟨c, ⟨h3, h4⟩, h5⟩ => by rw [h5, h3, h4]; exact k r h1 h2
end

section
variable {P : Program} {n : Nat} {X : Ctx} {s : St} {β : Type} {D : β → Dr} {a r : β} {t t1 t2 : Nat} {R : C → List Obj → Prop}
theorem Y9b : ∀ qs : List Obj, ∃ ns, Y7 ns qs = some (qs, [])
 | [] => ⟨[], rfl⟩
 | q :: qs => (PkG.cons (o := q) (os := q :: qs) ⟨0, rfl, rfl⟩ rfl (Y9b qs) : PkG (q :: qs) (q :: qs) [])
theorem Y9c {o : Obj} : ∀ qs : List Obj, ∃ ns, Y7 ns (o :: qs) = some (qs, [o])
 | [] => ⟨[], rfl⟩
 | q :: qs => (PkG.cons (o := q) (os := o :: q :: qs) (r := o :: qs) ⟨1, rfl, rfl⟩ rfl (Y9c qs) : PkG (q :: qs) (o :: q :: qs) [o])
variable {R1 : List Obj}
theorem fin1 (h : some a = some r) (k : exR (D a) fun c qs => GhF n X s ⟨[(t, c)], qs⟩) : Fin P n X [.tmp t] (RelF D r) s := by
 cases h
 obtain ⟨c, qs, h1, h2⟩ := k.out
 obtain ⟨ns, hp⟩ := Y9b qs
 exact ⟨[c], _, h2.ghost, .cons (.tmp (Ya _ _ _)) .nil, ns, qs, [], hp, h1⟩
theorem fin0 (h : some a = some r) (k : exR (D a) fun c qs => c = .tup [] ∧ GhF n X s ⟨[], qs⟩) : Fin P n X [] (RelF D r) s := by
 cases h
 obtain ⟨c, qs, h1, h3, h2⟩ := k.out
 subst h3
 obtain ⟨ns, hp⟩ := Y9b qs
 exact ⟨[], _, h2.ghost, .nil, ns, qs, [], hp, h1⟩
theorem fin2 (h : some a = some r) (hne : Nat.beq t1 t2 = false) (k : exR (D a) fun c qs => ∃ c1 c2, c = .tup [c1, c2] ∧ GhF n X s ⟨[(t1, c1), (t2, c2)], qs⟩) : Fin P n X [.tmp t1, .tmp t2] (RelF D r) s := by
 cases h
 obtain ⟨c, qs, h1, c1, c2, h3, h2⟩ := k.out
 subst h3
 obtain ⟨ns, hp⟩ := Y9b qs
 exact ⟨[c1, c2], _, h2.ghost, .cons (.tmp (Ya _ _ _)) (.cons (.tmp ((Yb _ _ fun h => by rw [h, Nat.beq_refl] at hne; cases hne).trans (Ya _ _ _))) .nil), ns, qs, [], hp, h1⟩
theorem finC {T b T' m : Nat} {cs0 : List C} (h : some a = some r) (ht : get s.e t = some (.val (.pointer (some ⟨b, 0, none⟩)))) (i : BxI b s.o T' cs0 R1) (hl : LdI P T true m) (k : exR (D a) fun c qs => ∃ ds, c = .agg ds ∧ Nat.beq ds.length m = true ∧ GhF n X s ⟨[(t, pt b)], .box b T' ds :: qs⟩) : Fin P n X [.cell t T] (RelF D r) s := by
 cases h
 obtain ⟨c, qs, h1, ds, h3, h4, h2⟩ := k.out
 subst h3
 obtain ⟨ns, hp⟩ := Y9b qs
 refine ⟨[.agg ds], _, h2.ghost, .cons (.cell (p := 0) (Ya _ _ _) rfl hl.h h4) .nil, (Y9c (o := .box b T' ds) qs).choose, qs, [.box b T' ds], (Y9c (o := .box b T' ds) qs).choose_spec, h1⟩
theorem finE {T b T' m : Nat} {cs0 : List C} (h : some a = some r) (ht : get s.e t = some (.val (.pointer (some ⟨b, 0, none⟩)))) (i : BxI b s.o T' cs0 R1) (hl : LdI P T true m) (hne : Nat.beq t t2 = false) (k : exR (D a) fun c qs => ∃ ds c2, c = .tup [.agg ds, c2] ∧ Nat.beq ds.length m = true ∧ GhF n X s ⟨[(t, pt b), (t2, c2)], .box b T' ds :: qs⟩) : Fin P n X [.cell t T, .tmp t2] (RelF D r) s := by
 cases h
 obtain ⟨c, qs, h1, ds, c2, h3, h4, h2⟩ := k.out
 subst h3
 exact ⟨[.agg ds, c2], _, h2.ghost, .cons (.cell (p := 0) (Ya _ _ _) rfl hl.h h4) (.cons (.tmp ((Yb _ _ fun h => by rw [h, Nat.beq_refl] at hne; cases hne).trans (Ya _ _ _))) .nil), (Y9c (o := .box b T' ds) qs).choose, qs, [.box b T' ds], (Y9c (o := .box b T' ds) qs).choose_spec, h1⟩
theorem finD {T b T' m : Nat} {cs0 : List C} (h : some a = some r) (ht : get s.e t = some (.val (.pointer (some ⟨b, 0, none⟩)))) (i : BxI b s.o T' cs0 R1) (hl : LdI P T false m) (k : exR (D a) fun c qs => GhF n X s ⟨[(t, pt b)], .box b T' [c] :: qs⟩) : Fin P n X [.cell t T] (RelF D r) s := by
 cases h
 obtain ⟨c, qs, h1, h2⟩ := k.out
 exact ⟨[c], _, h2.ghost, .cons (.cell1 (p := 0) (Ya _ _ _) rfl hl.h) .nil, (Y9c (o := .box b T' [c]) qs).choose, qs, [.box b T' [c]], (Y9c (o := .box b T' [c]) qs).choose_spec, h1⟩
theorem rx {γ : Type} {S : γ → Dr} {v : γ} {K : C → List Obj → Prop} (h : exR (S v) K) : exR (.x S) K := ⟨v, h⟩
theorem rd {c : C} {qs : List Obj} {K : C → List Obj → Prop} (h : K c qs) : exR (.d c qs) K := h
theorem rl {t : Bool} {A B : Dr} {K : C → List Obj → Prop} (ht : t = true) (h : exR A K) : exR (.b t A B) K := .inl ⟨ht, h⟩
theorem rr {t : Bool} {A B : Dr} {K : C → List Obj → Prop} (ht : t = false) (h : exR B K) : exR (.b t A B) K := .inr ⟨ht, h⟩
theorem ax {γ : Type} {S : γ → Dr} {K : C → List Obj → Prop} (h : ∀ v, allR (S v) K) : allR (.x S) K := h
theorem ad {c : C} {qs : List Obj} {K : C → List Obj → Prop} (h : K c qs) : allR (.d c qs) K := h
theorem ab {α : Type} {t : Bool} {A B : Dr} {K : C → List Obj → Prop} {hl hr : Hn} {x y z : Option α} (hs : HH (.b hl hr)) (h : cond t x y = z) (k1 : t = true → x = z → HH hl → allR A K) (k2 : t = false → y = z → HH hr → allR B K) : allR (.b t A B) K :=
 ⟨fun ht => k1 ht (Y43 ht h) ⟨⟩, fun ht => k2 ht (Y44 ht h) ⟨⟩⟩
theorem ab0 {α : Type} {t : Bool} {A B : Dr} {K : C → List Obj → Prop} {x y z : Option α} (h : cond t x y = z) (k1 : t = true → x = z → allR A K) (k2 : t = false → y = z → allR B K) : allR (.b t A B) K :=
 ⟨fun ht => k1 ht (Y43 ht h), fun ht => k2 ht (Y44 ht h)⟩
theorem cndb {α : Type} {e : Bool} {A B : Option α} {r : Option α} {Q : Prop} {hl hr : Hn} (hs : HH (.b hl hr)) (h : cond e A B = r) (k1 : e = true → A = r → HH hl → Q) (k2 : e = false → B = r → HH hr → Q) : Q := cnd h (fun a b => k1 a b ⟨⟩) fun a b => k2 a b ⟨⟩
theorem ho1 {α β : Type} {x : Option β} {g : β → Option α} {b : α} {k : Nat} {h0 : Hn} {Q : Prop} (hs : HH (.h (k + 1) h0)) (h : x.bind g = some b) (m : ∀ u, x = some u → g u = some b → HH (.h k h0) → Q) : Q := ob' h fun u h1 h2 => m u h1 h2 ⟨⟩
theorem hoc {P : Program} {α β : Type} {x : Option β} {g : β → Option α} {b : α} {f : Nat} {cs : List C} {ret : β → C} {h0 : Hn} {Q : Prop} (hs : HH (.H f h0)) (h : x.bind g = some b) (i : Sp P f cs x ret) (m : ∀ r, x = some r → Ok P f cs [] (fun c qs => c = ret r ∧ qs = []) → g r = some b → HH h0 → Q) : Q := ob' h fun u h1 h2 => m u h1 (i.h u h1) h2 ⟨⟩
theorem ho0 {h0 : Hn} {Q : Prop} (hs : HH (.h 0 h0)) (m : HH h0 → Q) : Q := m ⟨⟩
theorem sq {k : Nat} {h : Hn} {Q : Prop} (hs : HH (.q (k + 2) h)) (g : HH (.q (k + 1) h) → Q) : Q := g ⟨⟩
theorem sq1 {h : Hn} {Q : Prop} (hs : HH (.q 1 h)) (g : HH h → Q) : Q := g ⟨⟩
theorem AW.ccb {α : Type} {x y : Code} {b : Bool} {A B r : Option α} {K : Exit → St → Prop} {hl hr : Hn} (hs : HH (.b hl hr)) (h : _root_.cond b A B = r) (ht : get s.e t = some (.bool b)) (k1 : b = true → A = r → HH hl → AW P n X x s K) (k2 : b = false → B = r → HH hr → AW P n X y s K) : AW P n X (.cond (.tmp t) x y) s K := AW.cc h ht (fun a b => k1 a b ⟨⟩) fun a b => k2 a b ⟨⟩
theorem AW.ccnb {α : Type} {x y : Code} {b : Bool} {A B r : Option α} {K : Exit → St → Prop} {hl hr : Hn} (hs : HH (.b hl hr)) (h : _root_.cond b A B = r) (ht : get s.e t = some (.bool !b)) (k1 : b = true → A = r → HH hl → AW P n X y s K) (k2 : b = false → B = r → HH hr → AW P n X x s K) : AW P n X (.cond (.tmp t) x y) s K := AW.ccn h ht (fun a b => k1 a b ⟨⟩) fun a b => k2 a b ⟨⟩
theorem rDh {id : Nat} {e : Env} {os0 os ot : List Obj} {l : List Oper} {K : Exit → St → Prop} {ns L Lt k : List Nat} {h : Hn} (hs : HH (.r ns L Lt k h)) (hp : Y7 ns os0 = some (os, ot)) (m : HH h → OpsD P n X l L Lt (dec k) true e os ot (K .normal)) (hm : P.follows .mixedOrders = true := by kernel_rfl) (hsel : Region.noSelect l.toArray = true := by kernel_rfl) (hlt : Y3o l.toArray L Lt = true := by kernel_rfl)
  (hok : (dec k).ok l.toArray L Lt l.toArray.size true (Array.replicate l.toArray.size false) = true := by kernel_rfl) : AW P n X (.region id l.toArray true) ⟨e, os0⟩ K := AW.regionD hm hsel hlt hok hp (m ⟨⟩)
theorem rDR {id : Nat} {e : Env} {os0 os ot : List Obj} {l : List Oper} {K : Exit → St → Prop} {ns L Lt : List Nat} {k : Sch} {h : Hn} (hs : HH (.R ns L Lt k h)) (hp : Y7 ns os0 = some (os, ot)) (m : HH h → OpsD P n X l L Lt k true e os ot (K .normal)) (hm : P.follows .mixedOrders = true := by kernel_rfl) (hsel : Region.noSelect l.toArray = true := by kernel_rfl) (hlt : Y3o l.toArray L Lt = true := by kernel_rfl)
  (hok : k.ok l.toArray L Lt l.toArray.size true (Array.replicate l.toArray.size false) = true := by kernel_rfl) : AW P n X (.region id l.toArray true) ⟨e, os0⟩ K := AW.regionD hm hsel hlt hok hp (m ⟨⟩)

section
variable {e : Env} {os : List Obj} {K : Exit → St → Prop} {c y : Code} {p b T E sz : Nat} {v : Value} {α A : Type} {k : α → List C} {xs : List α} {cs : List C} {kd : IntKind} {kc : α → C} {m : List (Int × α)} {f : A → C} {a0 : A}
theorem na {S : Value → Hn} (hs : HH (.a p S)) (hp : pick p os = some (.arr v E k sz xs)) (g : HH (S v) → AW P n X (.seq c y) ⟨e, os⟩ K) : AW P n X (.seq c y) ⟨e, os⟩ K := g ⟨⟩
theorem nA' {S : Value → Hn} (hs : HH (.A p S)) (hp : pick p os = some (.arr v E k sz xs)) (g : HH (S v) → AW P n X (.loop c) ⟨e, os⟩ K) : AW P n X (.loop c) ⟨e, os⟩ K := g ⟨⟩
theorem no {S : Nat → Hn} (hs : HH (.o p S)) (hp : pick p os = some (.box b T cs)) (g : HH (S b) → AW P n X (.seq c y) ⟨e, os⟩ K) : AW P n X (.seq c y) ⟨e, os⟩ K := g ⟨⟩
theorem nO {S : Nat → Hn} (hs : HH (.O p S)) (hp : pick p os = some (.box b T cs)) (g : HH (S b) → AW P n X (.loop c) ⟨e, os⟩ K) : AW P n X (.loop c) ⟨e, os⟩ K := g ⟨⟩
theorem nom {S : Nat → Hn} (hs : HH (.o p S)) (hp : pick p os = some (.map b kd kc m)) (g : HH (S b) → AW P n X (.seq c y) ⟨e, os⟩ K) : AW P n X (.seq c y) ⟨e, os⟩ K := g ⟨⟩
theorem nOm {S : Nat → Hn} (hs : HH (.O p S)) (hp : pick p os = some (.map b kd kc m)) (g : HH (S b) → AW P n X (.loop c) ⟨e, os⟩ K) : AW P n X (.loop c) ⟨e, os⟩ K := g ⟨⟩
theorem nop {S : Nat → Hn} {mp : List ((Int × Int) × α)} (hs : HH (.o p S)) (hp : pick p os = some (.pmap b kc mp)) (g : HH (S b) → AW P n X (.seq c y) ⟨e, os⟩ K) : AW P n X (.seq c y) ⟨e, os⟩ K := g ⟨⟩
theorem nOp {S : Nat → Hn} {mp : List ((Int × Int) × α)} (hs : HH (.O p S)) (hp : pick p os = some (.pmap b kc mp)) (g : HH (S b) → AW P n X (.loop c) ⟨e, os⟩ K) : AW P n X (.loop c) ⟨e, os⟩ K := g ⟨⟩
theorem nad {γ : Type} {S : Value → Hn} {kk : α → γ → List C} {ob : α → γ → List Obj} (hs : HH (.a p S)) (hp : pick p os = some (.deep v E kk ob sz xs)) (g : HH (S v) → AW P n X (.seq c y) ⟨e, os⟩ K) : AW P n X (.seq c y) ⟨e, os⟩ K := g ⟨⟩
theorem nAd {γ : Type} {S : Value → Hn} {kk : α → γ → List C} {ob : α → γ → List Obj} (hs : HH (.A p S)) (hp : pick p os = some (.deep v E kk ob sz xs)) (g : HH (S v) → AW P n X (.loop c) ⟨e, os⟩ K) : AW P n X (.loop c) ⟨e, os⟩ K := g ⟨⟩
theorem nv {j : Nat} {S : Value → Hn} (hs : HH (.v p j S)) (hp : pick p os = some (.box b T cs)) (hc : cs[j]? = some (.val v)) (g : HH (S v) → AW P n X (.seq c y) ⟨e, os⟩ K) : AW P n X (.seq c y) ⟨e, os⟩ K := g ⟨⟩
theorem nV {j : Nat} {S : Value → Hn} (hs : HH (.V p j S)) (hp : pick p os = some (.box b T cs)) (hc : cs[j]? = some (.val v)) (g : HH (S v) → AW P n X (.loop c) ⟨e, os⟩ K) : AW P n X (.loop c) ⟨e, os⟩ K := g ⟨⟩
theorem ne' {S : A → Hn} (hs : HH (.e t f S)) (hp : get e t = some (f a0)) (g : HH (S a0) → AW P n X (.seq c y) ⟨e, os⟩ K) : AW P n X (.seq c y) ⟨e, os⟩ K := g ⟨⟩
theorem nE {S : A → Hn} (hs : HH (.E t f S)) (hp : get e t = some (f a0)) (g : HH (S a0) → AW P n X (.loop c) ⟨e, os⟩ K) : AW P n X (.loop c) ⟨e, os⟩ K := g ⟨⟩
end
end
end Go.Abs
namespace Go.Abs
open Go
attribute [local irreducible] AW Ops OpsD Y3z VoK HoK GhF UsC Go.Abs.Fin PkK LenT LenL Y98 BldK FzK FzLK
theorem gA {P : Program} {n : Nat} {X : Ctx} {c : Code} {s : St} {K : Exit → St → Prop} (h : AW P n X c s K) : AW P n X c s K := h
theorem gO {P : Program} {n : Nat} {X : Ctx} {ops : Array Oper} {l : List Oper} {e : Env} {os : List Obj} {K : St → Prop} (h : Ops P n X ops l e os K) : Ops P n X ops l e os K := h
theorem gD {P : Program} {n : Nat} {X : Ctx} {l : List Oper} {L Lt : List Nat} {k : Sch} {y : Bool} {e : Env} {os ot : List Obj} {K : St → Prop} (h : OpsD P n X l L Lt k y e os ot K) : OpsD P n X l L Lt k y e os ot K := h
theorem OpsD.hoc {P : Program} {n : Nat} {X : Ctx} {l : List Oper} {L Lt : List Nat} {k : Sch} {y : Bool} {e : Env} {os ot : List Obj} {K : St → Prop} {α β : Type} {x : Option β} {g : β → Option α} {b : α} {f : Nat} {cs : List C} {ret : β → C} {h0 : Hn} (hs : HH (.H f h0)) (h : x.bind g = some b) (i : Sp P f cs x ret) (m : ∀ r, x = some r → Ok P f cs [] (fun c qs => c = ret r ∧ qs = []) → g r = some b → HH h0 → OpsD P n X l L Lt k y e os ot K) : OpsD P n X l L Lt k y e os ot K := Go.Abs.hoc hs h i m
theorem gS {P : Program} {n : Nat} {X : Ctx} {l : List Oper} {L Lt : List Nat} {i : Nat} {k : Sch} {y : Bool} {e : Env} {os ot : List Obj} {K : St → Prop} (h : Y3z P n X l L Lt i k y e os ot K) : Y3z P n X l L Lt i k y e os ot K := h
theorem gV {P : Program} {n : Nat} {e : Env} {ls vs : List Obj} {m : Bool} {o : Oper} {Q : Env → Prop} (h : VoK m P n e ls vs o Q) : VoK m P n e ls vs o Q := h
theorem gH {P : Program} {n : Nat} {e : Env} {vs os : List Obj} {o : Oper} {Q : Env → List Obj → Prop} (h : HoK P n e vs os o Q) : HoK P n e vs os o Q := h
theorem gG {n : Nat} {X : Ctx} {s s' : St} (h : GhF n X s s') : GhF n X s s' := h
theorem gU {P : Program} {f : Nat} {β : Type} {x : Option β} {r0 : β} {T : Ct β} {cs0 : List C} {os : List Obj} {Q : C → List Obj → Prop} (h : UsC P f x r0 T cs0 os Q) : UsC P f x r0 T cs0 os Q := h
theorem gF {P : Program} {n : Nat} {X : Ctx} {rs : List ResultVar} {R : C → List Obj → Prop} {s : St} (h : Fin P n X rs R s) : Fin P n X rs R s := h
theorem gP {ps os : List Obj} {K : List Obj → Prop} (h : PkK ps os K) : PkK ps os K := h
theorem gL {cs0 cs : List C} {os : List Obj} {K : List Obj → List Obj → Prop} (h : LenT cs0 cs os K) : LenT cs0 cs os K := h
theorem gM {cs0 cs : List C} {os : List Obj} {K : List Obj → List Obj → Prop} (h : LenL cs0 cs os K) : LenL cs0 cs os K := h
theorem gZ {N : List C} {c : C} {os : List Obj} {K : List C → C → List Obj → List Obj → Prop} (h : FzK N c os K) : FzK N c os K := h
theorem gY {N cs : List C} {os : List Obj} {K : List C → List C → List Obj → List Obj → Prop} (h : FzLK N cs os K) : FzLK N cs os K := h
theorem gQ {e : Env} {α : Type} {k : α → List C} {sz i : Nat} {ps : List (Nat × Operand)} {K : List α → Prop} (h : Y98 e k sz i ps K) : Y98 e k sz i ps K := h
theorem gB {e : Env} {vs : List Obj} {place : Nat → Option (Nat × Nat)} {cs : List C} {ps : List (Nat × Operand)} {K : List C → Prop} (h : BldK e vs place cs ps K) : BldK e vs place cs ps K := h
theorem kb {b : Bool} {w : Bool} (f : b = w := by first | rfl | assumption | exact Y47 (by assumption) | exact Y46 (by assumption)) : b = w := f
theorem gh {p : Prop} (x : Hn) (f : HH x → p := by
  intro hs
  repeat' first
   | (apply gV; first
    | refine vk (Yr rfl rfl) ?_
    | refine vk (Y1f FldI.h rfl rfl) ?_
    | refine vk (lB LdI.h rfl inferInstance rfl rfl) ?_
    | refine vk (Yx rfl rfl rfl rfl) ?_
    | refine vk (Y1l LdI.h rfl rfl) ?_
    | refine vk (Y1g FldI.h rfl rfl rfl) ?_
    | refine vk (Ys rfl rfl) ?_
    | refine vk (Y2n SlI.h rfl rfl (by assumption) rfl) ?_
    | refine vii h fun e g h => ?_
    | refine vk (iA SlI.h rfl inferInstance rfl (by assumption) rfl) ?_
    | refine via h fun e g h => ?_
    | refine vk (eA LdI.h rfl inferInstance (by assumption) rfl rfl) ?_
    | refine vk (fA FldI.h rfl inferInstance (by assumption) rfl) ?_
    | refine vk (eAA LdI.h rfl inferInstance (by assumption) rfl rfl rfl) ?_
    | refine vk (lA LdI.h rfl inferInstance rfl rfl rfl) ?_
    | refine vk (Y8x LdI.h rfl rfl rfl rfl) ?_
    | refine vk (Y2i SlI.h rfl rfl) ?_
    | refine vk (nA SlI.h rfl inferInstance rfl) ?_
    | refine vk (Y2k UnI.h rfl rfl) ?_
    | refine vk (Yv rfl rfl) ?_
    | refine vk (Y17 rfl rfl rfl) ?_
    | refine vk (Y18 rfl rfl) ?_
    | refine vk (Y19 rfl rfl) ?_
    | refine vk (Yt rfl kb rfl rfl) ?_
    | refine vk (Yu rfl kb rfl rfl) ?_
    | refine vbS inferInstance inferInstance rfl ?_
    | refine vk (vfd inferInstance rfl rfl rfl) ?_
    | refine vk (vfA inferInstance rfl rfl rfl) ?_
    | refine vk (vsA inferInstance UnI.h rfl inferInstance (fun _ => rfl) rfl) ?_
    | refine vk (vlk rfl inferInstance inferInstance rfl rfl) ?_
    | refine vk (vlo rfl inferInstance inferInstance rfl rfl) ?_
    | refine vk (vlI rfl inferInstance rfl rfl) ?_
    | refine vk (vlIo rfl inferInstance rfl rfl) ?_
    | refine vsb h fun e g h => ?_
    | refine vsl h fun e g h => ?_
    | refine vsh h fun e g h => ?_
    | refine vas h fun h => ?_
    | refine vtb h fun r g h => ?_
    | refine vtl h fun r g h => ?_
    | refine vth h fun r g h => ?_
    | refine vk (Y2l rfl rfl rfl) ?_
    | refine vk (Y2m rfl rfl rfl) ?_
    | refine vk (Yw rfl rfl) ?_
    | refine vk (Yy rfl rfl (by decide) rfl) ?_
    | refine vk (Yz rfl rfl (by decide) rfl) ?_
    | refine vk (Y11 rfl rfl rfl rfl) ?_
    | refine vk (Y13 rfl rfl rfl rfl) ?_
    | refine vk (Y14 UnI.h rfl rfl rfl) ?_
    | refine vk (Y15 UnI.h rfl rfl rfl) ?_
    | refine vk (Y16 UnI.h UnI.h rfl rfl) ?_
    | refine vk (Y6v rfl rfl) ?_
    | refine vk (Y2j SlI.h rfl rfl) ?_
    | refine vk (veq inferInstance rfl rfl inferInstance inferInstance rfl rfl) ?_
    | refine vk (vne inferInstance rfl rfl inferInstance inferInstance rfl rfl) ?_
    | refine vk (vlp rfl inferInstance inferInstance rfl rfl) ?_
    | refine val h fun c h => ?_
    | refine vah h fun c h => ?_)
   | (refine gO ?_; first
    | refine Ops.fz hs rfl fun hs => ?_
    | apply Ops.vk rfl rfl
    | refine Ops.nil ?_
    | refine Ops.hk rfl ?_
    | refine Ops.gs rfl rfl rfl nw rfl rfl ?_
    | apply Ops.gvk rfl rfl rfl rfl kb rfl
    | refine Ops.ghk rfl rfl rfl rfl kb ?_
    | refine Ops.gs0 rfl rfl rfl nw rfl ?_)
   | (refine gH ?_; first
    | refine HoK.frz hs rfl fun hs => ?_
    | refine hcp hs h fun r g h hs => ?_
    | refine hcpl hs h inferInstance rfl rfl fun r g h hs => ?_
    | refine hck hs h inferInstance rfl rfl fun r g h hs => ?_
    | refine hal fun b => ?_
    | refine hs1 ?_
    | refine hcl h fun r g h => ?_
    | refine hclA ?_
    | refine hbx fun b => ?_
    | refine hsA ?_
    | refine hbs inferInstance rfl rfl rfl ?_
    | refine hap h fun v h => ?_
    | refine hapI h fun v h => ?_
    | refine hapN h fun v h => ?_
    | refine hapM h fun v h => ?_
    | refine ha1 ?_
    | refine haA ?_
    | refine hms h fun b h => ?_
    | refine hmsA fun b => ?_
    | refine hmu ?_
    | refine hme fun st => ?_
    | refine hes ?_
    | refine hpk fun b => ?_
    | refine hmp ?_
    | refine hpD h fun v h => ?_
    | refine hpT h fun v h => ?_
    | refine hmk fun b => ?_
    | refine hb1 fun b => ?_
    | refine hco h inferInstance rfl rfl fun r g h => ?_
    | refine hco0 h inferInstance rfl fun r g h => ?_
    | refine hcll h inferInstance rfl rfl fun r g h => ?_
    | refine hcv h rfl (fun r g h => ?_) inferInstance rfl rfl rfl
    | refine hso h inferInstance rfl inferInstance rfl inferInstance (fun _ _ => rfl) rfl rfl fun r g h => ?_
    | refine hso0 h inferInstance rfl inferInstance rfl inferInstance (fun _ _ => rfl) rfl rfl fun r g h => ?_
    | refine hsi h (fun h => ?_) inferInstance rfl inferInstance (fun _ => rfl) rfl
    | refine hcvo h rfl inferInstance rfl rfl fun r g h => ?_
    | refine hcw h rfl (fun r g h => ?_) inferInstance rfl rfl)
   | (refine gA ?_; first
    | refine na hs rfl fun hs => ?_
    | refine nA' hs rfl fun hs => ?_
    | refine no hs rfl fun hs => ?_
    | refine nO hs rfl fun hs => ?_
    | refine nom hs rfl fun hs => ?_
    | refine nOm hs rfl fun hs => ?_
    | refine ne' hs rfl fun hs => ?_
    | refine nop hs rfl fun hs => ?_
    | refine nOp hs rfl fun hs => ?_
    | refine nad hs rfl fun hs => ?_
    | refine nAd hs rfl fun hs => ?_
    | refine nv hs rfl rfl fun hs => ?_
    | refine nV hs rfl rfl fun hs => ?_
    | refine nE hs rfl fun hs => ?_
    | (refine sq1 hs fun hs => ?_; refine AW.seq ?_)
    | (refine sq hs fun hs => ?_; refine AW.seq ?_)
    | (apply hc1 hs h; exact rfl; intro hs; rotate_left; intro _ hs h; rotate_right)
    | (apply hc2 hs h; exact rfl; intro hs; rotate_left; intro _ _ hs h; rotate_right)
    | (apply hc3 hs h; exact rfl; intro hs; rotate_left; intro _ _ _ hs h; rotate_right)
    | (apply hc0 hs h; exact rfl; intro hs; rotate_left; intro hs h; rotate_right)
    | (apply hc4 hs h; exact rfl; intro hs; rotate_left; intro _ _ _ _ hs h; rotate_right)
    | (apply hc5 hs h; exact rfl; intro hs; rotate_left; intro _ _ _ _ _ hs h; rotate_right)
    | (apply hc10 hs h; exact rfl; intro hs; rotate_left; intro _ _ _ _ _ _ _ _ _ _ hs h; rotate_right)
    | (apply hc9 hs h; exact rfl; intro hs; rotate_left; intro _ _ _ _ _ _ _ _ _ hs h; rotate_right)
    | refine AW.seq ?_
    | refine rDh hs rfl fun hs => ?_
    | refine rDR hs rfl fun hs => ?_
    | refine AW.region ?_
    | refine AW.ccb hs h rfl (fun hb h hs => ?_) fun hb h hs => ?_
    | refine AW.ccnb hs h rfl (fun hb h hs => ?_) fun hb h hs => ?_
    | refine AW.ct kb rfl ?_
    | refine AW.cf kb rfl ?_
    | refine AW.cc h rfl (fun hb h => ?_) fun hb h => ?_
    | refine AW.ccn h rfl (fun hb h => ?_) fun hb h => ?_
    | refine hl1 hs h rfl ?_ fun _ _ hs h => ?_
    | refine hl2 hs h rfl ?_ fun _ _ _ hs h => ?_
    | refine hl3 hs h rfl ?_ fun _ _ _ _ hs h => ?_
    | refine hl0 hs h rfl ?_ fun _ hs h => ?_
    | refine hl4 hs h rfl ?_ fun _ _ _ _ _ hs h => ?_
    | refine AW.exit ?_
    | refine AW.ret ?_
    | refine AW.skip ?_
    | refine AW.block ?_)
   | (refine gG ?_; first
    | refine GhF.same rfl ?_
    | refine GhF.ar inferInstance rfl ?_
    | refine GhF.bx inferInstance rfl ?_
    | refine GhF.mp inferInstance rfl ?_
    | refine GhF.bf inferInstance ?_
    | exact GhF.done
    | refine GhF.fz rfl inferInstance ?_
    | refine GhF.fzd rfl inferInstance inferInstance ?_
    | refine GhF.fzp rfl inferInstance ?_
    | refine GhF.imp rfl (Imp.nil _ _) ?_
    | refine GhF.dp inferInstance rfl ?_
    | refine GhF.imp rfl (Imp.any _) ?_
    | refine GhF.at 0 rfl ?_
    | refine GhF.at 1 rfl ?_
    | refine GhF.at 2 rfl ?_
    | refine GhF.at 3 rfl ?_
    | refine GhF.at 4 rfl ?_
    | refine GhF.at 5 rfl ?_
    | refine GhF.nl ?_
    | refine GhF.nld ?_)
   | (refine gD ?_; first
    | refine OpsD.al hs fun hs => ?_
    | refine OpsD.fz hs rfl fun hs => ?_
    | refine ho1 hs h fun u c h hs => ?_
    | refine OpsD.hoc hs h inferInstance fun r g k h hs => ?_
    | refine ho0 hs fun hs => ?_
    | refine OpsD.vk rfl rfl ?_
    | refine OpsD.one ?_
    | refine OpsD.done ?_
    | refine OpsD.lk rfl rfl ?_
    | refine OpsD.gs rfl rfl rfl rfl nw rfl rfl ?_
    | refine OpsD.gvk rfl rfl rfl rfl rfl kb ?_
    | refine OpsD.two ?_ ?_
    | refine OpsD.three ?_ ?_ ?_
    | refine OpsD.four ?_ ?_ ?_ ?_)
   | (refine gS ?_; first
    | apply Y3z.vk rfl rfl rfl
    | refine Y3z.hk rfl rfl ?_
    | apply Y3z.gvk rfl rfl rfl rfl rfl kb rfl
    | refine Y3z.gs rfl rfl rfl rfl nw rfl rfl ?_
    | refine Y3z.gs0 rfl rfl rfl rfl nw rfl ?_
    | refine Y3z.ghk rfl rfl rfl rfl rfl kb ?_)
   | (refine gU ?_; first
    | (apply usx)
    | refine usd rfl ?_
    | refine usl ?_)
   | (refine gP ?_; first
    | refine PkK.nil ?_
    | refine PkK.bx inferInstance rfl ?_
    | refine PkK.ar inferInstance rfl ?_
    | refine PkK.mp inferInstance rfl ?_
    | refine PkK.dp inferInstance rfl ?_
    | refine PkK.at 0 rfl ?_
    | refine PkK.at 1 rfl ?_
    | refine PkK.at 2 rfl ?_
    | refine PkK.at 3 rfl ?_
    | refine PkK.at 4 rfl ?_
    | refine PkK.nl ?_)
   | (refine gL ?_; first
    | refine LenT.nil ?_
    | refine LenT.same ?_
    | refine LenT.ar inferInstance ?_
    | refine LenT.dp inferInstance inferInstance ?_
    | refine LenT.bx inferInstance ?_
    | refine LenT.mp inferInstance ?_
    | refine LenT.nl ?_
    | refine LenT.ag ?_)
   | (refine gM ?_; first
    | refine LenL.nil ?_
    | refine LenL.same ?_
    | refine LenL.ar inferInstance ?_
    | refine LenL.dp inferInstance inferInstance ?_
    | refine LenL.mp inferInstance ?_
    | refine LenL.bx inferInstance ?_
    | refine LenL.nl ?_)
   | (refine gZ ?_; first
    | refine FzK.ar inferInstance ?_
    | refine FzK.nl inferInstance ?_
    | refine FzK.ag ?_
    | refine FzK.bx inferInstance ?_
    | refine FzK.mp inferInstance ?_
    | refine FzK.dp inferInstance inferInstance ?_
    | refine FzK.same ?_)
   | (refine gY ?_; first
    | refine FzLK.nil ?_
    | refine FzLK.cons ?_)
   | (refine gQ ?_; first
    | refine Y98.nil ?_
    | refine Y98.oo rfl on inferInstance rfl ?_
    | refine Y98.aa rfl inferInstance rfl ?_)
   | (refine gB ?_; first
    | refine BldK.nil ?_
    | refine BldK.one rfl inferInstance rfl rfl ?_
    | refine BldK.agg rfl rfl rfl ?_)
   | refine alb fun b => ?_
   | (refine gF ?_; first
    | refine fin1 h ?_
    | refine fin2 h rfl ?_
    | refine fin0 h ?_
    | refine finC h rfl inferInstance inferInstance ?_
    | refine finE h rfl inferInstance inferInstance rfl ?_
    | refine finD h rfl inferInstance inferInstance ?_)
   | (refine lx h fun h => ?_; try with_reducible conv at h => lhs; whnf)
   | refine ⟨_, h, ?_⟩
   | refine ⟨_, _, h, ?_⟩
   | refine ⟨_, _, _, h, ?_⟩
   | refine ⟨h, ?_⟩
   | refine ⟨_, _, _, _, h, ?_⟩
   | refine ⟨_, _, _, _, _, h, ?_⟩
   | refine ⟨_, _, _, _, _, _, _, _, _, h, ?_⟩
   | refine ⟨_, _, _, _, _, _, _, _, _, _, h, ?_⟩
   | refine ⟨_, (Wj h).symm, ?_⟩
   | refine ⟨_, _, (Wj h).symm, ?_⟩
   | refine ⟨_, _, _, (Wj h).symm, ?_⟩
   | refine ⟨(Wj h).symm, ?_⟩
   | refine ⟨_, _, _, _, (Wj h).symm, ?_⟩
   | (apply exx)
   | refine exd ?_
   | refine alx fun v => ?_
   | refine ald ?_
   | (apply rx)
   | refine rd ?_
   | refine rl kb ?_
   | refine rr kb ?_
   | refine ax fun v => ?_
   | refine ab hs h (fun hb h hs => ?_) fun hb h hs => ?_
   | refine ab0 h (fun hb h => ?_) fun hb h => ?_
   | refine ad ?_
   | refine plr inferInstance inferInstance ?_
   | refine ⟨rfl, ?_⟩
   | refine ⟨_, rfl, rfl, ?_⟩
   | refine ⟨_, _, rfl, rfl, ?_⟩
   | refine ⟨_, _, rfl, ?_⟩
   | refine ckt h (by first | rfl | assumption) fun h => ?_
   | refine ckf h (by first | rfl | assumption) fun h => ?_
   | refine obk h (by assumption) fun h => ?_
   | refine cndb hs h (fun hb h hs => ?_) fun hb h hs => ?_
   | refine cnd h (fun hb h => ?_) fun hb h => ?_) : p := f ⟨⟩
theorem finI {P : Program} {n : Nat} {X : Ctx} {rs : List ResultVar} {R : C → List Obj → Prop} {s : St} (h : ∃ cs s', Y25 n X s s' ∧ ResVs P s' rs cs ∧ ∃ ns qs r, Y7 ns s'.o = some (qs, r) ∧ R (Y22 cs) qs) : Fin P n X rs R s := by
 unfold Go.Abs.Fin
 exact h
theorem so {P : Program} {β : Type} {f : Nat} {cs : List C} {ps : List Obj} {x : Option β} {D : β → Dr} {fn : Func} {c : Code} {rs : List ResultVar} (hf : P.funcs[f]? = some fn) (hb : fn.body = some c) (hres : fn.results = rs.toArray) (m : ∀ r X, x = some r → AW P fn.ntmps X c ⟨Y20 0 cs, ps⟩ (finK P fn.ntmps X rs (RelF D r)))
  (hname : (fn.name == "runtime.NumGoroutine") = false := by exact rfl) (hle : Nat.ble cs.length fn.ntmps = true := by exact rfl) : CtOk P f x (.d cs ps D) :=
 fun r h => Ok.of_body hf hname hb hres rfl hle fun X => m r X h
theorem Sp.of {P : Program} {β : Type} {f : Nat} {cs : List C} {x : Option β} {ret : β → C} (h : CtOk P f x (.d cs [] fun r => .d (ret r) [])) : Sp P f cs x ret := ⟨h⟩
end Go.Abs
namespace Go.Abs
open Go

section
variable {P : Program} {n : Nat} {X : Ctx} {a : Act} {w : World} {F G : BSet} {es : Env} {ps : List Obj}
variable {d ty : Nat} {pos : String} {af : Array Edge} {gd : Option (Nat × Bool)}

end

def rowZ (z : Bool) (w : World) (e : Nat) (v : Value) (xs : List Value) : Prop :=
 (v = .slice none 0 0 ∧ xs = []) ∨ ∃ g cap cur fz, v = .slice (some ⟨g, 0, none⟩) xs.length cap ∧ w.heap[g]? = some (.cells cur e fz) ∧ (fz = (0, 0) ∨ (z = true ∧ cur.size ≤ fz.1)) ∧ xs.length ≤ cap ∧ cap ≤ maxLen ∧ cur.size = cap ∧ cur.toList.take xs.length = xs

section
variable {P : Program} {w : World} {z : Bool} {e : Nat} {v : Value} {xs : List Value}

theorem rowZ.nil : rowZ z w e (.slice none 0 0) [] := .inl ⟨rfl, rfl⟩
theorem rowZ.cells (h : rowZ z w e v xs) {g : Nat} (hg : v.ownBlock = some g) : ∀ j u, xs[j]? = some u → w.cell? ((⟨g, 0, none⟩ : Addr).add j) = some u := by
 intro j u hu
 rcases h with ⟨rfl, _⟩ | ⟨g', cap, cur, fz, rfl, hgg, _, _, _, _, htake⟩
 ·
  cases hg
 ·
  cases hg
  have hadd : (⟨g', 0, none⟩ : Addr).add j = ⟨g', j, none⟩ := by unfold Addr.add; split <;> simp_all
  rw [hadd, cell_of_row w g' j cur e fz hgg]
  rw [← htake, List.getElem?_take] at hu
  split at hu
  ·
   simpa using hu
  ·
   cases hu
end

section
variable {P : Program} {n : Nat} {X : Ctx} {a : Act} {w : World} {F G : BSet} {es : Env} {ps : List Obj}
variable {d ty : Nat} {pos : String} {af : Array Edge} {gd : Option (Nat × Bool)}

end


section
variable {α γ : Type} {k : α → γ → List C} {ob : α → γ → List Obj} {kim : α → List C} {sz : Nat}

theorem Y9d (hk : ∀ x u, FrzL (k x u) (ob x u) (kim x)) {w : World} {F F' : BSet} (hF : ∀ b, F b → F' b) : ∀ (zs : List (α × γ)) (vs : List Value) (G : BSet), Flat w F (fun p : α × γ => k p.1 p.2) sz zs vs → Own w F (zs.flatMap fun p => ob p.1 p.2) G → (∀ b, G b → F' b) → Flat w F' kim sz (zs.map (·.1)) vs
 | [], _, _, h, _, _ => h
 | (x, u) :: zs, _, G, ⟨a, r, e, hl, h1, h2⟩, ho, hG => by
  obtain ⟨Ga, Gb, hi, _, o1, o2⟩ := Own.append.1 (show Own w F (ob x u ++ zs.flatMap fun p => ob p.1 p.2) G from ho)
  exact ⟨a, r, e, hl, hk x u w F Ga F' a h1 o1 hF fun b hb => hG b ((hi b).2 (.inl hb)), Y9d hk hF zs r Gb h2 o2 fun b hb => hG b ((hi b).2 (.inr hb))⟩

theorem HOp.flat {P : Program} {n : Nat} {es : Env} {ps : List Obj} {o : Oper} {T : Env → List Obj → Prop} {v : Value} {E : Nat} {xs : List α} (hk : ∀ x u, FrzL (k x u) (ob x u) (kim x)) (h : HOp P n o es (.arr v E kim sz xs :: ps) T) : HOp P n o es (.deep v E k ob sz xs :: ps) T := by
 intro a w F G1 hs ho hft hsz Kc Q hK
 obtain ⟨Ga, Gb, hi, hd, h1, h2⟩ := Own.append.1 (show Own w F ([.deep v E k ob sz xs] ++ ps) G1 from ho)
 obtain ⟨us, hul, Gx, Gy, hi2, hd2, h3, h4⟩ := Own.deep_iff.1 h1
 have hmono : ∀ b, F b → (F b ∨ Gy b) ∧ w.heap[b]? = w.heap[b]? := fun b hb => ⟨.inl hb, rfl⟩
 have hy : ∀ b, Gy b → G1 b := fun b hb => (hi b).2 (.inl ((hi2 b).2 (.inr hb)))
 have henv : Ym w (fun b => F b ∨ Gy b) es a := fun i c1 hi1 => C.mono _ (hs i c1 hi1) hmono
 obtain ⟨⟨vs, hrow, hfl⟩, hG⟩ := h3
 have hz : (xs.zip us).length = xs.length := by simp; omega
 have hm : (xs.zip us).map (·.1) = xs := List.map_fst_zip (by omega)
 have hfl' := Y9d hk (F' := fun b => F b ∨ Gy b) (fun b hb => .inl hb) _ _ _ hfl h4 fun b hb => .inr hb
 rw [hm] at hfl'
 rw [hz] at hrow
 have hown : Own w (fun b => F b ∨ Gy b) (.arr v E kim sz xs :: ps) (fun b => Gx b ∨ Gb b) :=
  ⟨Gx, Gb, fun b => Iff.rfl, fun b hb hb2 => hd b ((hi2 b).2 (.inl hb)) hb2, ⟨⟨vs, hrow, hfl'⟩, hG⟩, h2.mono hmono fun _ _ => rfl⟩
 have hfit : Fit w (fun b => F b ∨ Gy b) (fun b => Gx b ∨ Gb b) := ⟨fun b hb => hb.elim (hft.fin b) fun hb => (hft.gin b (hy b hb)).1, fun b hb => ?_, hft.glob.mono fun b hb => ⟨.inl hb, rfl⟩⟩
 ·
  refine h a w _ _ henv hown hfit hsz Kc Q fun v w' e' rs F' G1' ht' hT he => hK v w' e' rs F' G1' ⟨ht'.own, fun b hb => ht'.sub b (.inl hb), fun b hb => ⟨(ht'.fin b hb).1, ?_⟩, fun b hb => ⟨(ht'.gin b hb).1, (ht'.gin b hb).2.1, ?_⟩, ⟨ht'.chg.os, ht'.chg.tape, ht'.chg.output, ht'.chg.size, ht'.chg.drawn, fun b hb hn => ht'.chg.block b hb fun hx => hn ?_⟩⟩ hT he
  ·
   rcases (ht'.fin b hb).2 with (h | h) | h | h
   ·
    exact .inl h
   ·
    exact .inr (.inl (hy b h))
   ·
    exact .inr (.inl (h.elim (fun h => (hi b).2 (.inl ((hi2 b).2 (.inl h)))) fun h => (hi b).2 (.inr h)))
   ·
    exact .inr (.inr h)
  ·
   exact (ht'.gin b hb).2.2.imp (fun h => h.elim (fun h => (hi b).2 (.inl ((hi2 b).2 (.inl h)))) fun h => (hi b).2 (.inr h)) id
  ·
   exact hx.elim (fun h => (hi b).2 (.inl ((hi2 b).2 (.inl h)))) fun h => (hi b).2 (.inr h)
 ·
  rcases hb with hb | hb
  ·
   have := hft.gin b ((hi b).2 (.inl ((hi2 b).2 (.inl hb))))
   exact ⟨this.1, fun hf => hf.elim this.2 fun hg => hd2 b hb hg⟩
  ·
   have := hft.gin b ((hi b).2 (.inr hb))
   exact ⟨this.1, fun hf => hf.elim this.2 fun hg => hd b ((hi2 b).2 (.inr hg)) hb⟩
end
end Go.Abs
namespace Go.Abs
open Go
section
variable {P : Program} {n : Nat} {X : Ctx} {a : Act} {w : World} {F G : BSet} {es : Env} {ps : List Obj} {α : Type} {k : α → List C} {sz : Nat}
variable {d ty : Nat} {pos : String} {af : Array Edge} {gd : Option (Nat × Bool)}

theorem Y9e {E h : Nat} {v : Value} {xs : List α} (ho : Own w F [.arr v E k sz xs] G) (hh : h ≤ xs.length) : Own w F [.arr (takeV v h) E k sz (xs.take h)] G := by
 refine Own.of_one ?_
 obtain ⟨⟨vs, ⟨hl, hrow⟩, hf⟩, hG⟩ := ho.only
 have hft : Flat w F k sz (xs.take h) (vs.take (h * sz)) := by
  have := (Y54.of_flat hf).take h
  rw [← List.map_take] at this
  exact this.flat
 have htl : (xs.take h).length = h := by simp; omega
 rcases hrow with ⟨rfl, h0⟩ | ⟨g, cap, cur, rfl, hbg, hb, hnc, hcm, hcs, htake⟩
 ·
  obtain rfl : xs = [] := List.eq_nil_of_length_eq_zero h0
  obtain rfl : h = 0 := by simpa using hh
  exact ⟨⟨[], World.ownsRow_nil w 0 E sz, by simp [Flat]⟩, fun b => by rw [hG b]; rfl⟩
 ·
  refine ⟨⟨vs.take (h * sz), ⟨by rw [hft.length], .inr ⟨g, cap, cur, by rw [htl]; rfl, hbg, hb, by omega, hcm, hcs, ?_⟩⟩, hft⟩, fun b => by rw [hG b]; rfl⟩
  rw [htl, ← htake, List.take_take, Nat.min_eq_left (Nat.mul_le_mul_right _ hh)]

theorem Sim.arr_part {s : St} {p E : Nat} {v : Value} {xs : List α} (hp : pick p s.o = some (.arr v E k sz xs)) (a : Act) (w : World) (h : Sim n X s a w) : (∀ l, (Go.Abs.dropV v sz l).oneCell' = true) ∧ ∀ l, (Go.Abs.takeV v l).oneCell' = true := by
 obtain ⟨F, G, h⟩ := h
 obtain ⟨G1, hr, _⟩ := h.own.pick hp
 obtain ⟨A, cap, rfl, _⟩ := Y78 hr
 exact ⟨fun _ => rfl, fun _ => rfl⟩
theorem Frz.dropV {E l : Nat} {v : Value} {xs : List α} (h : l ≤ xs.length) : Frz (.val (Go.Abs.dropV v sz l)) [.arr v E k sz xs] (.im k sz (xs.drop l)) := fun w F G F' u hu ho hF hG => by
 rw [show u = Go.Abs.dropV v sz l from hu]
 obtain ⟨A, cap, rfl, hc, hx⟩ := Y4h ho.only hF hG
 refine ⟨if cap = l then A else A.map (·.add (l * sz)), cap - l, ?_, by simp; omega, fun i x hi => ?_⟩
 ·
  simp [Go.Abs.dropV]
 ·
  rw [List.getElem?_drop] at hi
  obtain ⟨b, off, vs, hA, hb, hl, hcs, hcl⟩ := hx _ x hi
  have hlt : l + i < xs.length := (List.getElem?_eq_some_iff.1 hi).1
  subst hA
  refine ⟨b, off + l * sz, vs, ?_, hb, hl, ?_, hcl⟩
  ·
   rw [if_neg (by omega)]
   simp [Addr.add]
  ·
   rw [show off + l * sz + i * sz = off + (l + i) * sz by rw [Nat.add_mul]; omega]
   exact hcs

theorem Y9f {T E by' i j : Nat} {x y : Operand} {v : Value} {xs : List α} (hT : Y30 P T = some (E, sz, by')) (hx : ev es x = some (.val (takeV v i))) (hy : ev es y = some (.val (dropV v sz j))) (hij : i ≤ j) (hj : j ≤ xs.length) (hn : Nat.blt d n = true) :
  HOp P n ⟨some d, .call ⟨.builtin .append, #[x, y], #[T, T]⟩, ty, pos, af, gd⟩ es [.arr v E k sz xs] (fun e' qs => ∃ u, e' = (d, .val u) :: es ∧ qs = [.arr u E k sz (xs.take i ++ xs.drop j)]) :=
 (Y7m hT hx hy hij hj hn).conv fun e' qs ⟨h1, h2⟩ => by
  subst h2
  refine ⟨_, fun w F G ho => ⟨G, fun _ h => h, ?_⟩, takeV v (i + (xs.length - j)), h1, rfl⟩
  have := Y9e (h := i + (xs.length - j)) ho (by simp; omega)
  rwa [List.take_left' (by simp; omega)] at this
end
section
variable {P : Program} {n : Nat} {X : Ctx} {w : World} {F G : BSet} {es : Env} {ps : List Obj} {α γ : Type} {k : α → γ → List C} {ob : α → γ → List Obj} {sz : Nat} {v : Value} {E : Nat}
variable {d ty : Nat} {pos : String} {af : Array Edge} {gd : Option (Nat × Bool)}

end
section
variable {P : Program} {n : Nat} {a : Act} {w : World} {F G : BSet} {es : Env} {ps : List Obj}
variable {d ty : Nat} {pos : String} {af : Array Edge} {gd : Option (Nat × Bool)}

end
end Go.Abs
