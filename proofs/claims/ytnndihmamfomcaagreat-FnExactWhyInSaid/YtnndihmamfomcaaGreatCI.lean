/- Regions whose order is drawn: what only looks is taken first; what turns objects comes when nothing else can. -/
import Derived.Test.YtnndihmamfomcaaGreatCH
import Derived.OrdersHeld
set_option autoImplicit false
set_option linter.unusedVariables false
set_option linter.unusedSimpArgs false
namespace Go.Abs
open Go

section
variable {P : Program} {ops : Array Oper} {Q : Exit → Act → World → Prop} {S : World → Prop} {L Lt : List Nat}

def lateOk (ops : Array Oper) (L Lt : List Nat) : Bool :=
 Lt.all fun j => match ops[j]? with
  | some o => L.all fun l => o.after.any fun e => Region.binds .any e && e.on == l
  | none => true

theorem lateOk_spec {i j : Nat} {oj : Oper} (h : lateOk ops L Lt = true) (hj : ops[j]? = some oj) (hi : L.contains i = true) (hno : ∀ e ∈ oj.after, Region.binds .any e = true → e.on ≠ i) : Lt.contains j = false := by
 rw [Bool.eq_false_iff]
 intro hc
 simp only [lateOk, List.all_eq_true] at h
 have h1 := h j (by simpa using hc)
 simp only [hj, List.all_eq_true] at h1
 have h2 := h1 i (by simpa using hi)
 obtain ⟨e, he, hb⟩ := Array.any_eq_true'.1 h2
 simp only [Bool.and_eq_true, beq_iff_eq] at hb
 exact hno e he hb.1 hb.2

def wpAnyL (P : Program) (ops : Array Oper) (Q : Exit → Act → World → Prop) (S : World → Prop) (Lt : List Nat) : Nat → Bool → Array Bool → Act → World → Prop
 | 0, _, listed, a, w => Region.ready .any ops listed = [] ∧ Q .normal a w
 | fuel + 1, b, listed, a, w =>
  (Region.ready .any ops listed = [] → Q .normal a w) ∧
  ∀ i ∈ Region.ready .any ops listed, wpOp P ops Q i (fun a' w' => ((b && !Lt.contains i) = true → S w') ∧ wpAnyL P ops Q S Lt fuel (b && !Lt.contains i) (listed.setIfInBounds i true) a' w') a w

theorem wpAny_of_L : ∀ (fuel : Nat) (b : Bool) (listed : Array Bool) (a : Act) (w : World), wpAnyL P ops Q S Lt fuel b listed a w → wpAny P .any ops Q fuel listed a w
 | 0, _, _, _, _, h => h
 | fuel + 1, _, _, _, _, h => ⟨h.1, fun i hi => wpOp_mono (fun a' w' h' => wpAny_of_L fuel _ _ a' w' h'.2) (h.2 i hi)⟩

theorem wpAnyL_strong {S' : World → Prop} (k : ∀ w, S' w → S w) : ∀ (fuel : Nat) (b : Bool) (listed : Array Bool) (a : Act) (w : World), wpAnyL P ops Q S' Lt fuel b listed a w → wpAnyL P ops Q S Lt fuel b listed a w
 | 0, _, _, _, _, h => h
 | fuel + 1, _, _, _, _, h => ⟨h.1, fun i hi => wpOp_mono (fun a' w' h' => ⟨fun hb => k w' (h'.1 hb), wpAnyL_strong k fuel _ _ a' w' h'.2⟩) (h.2 i hi)⟩

theorem wpAnyL_open {S' : World → Prop} : ∀ (fuel : Nat) (listed : Array Bool) (a : Act) (w : World), wpAnyL P ops Q S' Lt fuel false listed a w → wpAnyL P ops Q S Lt fuel false listed a w
 | 0, _, _, _, h => h
 | fuel + 1, _, _, _, h => ⟨h.1, fun i hi => wpOp_mono (fun a' w' h' => ⟨fun hb => by simp at hb, wpAnyL_open fuel _ a' w' h'.2⟩) (h.2 i hi)⟩

theorem wpAnyL_first {S' : World → Prop} {i : Nat} {oi : Oper} {v : Value} {b : Bool} (hi : ops[i]? = some oi) (hsel : ∀ (j : Nat) (o : Oper) cs b, ops[j]? = some o → o.op ≠ .select cs b)
  (hQ : ∀ c a w, Q (.panic c) (a.put oi.dst v) w → Q (.panic c) a w) (hlt : lateOk ops L Lt = true) (hil : Lt.contains i = false) (hkeep : (∀ w, S' w) ∨ (b = true ∧ L.contains i = true ∧ ∀ w, S w → S' w)) :
  ∀ (fuel : Nat) (b' : Bool) (listed : Array Bool) (a : Act) (w : World), (b = true → L.contains i = true → b' = true) →
   (∀ j oj, ops[j]? = some oj → j ≠ i → listed.getD j true = false → (∀ e ∈ oj.after, Region.binds .any e = true → e.on ≠ i) → oi.apart ops oj = true) →
   i ∈ Region.ready .any ops listed → YieldsIf P ops S' oi v a → (b' = true → S w) →
   wpAnyL P ops Q S Lt fuel b' (listed.setIfInBounds i true) (a.put oi.dst v) w → wpAnyL P ops Q S Lt (fuel + 1) b' listed a w := by
 intro fuel
 induction fuel with
 | zero =>
  intro b' listed a w hbb _ hr hy hS H
  have hS' : S' w := hkeep.elim (fun h => h w) fun h => h.2.2 w (hS (hbb h.1 h.2.1))
  refine ⟨fun h => (by rw [h] at hr; cases hr), fun j hj => ?_⟩
  by_cases hji : j = i
  ·
   subst hji
   have e : (b' && !Lt.contains j) = b' := by rw [hil]; simp
   rw [e]
   exact hy.wpOp hi hS' ⟨hS, H⟩
  ·
   have := ready_mono hj hji
   rw [H.1] at this
   cases this
 | succ fuel ih =>
  intro b' listed a w hbb hfree hr hy hS H
  have hS' : S' w := hkeep.elim (fun h => h w) fun h => h.2.2 w (hS (hbb h.1 h.2.1))
  refine ⟨fun h => (by rw [h] at hr; cases hr), fun j hj => ?_⟩
  by_cases hji : j = i
  ·
   subst hji
   have e : (b' && !Lt.contains j) = b' := by rw [hil]; simp
   rw [e]
   exact hy.wpOp hi hS' ⟨hS, H⟩
  ·
   have h1 := H.2 j (ready_mono hj hji)
   obtain ⟨hjun, oj, hoj, hall⟩ := mem_ready.1 hj
   have hnot : ∀ e ∈ oj.after, Region.binds .any e = true → e.on ≠ i := fun e he hb heq => by
    have h1 := hall e he hb
    have h0 := (mem_ready.1 hr).1
    rw [heq] at h1
    rcases Nat.lt_or_ge i listed.size with h' | h'
    ·
     simp [h'] at h0 h1; rw [h0] at h1; cases h1
    ·
     simp [Array.getElem?_eq_none h'] at h1
   have h2 := wpOp_putIf hoj (hfree j oj hoj hji hjun hnot) (fun cs b => hsel i oi cs b hi) (fun cs b => hsel j oj cs b hoj) hQ hy h1
   have hfree' : ∀ k ok, ops[k]? = some ok → k ≠ i → (listed.setIfInBounds j true).getD k true = false →
     (∀ e ∈ ok.after, Region.binds .any e = true → e.on ≠ i) → oi.apart ops ok = true := fun k ok hk hki hun hno => by
    refine hfree k ok hk hki ?_ hno
    by_cases hjk : j = k
    ·
     subst hjk; exact hjun
    ·
     rw [getD_set_ne true hjk] at hun; exact hun
   refine wpOp_mono (fun a' w' h3 => ⟨h3.2.1, ih _ (listed.setIfInBounds j true) a' w' (fun hb hl => ?_) hfree' (ready_mono hr (Ne.symm hji)) h3.1 h3.2.1 ?_⟩) h2
   ·
    rw [hbb hb hl, lateOk_spec hlt hoj hl hnot]; rfl
   ·
    rw [Array.setIfInBounds_comm _ _ hji]
    exact h3.2.2


inductive Sch where
 | done
 | light (i : Nat) (m : Bool) (k : Sch)
 | one (i : Nat) (k : Sch)
 | two (i j : Nat) (k k' : Sch)
 | late (i : Nat) (k : Sch)
 | three (i j p : Nat) (k k' k'' : Sch)
 | four (i j p q : Nat) (k k' k'' k''' : Sch)

def Sch.ok (ops : Array Oper) (L Lt : List Nat) : Sch → Nat → Bool → Array Bool → Bool
 | .done, _, _, listed => (Region.ready .any ops listed).isEmpty
 | .light _ _ _, 0, _, _ => false
 | .light i m k, fuel + 1, b, listed => Region.free .any ops listed i && (Region.ready .any ops listed).contains i && (!m || (b && L.contains i)) && !Lt.contains i && k.ok ops L Lt fuel b (listed.setIfInBounds i true)
 | .one _ _, 0, _, _ => false
 | .one i k, fuel + 1, b, listed => Region.ready .any ops listed == [i] && !Lt.contains i && k.ok ops L Lt fuel b (listed.setIfInBounds i true)
 | .two _ _ _ _, 0, _, _ => false
 | .two i j k k', fuel + 1, b, listed => Region.ready .any ops listed == [i, j] && !Lt.contains i && !Lt.contains j && k.ok ops L Lt fuel b (listed.setIfInBounds i true) && k'.ok ops L Lt fuel b (listed.setIfInBounds j true)
 | .late _ _, 0, _, _ => false
 | .late i k, fuel + 1, _, listed => Region.ready .any ops listed == [i] && Lt.contains i && k.ok ops L Lt fuel false (listed.setIfInBounds i true)
 | .three _ _ _ _ _ _, 0, _, _ => false
 | .three i j p k k' k'', fuel + 1, b, listed => Region.ready .any ops listed == [i, j, p] && !Lt.contains i && !Lt.contains j && !Lt.contains p && k.ok ops L Lt fuel b (listed.setIfInBounds i true) && k'.ok ops L Lt fuel b (listed.setIfInBounds j true) && k''.ok ops L Lt fuel b (listed.setIfInBounds p true)
 | .four _ _ _ _ _ _ _ _, 0, _, _ => false
 | .four i j p q k k' k'' k''', fuel + 1, b, listed => Region.ready .any ops listed == [i, j, p, q] && !Lt.contains i && !Lt.contains j && !Lt.contains p && !Lt.contains q && k.ok ops L Lt fuel b (listed.setIfInBounds i true) && k'.ok ops L Lt fuel b (listed.setIfInBounds j true) && k''.ok ops L Lt fuel b (listed.setIfInBounds p true) && k'''.ok ops L Lt fuel b (listed.setIfInBounds q true)

def nth : List Oper → Nat → Option Oper
 | [], _ => none
 | o :: _, 0 => some o
 | _ :: l, i + 1 => nth l i

theorem nth_eq : ∀ (l : List Oper) (i : Nat), nth l i = l.toArray[i]?
 | [], i => by simp [nth]
 | o :: l, 0 => by simp [nth]
 | o :: l, i + 1 => by simp [nth, nth_eq l i]

def Same (w : World) (F G : BSet) : World → Prop := fun w2 => ∀ b, F b ∨ G b → w2.heap[b]? = w.heap[b]?

def onlyN (Q : Act → World → Prop) : Exit → Act → World → Prop
 | .normal, a, w => Q a w
 | _, _, _ => False

variable {n : Nat} {X : Ctx} {l : List Oper} {e : Env} {os ot : List Obj} {K : St → Prop} {k : Sch} {i : Nat} {o : Oper}

def OpsD (P : Program) (n : Nat) (X : Ctx) (l : List Oper) (L Lt : List Nat) (sch : Sch) (b : Bool) (e : Env) (os ot : List Obj) (K : St → Prop) : Prop :=
 ∀ fuel listed, sch.ok l.toArray L Lt fuel b listed = true → Region.noSelect l.toArray = true → lateOk l.toArray L Lt = true →
  ∀ a w F Gs Gt (Q : Act → World → Prop), SimAt n X ⟨e, os ++ ot⟩ a w F (fun c => Gs c ∨ Gt c) → (∀ c, Gs c → ¬ Gt c) → Own w F os Gs → Own w F ot Gt →
   (∀ a' w' s', Sim n X s' a' w' → K s' → Q a' w') → wpAnyL P l.toArray (onlyN Q) (Same w F Gs) Lt fuel b listed a w

theorem OpsD.done {b : Bool} (h : appK os ot fun l => K ⟨e, l⟩) : OpsD P n X l L Lt .done b e os ot K := by
 intro fuel listed hok _ _ a w F Gs Gt Q hs _ _ _ hQ
 have hr : Region.ready .any l.toArray listed = [] := List.isEmpty_iff.1 hok
 have := hQ a w _ ⟨F, _, hs⟩ (appK_iff.1 h)
 cases fuel with
 | zero => exact ⟨hr, this⟩
 | succ fuel => exact ⟨fun _ => this, fun i hi => by rw [hr] at hi; cases hi⟩

theorem OpsD.light {m b : Bool} {d : Nat} {c : C} (ho : nth l i = some o)
  (hy : ∀ (a : Act) (w : World) (F G Gs : BSet), SimAt n X ⟨e, os ++ ot⟩ a w F G → Own w F os Gs → ∃ v, c.rep w F v ∧ YieldsIf P l.toArray (fun w2 => m = true → Same w F Gs w2) o v a) (hd : o.dst = some d) (hn : Nat.blt d n = true)
  (h : OpsD P n X l L Lt k b ((d, c) :: e) os ot K) : OpsD P n X l L Lt (.light i m k) b e os ot K := by
 intro fuel listed hok hsel hlt a w F Gs Gt Q hs hdj h1 h2 hQ
 cases fuel with
 | zero => simp [Sch.ok] at hok
 | succ fuel =>
  simp only [Sch.ok, Bool.and_eq_true] at hok
  obtain ⟨⟨⟨⟨hf, hr⟩, hm⟩, hil⟩, hk⟩ := hok
  rw [nth_eq] at ho
  obtain ⟨v, hc, hy⟩ := hy a w F _ Gs hs h1
  refine wpAnyL_first (L := L) (b := b) ho (Region.noSelect_spec hsel) (fun _ _ _ h => h) hlt (by simpa using hil) ?_ fuel b listed a w (fun h _ => h) (Region.free_spec ho hf) (by simpa using hr) hy (fun _ _ _ => rfl) ?_
  ·
   cases m with
   | false => exact .inl fun _ h => by cases h
   | true =>
    simp only [Bool.not_true, Bool.false_or, Bool.and_eq_true] at hm
    exact .inr ⟨hm.1, hm.2, fun _ h _ => h⟩
  ·
   rw [hd]
   exact h fuel _ hk hsel hlt _ w F Gs Gt Q (hs.put (blt_lt hn) hc) hdj h1 h2 hQ

theorem OpsD.v {m b : Bool} {d : Nat} {c : C} (ho : nth l i = some o) (hg : o.guard = none) (h : VOp m P n e os o d c) (hk : OpsD P n X l L Lt k b ((d, c) :: e) os ot K) : OpsD P n X l L Lt (.light i m k) b e os ot K :=
 OpsD.light ho (fun a w F G Gs hs h1 => by
  obtain ⟨v, hr, hc⟩ := h.run a w F Gs hs.env h1
  exact ⟨v, hc, .inl ⟨by simp [Region.wanted, hg], fun w2 hw => hr w2 hw⟩⟩) h.dst h.lt hk

theorem OpsD.gv {m b : Bool} {d j t : Nat} {want y : Bool} {c : C} (ho : nth l i = some o) (hg : o.guard = some (j, want)) (hj : (nth l j).bind (·.dst) = some t) (ht : get e t = some (.bool y)) (htn : Nat.blt t n = true) (hb : y = want)
  (h : VOp m P n e os o d c) (hk : OpsD P n X l L Lt k b ((d, c) :: e) os ot K) : OpsD P n X l L Lt (.light i m k) b e os ot K :=
 OpsD.light ho (fun a w F G Gs hs h1 => by
  obtain ⟨v, hr, hc⟩ := h.run a w F Gs hs.env h1
  rw [nth_eq] at hj
  exact ⟨v, hc, .inl ⟨by rw [wanted_some hg (Sim.yielded ⟨F, G, hs⟩ hj ht htn), hb]; simp, fun w2 hw => hr w2 hw⟩⟩) h.dst h.lt hk

theorem OpsD.gs {m b : Bool} {d j t : Nat} {want : Bool} (ho : nth l i = some o) (hg : o.guard = some (j, want)) (hj : (nth l j).bind (·.dst) = some t) (htn : Nat.blt t n = true) (hw : NotWanted e t want)
  (hd : o.dst = some d) (hn : Nat.blt d n = true) (hk : OpsD P n X l L Lt k b ((d, .val undef) :: e) os ot K) : OpsD P n X l L Lt (.light i m k) b e os ot K :=
 OpsD.light ho (fun a w F G Gs hs _ => by
  rw [nth_eq] at hj
  exact ⟨undef, rfl, .inr ⟨not_wanted ⟨F, G, hs⟩ hg hj htn hw, rfl⟩⟩) hd hn hk

theorem heavy_step {b b' : Bool} {ps r : List Obj} {ns : List Nat} {T : Env → List Obj → Prop} {a : Act} {w : World} {F Gs Gt : BSet} {Q : Act → World → Prop} {fuel : Nat} {listed : Array Bool} (ho : l.toArray[i]? = some o) (hw : Region.wanted o (yielded l.toArray a.tmps) = true)
  (hp : picks ns ot = some (ps, r)) (h : HOp P n o e ps T) (hk : ∀ e' qs, T e' qs → appK qs r fun l' => OpsD P n X l L Lt k b' e' os l' K) (hok : k.ok l.toArray L Lt fuel b' listed = true) (hsel : Region.noSelect l.toArray = true) (hlt : lateOk l.toArray L Lt = true)
  (hs : SimAt n X ⟨e, os ++ ot⟩ a w F (fun c => Gs c ∨ Gt c)) (hdj : ∀ c, Gs c → ¬ Gt c) (h1 : Own w F os Gs) (h2 : Own w F ot Gt) (hQ : ∀ a' w' s', Sim n X s' a' w' → K s' → Q a' w') :
  wpOp P l.toArray (onlyN Q) i (fun a' w' => (b = true → Same w F Gs w') ∧ wpAnyL P l.toArray (onlyN Q) (Same w F Gs) Lt fuel b' listed a' w') a w := by
 unfold wpOp
 simp only [ho, hw, if_true]
 refine .inl ?_
 obtain ⟨G1, G2, hi, hd, h3, h4⟩ := Own.append.1 (h2.perm (picks_perm hp))
 have hfit : Fit w F G1 := hs.fit fun c hc => .inr ((hi c).2 (.inl hc))
 refine h a w F G1 hs.env h3 hfit hs.size _ _ fun v w' e' qs F' G1' ht hT he => ?_
 have hsame : ∀ c, Gs c → w'.heap[c]? = w.heap[c]? := fun c hc => ht.chg.block c (hs.gin c (.inl hc)).1 fun hg => hdj c hc ((hi c).2 (.inl hg))
 have hS : Same w F Gs w' := fun c hc => hc.elim (fun hc => (ht.same hfit c hc).2) (hsame c)
 refine ⟨fun _ => hS, ?_⟩
 have hrest : Own w F (os ++ r) (fun c => Gs c ∨ G2 c) := Own.append.2 ⟨Gs, G2, fun _ => Iff.rfl, fun c hc hx => hdj c hc ((hi c).2 (.inr hx)), h1, h4⟩
 have hs' := hs.moved (e' := e') (ps := ps) (G1 := G1) (G2 := fun c => Gs c ∨ G2 c) (a' := a.put o.dst v) (fun c => by
   simp only [hi c]
   constructor
   ·
    rintro (h | h | h)
    ·
     exact .inr (.inl h)
    ·
     exact .inl h
    ·
     exact .inr (.inr h)
   ·
    rintro (h | h | h)
    ·
     exact .inr (.inl h)
    ·
     exact .inl h
    ·
     exact .inr (.inr h)) (fun c hc hx => hx.elim (fun h => hdj c h ((hi c).2 (.inl hc))) (hd c hc)) hrest ht he (by rw [put_size]; exact hs.size) (by rw [put_defers]; exact hs.defs)
 -- the objects put in order
 have hnot : ∀ c, G1' c → ¬ Gs c ∧ ¬ G2 c := fun c hc => by
  rcases (ht.gin c hc).2.2 with hg | hg
  ·
   exact ⟨fun h => hdj c h ((hi c).2 (.inl hg)), hd c hg⟩
  ·
   exact ⟨fun h => absurd (hs.gin c (.inl h)).1 (by omega), fun h => absurd (hs.gin c (.inr ((hi c).2 (.inr h)))).1 (by omega)⟩
 have hF : ∀ c, F c → F' c ∧ w'.heap[c]? = w.heap[c]? := ht.same hfit
 have ho1 : Own w' F' os Gs := h1.mono hF hsame
 have ho2 : Own w' F' (qs ++ r) (fun c => G1' c ∨ G2 c) := Own.append.2 ⟨G1', G2, fun _ => Iff.rfl, fun c hc => (hnot c hc).2, ht.own, h4.mono hF fun c hc => ht.chg.block c (hs.gin c (.inr ((hi c).2 (.inr hc)))).1 fun hg => hd c hg hc⟩
 have hdj' : ∀ c, Gs c → ¬ (G1' c ∨ G2 c) := fun c hc hx => hx.elim (fun h => (hnot c h).1 hc) fun h => hdj c hc ((hi c).2 (.inr h))
 have hs'' : SimAt n X ⟨e', os ++ (qs ++ r)⟩ (a.put o.dst v) w' F' (fun c => Gs c ∨ (G1' c ∨ G2 c)) :=
  ⟨hs'.env, Own.append.2 ⟨Gs, _, fun _ => Iff.rfl, hdj', ho1, ho2⟩, hs'.fin, fun c hc => hs'.gin c (by
   rcases hc with h | h | h
   ·
    exact .inr (.inl h)
   ·
    exact .inl h
   ·
    exact .inr (.inr h)), hs'.sub, hs'.chg, hs'.size, hs'.defs⟩
 have hfin := appK_iff.1 (hk e' qs hT) fuel listed hok hsel hlt (a.put o.dst v) w' F' Gs _ Q hs'' hdj' ho1 ho2 hQ
 refine wpAnyL_strong (fun w2 h2 c hc => ?_) fuel b' listed _ _ hfin
 rw [← hS c hc]
 exact h2 c (hc.imp (fun h => (hF c h).1) id)

theorem wanted_none {a : Act} (hg : o.guard = none) : Region.wanted o (yielded l.toArray a.tmps) = true := by simp [Region.wanted, hg]

def StepD (P : Program) (n : Nat) (X : Ctx) (l : List Oper) (L Lt : List Nat) (i : Nat) (k : Sch) (b : Bool) (e : Env) (os ot : List Obj) (K : St → Prop) : Prop :=
 ∀ fuel listed, k.ok l.toArray L Lt fuel b listed = true → Region.noSelect l.toArray = true → lateOk l.toArray L Lt = true →
  ∀ a w F Gs Gt (Q : Act → World → Prop), SimAt n X ⟨e, os ++ ot⟩ a w F (fun c => Gs c ∨ Gt c) → (∀ c, Gs c → ¬ Gt c) → Own w F os Gs → Own w F ot Gt →
   (∀ a' w' s', Sim n X s' a' w' → K s' → Q a' w') → wpOp P l.toArray (onlyN Q) i (fun a' w' => (b = true → Same w F Gs w') ∧ wpAnyL P l.toArray (onlyN Q) (Same w F Gs) Lt fuel b listed a' w') a w

theorem StepD.h {b : Bool} {ps r : List Obj} {ns : List Nat} {T : Env → List Obj → Prop} (ho : nth l i = some o) (hg : o.guard = none) (hp : picks ns ot = some (ps, r)) (h : HOp P n o e ps T)
  (hk : ∀ e' qs, T e' qs → appK qs r fun l' => OpsD P n X l L Lt k b e' os l' K) : StepD P n X l L Lt i k b e os ot K :=
 fun _ _ hok hsel hlt _ _ _ _ _ _ hs hdj h1 h2 hQ => heavy_step (nth_eq l i ▸ ho) (wanted_none hg) hp h hk hok hsel hlt hs hdj h1 h2 hQ

theorem StepD.gh {b : Bool} {j t : Nat} {want y : Bool} {ps r : List Obj} {ns : List Nat} {T : Env → List Obj → Prop} (ho : nth l i = some o) (hg : o.guard = some (j, want)) (hj : (nth l j).bind (·.dst) = some t) (ht : get e t = some (.bool y)) (htn : Nat.blt t n = true) (hb : y = want)
  (hp : picks ns ot = some (ps, r)) (h : HOp P n o e ps T) (hk : ∀ e' qs, T e' qs → appK qs r fun l' => OpsD P n X l L Lt k b e' os l' K) : StepD P n X l L Lt i k b e os ot K :=
 fun _ _ hok hsel hlt _ _ F _ _ _ hs hdj h1 h2 hQ => heavy_step (nth_eq l i ▸ ho) (by rw [nth_eq] at hj; rw [wanted_some hg (Sim.yielded ⟨F, _, hs⟩ hj ht htn), hb]; simp) hp h hk hok hsel hlt hs hdj h1 h2 hQ

theorem StepD.v {m b : Bool} {d : Nat} {c : C} (ho : nth l i = some o) (hg : o.guard = none) (h : VOp m P n e (os ++ ot) o d c) (hk : OpsD P n X l L Lt k b ((d, c) :: e) os ot K) : StepD P n X l L Lt i k b e os ot K := by
 intro fuel listed hok hsel hlt a w F Gs Gt Q hs hdj h1 h2 hQ
 rw [nth_eq] at ho
 unfold wpOp
 simp only [ho, wanted_none hg, if_true]
 refine .inl ?_
 obtain ⟨v, hr', hc⟩ := h.run a w F _ hs.env hs.own
 unfold Oper.wp
 rw [hr' w fun _ _ _ => rfl]
 show _ ∧ _
 rw [h.dst]
 exact ⟨fun _ _ _ => rfl, hk fuel _ hok hsel hlt _ w F Gs Gt Q (hs.put (blt_lt h.lt) hc) hdj h1 h2 hQ⟩

theorem StepD.gs {b : Bool} {d j t : Nat} {want : Bool} (ho : nth l i = some o) (hg : o.guard = some (j, want)) (hj : (nth l j).bind (·.dst) = some t) (htn : Nat.blt t n = true) (hw : NotWanted e t want)
  (hd : o.dst = some d) (hn : Nat.blt d n = true) (hk : OpsD P n X l L Lt k b ((d, .val undef) :: e) os ot K) : StepD P n X l L Lt i k b e os ot K := by
 intro fuel listed hok hsel hlt a w F Gs Gt Q hs hdj h1 h2 hQ
 rw [nth_eq] at ho hj
 unfold wpOp
 simp only [ho]
 rw [if_neg (by rw [not_wanted ⟨F, _, hs⟩ hg hj htn hw]; simp), hd]
 exact ⟨fun _ _ _ => rfl, hk fuel _ hok hsel hlt _ w F Gs Gt Q (hs.put (c := .val undef) (v := undef) (blt_lt hn) rfl) hdj h1 h2 hQ⟩
theorem OpsD.one {b : Bool} (h : StepD P n X l L Lt i k b e os ot K) : OpsD P n X l L Lt (.one i k) b e os ot K := by
 intro fuel listed hok hsel hlt a w F Gs Gt Q hs hdj h1 h2 hQ
 cases fuel with
 | zero => simp [Sch.ok] at hok
 | succ fuel =>
  simp only [Sch.ok, Bool.and_eq_true, beq_iff_eq] at hok
  obtain ⟨⟨hr, hil⟩, hk'⟩ := hok
  refine ⟨fun h0 => (by rw [hr] at h0; cases h0), fun j hj => ?_⟩
  rw [hr] at hj
  obtain rfl := List.mem_singleton.1 hj
  have e1 : (b && !Lt.contains j) = b := by rw [hil]; simp
  rw [e1]
  exact h fuel _ hk' hsel hlt a w F Gs Gt Q hs hdj h1 h2 hQ

theorem OpsD.two {b : Bool} {j : Nat} {k' : Sch} (h : StepD P n X l L Lt i k b e os ot K) (h' : StepD P n X l L Lt j k' b e os ot K) : OpsD P n X l L Lt (.two i j k k') b e os ot K := by
 intro fuel listed hok hsel hlt a w F Gs Gt Q hs hdj h1 h2 hQ
 cases fuel with
 | zero => simp [Sch.ok] at hok
 | succ fuel =>
  simp only [Sch.ok, Bool.and_eq_true, beq_iff_eq] at hok
  obtain ⟨⟨⟨⟨hr, hil⟩, hjl⟩, hk1⟩, hk2⟩ := hok
  refine ⟨fun h0 => (by rw [hr] at h0; cases h0), fun j' hj' => ?_⟩
  rw [hr] at hj'
  rcases List.mem_cons.1 hj' with rfl | hj'
  ·
   have e1 : (b && !Lt.contains j') = b := by rw [hil]; simp
   rw [e1]
   exact h fuel _ hk1 hsel hlt a w F Gs Gt Q hs hdj h1 h2 hQ
  ·
   obtain rfl := List.mem_singleton.1 hj'
   have e1 : (b && !Lt.contains j') = b := by rw [hjl]; simp
   rw [e1]
   exact h' fuel _ hk2 hsel hlt a w F Gs Gt Q hs hdj h1 h2 hQ

theorem OpsD.three {b : Bool} {j p : Nat} {k' k'' : Sch} (h0 : StepD P n X l L Lt i k b e os ot K) (h1 : StepD P n X l L Lt j k' b e os ot K) (h2 : StepD P n X l L Lt p k'' b e os ot K) : OpsD P n X l L Lt (.three i j p k k' k'') b e os ot K := by
 intro fuel listed hok hsel hlt a w F Gs Gt Q hs hdj h1_ h2_ hQ
 cases fuel with
 | zero => simp [Sch.ok] at hok
 | succ fuel =>
  simp only [Sch.ok, Bool.and_eq_true, beq_iff_eq] at hok
  obtain ⟨⟨⟨⟨⟨⟨hr, l0⟩, l1⟩, l2⟩, g0⟩, g1⟩, g2⟩ := hok
  refine ⟨fun h0 => (by rw [hr] at h0; cases h0), fun j' hj' => ?_⟩
  rw [hr] at hj'
  rcases List.mem_cons.1 hj' with rfl | hj'
  ·
   have e1 : (b && !Lt.contains j') = b := by rw [l0]; simp
   rw [e1]
   exact h0 fuel _ g0 hsel hlt a w F Gs Gt Q hs hdj h1_ h2_ hQ
  rcases List.mem_cons.1 hj' with rfl | hj'
  ·
   have e1 : (b && !Lt.contains j') = b := by rw [l1]; simp
   rw [e1]
   exact h1 fuel _ g1 hsel hlt a w F Gs Gt Q hs hdj h1_ h2_ hQ
  obtain rfl := List.mem_singleton.1 hj'
  have e1 : (b && !Lt.contains j') = b := by rw [l2]; simp
  rw [e1]
  exact h2 fuel _ g2 hsel hlt a w F Gs Gt Q hs hdj h1_ h2_ hQ

theorem OpsD.four {b : Bool} {j p q : Nat} {k' k'' k''' : Sch} (h0 : StepD P n X l L Lt i k b e os ot K) (h1 : StepD P n X l L Lt j k' b e os ot K) (h2 : StepD P n X l L Lt p k'' b e os ot K) (h3 : StepD P n X l L Lt q k''' b e os ot K) : OpsD P n X l L Lt (.four i j p q k k' k'' k''') b e os ot K := by
 intro fuel listed hok hsel hlt a w F Gs Gt Q hs hdj h1_ h2_ hQ
 cases fuel with
 | zero => simp [Sch.ok] at hok
 | succ fuel =>
  simp only [Sch.ok, Bool.and_eq_true, beq_iff_eq] at hok
  obtain ⟨⟨⟨⟨⟨⟨⟨⟨hr, l0⟩, l1⟩, l2⟩, l3⟩, g0⟩, g1⟩, g2⟩, g3⟩ := hok
  refine ⟨fun h0 => (by rw [hr] at h0; cases h0), fun j' hj' => ?_⟩
  rw [hr] at hj'
  rcases List.mem_cons.1 hj' with rfl | hj'
  ·
   have e1 : (b && !Lt.contains j') = b := by rw [l0]; simp
   rw [e1]
   exact h0 fuel _ g0 hsel hlt a w F Gs Gt Q hs hdj h1_ h2_ hQ
  rcases List.mem_cons.1 hj' with rfl | hj'
  ·
   have e1 : (b && !Lt.contains j') = b := by rw [l1]; simp
   rw [e1]
   exact h1 fuel _ g1 hsel hlt a w F Gs Gt Q hs hdj h1_ h2_ hQ
  rcases List.mem_cons.1 hj' with rfl | hj'
  ·
   have e1 : (b && !Lt.contains j') = b := by rw [l2]; simp
   rw [e1]
   exact h2 fuel _ g2 hsel hlt a w F Gs Gt Q hs hdj h1_ h2_ hQ
  obtain rfl := List.mem_singleton.1 hj'
  have e1 : (b && !Lt.contains j') = b := by rw [l3]; simp
  rw [e1]
  exact h3 fuel _ g3 hsel hlt a w F Gs Gt Q hs hdj h1_ h2_ hQ

def picksA (ns : List Nat) : List Obj → List Obj → Option (List Obj × List Obj)
 | os, ot => appO os ot fun l => picks ns l
where
 appO : List Obj → List Obj → (List Obj → Option (List Obj × List Obj)) → Option (List Obj × List Obj)
  | [], r, k => k r
  | q :: qs, r, k => appO qs r fun l => k (q :: l)

theorem appO_eq : ∀ (qs r : List Obj) (k : List Obj → Option (List Obj × List Obj)), picksA.appO qs r k = k (qs ++ r)
 | [], _, _ => rfl
 | _ :: qs, r, k => appO_eq qs r _
theorem picksA_eq {ns : List Nat} {os ot : List Obj} {x : List Obj × List Obj} (h : picksA ns os ot = some x) : picks ns (os ++ ot) = some x := by
 rw [← h]; exact (appO_eq os ot _).symm

theorem OpsD.late {b : Bool} {ps r : List Obj} {ns : List Nat} {T : Env → List Obj → Prop} (ho : nth l i = some o) (hg : o.guard = none) (hp : picksA ns os ot = some (ps, r)) (h : HOp P n o e ps T)
  (hk : ∀ e' qs, T e' qs → appK qs r fun l' => OpsD P n X l L Lt k false e' [] l' K) : OpsD P n X l L Lt (.late i k) b e os ot K := by
 intro fuel listed hok hsel hlt a w F Gs Gt Q hs hdj h1 h2 hQ
 cases fuel with
 | zero => simp [Sch.ok] at hok
 | succ fuel =>
  simp only [Sch.ok, Bool.and_eq_true, beq_iff_eq] at hok
  obtain ⟨⟨hr, hil⟩, hk'⟩ := hok
  rw [nth_eq] at ho
  refine ⟨fun h0 => (by rw [hr] at h0; cases h0), fun j hj => ?_⟩
  rw [hr] at hj
  obtain rfl := List.mem_singleton.1 hj
  have e1 : (b && !Lt.contains j) = false := by rw [hil]; simp
  rw [e1]
  have hs0 : SimAt n X ⟨e, [] ++ (os ++ ot)⟩ a w F (fun c => False ∨ (Gs c ∨ Gt c)) := by simpa using hs
  refine wpOp_mono (fun a' w' h' => ⟨(fun hb => by cases hb), wpAnyL_open fuel _ a' w' h'.2⟩) (heavy_step (b := false) (os := []) (Gs := fun _ => False) ho (wanted_none hg) (picksA_eq hp) h hk hk' hsel hlt hs0 (fun c h _ => h) (fun _ h => h) hs.own hQ)

theorem OpsD.rest {b : Bool} {ps r : List Obj} {ns : List Nat} (hp : picks ns ot = some (ps, r)) (h : appK ps os fun l' => OpsD P n X l L Lt k b e l' r K) : OpsD P n X l L Lt k b e os ot K := by
 intro fuel listed hok hsel hlt a w F Gs Gt Q hs hdj h1 h2 hQ
 obtain ⟨G1, G2, hi, hd, h3, h4⟩ := Own.append.1 (h2.perm (picks_perm hp))
 have ha : Own w F (ps ++ os) (fun c => G1 c ∨ Gs c) := Own.append.2 ⟨G1, Gs, fun _ => Iff.rfl, fun c hc hx => hdj c hx ((hi c).2 (.inl hc)), h3, h1⟩
 have hb : ∀ c, G1 c ∨ Gs c → ¬ G2 c := fun c hc hx => hc.elim (fun h => hd c h hx) fun h => hdj c h ((hi c).2 (.inr hx))
 refine wpAnyL_strong (fun w2 h2 c hc => h2 c (hc.imp id .inr)) fuel b listed a w (appK_iff.1 h fuel listed hok hsel hlt a w F (fun c => G1 c ∨ Gs c) G2 Q ⟨hs.env, Own.append.2 ⟨_, G2, fun _ => Iff.rfl, hb, ha, h4⟩, hs.fin, fun c hc => hs.gin c ?_, hs.sub, hs.chg, hs.size, hs.defs⟩ hb ha h4 hQ)
 rcases hc with (h | h) | h
 ·
  exact .inr ((hi c).2 (.inl h))
 ·
  exact .inl h
 ·
  exact .inr ((hi c).2 (.inr h))

theorem OpsD.learn {b : Bool} {R : Prop} (h : ∀ a w, Sim n X ⟨e, os ++ ot⟩ a w → R) (m : R → OpsD P n X l L Lt k b e os ot K) : OpsD P n X l L Lt k b e os ot K :=
 fun fuel listed hok hsel hlt a w F Gs Gt Q hs => m (h a w ⟨F, _, hs⟩) fuel listed hok hsel hlt a w F Gs Gt Q hs

theorem AW.regionD {id : Nat} {e : Env} {os0 : List Obj} {K : Exit → St → Prop} {os ot : List Obj} {ns : List Nat} {L Lt : List Nat} {k : Sch} (hm : P.follows .mixedOrders = true) (hsel : Region.noSelect l.toArray = true) (hlt : lateOk l.toArray L Lt = true)
  (hok : k.ok l.toArray L Lt l.toArray.size true (Array.replicate l.toArray.size false) = true) (hp : picks ns os0 = some (os, ot)) (h : OpsD P n X l L Lt k true e os ot (K .normal)) : AW P n X (.region id l.toArray true) ⟨e, os0⟩ K := by
 rintro a w ⟨F, G, hs⟩
 obtain ⟨Gs, Gt, hi, hd, h1, h2⟩ := Own.append.1 (hs.own.perm (picks_perm hp))
 have hs' : SimAt n X ⟨e, os ++ ot⟩ a { w with drawn := w.drawn + 1 } F (fun c => Gs c ∨ Gt c) :=
  ⟨fun i c hc => C.mono _ (hs.env i c hc) fun _ h => ⟨h, rfl⟩, (Own.append.2 ⟨Gs, Gt, fun _ => Iff.rfl, hd, h1, h2⟩ : Own w F (os ++ ot) _).mono (fun _ h => ⟨h, rfl⟩) fun _ _ => rfl, hs.fin, fun c hc => hs.gin c ((hi c).2 hc), hs.sub, ⟨hs.chg.os, hs.chg.tape, hs.chg.output, hs.chg.size, Nat.le_succ_of_le hs.chg.drawn, hs.chg.block⟩, hs.size, hs.defs⟩
 have := h l.toArray.size _ hok hsel hlt a _ F Gs Gt (fun a' w' => ∃ s', Sim n X s' a' w' ∧ K .normal s') hs' hd (h1.mono (fun _ h => ⟨h, rfl⟩) fun _ _ => rfl) (h2.mono (fun _ h => ⟨h, rfl⟩) fun _ _ => rfl) (fun a' w' s' h1 h2 => ⟨s', h1, h2⟩)
 refine Code.wp_mono (fun ex a' w' h' => ?_) (wp_region_any (Q := onlyN fun a' w' => ∃ s', Sim n X s' a' w' ∧ K .normal s') hm (wpAny_of_L _ _ _ _ _ this))
 cases ex with
 | normal => exact h'
 | _ => exact h'.elim
end
end Go.Abs
