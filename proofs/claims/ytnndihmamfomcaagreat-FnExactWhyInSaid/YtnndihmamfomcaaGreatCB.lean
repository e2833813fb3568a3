/- Rules of single operations that make no memory: copies, arithmetic, addresses, loads out of frozen memory. -/
import Derived.Test.YtnndihmamfomcaaGreatCA
set_option autoImplicit false
set_option linter.unusedVariables false
set_option linter.unusedSimpArgs false
namespace Go.Abs
open Go

theorem blt_lt {a b : Nat} (h : Nat.blt a b = true) : a < b := Nat.le_of_ble_eq_true h

def ev (e : Env) : Operand → Option C
 | .tmp t => get e t
 | .const v => some (.val v)
 | .func f => some (.val (.func (.func f) #[] #[]))
 | .global g => some (.val (.pointer (some ⟨g, 0, none⟩)))

def EnvRep (w : World) (F : BSet) (e : Env) (a : Act) : Prop := ∀ i c, get e i = some c → c.rep w F (a.tmps.getD i undef)

section
variable {P : Program} {n : Nat} {X : Ctx} {s : St} {a : Act} {w : World} {F G : BSet} {es : Env} {ps : List Obj}

theorem EnvRep.ev (h : EnvRep w F es a) {x : Operand} {c : C} (hx : ev es x = some c) : c.rep w F (a.eval x) := by
 cases x with
 | tmp t => exact h t c hx
 | const v => cases hx; rfl
 | func f => cases hx; rfl
 | global g => cases hx; rfl

theorem EnvRep.val (h : EnvRep w F es a) {x : Operand} {v : Value} (hx : Abs.ev es x = some (.val v)) : a.eval x = v := h.ev hx

theorem EnvRep.put (h : EnvRep w F es a) {d : Nat} {c : C} {v : Value} (hd : d < a.tmps.size) (hc : c.rep w F v) : EnvRep w F ((d, c) :: es) (a.put (some d) v) := fun i c' hi => by
 by_cases e : d = i
 ·
  subst e
  rw [get_cons_same] at hi
  cases hi
  rw [getD_put _ _ _ hd]
  exact hc
 ·
  rw [get_cons_ne _ _ e] at hi
  rw [getD_put_ne _ _ e]
  exact h i c' hi

theorem EnvRep.mono {w' : World} {F' : BSet} (h : EnvRep w F es a) (k : ∀ b, F b → F' b ∧ w'.heap[b]? = w.heap[b]?) : EnvRep w' F' es a := fun i c hi => C.mono _ (h i c hi) k

structure VOp (m : Bool) (P : Program) (n : Nat) (es : Env) (ps : List Obj) (o : Oper) (d : Nat) (c : C) : Prop where
 dst : o.dst = some d
 lt : Nat.blt d n = true
 run : ∀ (a : Act) (w : World) (F Gp : BSet), EnvRep w F es a → Own w F ps Gp → ∃ v, (∀ w2 : World, (m = true → ∀ b, F b ∨ Gp b → w2.heap[b]? = w.heap[b]?) → (execOp a.eval o).run P w2 = .ok (.value v) w2) ∧ c.rep w F v

structure Fit (w : World) (F G : BSet) : Prop where
 fin : ∀ b, F b → b < w.heap.size
 gin : ∀ b, G b → b < w.heap.size ∧ ¬ F b

theorem SimAt.fit (h : SimAt n X s a w F G) {G1 : BSet} (hsub : ∀ b, G1 b → G b) : Fit w F G1 := ⟨fun b hb => (h.fin b hb).1, fun b hb => ⟨(h.gin b (hsub b hb)).1, (h.gin b (hsub b hb)).2.1⟩⟩

def HOp (P : Program) (n : Nat) (o : Oper) (e : Env) (ps : List Obj) (T : Env → List Obj → Prop) : Prop :=
 ∀ (a : Act) (w : World) (F G1 : BSet), EnvRep w F e a → Own w F ps G1 → Fit w F G1 → a.tmps.size = n →
  ∀ (Kc : Act → World → Prop) (Q : Exit → Act → World → Prop), (∀ v w' e' qs F' G1', Turn w F G1 w' F' G1' qs → T e' qs → EnvRep w' F' e' (a.put o.dst v) → Kc (a.put o.dst v) w') → o.wp P a w Kc Q

def Ops (P : Program) (n : Nat) (X : Ctx) (ops : Array Oper) (l : List Oper) (e : Env) (os : List Obj) (K : St → Prop) : Prop :=
 ∀ a w (Q : Exit → Act → World → Prop), Sim n X ⟨e, os⟩ a w → (∀ a' w' s', Sim n X s' a' w' → K s' → Q .normal a' w') → wpList P ops Q l a w

variable {e : Env} {os : List Obj}

theorem Ops.nil {ops : Array Oper} {K : St → Prop} (h : K ⟨e, os⟩) : Ops P n X ops [] e os K := fun a w _ hs hQ => wpList_nil (hQ a w _ hs h)

theorem VOp.wp {m : Bool} {o : Oper} {d : Nat} {c : C} (h : VOp m P n s.e s.o o d c) (hs : SimAt n X s a w F G) {Kc : Act → World → Prop} {Q : Exit → Act → World → Prop} (hK : ∀ a' w', Sim n X ⟨(d, c) :: s.e, s.o⟩ a' w' → Kc a' w') : o.wp P a w Kc Q := by
 obtain ⟨v, hr, hc⟩ := h.run a w F G hs.env hs.own
 unfold Oper.wp
 rw [hr w fun _ _ _ => rfl]
 show Kc (a.put o.dst v) w
 rw [h.dst]
 exact hK _ _ ⟨F, G, hs.put (blt_lt h.lt) hc⟩

theorem Ops.v {m : Bool} {ops : Array Oper} {o : Oper} {rest : List Oper} {K : St → Prop} {d : Nat} {c : C} (hg : o.guard = none) (h : VOp m P n e os o d c) (k : Ops P n X ops rest ((d, c) :: e) os K) : Ops P n X ops (o :: rest) e os K :=
 fun _ _ Q ⟨_, _, hs⟩ hQ => wpList_plain hg fun _ hK => h.wp hs fun a' w' hs' => hK a' w' (k a' w' Q hs' hQ)

theorem SimAt.moved {e' : Env} {ps qs r : List Obj} {G1 G2 F' G1' : BSet} {a' : Act} {w' : World} (h : SimAt n X s a w F G) (hi : ∀ b, G b ↔ G1 b ∨ G2 b) (hd : ∀ b, G1 b → ¬ G2 b) (h2 : Own w F r G2) (ht : Turn w F G1 w' F' G1' qs) (he : EnvRep w' F' e' a') (hsz : a'.tmps.size = n) (hdf : a'.defers = []) :
  SimAt n X ⟨e', qs ++ r⟩ a' w' F' (fun b => G1' b ∨ G2 b) :=
 have := h.turn hi hd h2 ht
 ⟨he, this.own, this.fin, this.gin, this.sub, this.chg, hsz, hdf⟩

theorem put_size (a : Act) (d : Option Nat) (v : Value) : (a.put d v).tmps.size = a.tmps.size := by cases d <;> simp [Act.put]
theorem put_defers (a : Act) (d : Option Nat) (v : Value) : (a.put d v).defers = a.defers := by cases d <;> rfl

theorem HOp.wp {o : Oper} {ps r : List Obj} {ns : List Nat} {T : Env → List Obj → Prop} (hp : picks ns s.o = some (ps, r)) (h : HOp P n o s.e ps T) (hs : SimAt n X s a w F G) {Kc : Act → World → Prop} {Q : Exit → Act → World → Prop} (hK : ∀ a' w' e' qs, Sim n X ⟨e', qs ++ r⟩ a' w' → T e' qs → Kc a' w') : o.wp P a w Kc Q := by
 obtain ⟨G1, G2, hi, hd, h1, h2⟩ := Own.append.1 (hs.own.perm (picks_perm hp))
 refine h a w F G1 hs.env h1 (hs.fit fun b hb => (hi b).2 (.inl hb)) hs.size Kc Q fun v w' e' qs F' G1' ht hT he => ?_
 exact hK _ _ e' qs ⟨F', _, hs.moved (ps := ps) hi hd h2 ht he (by rw [put_size]; exact hs.size) (by rw [put_defers]; exact hs.defs)⟩ hT

theorem Ops.h {ops : Array Oper} {o : Oper} {rest : List Oper} {K : St → Prop} {ps r : List Obj} {ns : List Nat} {T : Env → List Obj → Prop} (hg : o.guard = none) (hp : picks ns os = some (ps, r)) (h : HOp P n o e ps T) (k : ∀ e' qs, T e' qs → appK qs r fun l => Ops P n X ops rest e' l K) : Ops P n X ops (o :: rest) e os K :=
 fun _ _ Q ⟨_, _, hs⟩ hQ => wpList_plain hg fun _ hK => h.wp hp hs fun a' w' e' qs hs' hT => hK a' w' (appK_iff.1 (k e' qs hT) a' w' Q hs' hQ)

theorem Ops.hd {ops : Array Oper} {o : Oper} {rest : List Oper} {K : St → Prop} {ps qs r : List Obj} {e1 : Env} {ns : List Nat} (hg : o.guard = none) (hp : picks ns os = some (ps, r)) (h : HOp P n o e ps fun e' qs' => e' = e1 ∧ qs' = qs) (k : appK qs r fun l => Ops P n X ops rest e1 l K) : Ops P n X ops (o :: rest) e os K :=
 Ops.h hg hp h fun _ _ ⟨h1, h2⟩ => by rw [h1, h2]; exact k

theorem Sim.yielded {ops : Array Oper} {j t : Nat} {b : Bool} (hs : Sim n X s a w) (hj : (ops[j]?).bind (·.dst) = some t) (ht : get s.e t = some (.bool b)) (htn : Nat.blt t n = true) : yielded ops a.tmps j = some b := by
 obtain ⟨F, G, hs⟩ := hs
 have he : a.tmps.getD t undef = .bool b := hs.env t _ ht
 have hlt : t < a.tmps.size := by rw [hs.size]; exact blt_lt htn
 have he' : a.tmps[t]? = some (.bool b) := by
  rw [Array.getD_eq_getD_getElem?, Array.getElem?_eq_getElem hlt] at he
  rw [Array.getElem?_eq_getElem hlt]
  exact congrArg some he
 unfold Go.yielded
 rw [hj, Option.bind_some, he']

theorem wanted_some {ops : Array Oper} {o : Oper} {j : Nat} {want b : Bool} (hg : o.guard = some (j, want)) (hy : yielded ops a.tmps j = some b) : Region.wanted o (yielded ops a.tmps) = (b == want) := by
 unfold Region.wanted
 rw [hg]
 simp only [hy]
 cases b <;> cases want <;> rfl

inductive NotWanted (e : Env) (t : Nat) (want : Bool) : Prop
 | b {b : Bool} (h : get e t = some (.bool b)) (hb : b = !want) : NotWanted e t want
 | u (h : get e t = some (.val undef)) : NotWanted e t want

theorem not_wanted {ops : Array Oper} {o : Oper} {j t : Nat} {want : Bool} (hs : Sim n X s a w) (hg : o.guard = some (j, want)) (hj : (ops[j]?).bind (·.dst) = some t) (htn : Nat.blt t n = true) (h : NotWanted s.e t want) : Region.wanted o (Go.yielded ops a.tmps) = false := by
 rcases h with ⟨ht, hb⟩ | ht
 ·
  rw [wanted_some hg (hs.yielded hj ht htn), hb]; simp
 ·
  obtain ⟨F, G, hs⟩ := hs
  have he : a.tmps.getD t undef = undef := hs.env t _ ht
  have hlt : t < a.tmps.size := by rw [hs.size]; exact blt_lt htn
  have he' : a.tmps[t]? = some undef := by
   rw [Array.getD_eq_getD_getElem?, Array.getElem?_eq_getElem hlt] at he
   rw [Array.getElem?_eq_getElem hlt]
   exact congrArg some he
  unfold Region.wanted
  rw [hg]
  simp only [Go.yielded, hj, Option.bind_some, he', undef]
  rfl

theorem Ops.gv {m : Bool} {ops : Array Oper} {o : Oper} {rest : List Oper} {K : St → Prop} {j t d : Nat} {want b : Bool} {c : C} (hg : o.guard = some (j, want)) (hj : (ops[j]?).bind (·.dst) = some t) (ht : get e t = some (.bool b)) (htn : Nat.blt t n = true) (hb : b = want)
  (h : VOp m P n e os o d c) (k : Ops P n X ops rest ((d, c) :: e) os K) : Ops P n X ops (o :: rest) e os K := fun a w Q hs hQ =>
 wpList_step fun Kc hK => by
  rw [if_pos (by rw [wanted_some hg (hs.yielded hj ht htn), hb]; simp)]
  obtain ⟨F, G, hs⟩ := hs
  exact h.wp hs fun a' w' hs' => hK a' w' (k a' w' Q hs' hQ)
theorem Ops.gh {ops : Array Oper} {o : Oper} {rest : List Oper} {K : St → Prop} {j t : Nat} {want b : Bool} {ps r : List Obj} {ns : List Nat} {T : Env → List Obj → Prop} (hg : o.guard = some (j, want)) (hj : (ops[j]?).bind (·.dst) = some t) (ht : get e t = some (.bool b)) (htn : Nat.blt t n = true) (hb : b = want)
  (hp : picks ns os = some (ps, r)) (h : HOp P n o e ps T) (k : ∀ e' qs, T e' qs → appK qs r fun l => Ops P n X ops rest e' l K) : Ops P n X ops (o :: rest) e os K := fun a w Q hs hQ =>
 wpList_step fun Kc hK => by
  rw [if_pos (by rw [wanted_some hg (hs.yielded hj ht htn), hb]; simp)]
  obtain ⟨F, G, hs⟩ := hs
  exact h.wp hp hs fun a' w' e' qs hs' hT => hK a' w' (appK_iff.1 (k e' qs hT) a' w' Q hs' hQ)
theorem Ops.ghd {ops : Array Oper} {o : Oper} {rest : List Oper} {K : St → Prop} {j t : Nat} {want b : Bool} {ps qs r : List Obj} {e1 : Env} {ns : List Nat} (hg : o.guard = some (j, want)) (hj : (ops[j]?).bind (·.dst) = some t) (ht : get e t = some (.bool b)) (htn : Nat.blt t n = true) (hb : b = want)
  (hp : picks ns os = some (ps, r)) (h : HOp P n o e ps fun e' qs' => e' = e1 ∧ qs' = qs) (k : appK qs r fun l => Ops P n X ops rest e1 l K) : Ops P n X ops (o :: rest) e os K :=
 Ops.gh hg hj ht htn hb hp h fun _ _ ⟨h1, h2⟩ => by rw [h1, h2]; exact k
theorem Ops.gs {ops : Array Oper} {o : Oper} {rest : List Oper} {K : St → Prop} {j t d : Nat} {want : Bool} (hg : o.guard = some (j, want)) (hj : (ops[j]?).bind (·.dst) = some t) (htn : Nat.blt t n = true) (hw : NotWanted e t want)
  (hd : o.dst = some d) (hdn : Nat.blt d n = true) (k : Ops P n X ops rest ((d, .val undef) :: e) os K) : Ops P n X ops (o :: rest) e os K := fun a w Q hs hQ =>
 wpList_step fun Kc hK => by
  rw [if_neg (by rw [not_wanted hs hg hj htn hw]; simp), hd]
  obtain ⟨F, G, hs⟩ := hs
  exact hK _ _ (k _ w Q ⟨F, G, hs.put (c := .val undef) (v := undef) (blt_lt hdn) rfl⟩ hQ)
theorem AW.region {id : Nat} {l : List Oper} {K : Exit → St → Prop} (h : Ops P n X l.toArray l e os (K .normal)) : AW P n X (.region id l.toArray false) ⟨e, os⟩ K :=
 fun a w hs => wp_region_lit (h a w _ hs fun _ _ s' h1 h2 => ⟨s', h1, h2⟩)

theorem Turn.same {w' : World} {F' G1 G1' : BSet} {qs : List Obj} (ht : Turn w F G1 w' F' G1' qs) (hf : Fit w F G1) : ∀ b, F b → F' b ∧ w'.heap[b]? = w.heap[b]? := fun b hb =>
 ⟨ht.sub b hb, ht.chg.block b (hf.fin b hb) fun hg => (hf.gin b hg).2 hb⟩

theorem HOp.of {o : Oper} {d : Nat} {T : Env → List Obj → Prop} (hd : o.dst = some d) (hn : Nat.blt d n = true)
  (H : ∀ a w F G1, EnvRep w F es a → Own w F ps G1 → Fit w F G1 → ∃ v w' F' G1' c qs, (execOp a.eval o).run P w = .ok (.value v) w' ∧ c.rep w' F' v ∧ Turn w F G1 w' F' G1' qs ∧ T ((d, c) :: es) qs) : HOp P n o es ps T := by
 intro a w F G1 hs ho hf hsz Kc Q hK
 obtain ⟨v, w', F', G1', c, qs, hr, hc, ht, hT⟩ := H a w F G1 hs ho hf
 unfold Oper.wp
 rw [hr]
 show Kc (a.put o.dst v) w'
 refine hK v w' _ qs F' G1' ht hT ?_
 rw [hd]
 exact EnvRep.put (hs.mono (ht.same hf)) (hsz ▸ blt_lt hn) hc
theorem HOp.of0 {o : Oper} {T : Env → List Obj → Prop} (hd : o.dst = none)
  (H : ∀ a w F G1, EnvRep w F es a → Own w F ps G1 → Fit w F G1 → ∃ w' F' G1' qs, (execOp a.eval o).run P w = .ok .skip w' ∧ Turn w F G1 w' F' G1' qs ∧ T es qs) : HOp P n o es ps T := by
 intro a w F G1 hs ho hf hsz Kc Q hK
 obtain ⟨w', F', G1', qs, hr, ht, hT⟩ := H a w F G1 hs ho hf
 unfold Oper.wp
 rw [hr]
 show Kc (a.put o.dst undef) w'
 refine hK undef w' _ qs F' G1' ht hT ?_
 rw [hd]
 exact hs.mono (ht.same hf)

variable {d ty : Nat} {pos : String} {af : Array Edge} {gd : Option (Nat × Bool)}

theorem op_move {x : Operand} {c : C} (hx : ev es x = some c) (hn : Nat.blt d n = true) : VOp false P n es ps ⟨some d, .move x, ty, pos, af, gd⟩ d (c) :=
 VOp.mk rfl hn fun a w F Gp hs ho => ⟨a.eval x, fun w2 _ => rfl, hs.ev hx⟩
theorem op_assign {x : Operand} {c : C} (hx : ev es x = some c) (hn : Nat.blt d n = true) : VOp false P n es ps ⟨some d, .assign x, ty, pos, af, gd⟩ d (c) :=
 VOp.mk rfl hn fun a w F Gp hs ho => ⟨a.eval x, fun w2 _ => rfl, hs.ev hx⟩
theorem op_pick_t {x y z : Operand} {c : C} {b : Bool} (hx : ev es x = some (.bool b)) (hb : b = true) (hy : ev es y = some c) (hn : Nat.blt d n = true) : VOp false P n es ps ⟨some d, .pick x y z, ty, pos, af, gd⟩ d (c) :=
 VOp.mk rfl hn fun a w F Gp hs ho => ⟨a.eval y, fun w2 _ => by have h := hs.val hx; subst hb; simp [execOp, h, asBool, Sem.run], hs.ev hy⟩
theorem op_pick_f {x y z : Operand} {c : C} {b : Bool} (hx : ev es x = some (.bool b)) (hb : b = false) (hz : ev es z = some c) (hn : Nat.blt d n = true) : VOp false P n es ps ⟨some d, .pick x y z, ty, pos, af, gd⟩ d (c) :=
 VOp.mk rfl hn fun a w F Gp hs ho => ⟨a.eval z, fun w2 _ => by have h := hs.val hx; subst hb; simp [execOp, h, asBool, Sem.run], hs.ev hz⟩
theorem op_not {t : Nat} {x : Operand} {b : Bool} (hx : ev es x = some (.bool b)) (hn : Nat.blt d n = true) : VOp false P n es ps ⟨some d, .unOp .not t x, ty, pos, af, gd⟩ d (.bool !b) :=
 VOp.mk rfl hn fun a w F Gp hs ho => ⟨_, fun w2 _ => by have h := hs.val hx; simp only [execOp, h]; rfl, rfl⟩
def binC (op : BinOp) (x y : Value) : Option Value :=
 match x, y with
 | .int k i, .int k' j =>
  if k = k' then
   match op with
   | .add => some (.int k (k.wrap (i + j)))
   | .sub => some (.int k (k.wrap (i - j)))
   | .mul => some (.int k (k.wrap (i * j)))
   | .eql => some (.bool (i == j))
   | .neq => some (.bool (i != j))
   | .lss => some (.bool (i < j))
   | .leq => some (.bool (i ≤ j))
   | .gtr => some (.bool (i > j))
   | .geq => some (.bool (i ≥ j))
   | _ => none
  else none
 | .string i, .string j =>
  match op with
  | .eql => some (.bool (i.toList == j.toList))
  | .neq => some (.bool !(i.toList == j.toList))
  | _ => none
 | _, _ => none

theorem op_bin {op : BinOp} {t u : Nat} {x y : Operand} {xv yv r : Value} (hx : ev es x = some (.val xv)) (hy : ev es y = some (.val yv)) (hr : binC op xv yv = some r) (hn : Nat.blt d n = true) :
  VOp false P n es ps ⟨some d, .binOp op t x y u, ty, pos, af, gd⟩ d (.val r) :=
 VOp.mk rfl hn fun a w F Gp hs ho => ⟨r, fun w2 _ => (by
  have h1 := hs.val hx
  have h2 := hs.val hy
  unfold binC at hr
  split at hr
  ·
   rename_i k i k' j
   split at hr
   ·
    rename_i hk
    subst hk
    cases op <;> simp at hr <;> subst hr <;> simp [execOp, h1, h2, binOp, Op.intArith, Op.intCmp, eqGuard_at_int, Sem.run]
   ·
    cases hr
  ·
   rename_i i j
   cases op <;> simp at hr <;> subst hr <;> simp [execOp, h1, h2, binOp, Op.stringOp, eqGuard_at_string, Sem.run]
  ·
   cases hr), rfl⟩

def shiftC (op : BinOp) (k : IntKind) (i j : Int) : Option Int :=
 if j < 0 then none else
 match op with
 | .shl => some (k.wrap (i * 2 ^ (min j.toNat k.bits)))
 | .shr => some (i.fdiv (2 ^ (min j.toNat k.bits)))
 | _ => none
theorem op_shift {op : BinOp} {t u : Nat} {x y : Operand} {k k' : IntKind} {i j r : Int} (hx : ev es x = some (.val (.int k i))) (hy : ev es y = some (.val (.int k' j))) (hr : shiftC op k i j = some r) (hn : Nat.blt d n = true) :
  VOp false P n es ps ⟨some d, .binOp op t x y u, ty, pos, af, gd⟩ d (.val (.int k r)) :=
 VOp.mk rfl hn fun a w F Gp hs ho => ⟨_, fun w2 _ => (by
  have h1 := hs.val hx
  have h2 := hs.val hy
  unfold shiftC at hr
  split at hr
  ·
   cases hr
  ·
   rename_i hj
   cases op <;> simp at hr <;> subst hr <;> simp [execOp, h1, h2, binOp, Op.shift, eqGuard_at_int, hj, Sem.run]), rfl⟩
theorem op_bool_eql {t u : Nat} {x y : Operand} {b c : Bool} (ht : P.underlying t = some .bool) (hx : ev es x = some (.bool b)) (hy : ev es y = some (.bool c)) (hn : Nat.blt d n = true) :
  VOp false P n es ps ⟨some d, .binOp .eql t x y u, ty, pos, af, gd⟩ d (.bool (b == c)) :=
 VOp.mk rfl hn fun a w F Gp hs ho => ⟨_, fun w2 _ => by simp [execOp, hs.val hx, hs.val hy, eqGuard_at_bool, run_eql_bool _ _ _ _ ht], rfl⟩
theorem op_bool_neq {t u : Nat} {x y : Operand} {b c : Bool} (ht : P.underlying t = some .bool) (hx : ev es x = some (.bool b)) (hy : ev es y = some (.bool c)) (hn : Nat.blt d n = true) :
  VOp false P n es ps ⟨some d, .binOp .neq t x y u, ty, pos, af, gd⟩ d (.bool !(b == c)) :=
 VOp.mk rfl hn fun a w F Gp hs ho => ⟨_, fun w2 _ => by simp [execOp, hs.val hx, hs.val hy, eqGuard_at_bool, run_neq_bool _ _ _ _ ht], rfl⟩
theorem op_conv {t u : Nat} {x : Operand} {k k' : IntKind} {i : Int} {q : TypeDesc} (hq : P.underlying t = some q) (hu : P.underlying u = some (.int k')) (hx : ev es x = some (.val (.int k i))) (hn : Nat.blt d n = true) :
  VOp false P n es ps ⟨some d, .convert t u x, ty, pos, af, gd⟩ d (.val (.int k' (k'.wrap i))) :=
 VOp.mk rfl hn fun a w F Gp hs ho => ⟨_, fun w2 _ => (by
  simp only [execOp, hs.val hx]
  simp [convert, run_underlying hq, run_underlying hu, Conv.intToInt, Sem.run]), rfl⟩
theorem op_extract {x : Operand} {i : Nat} {cs : List C} {c : C} (hx : ev es x = some (.tup cs)) (hi : cs[i]? = some c) (hn : Nat.blt d n = true) :
  VOp false P n es ps ⟨some d, .extract x i, ty, pos, af, gd⟩ d (c) :=
 VOp.mk rfl hn fun a w F Gp hs ho => by
  obtain ⟨vs, hv, hcs⟩ := hs.ev hx
  obtain ⟨v, h1, h2⟩ := hcs.get hi
  exact ⟨v, fun w2 _ => by simp [execOp, hv, Instr.extract, h1], h2⟩

theorem op_nilCheck {x : Operand} {ad : Addr} (hx : ev es x = some (.val (.pointer (some ad)))) (hn : Nat.blt d n = true) :
  VOp false P n es ps ⟨some d, .nilCheck x, ty, pos, af, gd⟩ d (.val (.pointer (some ad))) :=
 VOp.mk rfl hn fun a w F Gp hs ho => ⟨_, fun w2 _ => by simp [execOp, hs.val hx], rfl⟩
theorem op_nilCheck_ip {x : Operand} {cs : List C} (hx : ev es x = some (.ip cs)) (hn : Nat.blt d n = true) :
  VOp false P n es ps ⟨some d, .nilCheck x, ty, pos, af, gd⟩ d (.ip cs) :=
 VOp.mk rfl hn fun a w F Gp hs ho => by
  obtain ⟨b, off, vs, hv, r⟩ := hs.ev hx
  exact ⟨_, fun w2 _ => by simp only [execOp, hv]; rfl, b, off, vs, rfl, r⟩

end
end Go.Abs
