/- Calls: what a function does, said once (Ok); a body walked; a call; ways that meet again; what is forgotten. -/
import Derived.Test.YtnndihmamfomcaaGreatCC
set_option autoImplicit false
set_option linter.unusedVariables false
set_option linter.unusedSimpArgs false
namespace Go.Abs
open Go

def Enters (P : Program) (f : FuncId) : Prop := ∀ (args : Array Value) (w : World), (callFunc f args).run P w = .ok (.enter f args) w

theorem enters_of {P : Program} {f : FuncId} {fn : Func} {c : Code} (hf : P.funcs[f]? = some fn) (hname : (fn.name == "runtime.NumGoroutine") = false) (hb : fn.body = some c) : Enters P f := by
 intro args w
 have h1 : fn.name ≠ "runtime.NumGoroutine" := by simpa using hname
 simp [callFunc, hf, h1, hb, mark]

def Ok (P : Program) (f : FuncId) (cs : List C) (os : List Obj) (R : C → List Obj → Prop) : Prop :=
 Enters P f ∧ ∀ w F G vals, Reps w F cs vals → Own w F os G → Fit w F G →
  Calls P f vals.toArray w fun e w' => ∃ v c qs F' G', e = .returned v ∧ R c qs ∧ c.rep w' F' v ∧ Turn w F G w' F' G' qs

theorem Ok.mono {P : Program} {f : FuncId} {cs : List C} {os : List Obj} {R R' : C → List Obj → Prop} (h : Ok P f cs os R) (k : ∀ c qs, R c qs → R' c qs) : Ok P f cs os R' :=
 ⟨h.1, fun w F G vals h1 h2 h3 => (h.2 w F G vals h1 h2 h3).mono fun _ _ ⟨v, c, qs, F', G', he, hr, hc, ht⟩ => ⟨v, c, qs, F', G', he, k _ _ hr, hc, ht⟩⟩

def argEnv : Nat → List C → Env
 | _, [] => []
 | i, c :: cs => (i, c) :: argEnv (i + 1) cs

theorem argEnv_get {w : World} {F : BSet} : ∀ {cs : List C} {vals : List Value} {k i : Nat} {c : C}, Reps w F cs vals → get (argEnv k cs) i = some c → ∃ v, k ≤ i ∧ vals[i - k]? = some v ∧ c.rep w F v
 | [], _, _, _, _, _, hi => by cases hi
 | c0 :: cs, _, k, i, c, ⟨v, r, e, h1, h2⟩, hi => by
  subst e
  by_cases hk : k = i
  ·
   subst hk
   rw [argEnv, get_cons_same] at hi
   cases hi
   exact ⟨v, Nat.le_refl _, by simp, h1⟩
  ·
   rw [argEnv, get_cons_ne _ _ hk] at hi
   obtain ⟨u, h3, h4, h5⟩ := argEnv_get h2 hi
   refine ⟨u, by omega, ?_, h5⟩
   rw [show i - k = (i - (k + 1)) + 1 from by omega, List.getElem?_cons_succ]
   exact h4

inductive ResV (P : Program) (s : St) : ResultVar → C → Prop
 | tmp {t : Nat} {c : C} (h : get s.e t = some c) : ResV P s (.tmp t) c
 | cell {t T T' b p m : Nat} {ds : List C} (h : get s.e t = some (.val (.pointer (some ⟨b, 0, none⟩)))) (hp : pick p s.o = some (.box b T' ds)) (hl : ldInfo P T = some (true, m)) (hm : Nat.beq ds.length m = true) : ResV P s (.cell t T) (.agg ds)
 | cell1 {t T T' b p m : Nat} {c : C} {ds : List C} (h : get s.e t = some (.val (.pointer (some ⟨b, 0, none⟩)))) (hp : pick p s.o = some (.box b T' (c :: ds))) (hl : ldInfo P T = some (false, m)) : ResV P s (.cell t T) c

inductive ResVs (P : Program) (s : St) : List ResultVar → List C → Prop
 | nil : ResVs P s [] []
 | cons {r : ResultVar} {c : C} {rs : List ResultVar} {cs : List C} (h : ResV P s r c) (k : ResVs P s rs cs) : ResVs P s (r :: rs) (c :: cs)

def oneRes : List C → C
 | [c] => c
 | cs => .tup cs

section
variable {P : Program} {n : Nat} {X : Ctx} {s : St} {a : Act} {w : World} {F G : BSet}

def resRun (tmps : Array Value) : ResultVar → Sem Value
 | .tmp t => pure (tmps.getD t undef)
 | .cell a t => do loadVar t (← asAddr (tmps.getD a undef))

theorem ResV.run (h : SimAt n X s a w F G) {r : ResultVar} {c : C} (hr : ResV P s r c) : ∃ v, (resRun a.tmps r).run P w = .ok v w ∧ c.rep w F v := by
 cases hr with
 | tmp ht => exact ⟨_, rfl, h.env _ _ ht⟩
 | cell ht hp hl hm =>
  obtain ⟨G1, ⟨_, vs, hb, hcs⟩, _⟩ := h.own.pick hp
  have hv : a.tmps.getD _ undef = _ := h.env _ _ ht
  refine ⟨_, ?_, vs, rfl, hcs⟩
  simp only [resRun, hv]
  simp [asAddr, run_loadVarA hl (by rw [hcs.length]; exact Nat.eq_of_beq_eq_true hm) (cellsAt_of_block hb)]
 | cell1 ht hp hl =>
  obtain ⟨G1, ⟨_, vs, hb, v, r, hvs, hc, _, _⟩, _⟩ := h.own.pick hp
  have hv : a.tmps.getD _ undef = _ := h.env _ _ ht
  refine ⟨v, ?_, hc⟩
  subst hvs
  simp only [resRun, hv]
  have h0 : w.cell? ⟨_, 0, none⟩ = some v := cellsAt_of_block hb 0 v rfl
  simp [asAddr, run_loadVar1 hl h0]

theorem ResVs.run (h : SimAt n X s a w F G) {rs : List ResultVar} {cs : List C} (hr : ResVs P s rs cs) : ∃ vs, (rs.mapM (resRun a.tmps)).run P w = .ok vs w ∧ Reps w F cs vs := by
 induction hr with
 | nil => exact ⟨[], rfl, rfl⟩
 | cons h1 _ ih =>
  obtain ⟨v, hv, hc⟩ := h1.run h
  obtain ⟨vs, hvs, hcs⟩ := ih
  exact ⟨v :: vs, by simp [hv, hvs], v, vs, rfl, hc, hcs⟩

theorem run_results {fn : Func} {rs : List ResultVar} {cs : List C} (hfn : fn.results = rs.toArray) (h : SimAt n X s a w F G) (hr : ResVs P s rs cs) :
  ∃ v, (results fn a.tmps).run P w = .ok v w ∧ (oneRes cs).rep w F v := by
 obtain ⟨vs, hvs, hcs⟩ := hr.run h
 have e : results fn a.tmps = (fn.results.mapM (resRun a.tmps)) >>= fun vs => pure (if h : vs.size = 1 then vs[0] else .tuple vs) := rfl
 have hrun : (results fn a.tmps).run P w = .ok (if h : vs.toArray.size = 1 then vs.toArray[0] else .tuple vs.toArray) w := by
  rw [e, hfn, List.mapM_toArray]
  simp only [Sem.run_bind, Sem.run_map, hvs, Result.andThen_ok, Sem.run_pure]
 refine ⟨_, hrun, ?_⟩
 have hlen := hcs.length
 match cs, vs, hcs, hlen with
 | [c], [v], ⟨v', r, e, h1, h2⟩, _ =>
  cases e
  simpa [oneRes] using h1
 | [], vs, hcs, hlen =>
  have : vs = [] := hcs
  subst this
  exact ⟨[], by simp, rfl⟩
 | c :: d :: cs, vs, hcs, hlen =>
  simp only [List.length_cons] at hlen
  rw [dif_neg (by simp; omega)]
  exact ⟨vs, rfl, hcs⟩

def Ghost (n : Nat) (X : Ctx) (s s' : St) : Prop := ∀ a w, Sim n X s a w → Sim n X s' a w

theorem Ghost.refl (s : St) : Ghost n X s s := fun _ _ h => h
theorem Ghost.trans {s s' s'' : St} (h : Ghost n X s s') (k : Ghost n X s' s'') : Ghost n X s s'' := fun a w hs => k a w (h a w hs)

theorem get_mem : ∀ {e : Env} {i : Nat} {c : C}, get e i = some c → (i, c) ∈ e
 | [], _, _, h => by cases h
 | (j, c') :: e, i, c, h => by
  by_cases hj : j = i
  ·
   subst hj
   rw [get_cons_same] at h
   cases h
   exact List.mem_cons_self
  ·
   rw [get_cons_ne _ _ hj] at h
   exact List.mem_cons_of_mem _ (get_mem h)

theorem Ghost.env {e e' : Env} {o : List Obj} (h : e'.map (fun p => get e p.1) = e'.map (fun p => some p.2)) : Ghost n X ⟨e, o⟩ ⟨e', o⟩ := fun _ _ hs =>
 hs.forget (fun i c hi => by
  have hm := get_mem hi
  obtain ⟨j, hj⟩ := List.mem_iff_getElem?.1 hm
  have := congrArg (fun l => l[j]?) h
  simp only [List.getElem?_map, hj, Option.map_some, Option.some.injEq] at this
  exact this) rfl

theorem Ghost.objs {e : Env} {o qs r : List Obj} {ns : List Nat} (h : picks ns o = some (qs, r)) : Ghost n X ⟨e, o⟩ ⟨e, qs⟩ := by
 rintro a w ⟨F, G, hs⟩
 obtain ⟨G1, G2, hi, hd, h1, h2⟩ := Own.append.1 (hs.own.perm (picks_perm h))
 exact ⟨F, G1, ⟨hs.env, h1, hs.fin, fun b hb => hs.gin b ((hi b).2 (.inl hb)), hs.sub, hs.chg, hs.size, hs.defs⟩⟩

theorem Ghost.both {e e' : Env} {o qs r : List Obj} {ns : List Nat} (h : picks ns o = some (qs, r)) (he : e'.map (fun p => get e p.1) = e'.map (fun p => some p.2)) : Ghost n X ⟨e, o⟩ ⟨e', qs⟩ :=
 (Ghost.objs h).trans (Ghost.env he)

theorem AW.ghost {c : Code} {s' : St} {K : Exit → St → Prop} (g : Ghost n X s s') (h : AW P n X c s' K) : AW P n X c s K := fun a w hs => h a w (g a w hs)

theorem AW.cut {c : Code} {K : Exit → St → Prop} {τ : Type} (S : τ → St) (I : τ → Prop) (h : AW P n X c s (roundK (fun s' => ∃ x, I x ∧ Ghost n X s' (S x)) K)) (k : ∀ x, I x → K .normal (S x)) : AW P n X c s K :=
 fun a w hs => Code.wp_mono (fun e a' w' ⟨s', h1, h2⟩ => by
  cases e with
  | normal =>
   obtain ⟨x, hx, g⟩ := h2
   exact ⟨S x, g a' w' h1, k x hx⟩
  | _ => exact ⟨s', h1, h2⟩) (h a w hs)

def Fin (P : Program) (n : Nat) (X : Ctx) (rs : List ResultVar) (R : C → List Obj → Prop) (s : St) : Prop :=
 ∃ cs s', Ghost n X s s' ∧ ResVs P s' rs cs ∧ ∃ ns qs r, picks ns s'.o = some (qs, r) ∧ R (oneRes cs) qs

def finK (P : Program) (n : Nat) (X : Ctx) (rs : List ResultVar) (R : C → List Obj → Prop) : Exit → St → Prop
 | .normal, s => Fin P n X rs R s
 | .ret, s => Fin P n X rs R s
 | _, _ => False

theorem Ok.of_body {f : FuncId} {fn : Func} {c : Code} {rs : List ResultVar} {cs : List C} {os : List Obj} {R : C → List Obj → Prop} (hf : P.funcs[f]? = some fn) (hname : (fn.name == "runtime.NumGoroutine") = false) (hb : fn.body = some c)
  (hres : fn.results = rs.toArray) (hn : fn.ntmps = n) (hle : Nat.ble cs.length n = true) (H : ∀ X, AW P n X c ⟨argEnv 0 cs, os⟩ (finK P n X rs R)) : Ok P f cs os R := by
 subst hn
 refine ⟨enters_of hf hname hb, fun w F G vals hv ho hf0 => ?_⟩
 have hlen := hv.length
 have h0 : Sim fn.ntmps ⟨w, F, G⟩ ⟨argEnv 0 cs, os⟩ { tmps := vals.toArray ++ Array.replicate (fn.ntmps - vals.toArray.size) undef, defers := [] } w := by
  refine ⟨F, G, ⟨fun i c hi => ?_, ho, fun b hb => ⟨hf0.fin b hb, .inl hb⟩, fun b hb => ⟨(hf0.gin b hb).1, (hf0.gin b hb).2, .inl hb⟩, fun _ h => h, Chg.refl _ _, ?_, rfl⟩⟩
  ·
   obtain ⟨v, _, h2, h3⟩ := argEnv_get hv hi
   have : (vals.toArray ++ Array.replicate (fn.ntmps - vals.toArray.size) undef).getD i undef = v := by
    simp only [Nat.sub_zero] at h2
    have hlt : i < vals.length := by
     rcases Nat.lt_or_ge i vals.length with h | h
     ·
      exact h
     ·
      rw [List.getElem?_eq_none h] at h2; cases h2
    rw [Array.getD_eq_getD_getElem?, Array.getElem?_append_left (by simpa using hlt)]
    simp [h2]
   rw [this]
   exact h3
  ·
   have := Nat.le_of_ble_eq_true hle
   simp only [Array.size_append, List.size_toArray, Array.size_replicate]
   omega
 have hw := H ⟨w, F, G⟩ _ w h0
 refine calls_of_wp hf hb (Code.wp_mono ?_ hw)
 rintro e a' w' ⟨s', hs, hk⟩
 have fin : Fin P fn.ntmps ⟨w, F, G⟩ rs R s' → a'.defers = [] ∧ ∃ v, (results fn a'.tmps).run P w' = .ok v w' ∧ ∃ v' c qs F' G', Ending.returned v = .returned v' ∧ R c qs ∧ c.rep w' F' v' ∧ Turn w F G w' F' G' qs := by
  rintro ⟨ds, s'', g, hr, ns, qs, r, hp, hR⟩
  obtain ⟨F', G', hs'⟩ := g a' w' hs
  obtain ⟨v, hv, hc⟩ := run_results hres hs' hr
  obtain ⟨G1, G2, hi, hd, h1, h2⟩ := Own.append.1 (hs'.own.perm (picks_perm hp))
  exact ⟨hs'.defs, v, hv, v, _, qs, F', G1, rfl, hR, hc, ⟨h1, hs'.sub, hs'.fin, fun b hb => hs'.gin b ((hi b).2 (.inl hb)), hs'.chg⟩⟩
 cases e with
 | normal => exact fin hk
 | ret => exact fin hk
 | _ => exact hk.elim

def evs (e : Env) : List Operand → Option (List C)
 | [] => some []
 | x :: xs => match ev e x with
  | some c => match evs e xs with
   | some cs => some (c :: cs)
   | none => none
  | none => none

variable {es : Env} {ps : List Obj}

theorem EnvRep.evs (h : EnvRep w F es a) : ∀ {xs : List Operand} {cs : List C}, Abs.evs es xs = some cs → Reps w F cs (xs.map a.eval)
 | [], _, hx => by cases hx; rfl
 | x :: xs, cs, hx => by
  unfold Abs.evs at hx
  split at hx
  ·
   rename_i c hc
   split at hx
   ·
    rename_i cs' hcs
    cases hx
    exact ⟨_, _, rfl, h.ev hc, h.evs hcs⟩
   ·
    cases hx
  ·
   cases hx

variable {d ty : Nat} {pos : String} {af : Array Edge} {gd : Option (Nat × Bool)}

theorem op_call {f : FuncId} {xs : List Operand} {ts : Array TypeId} {cs : List C} {R : C → List Obj → Prop} (h : Ok P f cs ps R) (hx : evs es xs = some cs) (hn : Nat.blt d n = true) :
  HOp P n ⟨some d, .call ⟨.value (.func f), xs.toArray, ts⟩, ty, pos, af, gd⟩ es ps (fun e' qs => ∃ c, R c qs ∧ e' = (d, c) :: es) := by
 intro a w F G1 hs ho hf hsz Kc Q hK
 have hcall := h.2 w F G1 _ (hs.evs hx) ho hf
 have hrun : (execOp a.eval ⟨some d, .call ⟨.value (.func f), xs.toArray, ts⟩, ty, pos, af, gd⟩).run P w = .ok (.enter f (xs.map a.eval).toArray) w := by
  simp [execOp, resolve, Act.eval, Deferred.ofValue, invoke, h.1 _ w]
 unfold Oper.wp
 rw [hrun]
 refine hcall.mono fun e w' ⟨v, c, qs, F', G', he, hr, hc, ht⟩ => ?_
 subst he
 exact hK v w' _ qs F' G' ht ⟨c, hr, rfl⟩ (EnvRep.put (hs.mono (ht.same hf)) (hsz ▸ blt_lt hn) hc)

theorem op_callE {f : FuncId} {xs : List Operand} {ts : Array TypeId} {cs : List C} {c : C} {qs : List Obj} (h : Ok P f cs ps fun c' qs' => c' = c ∧ qs' = qs) (hx : evs es xs = some cs) (hn : Nat.blt d n = true) :
  HOp P n ⟨some d, .call ⟨.value (.func f), xs.toArray, ts⟩, ty, pos, af, gd⟩ es ps (fun e' qs' => e' = (d, c) :: es ∧ qs' = qs) := by
 intro a w F G1 hs ho hf hsz Kc Q hK
 exact op_call h hx hn a w F G1 hs ho hf hsz Kc Q fun v w' e' qs' F' G1' ht ⟨c', ⟨h1, h2⟩, h3⟩ he => hK v w' e' qs' F' G1' ht ⟨by rw [h3, h1], h2⟩ he

theorem reps_vals (w : World) (F : BSet) : ∀ l : List Value, Reps w F (l.map C.val) l
 | [] => rfl
 | v :: r => ⟨v, r, rfl, rfl, reps_vals w F r⟩

theorem Reps.append {cs ds : List C} : ∀ {vs us : List Value}, Reps w F cs vs → Reps w F ds us → Reps w F (cs ++ ds) (vs ++ us) := by
 induction cs with
 | nil => intro vs us hv hu; rw [show vs = [] from hv]; exact hu
 | cons c l ih => rintro vs us ⟨v, r, rfl, h1, h2⟩ hu; exact ⟨v, r ++ us, rfl, h1, ih h2 hu⟩

theorem op_callV {f : FuncId} {x : Operand} {cap : List Value} {xs : List Operand} {ts : Array TypeId} {cs ds : List C} {R : C → List Obj → Prop} (hfv : ev es x = some (.val (.func (.func f) #[] cap.toArray))) (hds : ds = cap.map C.val)
  (h : Ok P f (cs ++ ds) ps R) (hx : evs es xs = some cs) (hn : Nat.blt d n = true) :
  HOp P n ⟨some d, .call ⟨.value x, xs.toArray, ts⟩, ty, pos, af, gd⟩ es ps (fun e' qs => ∃ c, R c qs ∧ e' = (d, c) :: es) := by
 intro a w F G1 hs ho hf hsz Kc Q hK
 have hcall := h.2 w F G1 _ (Reps.append (hs.evs hx) (hds ▸ reps_vals w F cap)) ho hf
 have hrun : (execOp a.eval ⟨some d, .call ⟨.value x, xs.toArray, ts⟩, ty, pos, af, gd⟩).run P w = .ok (.enter f (xs.map a.eval ++ cap).toArray) w := by
  simp [execOp, resolve, hs.val hfv, Deferred.ofValue, invoke, h.1 _ w]
 unfold Oper.wp
 rw [hrun]
 refine hcall.mono fun e w' ⟨v, c, qs, F', G', he, hr, hc, ht⟩ => ?_
 subst he
 exact hK v w' _ qs F' G' ht ⟨c, hr, rfl⟩ (EnvRep.put (hs.mono (ht.same hf)) (hsz ▸ blt_lt hn) hc)
end
end Go.Abs
