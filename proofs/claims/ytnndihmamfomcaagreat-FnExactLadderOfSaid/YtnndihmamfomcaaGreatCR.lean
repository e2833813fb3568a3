/- Function values with captured values; calls through them. -/
import Derived.Test.YtnndihmamfomcaaGreatCT
set_option autoImplicit false
set_option linter.unusedVariables false
set_option linter.unusedSimpArgs false
namespace Go.Abs
open Go

/-- A function value: the function and what it has captured. -/
def C.clo (f : Nat) (cs : List C) : C where
 rep w F v := ∃ vals, v = .func (.func f) #[] vals.toArray ∧ Reps w F cs vals
 mono := by rintro w w' F F' v ⟨vals, rfl, h⟩ k; exact ⟨vals, rfl, h.mono k⟩
theorem One.clo {f : Nat} {cs : List C} : One (.clo f cs) := fun _ _ v ⟨_, e, _⟩ => by rw [e]; rfl

section
variable {P : Program} {n : Nat} {a : Act} {w : World} {F G : BSet} {es : Env} {ps : List Obj}
variable {d ty : Nat} {pos : String} {af : Array Edge} {gd : Option (Nat × Bool)}

theorem op_makeFunc {f : Nat} {xs : List Operand} {cs : List C} (hx : evs es xs = some cs) (hn : Nat.blt d n = true) : VOp false P n es ps ⟨some d, .makeFunc (.func f) #[] xs.toArray, ty, pos, af, gd⟩ d (.clo f cs) :=
 VOp.mk rfl hn fun a w F Gp hs ho => ⟨.func (.func f) #[] (xs.map a.eval).toArray, fun w2 _ => by simp [execOp, Instr.makeFunc, Sem.run], _, rfl, hs.evs hx⟩

theorem op_callC {f : FuncId} {x : Operand} {xs : List Operand} {ts : Array TypeId} {cs ds : List C} {R : C → List Obj → Prop} (hfv : ev es x = some (.clo f ds)) (h : Ok P f (cs ++ ds) ps R) (hx : evs es xs = some cs) (hn : Nat.blt d n = true) :
  HOp P n ⟨some d, .call ⟨.value x, xs.toArray, ts⟩, ty, pos, af, gd⟩ es ps (fun e' qs => ∃ c, R c qs ∧ e' = (d, c) :: es) := by
 intro a w F G1 hs ho hf hsz Kc Q hK
 obtain ⟨cap, hv, hcap⟩ := hs.ev hfv
 have hcall := h.2 w F G1 _ (Reps.append (hs.evs hx) hcap) ho hf
 have hrun : (execOp a.eval ⟨some d, .call ⟨.value x, xs.toArray, ts⟩, ty, pos, af, gd⟩).run P w = .ok (.enter f (xs.map a.eval ++ cap).toArray) w := by
  simp [execOp, resolve, hv, Deferred.ofValue, invoke, h.1 _ w]
 unfold Oper.wp
 rw [hrun]
 refine hcall.mono fun e w' ⟨v, c, qs, F', G', he, hr, hc, ht⟩ => ?_
 subst he
 exact hK v w' _ qs F' G' ht ⟨c, hr, rfl⟩ (EnvRep.put (hs.mono (ht.same hf)) (hsz ▸ blt_lt hn) hc)

/-- .. whose outcome is plain. -/
theorem op_callCE {f : FuncId} {x : Operand} {xs : List Operand} {ts : Array TypeId} {cs ds : List C} {c : C} {qs : List Obj} (hfv : ev es x = some (.clo f ds)) (h : Ok P f (cs ++ ds) ps fun c' qs' => c' = c ∧ qs' = qs) (hx : evs es xs = some cs) (hn : Nat.blt d n = true) :
  HOp P n ⟨some d, .call ⟨.value x, xs.toArray, ts⟩, ty, pos, af, gd⟩ es ps (fun e' qs' => e' = (d, c) :: es ∧ qs' = qs) := by
 intro a w F G1 hs ho hf hsz Kc Q hK
 exact op_callC hfv h hx hn a w F G1 hs ho hf hsz Kc Q fun v w' e' qs' F' G1' ht ⟨c', ⟨h1, h2⟩, h3⟩ he => hK v w' e' qs' F' G1' ht ⟨by rw [h3, h1], h2⟩ he

/-- An owned variable is frozen: a pointer to it is read through from now on. -/
theorem Ghost.freezeBox {X : Ctx} {e : Env} {o r : List Obj} {p t b T : Nat} {cs : List C} (hp : picks [p] o = some ([.box b T cs], r)) (ht : get e t = some (.val (.pointer (some ⟨b, 0, none⟩)))) : Ghost n X ⟨e, o⟩ ⟨(t, .ip cs) :: e, r⟩ := by
 rintro a w ⟨F, G, h⟩
 obtain ⟨G1, G2, hi, hd, h1, h2⟩ := Own.append.1 (h.own.perm (picks_perm hp))
 obtain ⟨hG, vs, hb, hcs⟩ := h1.only
 have hmono : ∀ b, F b → (F b ∨ G1 b) ∧ w.heap[b]? = w.heap[b]? := fun b hb => ⟨.inl hb, rfl⟩
 refine ⟨fun b => F b ∨ G1 b, G2, ⟨fun i c hc => ?_, h2.mono hmono fun _ _ => rfl, fun b hb => ?_, fun b hb => ?_, fun b hb => .inl (h.sub b hb), h.chg, h.size, h.defs⟩⟩
 ·
  by_cases hit : t = i
  ·
   subst hit
   rw [get_cons_same] at hc
   cases hc
   rw [show a.tmps.getD t undef = .pointer (some ⟨b, 0, none⟩) from h.env t _ ht]
   exact ⟨b, 0, vs, rfl, .inr ((hG b).2 rfl), cellsAt_of_block hb, hcs.mono hmono⟩
  ·
   rw [get_cons_ne _ _ hit] at hc
   exact C.mono _ (h.env i c hc) hmono
 ·
  rcases hb with hb | hb
  ·
   exact h.fin b hb
  ·
   have := h.gin b ((hi b).2 (.inl hb))
   exact ⟨this.1, this.2.2.elim (fun h => .inr (.inl h)) fun h => .inr (.inr h)⟩
 ·
  have := h.gin b ((hi b).2 (.inr hb))
  exact ⟨this.1, fun hf => hf.elim this.2.1 fun hg => hd b hg hb, this.2.2⟩
end
end Go.Abs
