/- Function values with captured values; calls through them. -/
import Derived.Test.YtnndihmamfomcaaGreatCT
set_option autoImplicit false
set_option linter.unusedVariables false
set_option linter.unusedSimpArgs false
namespace Go.Abs
open Go

def C.clo (f : Nat) (cs : List C) : C where
 rep w F v := ∃ vals, v = .func (.func f) #[] vals.toArray ∧ Reps w F cs vals
 mono := by rintro w w' F F' v ⟨vals, rfl, h⟩ k; exact ⟨vals, rfl, h.mono k⟩
theorem One.clo {f : Nat} {cs : List C} : One (.clo f cs) := fun _ _ v ⟨_, e, _⟩ => by rw [e]; rfl

section
variable {P : Program} {n : Nat} {a : Act} {w : World} {F G : BSet} {es : Env} {ps : List Obj}
variable {d ty : Nat} {pos : String} {af : Array Edge} {gd : Option (Nat × Bool)}

theorem op_makeFunc {f : Nat} {xs : List Operand} {cs : List C} (hx : evs es xs = some cs) (hn : Nat.blt d n = true) : VOp false P n es ps ⟨some d, .makeFunc (.func f) #[] xs.toArray, ty, pos, af, gd⟩ d (.clo f cs) :=
 VOp.mk rfl hn fun a w F Gp hs ho => ⟨.func (.func f) #[] (xs.map a.eval).toArray, fun w2 _ => by simp [execOp, Instr.makeFunc, Sem.run], _, rfl, hs.evs hx⟩

theorem op_callC {f : FuncId} {x : Operand} {xs : List Operand} {ts : Array TypeId} {cs ds : List C} {R : C → List Obj → Prop} (hfv : ev es x = some (.clo f ds)) (h : Ok P f (cs ++ ds) ps R) (hx : evs es xs = some cs) (hn : Nat.blt d n = true) :
  HOp P n ⟨some d, .call ⟨.value x, xs.toArray, ts⟩, ty, pos, af, gd⟩ es ps (fun e' qs => ∃ c, R c qs ∧ e' = (d, c) :: es) := by
 intro a w F G1 hs ho hf hsz Kc Q hK
 obtain ⟨cap, hv, hcap⟩ := hs.ev hfv
 have hcall := h.2 w F G1 _ (Reps.append (hs.evs hx) hcap) ho hf
 have hrun : (execOp a.eval ⟨some d, .call ⟨.value x, xs.toArray, ts⟩, ty, pos, af, gd⟩).run P w = .ok (.enter f (xs.map a.eval ++ cap).toArray) w := by
  simp [execOp, resolve, hv, Deferred.ofValue, invoke, h.1 _ w]
 unfold Oper.wp
 rw [hrun]
 refine hcall.mono fun e w' ⟨v, c, qs, F', G', he, hr, hc, ht⟩ => ?_
 subst he
 exact hK v w' _ qs F' G' ht ⟨c, hr, rfl⟩ (EnvRep.put (hs.mono (ht.same hf)) (hsz ▸ blt_lt hn) hc)

theorem op_callCE {f : FuncId} {x : Operand} {xs : List Operand} {ts : Array TypeId} {cs ds : List C} {c : C} {qs : List Obj} (hfv : ev es x = some (.clo f ds)) (h : Ok P f (cs ++ ds) ps fun c' qs' => c' = c ∧ qs' = qs) (hx : evs es xs = some cs) (hn : Nat.blt d n = true) :
  HOp P n ⟨some d, .call ⟨.value x, xs.toArray, ts⟩, ty, pos, af, gd⟩ es ps (fun e' qs' => e' = (d, c) :: es ∧ qs' = qs) := by
 intro a w F G1 hs ho hf hsz Kc Q hK
 exact op_callC hfv h hx hn a w F G1 hs ho hf hsz Kc Q fun v w' e' qs' F' G1' ht ⟨c', ⟨h1, h2⟩, h3⟩ he => hK v w' e' qs' F' G1' ht ⟨by rw [h3, h1], h2⟩ he

end
end Go.Abs
