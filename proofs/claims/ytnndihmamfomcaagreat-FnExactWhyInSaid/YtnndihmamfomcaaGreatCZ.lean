/- Short forms for printed walks: facts about the program as instances, steps that go by themselves, two ways, a condition's branch. -/
import Derived.Test.YtnndihmamfomcaaGreatCY
set_option autoImplicit false
set_option linter.unusedVariables false
set_option linter.unusedSimpArgs false
namespace Go.Abs
open Go

class FldI (P : Program) (T j : Nat) (fo : outParam Nat) : Prop where
 h : fieldOff P T j = some fo
class LdI (P : Program) (T : Nat) (a : outParam Bool) (m : outParam Nat) : Prop where
 h : ldInfo P T = some (a, m)
class SlI (P : Program) (T : Nat) (E sz by' : outParam Nat) : Prop where
 h : slInfo P T = some (E, sz, by')

structure Hid (q : Prop) : Prop where
 out : q
theorem zz {p q : Prop} (h : q) (f : Hid q → p := by
  intro hgo
  repeat first
   | refine AW.seq ?_
   | refine AW.region ?_
   | (apply Ops.v rfl; first | exact op_move rfl rfl | exact op_assign rfl rfl | exact op_fieldAddr FldI.h rfl rfl | exact op_load (p := 0) LdI.h rfl rfl rfl rfl | exact op_load (p := 1) LdI.h rfl rfl rfl rfl | exact op_load (p := 2) LdI.h rfl rfl rfl rfl | exact op_bin rfl rfl rfl rfl | exact op_len_im SlI.h rfl rfl | exact op_not rfl rfl | exact op_pick_t rfl rfl rfl rfl | exact op_pick_f rfl rfl rfl rfl | exact op_pick_t rfl (by assumption) rfl rfl | exact op_pick_f rfl (by assumption) rfl rfl)
   | refine Ops.nil ?_
   | (apply OpsD.v rfl rfl; first | exact op_move rfl rfl | exact op_assign rfl rfl | exact op_fieldAddr FldI.h rfl rfl | exact op_load (p := 0) LdI.h rfl rfl rfl rfl | exact op_load (p := 1) LdI.h rfl rfl rfl rfl | exact op_load (p := 2) LdI.h rfl rfl rfl rfl | exact op_bin rfl rfl rfl rfl | exact op_len_im SlI.h rfl rfl | exact op_not rfl rfl | exact op_pick_t rfl rfl rfl rfl | exact op_pick_f rfl rfl rfl rfl | exact op_pick_t rfl (by assumption) rfl rfl | exact op_pick_f rfl (by assumption) rfl rfl)
   | refine OpsD.one ?_
   | refine OpsD.done ?_
   | refine AW.block ?_
   | refine AW.skip ?_
   | (refine Ops.gs rfl rfl rfl ?_ rfl rfl ?_; first | exact .u rfl | exact .b rfl rfl | exact .b rfl (by assumption))
   | (refine OpsD.gs rfl rfl rfl rfl ?_ rfl rfl ?_; first | exact .u rfl | exact .b rfl rfl | exact .b rfl (by assumption))
   | (apply Ops.gv rfl rfl rfl rfl (by first | assumption | rfl); first | exact op_move rfl rfl | exact op_assign rfl rfl | exact op_fieldAddr FldI.h rfl rfl | exact op_load (p := 0) LdI.h rfl rfl rfl rfl | exact op_load (p := 1) LdI.h rfl rfl rfl rfl | exact op_load (p := 2) LdI.h rfl rfl rfl rfl | exact op_bin rfl rfl rfl rfl | exact op_len_im SlI.h rfl rfl | exact op_not rfl rfl | exact op_pick_t rfl rfl rfl rfl | exact op_pick_f rfl rfl rfl rfl | exact op_pick_t rfl (by assumption) rfl rfl | exact op_pick_f rfl (by assumption) rfl rfl)
   | (apply OpsD.gv rfl rfl rfl rfl rfl (by first | assumption | rfl); first | exact op_move rfl rfl | exact op_assign rfl rfl | exact op_fieldAddr FldI.h rfl rfl | exact op_load (p := 0) LdI.h rfl rfl rfl rfl | exact op_load (p := 1) LdI.h rfl rfl rfl rfl | exact op_load (p := 2) LdI.h rfl rfl rfl rfl | exact op_bin rfl rfl rfl rfl | exact op_len_im SlI.h rfl rfl | exact op_not rfl rfl | exact op_pick_t rfl rfl rfl rfl | exact op_pick_f rfl rfl rfl rfl | exact op_pick_t rfl (by assumption) rfl rfl | exact op_pick_f rfl (by assumption) rfl rfl)
  exact hgo.out) : p := f ⟨h⟩

theorem cnd {α : Type} {e : Bool} {A B : Option α} {r : Option α} {Q : Prop} (h : cond e A B = r) (k1 : e = true → A = r → Q) (k2 : e = false → B = r → Q) : Q := by
 cases e with
 | true => exact k1 rfl h
 | false => exact k2 rfl h

section
variable {P : Program} {n : Nat} {X : Ctx} {s : St} {K : Exit → St → Prop}
theorem AW.ct {t : Nat} {x y : Code} {b : Bool} (hb : b = true) (ht : get s.e t = some (.bool b)) (h : AW P n X x s K) : AW P n X (.cond (.tmp t) x y) s K := AW.cond ht (fun _ => h) fun h0 => by rw [hb] at h0; cases h0
theorem AW.cf {t : Nat} {x y : Code} {b : Bool} (hb : b = false) (ht : get s.e t = some (.bool b)) (h : AW P n X y s K) : AW P n X (.cond (.tmp t) x y) s K := AW.cond ht (fun h0 => by rw [hb] at h0; cases h0) fun _ => h

variable {e : Env} {os : List Obj}
theorem Ops.hx {β : Type} {ops : Array Oper} {o : Oper} {rest : List Oper} {K : St → Prop} {ps r : List Obj} (ns : List Nat) {E : β → Env} {Q : β → List Obj} (h : HOp P n o e ps fun e' qs => ∃ b, e' = E b ∧ qs = Q b)
  (k : ∀ b, appK (Q b) r fun l => Ops P n X ops rest (E b) l K) (hg : o.guard = none := by exact rfl) (hp : picks ns os = some (ps, r) := by exact rfl) : Ops P n X ops (o :: rest) e os K :=
 Ops.h hg hp h fun _ _ ⟨b, h1, h2⟩ => by rw [h1, h2]; exact k b
theorem Ops.hd0 {ops : Array Oper} {o : Oper} {rest : List Oper} {K : St → Prop} {qs : List Obj} {e1 : Env} (h : HOp P n o e [] fun e' qs' => e' = e1 ∧ qs' = qs) (k : appK qs os fun l => Ops P n X ops rest e1 l K) (hg : o.guard = none := by exact rfl) : Ops P n X ops (o :: rest) e os K :=
 Ops.h (ns := []) hg rfl h fun _ _ ⟨h1, h2⟩ => by rw [h1, h2]; exact k
theorem StepD.hx {β : Type} {i : Nat} {l : List Oper} {L Lt : List Nat} {k0 : Sch} {b : Bool} {o : Oper} {ot : List Obj} {K : St → Prop} {ps r : List Obj} (ns : List Nat) {E : β → Env} {Q : β → List Obj} (h : HOp P n o e ps fun e' qs => ∃ b, e' = E b ∧ qs = Q b)
  (k : ∀ x, appK (Q x) r fun l' => OpsD P n X l L Lt k0 b (E x) os l' K) (ho : nth l i = some o := by exact rfl) (hg : o.guard = none := by exact rfl) (hp : picks ns ot = some (ps, r) := by exact rfl) : StepD P n X l L Lt i k0 b e os ot K :=
 StepD.h ho hg hp h fun _ _ ⟨x, h1, h2⟩ => by rw [h1, h2]; exact k x
theorem StepD.hd {i : Nat} {l : List Oper} {L Lt : List Nat} {k0 : Sch} {b : Bool} {o : Oper} {ot : List Obj} {K : St → Prop} {ps r qs : List Obj} {e1 : Env} (ns : List Nat) (h : HOp P n o e ps fun e' qs' => e' = e1 ∧ qs' = qs)
  (k : appK qs r fun l' => OpsD P n X l L Lt k0 b e1 os l' K) (ho : nth l i = some o := by exact rfl) (hg : o.guard = none := by exact rfl) (hp : picks ns ot = some (ps, r) := by exact rfl) : StepD P n X l L Lt i k0 b e os ot K :=
 StepD.h ho hg hp h fun _ _ ⟨h1, h2⟩ => by rw [h1, h2]; exact k
theorem gb {e' : Env} {o qs r : List Obj} (ns : List Nat) (h : picks ns o = some (qs, r) := by exact rfl) (he : e'.map (fun p => get e p.1) = e'.map (fun p => some p.2) := by exact rfl) : Ghost n X ⟨e, o⟩ ⟨e', qs⟩ := Ghost.both h he
end
end Go.Abs
