/- Short forms for printed walks: facts about the program as instances, steps that go by themselves, two ways, a condition's branch. -/
import Derived.Test.YtnndihmamfomcaaGreatCY
set_option autoImplicit false
namespace Go.Abs
open Go

class FldI (P : Program) (T j : Nat) (fo : outParam Nat) : Prop where
 h : fieldOff P T j = some fo
class LdI (P : Program) (T : Nat) (a : outParam Bool) (m : outParam Nat) : Prop where
 h : ldInfo P T = some (a, m)
class SlI (P : Program) (T : Nat) (E sz by' : outParam Nat) : Prop where
 h : slInfo P T = some (E, sz, by')

structure Hid (q : Prop) : Prop where
 out : q
/-- Steps that go by themselves. -/
theorem zz {p q : Prop} (h : q) (f : Hid q → p := by
  intro hgo
  repeat first
   | refine AW.seq ?_
   | refine AW.region ?_
   | (apply Ops.v rfl; first | exact op_move rfl rfl | exact op_assign rfl rfl | exact op_fieldAddr FldI.h rfl rfl | exact op_load (p := 0) LdI.h rfl rfl rfl rfl | exact op_load (p := 1) LdI.h rfl rfl rfl rfl | exact op_load (p := 2) LdI.h rfl rfl rfl rfl | exact op_bin rfl rfl rfl rfl | exact op_len_im SlI.h rfl rfl | exact op_not rfl rfl | exact op_pick_t rfl rfl rfl rfl | exact op_pick_f rfl rfl rfl rfl | exact op_pick_t rfl (by assumption) rfl rfl | exact op_pick_f rfl (by assumption) rfl rfl)
   | refine Ops.nil ?_
   | (apply OpsD.v rfl rfl; first | exact op_move rfl rfl | exact op_assign rfl rfl | exact op_fieldAddr FldI.h rfl rfl | exact op_load (p := 0) LdI.h rfl rfl rfl rfl | exact op_load (p := 1) LdI.h rfl rfl rfl rfl | exact op_load (p := 2) LdI.h rfl rfl rfl rfl | exact op_bin rfl rfl rfl rfl | exact op_len_im SlI.h rfl rfl | exact op_not rfl rfl | exact op_pick_t rfl rfl rfl rfl | exact op_pick_f rfl rfl rfl rfl | exact op_pick_t rfl (by assumption) rfl rfl | exact op_pick_f rfl (by assumption) rfl rfl)
   | refine OpsD.one ?_
   | refine OpsD.done ?_
   | refine AW.block ?_
   | refine AW.skip ?_
   | (refine Ops.gs rfl rfl rfl ?_ rfl rfl ?_; first | exact .u rfl | exact .b rfl rfl | exact .b rfl (by assumption))
   | (refine OpsD.gs rfl rfl rfl rfl ?_ rfl rfl ?_; first | exact .u rfl | exact .b rfl rfl | exact .b rfl (by assumption))
   | (apply Ops.gv rfl rfl rfl rfl (by first | assumption | rfl); first | exact op_move rfl rfl | exact op_assign rfl rfl | exact op_fieldAddr FldI.h rfl rfl | exact op_load (p := 0) LdI.h rfl rfl rfl rfl | exact op_load (p := 1) LdI.h rfl rfl rfl rfl | exact op_load (p := 2) LdI.h rfl rfl rfl rfl | exact op_bin rfl rfl rfl rfl | exact op_len_im SlI.h rfl rfl | exact op_not rfl rfl | exact op_pick_t rfl rfl rfl rfl | exact op_pick_f rfl rfl rfl rfl | exact op_pick_t rfl (by assumption) rfl rfl | exact op_pick_f rfl (by assumption) rfl rfl)
   | (apply OpsD.gv rfl rfl rfl rfl rfl (by first | assumption | rfl); first | exact op_move rfl rfl | exact op_assign rfl rfl | exact op_fieldAddr FldI.h rfl rfl | exact op_load (p := 0) LdI.h rfl rfl rfl rfl | exact op_load (p := 1) LdI.h rfl rfl rfl rfl | exact op_load (p := 2) LdI.h rfl rfl rfl rfl | exact op_bin rfl rfl rfl rfl | exact op_len_im SlI.h rfl rfl | exact op_not rfl rfl | exact op_pick_t rfl rfl rfl rfl | exact op_pick_f rfl rfl rfl rfl | exact op_pick_t rfl (by assumption) rfl rfl | exact op_pick_f rfl (by assumption) rfl rfl)
  exact hgo.out) : p := f ⟨h⟩

/-- Two ways. -/
theorem cnd {α : Type} {e : Bool} {A B : Option α} {r : Option α} {Q : Prop} (h : cond e A B = r) (k1 : e = true → A = r → Q) (k2 : e = false → B = r → Q) : Q := by
 cases e with
 | true => exact k1 rfl h
 | false => exact k2 rfl h

section
variable {P : Program} {n : Nat} {X : Ctx} {s : St} {K : Exit → St → Prop}
theorem AW.ct {t : Nat} {x y : Code} {b : Bool} (hb : b = true) (ht : get s.e t = some (.bool b)) (h : AW P n X x s K) : AW P n X (.cond (.tmp t) x y) s K := AW.cond ht (fun _ => h) fun h0 => by rw [hb] at h0; cases h0
theorem AW.cf {t : Nat} {x y : Code} {b : Bool} (hb : b = false) (ht : get s.e t = some (.bool b)) (h : AW P n X y s K) : AW P n X (.cond (.tmp t) x y) s K := AW.cond ht (fun h0 => by rw [hb] at h0; cases h0) fun _ => h
end
end Go.Abs
