/- Fields of struct values; variables that are frozen; results frozen beside lent arguments; the beginning of an owned slice; clear. -/
import Derived.Test.YtnndihmamfomcaaGreatCR
import Derived.Laws.BytesString
import Derived.Laws.Concat
set_option autoImplicit false
set_option linter.unusedVariables false
set_option linter.unusedSimpArgs false
namespace Go.Abs
open Go

def fieldInfo (P : Program) (T j : Nat) : Option (Nat × Nat × Bool) :=
 match P.underlying T with
 | some (.struct fields) => match fields[j]? with
  | some f => match ldInfo P f.type with
   | some (g, m) => some (f.offset, m, g)
   | none => none
  | none => none
 | _ => none

theorem Frz.imp {c c' : C} (h : Imp c c') : Frz c [] c' := fun _ _ _ _ v hc _ hF _ => C.mono _ (h _ _ v hc) fun b hb => ⟨hF b hb, rfl⟩

section
variable {P : Program} {n : Nat} {X : Ctx} {a : Act} {w : World} {F G : BSet} {es : Env} {ps : List Obj}
variable {d ty : Nat} {pos : String} {af : Array Edge} {gd : Option (Nat × Bool)}

theorem fieldInfo_under {T j fo m : Nat} {g : Bool} (h : fieldInfo P T j = some (fo, m, g)) : ∃ fields f, P.underlying T = some (.struct fields) ∧ fields[j]? = some f ∧ ldInfo P f.type = some (g, m) ∧ f.offset = fo := by
 unfold fieldInfo at h
 split at h
 ·
  rename_i fields hu
  split at h
  ·
   rename_i f hf
   split at h
   ·
    rename_i g' m' hl
    cases h
    exact ⟨fields, f, hu, hf, hl, rfl⟩
   ·
    cases h
  ·
   cases h
 ·
  cases h

theorem op_field {T j fo m : Nat} {x : Operand} {cs : List C} {c : C} (hf : fieldInfo P T j = some (fo, m, false)) (hx : ev es x = some (.agg cs)) (hc : cs[fo]? = some c) (hn : Nat.blt d n = true) : VOp false P n es ps ⟨some d, .field T x j, ty, pos, af, gd⟩ d (c) :=
 VOp.mk rfl hn fun a w F Gp hs ho => by
  obtain ⟨fields, f, hu, hfi, hl, rfl⟩ := fieldInfo_under hf
  obtain ⟨vs, hv, hcs⟩ := hs.ev hx
  obtain ⟨v, h1, h2, _⟩ := hcs.get hc
  refine ⟨v, fun w2 _ => ?_, h2⟩
  simp only [execOp, hv]
  simp [Instr.field, run_underlying hu, hfi, asAgg, part, run_isAgg hl, h1]

theorem Ghost.boxFrz {e : Env} {o r qs : List Obj} {ns : List Nat} {b T : Nat} {cs cs' : List C} (hp : picks ns o = some (.box b T cs :: qs, r)) (hf : FrzL cs qs cs') : Ghost n X ⟨e, o⟩ ⟨e, .box b T cs' :: r⟩ := by
 rintro a w ⟨F, G, h⟩
 obtain ⟨G1, G2, hi, hd, h1, h2⟩ := Own.append.1 (h.own.perm (picks_perm hp))
 obtain ⟨Ga, Gb, hi2, hd2, ⟨hG, vs, hb, hcs⟩, h3⟩ := h1
 have hmono : ∀ b, F b → (F b ∨ Gb b) ∧ w.heap[b]? = w.heap[b]? := fun b hb => ⟨.inl hb, rfl⟩
 refine ⟨fun b => F b ∨ Gb b, fun b => Ga b ∨ G2 b, ⟨fun i c1 hc => C.mono _ (h.env i c1 hc) hmono, ⟨Ga, G2, fun _ => Iff.rfl, fun b hb hx => hd b ((hi2 b).2 (.inl hb)) hx, ⟨hG, vs, hb, hf w F Gb _ vs hcs h3 (fun _ h => .inl h) fun _ h => .inr h⟩, h2.mono hmono fun _ _ => rfl⟩, fun b hb => ?_, fun b hb => ?_, fun b hb => .inl (h.sub b hb), h.chg, h.size, h.defs⟩⟩
 ·
  rcases hb with hb | hb
  ·
   exact h.fin b hb
  ·
   have := h.gin b ((hi b).2 (.inl ((hi2 b).2 (.inr hb))))
   exact ⟨this.1, this.2.2.elim (fun h => .inr (.inl h)) fun h => .inr (.inr h)⟩
 ·
  rcases hb with hb | hb
  ·
   have := h.gin b ((hi b).2 (.inl ((hi2 b).2 (.inl hb))))
   exact ⟨this.1, fun hf => hf.elim this.2.1 fun hg => hd2 b hb hg, this.2.2⟩
  ·
   have := h.gin b ((hi b).2 (.inr hb))
   exact ⟨this.1, fun hf => hf.elim this.2.1 fun hg => hd b ((hi2 b).2 (.inr hg)) hb, this.2.2⟩

theorem Ok.freezeL {f : FuncId} {cs : List C} {os ps : List Obj} {R : C → List Obj → Prop} {c' : C} (h : Ok P f cs os fun c qs => ∃ qs', R c qs' ∧ qs = qs' ++ ps) (k : ∀ c qs, R c qs → Frz c qs c') : Ok P f cs os fun c qs => c = c' ∧ qs = ps :=
 ⟨h.1, fun w F G vals h1 h2 h3 => (h.2 w F G vals h1 h2 h3).mono fun _ w' ⟨v, c, qs, F', G', he, ⟨qs', hr, hq⟩, hc, ht⟩ => by
  subst hq
  obtain ⟨Ga, Gb, hi, hd, o1, o2⟩ := Own.append.1 ht.own
  have hmono : ∀ b, F' b → (F' b ∨ Ga b) ∧ w'.heap[b]? = w'.heap[b]? := fun b hb => ⟨.inl hb, rfl⟩
  refine ⟨v, c', ps, fun b => F' b ∨ Ga b, Gb, he, ⟨rfl, rfl⟩, k c qs' hr w' F' Ga _ v hc o1 (fun _ h => .inl h) (fun _ h => .inr h), ⟨o2.mono hmono fun _ _ => rfl, fun b hb => .inl (ht.sub b hb), fun b hb => ?_, fun b hb => ?_, ht.chg⟩⟩
  ·
   rcases hb with hb | hb
   ·
    exact ht.fin b hb
   ·
    have := ht.gin b ((hi b).2 (.inl hb))
    exact ⟨this.1, .inr this.2.2⟩
  ·
   have := ht.gin b ((hi b).2 (.inr hb))
   exact ⟨this.1, fun hf => hf.elim this.2.1 fun hg => hd b hg hb, this.2.2⟩⟩


end
end Go.Abs
