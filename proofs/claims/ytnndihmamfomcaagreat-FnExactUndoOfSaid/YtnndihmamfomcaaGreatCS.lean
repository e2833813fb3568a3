/- Fields of struct values; variables that are frozen; results frozen beside lent arguments; the beginning of an owned slice; clear. -/
import Derived.Test.YtnndihmamfomcaaGreatCR
import Derived.Laws.BytesString
import Derived.Laws.Concat
set_option autoImplicit false
set_option linter.unusedVariables false
set_option linter.unusedSimpArgs false
namespace Go.Abs
open Go

def fieldInfo (P : Program) (T j : Nat) : Option (Nat × Nat × Bool) :=
 match P.underlying T with
 | some (.struct fields) => match fields[j]? with
  | some f => match ldInfo P f.type with
   | some (g, m) => some (f.offset, m, g)
   | none => none
  | none => none
 | _ => none

theorem Frz.imp {c c' : C} (h : Imp c c') : Frz c [] c' := fun _ _ _ _ v hc _ hF _ => C.mono _ (h _ _ v hc) fun b hb => ⟨hF b hb, rfl⟩

section
variable {P : Program} {n : Nat} {X : Ctx} {a : Act} {w : World} {F G : BSet} {es : Env} {ps : List Obj}
variable {d ty : Nat} {pos : String} {af : Array Edge} {gd : Option (Nat × Bool)}

theorem fieldInfo_under {T j fo m : Nat} {g : Bool} (h : fieldInfo P T j = some (fo, m, g)) : ∃ fields f, P.underlying T = some (.struct fields) ∧ fields[j]? = some f ∧ ldInfo P f.type = some (g, m) ∧ f.offset = fo := by
 unfold fieldInfo at h
 split at h
 ·
  rename_i fields hu
  split at h
  ·
   rename_i f hf
   split at h
   ·
    rename_i g' m' hl
    cases h
    exact ⟨fields, f, hu, hf, hl, rfl⟩
   ·
    cases h
  ·
   cases h
 ·
  cases h

theorem op_field {T j fo m : Nat} {x : Operand} {cs : List C} {c : C} (hf : fieldInfo P T j = some (fo, m, false)) (hx : ev es x = some (.agg cs)) (hc : cs[fo]? = some c) (hn : Nat.blt d n = true) : VOp false P n es ps ⟨some d, .field T x j, ty, pos, af, gd⟩ d (c) :=
 VOp.mk rfl hn fun a w F Gp hs ho => by
  obtain ⟨fields, f, hu, hfi, hl, rfl⟩ := fieldInfo_under hf
  obtain ⟨vs, hv, hcs⟩ := hs.ev hx
  obtain ⟨v, h1, h2, _⟩ := hcs.get hc
  refine ⟨v, fun w2 _ => ?_, h2⟩
  simp only [execOp, hv]
  simp [Instr.field, run_underlying hu, hfi, asAgg, part, run_isAgg hl, h1]

theorem Ghost.boxFrz {e : Env} {o r qs : List Obj} {ns : List Nat} {b T : Nat} {cs cs' : List C} (hp : picks ns o = some (.box b T cs :: qs, r)) (hf : FrzL cs qs cs') : Ghost n X ⟨e, o⟩ ⟨e, .box b T cs' :: r⟩ := by
 rintro a w ⟨F, G, h⟩
 obtain ⟨G1, G2, hi, hd, h1, h2⟩ := Own.append.1 (h.own.perm (picks_perm hp))
 obtain ⟨Ga, Gb, hi2, hd2, ⟨hG, vs, hb, hcs⟩, h3⟩ := h1
 have hmono : ∀ b, F b → (F b ∨ Gb b) ∧ w.heap[b]? = w.heap[b]? := fun b hb => ⟨.inl hb, rfl⟩
 refine ⟨fun b => F b ∨ Gb b, fun b => Ga b ∨ G2 b, ⟨fun i c1 hc => C.mono _ (h.env i c1 hc) hmono, ⟨Ga, G2, fun _ => Iff.rfl, fun b hb hx => hd b ((hi2 b).2 (.inl hb)) hx, ⟨hG, vs, hb, hf w F Gb _ vs hcs h3 (fun _ h => .inl h) fun _ h => .inr h⟩, h2.mono hmono fun _ _ => rfl⟩, fun b hb => ?_, fun b hb => ?_, fun b hb => .inl (h.sub b hb), h.chg, h.size, h.defs⟩⟩
 ·
  rcases hb with hb | hb
  ·
   exact h.fin b hb
  ·
   have := h.gin b ((hi b).2 (.inl ((hi2 b).2 (.inr hb))))
   exact ⟨this.1, this.2.2.elim (fun h => .inr (.inl h)) fun h => .inr (.inr h)⟩
 ·
  rcases hb with hb | hb
  ·
   have := h.gin b ((hi b).2 (.inl ((hi2 b).2 (.inl hb))))
   exact ⟨this.1, fun hf => hf.elim this.2.1 fun hg => hd2 b hb hg, this.2.2⟩
  ·
   have := h.gin b ((hi b).2 (.inr hb))
   exact ⟨this.1, fun hf => hf.elim this.2.1 fun hg => hd b ((hi2 b).2 (.inr hg)) hb, this.2.2⟩

theorem Ok.freezeL {f : FuncId} {cs : List C} {os ps : List Obj} {R : C → List Obj → Prop} {c' : C} (h : Ok P f cs os fun c qs => ∃ qs', R c qs' ∧ qs = qs' ++ ps) (k : ∀ c qs, R c qs → Frz c qs c') : Ok P f cs os fun c qs => c = c' ∧ qs = ps :=
 ⟨h.1, fun w F G vals h1 h2 h3 => (h.2 w F G vals h1 h2 h3).mono fun _ w' ⟨v, c, qs, F', G', he, ⟨qs', hr, hq⟩, hc, ht⟩ => by
  subst hq
  obtain ⟨Ga, Gb, hi, hd, o1, o2⟩ := Own.append.1 ht.own
  have hmono : ∀ b, F' b → (F' b ∨ Ga b) ∧ w'.heap[b]? = w'.heap[b]? := fun b hb => ⟨.inl hb, rfl⟩
  refine ⟨v, c', ps, fun b => F' b ∨ Ga b, Gb, he, ⟨rfl, rfl⟩, k c qs' hr w' F' Ga _ v hc o1 (fun _ h => .inl h) (fun _ h => .inr h), ⟨o2.mono hmono fun _ _ => rfl, fun b hb => .inl (ht.sub b hb), fun b hb => ?_, fun b hb => ?_, ht.chg⟩⟩
  ·
   rcases hb with hb | hb
   ·
    exact ht.fin b hb
   ·
    have := ht.gin b ((hi b).2 (.inl hb))
    exact ⟨this.1, .inr this.2.2⟩
  ·
   have := ht.gin b ((hi b).2 (.inr hb))
   exact ⟨this.1, fun hf => hf.elim this.2.1 fun hg => hd b hg hb, this.2.2⟩⟩


def strOf (ns : List Int) : ByteArray := ns.foldl (fun r n => r.push (UInt8.ofNat n.toNat)) ByteArray.empty

def byteSl (P : Program) (T : Nat) : Bool :=
 match P.underlying T with
 | some (.slice e) => match P.underlying e with
  | some (.int .u8) => true
  | _ => false
 | _ => false

theorem byteSl_under {T : Nat} (h : byteSl P T = true) : ∃ e, P.underlying T = some (.slice e) ∧ P.underlying e = some (.int .u8) := by
 unfold byteSl at h
 split at h
 ·
  rename_i e hu
  split at h
  ·
   rename_i he; exact ⟨e, hu, he⟩
  ·
   cases h
 ·
  cases h

theorem flat_bytes {k : Int → List C} (hk : ∀ x, k x = [C.val (.int .u8 x)]) : ∀ {xs : List Int} {vs : List Value}, Flat w F k 1 xs vs → vs = xs.map (Value.int .u8)
 | [], _, h => h
 | x :: xs, _, ⟨a, r, e, _, h1, h2⟩ => by
  rw [hk] at h1
  obtain ⟨v, r', e1, h3, _, h4⟩ := h1
  rw [e, e1, show r' = [] from h4, flat_bytes hk h2, show v = .int .u8 x from h3]
  rfl

theorem op_str_arr {T U p E : Nat} {x : Operand} {v : Value} {k : Int → List C} {xs : List Int} (hT : byteSl P T = true) (hU : P.underlying U = some .string) (hk : ∀ x, k x = [C.val (.int .u8 x)]) (hx : ev es x = some (.val v)) (hp : pick p ps = some (.arr v E k 1 xs)) (hn : Nat.blt d n = true) :
  VOp true P n es ps ⟨some d, .convert T U x, ty, pos, af, gd⟩ d (.str (strOf xs)) :=
 VOp.mk rfl hn fun a w F Gp hs ho => by
  obtain ⟨e, hu, he⟩ := byteSl_under hT
  obtain ⟨G1, hrep, hsub⟩ := ho.pick hp
  refine ⟨.string (strOf xs), fun w2 hw => ?_, rfl⟩
  obtain ⟨⟨vs, hrow, hf⟩, hG⟩ := hrep
  have hvs := flat_bytes hk hf
  rcases hrow.2 with ⟨rfl, h0⟩ | ⟨g, cap, cur, rfl, _, hb, _⟩
  ·
   obtain rfl := List.eq_nil_of_length_eq_zero h0
   simp only [execOp, hs.val hx, Sem.run_bind, Sem.run_map, run_convert_bytes_string w2 T U e none 0 0 hu he hU]
   rfl
  ·
   have hcell : ∀ j u, vs[j]? = some u → w2.cell? ((⟨g, 0, none⟩ : Addr).add j) = some u := fun j u hj => by
    have := hrow.cells (g := g) rfl j u hj
    rw [addr_add] at this ⊢
    rw [← this]
    exact World.cell?_of_block (hw rfl g (.inr (hsub g ((hG g).2 rfl))))
   have hl := run_loadCells_list (P := P) w2 ⟨g, 0, none⟩ vs hcell
   rw [hf.length, Nat.mul_one, hvs] at hl
   simp only [execOp, hs.val hx, Sem.run_bind, Sem.run_map, run_convert_bytes_string w2 T U e _ _ _ hu he hU, run_bytesToString w2 ⟨g, 0, none⟩ xs.length cap xs hl]
   rfl

theorem op_add_str {t u : Nat} {x y : Operand} {i j : ByteArray} (hx : ev es x = some (.str i)) (hy : ev es y = some (.str j)) (hb : i.size + j.size ≤ 9223372036854775807) (hn : Nat.blt d n = true) :
  VOp false P n es ps ⟨some d, .binOp .add t x y u, ty, pos, af, gd⟩ d (.str (i ++ j)) :=
 VOp.mk rfl hn fun a w F Gp hs ho => ⟨_, fun w2 _ => by
  simp only [execOp, hs.val hx, hs.val hy, Sem.run_bind]
  simp [binOp, eqGuard_at_string, run_string_add_sum w2 i j hb], rfl⟩
end
end Go.Abs
