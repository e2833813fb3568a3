/- Rules of operations on slices in frozen memory and on strings. -/
import Derived.Test.YtnndihmamfomcaaGreatCD
set_option autoImplicit false
set_option linter.unusedVariables false
set_option linter.unusedSimpArgs false
namespace Go.Abs
open Go

def slInfo (P : Program) (T : Nat) : Option (Nat × Nat × Nat) :=
 match P.underlying T with
 | some (.slice e) => match P.info? e with
  | some i => some (e, i.size, i.bytes)
  | none => none
 | _ => none

def getI {α : Type} (xs : List α) (i : Int) : Option α := if 0 ≤ i then xs[i.toNat]? else none
def sliceI {α : Type} (xs : List α) (l h : Int) : Option (List α) := if 0 ≤ l ∧ l ≤ h ∧ h ≤ xs.length then some ((xs.drop l.toNat).take (h.toNat - l.toNat)) else none
theorem getI_lt {α : Type} {xs : List α} {i : Int} {x : α} (h : getI xs i = some x) : 0 ≤ i ∧ i < xs.length ∧ xs[i.toNat]? = some x := by
 unfold getI at h
 split at h
 ·
  rename_i h0
  have := (List.getElem?_eq_some_iff.1 h).1
  exact ⟨h0, by omega, h⟩
 ·
  cases h

section
variable {P : Program} {n : Nat} {a : Act} {w : World} {F G : BSet} {es : Env} {ps : List Obj}
variable {d ty : Nat} {pos : String} {af : Array Edge} {gd : Option (Nat × Bool)}

theorem slInfo_under {T E sz by' : Nat} (h : slInfo P T = some (E, sz, by')) : P.underlying T = some (.slice E) ∧ ∃ i, P.info? E = some i ∧ i.size = sz ∧ i.bytes = by' := by
 unfold slInfo at h
 split at h
 ·
  rename_i e hu
  split at h
  ·
   rename_i i hi
   cases h
   exact ⟨hu, i, hi, rfl, rfl⟩
  ·
   cases h
 ·
  cases h

theorem run_sizeOf' {E : Nat} {i : TypeInfo} (hi : P.info? E = some i) : (sizeOf E).run P w = .ok i.size w := by simp [sizeOf, typeInfo, hi]

theorem op_len_im {α : Type} {k : α → List C} {T E sz by' m : Nat} {xs : List α} {x : Operand} (hT : slInfo P T = some (E, sz, by')) (hx : ev es x = some (.im k m xs)) (hn : Nat.blt d n = true) :
  VOp false P n es ps ⟨some d, .call ⟨.builtin .len, #[x], #[T]⟩, ty, pos, af, gd⟩ d (.int xs.length) :=
 VOp.mk rfl hn fun a w F Gp hs ho => by
  obtain ⟨A, cap, hv, _⟩ := hs.ev hx
  refine ⟨_, fun w2 _ => ?_, rfl⟩
  simp [execOp, resolve, invoke, builtin, hv, Builtin.len_, run_underlying (slInfo_under hT).1, goInt]

theorem op_len_val {T E sz by' m cap : Nat} {A : Option Addr} {x : Operand} (hT : slInfo P T = some (E, sz, by')) (hx : ev es x = some (.val (.slice A m cap))) (hn : Nat.blt d n = true) :
  VOp false P n es ps ⟨some d, .call ⟨.builtin .len, #[x], #[T]⟩, ty, pos, af, gd⟩ d (.int m) :=
 VOp.mk rfl hn fun a w F Gp hs ho => by
  refine ⟨_, fun w2 _ => ?_, rfl⟩
  simp [execOp, resolve, invoke, builtin, hs.val hx, Builtin.len_, run_underlying (slInfo_under hT).1, goInt]

theorem op_len_str {T : Nat} {t : ByteArray} {x : Operand} (hT : P.underlying T = some .string) (hx : ev es x = some (.str t)) (hn : Nat.blt d n = true) :
  VOp false P n es ps ⟨some d, .call ⟨.builtin .len, #[x], #[T]⟩, ty, pos, af, gd⟩ d (.int t.size) :=
 VOp.mk rfl hn fun a w F Gp hs ho => by
  refine ⟨_, fun w2 _ => ?_, rfl⟩
  simp [execOp, resolve, invoke, builtin, hs.val hx, Builtin.len_, run_underlying hT, goInt]

theorem op_max {T U : Nat} {x y : Operand} {k : IntKind} {i j : Int} (hx : ev es x = some (.val (.int k i))) (hy : ev es y = some (.val (.int k j))) (hn : Nat.blt d n = true) :
  VOp false P n es ps ⟨some d, .call ⟨.builtin .max, #[x, y], #[T, U]⟩, ty, pos, af, gd⟩ d (.val (.int k (if j > i then j else i))) :=
 VOp.mk rfl hn fun a w F Gp hs ho => by
  refine ⟨_, fun w2 _ => ?_, rfl⟩
  simp [execOp, resolve, invoke, builtin, hs.val hx, hs.val hy, run_max_int2]
theorem op_indexAddr_im {α : Type} {k : α → List C} {T E sz by' : Nat} {xs : List α} {e : α} {x y : Operand} {i : Int} {q : IntKind} (hT : slInfo P T = some (E, sz, by')) (hx : ev es x = some (.im k sz xs)) (hy : ev es y = some (.val (.int q i)))
  (hi : getI xs i = some e) (hn : Nat.blt d n = true) :
  VOp false P n es ps ⟨some d, .indexAddr T x y, ty, pos, af, gd⟩ d (.ip (k e)) :=
 VOp.mk rfl hn fun a w F Gp hs ho => by
  obtain ⟨A, cap, hv, _, h⟩ := hs.ev hx
  obtain ⟨h0, h1, h2⟩ := getI_lt hi
  obtain ⟨b, off, vs, rfl, hb, hl, hcs, hcl⟩ := h _ _ h2
  obtain ⟨hu, inf, hinf, hsz, _⟩ := slInfo_under hT
  refine ⟨.pointer (some ⟨b, off + i.toNat * sz, none⟩), fun w2 _ => ?_, b, _, vs, rfl, hb, hcs, hcl⟩
  simp only [execOp, hv, hs.val hy]
  simp [Instr.indexAt, asIntOf, run_underlying hu, h0, h1, run_sizeOf' hinf, hsz, addr_add]

theorem im_slice {α : Type} {k : α → List C} {sz E : Nat} {xs : List α} {l h : Nat} {A : Option Addr} {cap : Nat} (hl : l ≤ h) (hh : h ≤ xs.length) (hr : (C.im k sz xs).rep w F (.slice A xs.length cap)) :
  (C.im k sz ((xs.drop l).take (h - l))).rep w F (.slice (if cap = l then A else A.map (·.add (l * sz))) (h - l) (cap - l)) := by
 obtain ⟨A', cap', e, hc, hr⟩ := hr
 cases e
 have hlen : ((xs.drop l).take (h - l)).length = h - l := by simp; omega
 refine ⟨_, cap - l, by rw [hlen], by rw [hlen]; omega, fun i x hx => ?_⟩
 rw [List.getElem?_take] at hx
 split at hx
 ·
  rename_i hi
  rw [List.getElem?_drop] at hx
  obtain ⟨b, off, vs, rfl, hb, hvl, hcs, hcl⟩ := hr _ _ hx
  refine ⟨b, off + l * sz, vs, ?_, hb, hvl, ?_, hcl⟩
  ·
   rw [if_neg (by omega), Option.map_some, addr_add]
  ·
   rw [Nat.add_assoc, ← Nat.add_mul]; exact hcs
 ·
  cases hx

theorem run_slice {T E sz by' len cap : Nat} {A : Option Addr} (hT : slInfo P T = some (E, sz, by')) {lo hi : Option Value} {l h : Nat} (hlo : lo = none ∧ l = 0 ∨ ∃ q, lo = some (.int q l)) (hhi : hi = none ∧ h = len ∨ ∃ q, hi = some (.int q h)) (hlh : l ≤ h) (hh : h ≤ len) (hc : len ≤ cap) :
  (Instr.sliceAt T (.slice A len cap) lo hi none).run P w = .ok (.slice (if cap = l then A else A.map (·.add (l * sz))) (h - l) (cap - l)) w := by
 obtain ⟨hu, inf, hinf, hsz, _⟩ := slInfo_under hT
 have hb : ∀ (q : IntKind) (i y : Nat) (code : BoundsCode), i ≤ y → (Instr.sliceBound (.int q i) y code).run P w = .ok i w := fun q i y code hle => by
  simp [Instr.sliceBound, asIntOf, hle]
 rcases hlo with ⟨rfl, rfl⟩ | ⟨q, rfl⟩ <;> rcases hhi with ⟨rfl, rfl⟩ | ⟨q', rfl⟩
 ·
  simp [Instr.sliceAt, Instr.slice, run_underlying hu, Instr.sliceBounds, run_sizeOf' hinf, hsz]
 ·
  simp [Instr.sliceAt, Instr.slice, run_underlying hu, Instr.sliceBounds, run_sizeOf' hinf, hsz, hb _ h cap _ (by omega)]
 ·
  simp [Instr.sliceAt, Instr.slice, run_underlying hu, Instr.sliceBounds, run_sizeOf' hinf, hsz, hb _ l h _ hlh]
 ·
  simp [Instr.sliceAt, Instr.slice, run_underlying hu, Instr.sliceBounds, run_sizeOf' hinf, hsz, hb _ l h _ hlh, hb _ h cap _ (by omega)]

theorem sliceI_some {α : Type} {xs ys : List α} {l h : Int} (e : sliceI xs l h = some ys) : ∃ i j : Nat, l = i ∧ h = j ∧ i ≤ j ∧ j ≤ xs.length ∧ ys = (xs.drop i).take (j - i) := by
 unfold sliceI at e
 split at e
 ·
  rename_i hc
  cases e
  exact ⟨l.toNat, h.toNat, by omega, by omega, by omega, by omega, rfl⟩
 ·
  cases e

theorem op_slice_im_l {α : Type} {k : α → List C} {T E sz by' : Nat} {xs ys : List α} {x y : Operand} {l : Int} {q : IntKind} (hT : slInfo P T = some (E, sz, by')) (hx : ev es x = some (.im k sz xs)) (hy : ev es y = some (.val (.int q l)))
  (hs' : sliceI xs l xs.length = some ys) (hn : Nat.blt d n = true) :
  VOp false P n es ps ⟨some d, .slice T x (some y) none none, ty, pos, af, gd⟩ d (.im k sz ys) :=
 VOp.mk rfl hn fun a w F Gp hs ho => by
  obtain ⟨i, j, rfl, hj', hij, hj, rfl⟩ := sliceI_some hs'
  obtain rfl : xs.length = j := by omega
  have hr := hs.ev hx
  have hr' := hr
  obtain ⟨A, cap, hv, hc, _⟩ := hr'
  rw [hv] at hr
  refine ⟨_, fun w2 _ => ?_, im_slice (E := E) hij hj hr⟩
  simp only [execOp, hv, Option.map_some, hs.val hy, Option.map_none]
  simp [run_slice hT (.inr ⟨q, rfl⟩) (.inl ⟨rfl, rfl⟩) hij hj hc]
theorem op_slice_im_h {α : Type} {k : α → List C} {T E sz by' : Nat} {xs ys : List α} {x z : Operand} {h : Int} {q' : IntKind} (hT : slInfo P T = some (E, sz, by')) (hx : ev es x = some (.im k sz xs)) (hz : ev es z = some (.val (.int q' h)))
  (hs' : sliceI xs 0 h = some ys) (hn : Nat.blt d n = true) :
  VOp false P n es ps ⟨some d, .slice T x none (some z) none, ty, pos, af, gd⟩ d (.im k sz ys) :=
 VOp.mk rfl hn fun a w F Gp hs ho => by
  obtain ⟨i, j, hi', rfl, hij, hj, rfl⟩ := sliceI_some hs'
  obtain rfl : 0 = i := by omega
  have hr := hs.ev hx
  have hr' := hr
  obtain ⟨A, cap, hv, hc, _⟩ := hr'
  rw [hv] at hr
  refine ⟨_, fun w2 _ => ?_, im_slice (E := E) hij hj hr⟩
  simp only [execOp, hv, Option.map_some, hs.val hz, Option.map_none]
  simp [run_slice hT (.inl ⟨rfl, rfl⟩) (.inr ⟨q', rfl⟩) hij hj hc]
end
end Go.Abs
