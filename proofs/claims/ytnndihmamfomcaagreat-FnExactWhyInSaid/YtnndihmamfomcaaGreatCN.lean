/- More operations: structs compared; a slice compared with nil. -/
import Derived.Test.YtnndihmamfomcaaGreatCM
import Derived.Laws.StructEq
import Derived.Lib.SliceRun
set_option autoImplicit false
set_option linter.unusedVariables false
set_option linter.unusedSimpArgs false
namespace Go.Abs
open Go

def kindsOf (P : Program) : List Field → Nat → Option (List Nat)
 | [], _ => some []
 | f :: fs, i =>
  if (f.name != "_") && f.offset == i && (ldInfo P f.type == some (false, 1)) then
   match P.underlying f.type, kindsOf P fs (i + 1) with
   | some (.int _), some l => some (0 :: l)
   | some .bool, some l => some (1 :: l)
   | some .string, some l => some (2 :: l)
   | _, _ => none
  else none

def eqKinds (P : Program) (T : Nat) : Option (List Nat) :=
 match P.underlying T with
 | some (.struct fs) => if P.stoodInHeld T || P.eqGuardType P.depth T then none else kindsOf P fs.toList 0
 | _ => none

def scalarB (q : Nat) (u v : Value) : Option Bool :=
 match q, u, v with
 | 0, .int k a, .int k' b => if k = k' then some (a == b) else none
 | 1, .bool a, .bool b => some (a == b)
 | 2, .string a, .string b => some (a.toList == b.toList)
 | _, _, _ => none

def eqVals : List Nat → List Value → List Value → Option Bool
 | [], [], [] => some true
 | q :: qs, u :: us, v :: vs => match scalarB q u v, eqVals qs us vs with
  | some b, some r => some (b && r)
  | _, _ => none
 | _, _, _ => none

section
variable {P : Program} {n : Nat} {a : Act} {w : World} {F G : BSet} {es : Env} {ps : List Obj}
variable {d ty : Nat} {pos : String} {af : Array Edge} {gd : Option (Nat × Bool)}

theorem run_part1 {t off : Nat} {xs : Array Value} {v : Value} (ht : ldInfo P t = some (false, 1)) (hx : xs[off]? = some v) : (part t xs off).run P w = .ok v w := by
 simp [part, run_isAgg ht, hx]

theorem run_eqFields {xs ys : List Value} (m : Nat) : ∀ (fs : List Field) (i : Nat) (ks : List Nat) (us vs : List Value) (b : Bool), kindsOf P fs i = some ks → xs.drop i = us → ys.drop i = vs → eqVals ks us vs = some b →
  (Op.eqFields (m + 1) xs.toArray ys.toArray fs).run P w = .ok b w
 | [], i, ks, us, vs, b, hk, hx, hy, hb => by
  cases hk
  cases us <;> cases vs <;> simp [eqVals] at hb
  subst hb; rfl
 | f :: fs, i, ks, us, vs, b, hk, hx, hy, hb => by
  unfold kindsOf at hk
  split at hk
  ·
   rename_i hc
   simp only [Bool.and_eq_true, bne_iff_ne, ne_eq, beq_iff_eq] at hc
   obtain ⟨⟨hn, ho⟩, hl⟩ := hc
   have key : ∀ (q : Nat) (l : List Nat), kindsOf P fs (i + 1) = some l → ks = q :: l → (∀ u v b, scalarB q u v = some b → (Op.equalIn (m + 1) f.type u v).run P w = .ok b w) → (Op.eqFields (m + 1) xs.toArray ys.toArray (f :: fs)).run P w = .ok b w := by
    intro q l h1 h2 h3
    subst h2
    unfold eqVals at hb
    split at hb
    ·
     rename_i h; cases h
    ·
     rename_i q' qs u us v vs e1
     cases e1
     split at hb
     ·
      rename_i b1 r hb1 hr
      cases hb
      have hxi : xs.toArray[f.offset]? = some u := by
       have : (xs.drop i)[0]? = some u := by rw [hx]; rfl
       rw [List.getElem?_drop] at this
       simpa [ho] using this
      have hyi : ys.toArray[f.offset]? = some v := by
       have : (ys.drop i)[0]? = some v := by rw [hy]; rfl
       rw [List.getElem?_drop] at this
       simpa [ho] using this
      have hx' : xs.drop (i + 1) = us := by rw [← List.tail_drop, hx]; rfl
      have hy' : ys.drop (i + 1) = vs := by rw [← List.tail_drop, hy]; rfl
      have ih := run_eqFields m fs (i + 1) _ _ _ r h1 hx' hy' hr
      simp only [Op.eqFields, ne_eq, hn, not_false_eq_true, if_true, Sem.run_bind, run_part1 hl hxi, run_part1 hl hyi, Result.andThen_ok, h3 _ _ _ hb1]
      cases b1
      ·
       simp
      ·
       simpa using ih
     ·
      cases hb
    ·
     cases hb
   split at hk
   ·
    rename_i hu hl'; cases hk
    refine key 0 _ hl' rfl fun u v b hs => ?_
    unfold scalarB at hs
    split at hs
    ·
     split at hs
     ·
      rename_i hkk; subst hkk; cases hs; exact run_equalIn_int (h := hu) ..
     ·
      cases hs
    ·
     rename_i h; cases h
    ·
     rename_i h; cases h
    ·
     cases hs
   ·
    rename_i hu hl'; cases hk
    refine key 1 _ hl' rfl fun u v b hs => ?_
    unfold scalarB at hs
    split at hs
    ·
     rename_i h; cases h
    ·
     cases hs; exact run_equalIn_bool' (h := hu) ..
    ·
     rename_i h; cases h
    ·
     cases hs
   ·
    rename_i hu hl'; cases hk
    refine key 2 _ hl' rfl fun u v b hs => ?_
    unfold scalarB at hs
    split at hs
    ·
     rename_i h; cases h
    ·
     rename_i h; cases h
    ·
     cases hs; exact run_equalIn_string (h := hu) ..
    ·
     cases hs
   ·
    cases hk
  ·
   cases hk

theorem cells_vals {us : List Value} : ∀ {vs : List Value}, Cells w F (us.map C.val) vs → vs = us := by
 induction us with
 | nil => exact fun h => h
 | cons u us ih => rintro _ ⟨v, r, rfl, h1, _, h3⟩; rw [ih h3, show v = u from h1]

theorem run_eqA {T : Nat} {ks : List Nat} {us vs : List Value} {b : Bool} (hk : eqKinds P T = some ks) (hb : eqVals ks us vs = some b) : (Op.equalIn 10000 T (.agg us.toArray) (.agg vs.toArray)).run P w = .ok b w ∧ P.eqGuardType P.depth T = false := by
 unfold eqKinds at hk
 split at hk
 ·
  rename_i fs hu
  split at hk
  ·
   cases hk
  ·
   rename_i hs
   simp only [Bool.or_eq_true, not_or, Bool.not_eq_true] at hs
   have hf : P.fieldsOf T = fs := by simp [Program.fieldsOf, hu]
   refine ⟨?_, hs.2⟩
   rw [run_equalIn_agg w 9999 T us.toArray vs.toArray (by rw [hf]; exact hu) hs.1, hf]
   exact run_eqFields 9998 fs.toList 0 ks us vs b hk rfl rfl hb
 ·
  cases hk

theorem op_eqlA {T u : Nat} {x y : Operand} {cs ds : List C} (us vs : List Value) {b : Bool} {ks : List Nat} (hk : eqKinds P T = some ks) (hx : ev es x = some (.agg cs)) (hy : ev es y = some (.agg ds)) (h1 : cs = us.map C.val) (h2 : ds = vs.map C.val) (hb : eqVals ks us vs = some b) (hn : Nat.blt d n = true) :
  VOp false P n es ps ⟨some d, .binOp .eql T x y u, ty, pos, af, gd⟩ d (.bool b) :=
 VOp.mk rfl hn fun a w F Gp hs ho => ⟨_, fun w2 _ => by
  subst h1 h2
  obtain ⟨us', hu, hcu⟩ := hs.ev hx
  obtain ⟨vs', hv, hcv⟩ := hs.ev hy
  rw [cells_vals hcu] at hu
  rw [cells_vals hcv] at hv
  obtain ⟨h1, h2⟩ := run_eqA (w := w2) hk hb
  simp only [execOp, hu, hv, Sem.run_bind, run_eqGuard_agg w2 .eql T x y _ _ h2, Result.andThen_ok, run_eql_struct, h1, Sem.run_map]
  rfl, rfl⟩
theorem op_nil_im {α : Type} {k : α → List C} {sz T E by' u N K : Nat} {x : Operand} {xs : List α} (hT : slInfo P T = some (E, sz, by')) (hx : ev es x = some (.im k sz xs)) (hn : Nat.blt d n = true) :
  HOp P n ⟨some d, .binOp .eql T x (.const (.slice none N K)) u, ty, pos, af, gd⟩ es [] (fun e' qs => ∃ b : Bool, (b = true → xs = []) ∧ e' = (d, .bool b) :: es ∧ qs = []) :=
 HOp.of rfl hn fun a w F G1 hs ho hft => by
  obtain ⟨A, cap, hv, hc, h⟩ := hs.ev hx
  have hr := Lib.run_eql_slice_nil (P := P) w T E A xs.length cap N K (slInfo_under hT).1
  refine ⟨.bool A.isNone, w, F, G1, .bool A.isNone, [], ?_, rfl, ⟨ho, fun _ h => h, fun b hb => ⟨hft.fin b hb, .inl hb⟩, fun b hb => ⟨(hft.gin b hb).1, (hft.gin b hb).2, .inl hb⟩, Chg.refl _ _⟩, A.isNone, fun hA => ?_, rfl, rfl⟩
  ·
   have hk : a.eval (.const (.slice none N K)) = .slice none N K := rfl
   simp only [execOp, hv, hk, Sem.run_bind]
   simp [eqGuard, hr]
  ·
   cases xs with
   | nil => rfl
   | cons x0 xs =>
    obtain ⟨b, off, vs, h', _⟩ := h 0 x0 rfl
    rw [h'] at hA
    cases hA
end
end Go.Abs
