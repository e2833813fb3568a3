/- Structs and slices written out; make. -/
import Derived.Test.YtnndihmamfomcaaGreatCG
set_option autoImplicit false
set_option linter.unusedVariables false
set_option linter.unusedSimpArgs false
namespace Go.Abs
open Go

def places (P : Program) (T : Nat) : Option (List (Nat × Nat)) :=
 match P.underlying T with
 | some (.struct fields) => fields.toList.mapM fun f => (P.info? f.type).map fun i => (f.offset, i.size)
 | _ => none

section
variable {P : Program} {n : Nat} {a : Act} {w : World} {F G : BSet} {es : Env} {os : List Obj}
variable {d ty : Nat} {pos : String} {af : Array Edge} {gd : Option (Nat × Bool)}

theorem foldl_splice (off : Nat) : ∀ (us cs : List Value) (i : Nat), off + i + us.length ≤ cs.length →
  ((us.zipIdx i).foldl (fun (cs : Array Value) (x : Value × Nat) => cs.setIfInBounds (off + x.2) x.1) cs.toArray) = (cs.take (off + i) ++ us ++ cs.drop (off + i + us.length)).toArray
 | [], cs, i, _ => by simp
 | u :: us, cs, i, h => by
  simp only [List.length_cons] at h
  simp only [List.zipIdx_cons, List.foldl_cons, List.setIfInBounds_toArray]
  rw [foldl_splice off us (cs.set (off + i) u) (i + 1) (by simp; omega)]
  congr 1
  apply List.ext_getElem?
  intro t
  simp only [List.getElem?_append, List.length_append, List.length_take, List.getElem?_take, List.getElem?_drop, List.getElem?_set, List.length_set, List.length_cons]
  by_cases h1 : t < off + i
  ·
   rw [if_pos (by omega), if_pos (by omega), if_pos (by omega), if_neg (by omega), if_pos (by omega), if_pos (by omega), if_pos h1]
  ·
   by_cases h2 : t = off + i
   ·
    subst h2
    rw [if_pos (by omega), if_pos (by omega), if_pos (by omega), if_pos rfl, if_pos (by omega), if_pos (by omega), if_neg (by omega)]
    rw [show off + i - min (off + i) cs.length = 0 from by omega]
    rfl
   ·
    by_cases h3 : t < off + i + 1 + us.length
    ·
     rw [if_pos (by omega), if_neg (by omega), if_pos (by omega), if_neg (by omega)]
     rw [show t - min (off + i) cs.length = (t - min (off + (i + 1)) cs.length) + 1 from by omega, List.getElem?_cons_succ]
    ·
     rw [if_neg (by omega), if_neg (by omega), if_neg (by omega)]
     congr 1
     omega

theorem fill_step {place : Nat → Option (Nat × Nat)} {cs us : List Value} {i off : Nat} {v : Value} {rest : List (Nat × Value)} (hp : place i = some (off, us.length)) (hv : v.cells = us.toArray) (hl : off + us.length ≤ cs.length) :
  Instr.fill place cs.toArray ((i, v) :: rest) = Instr.fill place (cs.take off ++ us ++ cs.drop (off + us.length)).toArray rest := by
 rw [Instr.fill, hp]
 simp only [hv, List.size_toArray]
 rw [if_neg (by simp; omega)]
 congr 1
 have := foldl_splice off us cs 0 (by simpa using hl)
 simp only [Nat.add_zero] at this
 rw [← this, ← Array.foldl_toList, Array.toList_zipIdx]

inductive Bld (e : Env) (place : Nat → Option (Nat × Nat)) : List C → List (Nat × Operand) → List C → Prop
 | nil {cs : List C} : Bld e place cs [] cs
 | one {cs ds : List C} {i off : Nat} {x : Operand} {c : C} {r : List (Nat × Operand)} (hx : ev e x = some c) (h1 : One c) (hp : place i = some (off, 1)) (hl : Nat.blt off cs.length = true) (k : Bld e place (cs.take off ++ [c] ++ cs.drop (off + 1)) r ds) : Bld e place cs ((i, x) :: r) ds
 | agg {cs es ds : List C} {i off : Nat} {x : Operand} {r : List (Nat × Operand)} (hx : ev e x = some (.agg es)) (hp : place i = some (off, es.length)) (hl : Nat.ble (off + es.length) cs.length = true) (k : Bld e place (cs.take off ++ es ++ cs.drop (off + es.length)) r ds) : Bld e place cs ((i, x) :: r) ds

theorem Bld.run {place : Nat → Option (Nat × Nat)} (hs : EnvRep w F es a) : ∀ {cs ds : List C} {ps : List (Nat × Operand)}, Bld es place cs ps ds → ∀ {vs : List Value}, Cells w F cs vs →
  ∃ us, Instr.fill place vs.toArray (ps.map fun p => (p.1, a.eval p.2)) = some us.toArray ∧ Cells w F ds us := by
 intro cs ds ps h
 induction h with
 | nil => exact fun {vs} hv => ⟨vs, rfl, hv⟩
 | @one cs ds i off x c r hx h1 hp hl _ ih =>
  intro vs hv
  have hc := hs.ev hx
  have hlt := blt_lt hl
  obtain ⟨us, h2, h3⟩ := ih (hv.set (cells_one h1 hc) (show off + 1 ≤ cs.length from hlt))
  refine ⟨us, ?_, h3⟩
  rw [List.map_cons, fill_step (us := [a.eval x]) hp (cells_of_one (h1 _ _ _ hc)) (by rw [hv.length]; exact hlt)]
  exact h2
 | @agg cs es ds i off x r hx hp hl _ ih =>
  intro vs hv
  obtain ⟨us', hv', hc⟩ := hs.ev hx
  have hle := Nat.le_of_ble_eq_true hl
  obtain ⟨us, h2, h3⟩ := ih (hv.set hc hle)
  refine ⟨us, ?_, h3⟩
  rw [List.map_cons, fill_step (us := us') (by rw [hc.length]; exact hp) (by rw [hv']; rfl) (by rw [hv.length, hc.length]; exact hle)]
  exact h2

theorem run_mapM_places {T : Nat} {ps : List (Nat × Nat)} {fields : Array Field} (hu : P.underlying T = some (.struct fields)) (hp : places P T = some ps) :
  (fields.mapM fun f => (do pure (f.offset, ← sizeOf f.type) : Sem (Nat × Nat))).run P w = .ok ps.toArray w := by
 unfold places at hp
 rw [hu] at hp
 simp only at hp
 obtain ⟨l⟩ := fields
 rw [List.mapM_toArray]
 simp only [Sem.run_map]
 have H : ∀ (l : List Field) (ps : List (Nat × Nat)), (l.mapM fun f => (P.info? f.type).map fun i => (f.offset, i.size)) = some ps → (l.mapM fun f => (do pure (f.offset, ← sizeOf f.type) : Sem (Nat × Nat))).run P w = .ok ps w := by
  intro l
  induction l with
  | nil => intro ps h; simp at h; subst h; simp
  | cons f l ih =>
   intro ps h
   simp only [List.mapM_cons, Option.bind_eq_bind, Option.bind_eq_some_iff, Option.map_eq_some_iff, Option.pure_def, Option.some.injEq] at h
   obtain ⟨p, ⟨i, hi, rfl⟩, qs, hqs, rfl⟩ := h
   simp only [List.mapM_cons, Sem.run_bind, run_sizeOf' hi, Result.andThen_ok, Sem.run_pure, ih _ hqs]
 rw [H l ps hp]
 rfl

theorem op_build {T : Nat} {parts : List (Nat × Operand)} {ps : List (Nat × Nat)} {zs : List Value} {cs ds : List C} (hp : places P T = some ps) (hz : zeroOf P T = some zs) (hc : ∀ w F, Cells w F cs zs) (hb : Bld es (fun i => ps[i]?) cs parts ds) (hn : Nat.blt d n = true) :
  VOp false P n es os ⟨some d, .build T parts.toArray, ty, pos, af, gd⟩ d (.agg ds) :=
 VOp.mk rfl hn fun a w F Gp hs ho => by
  obtain ⟨us, hf, hds⟩ := hb.run hs (hc w F)
  refine ⟨.agg us.toArray, fun w2 _ => ?_, us, rfl, hds⟩
  have hu : ∃ fields, P.underlying T = some (.struct fields) := by
   unfold places at hp
   split at hp
   ·
    exact ⟨_, by assumption⟩
   ·
    cases hp
  obtain ⟨fields, hu⟩ := hu
  unfold zeroOf at hz
  split at hz
  ·
   rename_i i hi
   simp only [Option.map_eq_some_iff] at hz
   obtain ⟨z, hz1, hz2⟩ := hz
   have hzc : z.cells = zs.toArray := by rw [← hz2]
   have hpl := run_mapM_places (w := w2) hu hp
   have hf' : Instr.fill (fun i => ps.toArray[i]?) zs.toArray (parts.map fun p => (p.1, a.eval p.2)) = some us.toArray := by
    rw [← hf]; congr 1; funext i; simp
   simp only [execOp, Instr.build, zeroValue, typeInfo, Sem.run_bind, run_program, Result.andThen_ok, hi, Sem.run_pure, hz1, run_underlying hu, hpl, hzc, List.map_toArray, hf']
  ·
   cases hz

variable {α : Type} {k : α → List C} {sz : Nat}

inductive Parts (e : Env) (k : α → List C) (sz : Nat) : Nat → List (Nat × Operand) → List α → Prop
 | nil {i : Nat} : Parts e k sz i [] []
 | one {i : Nat} {x : Operand} {c : C} {r : List (Nat × Operand)} {y : α} {ys : List α} (hx : ev e x = some c) (h1 : One c) (hk : k y = [c]) (hz : sz = 1) (m : Parts e k sz (i + 1) r ys) : Parts e k sz i ((i, x) :: r) (y :: ys)
 | agg {i : Nat} {x : Operand} {r : List (Nat × Operand)} {y : α} {ys : List α} (hx : ev e x = some (.agg (k y))) (hz : Nat.beq (k y).length sz = true) (m : Parts e k sz (i + 1) r ys) : Parts e k sz i ((i, x) :: r) (y :: ys)

theorem Parts.run (hs : EnvRep w F es a) : ∀ {i : Nat} {ps : List (Nat × Operand)} {ys : List α}, Parts es k sz i ps ys → ∀ (pre rest : List Value), pre.length = i * sz → rest.length = ys.length * sz →
  ∃ us, Instr.fill (fun i => some (i * sz, sz)) (pre ++ rest).toArray (ps.map fun p => (p.1, a.eval p.2)) = some (pre ++ us).toArray ∧ Flat w F k sz ys us := by
 intro i ps ys h
 induction h with
 | nil => intro pre rest _ hr; exact ⟨[], by rw [show rest = [] from List.eq_nil_of_length_eq_zero (by simpa using hr)]; rfl, rfl⟩
 | @one i x c r y ys hx h1 hk hz _ ih =>
  intro pre rest hp hr
  subst hz
  have hc := hs.ev hx
  obtain ⟨us, h2, h3⟩ := ih (pre ++ [a.eval x]) (rest.drop 1) (by simp [hp]) (by simp at hr ⊢; omega)
  refine ⟨a.eval x :: us, ?_, [a.eval x], us, rfl, rfl, hk ▸ cells_one h1 hc, h3⟩
  rw [List.map_cons, fill_step (us := [a.eval x]) (off := i * 1) rfl (cells_of_one (h1 _ _ _ hc)) (by simp at hr hp ⊢; omega)]
  rw [show (pre ++ rest).take (i * 1) = pre from by rw [← hp]; exact List.take_left, show (pre ++ rest).drop (i * 1 + [a.eval x].length) = rest.drop 1 from by rw [← hp]; simp]
  rw [h2]; simp
 | @agg i x r y ys hx hz _ ih =>
  intro pre rest hp hr
  have hz := Nat.eq_of_beq_eq_true hz
  obtain ⟨vs, hv, hc⟩ := hs.ev hx
  have hvl : vs.length = sz := by rw [hc.length, hz]
  have hle : sz ≤ rest.length := by rw [hr, List.length_cons, Nat.add_mul, Nat.one_mul]; exact Nat.le_add_left _ _
  obtain ⟨us, h2, h3⟩ := ih (pre ++ vs) (rest.drop sz) (by rw [List.length_append, hp, hvl, Nat.add_mul, Nat.one_mul]) (by rw [List.length_drop, hr, List.length_cons, Nat.add_mul, Nat.one_mul]; omega)
  refine ⟨vs ++ us, ?_, vs, us, rfl, hvl, hc, h3⟩
  rw [List.map_cons, fill_step (us := vs) (off := i * sz) (by rw [hvl]) (by rw [hv]; rfl) (by rw [List.length_append, hp, hvl]; omega)]
  rw [show (pre ++ rest).take (i * sz) = pre from by rw [← hp]; exact List.take_left, show (pre ++ rest).drop (i * sz + vs.length) = rest.drop sz from by rw [← hp, hvl]; simp]
  rw [h2]; simp

theorem Parts.length {e : Env} {i : Nat} {ps : List (Nat × Operand)} {ys : List α} (h : Parts e k sz i ps ys) : ys.length = ps.length := by
 induction h with
 | nil => rfl
 | one _ _ _ _ _ ih => simp [ih]
 | agg _ _ _ ih => simp [ih]

theorem op_buildSlice {T E by' : Nat} {ps : List (Nat × Operand)} {ys : List α} {m : Nat} (hT : arInfo P T = some (E, sz, by')) (hp : Parts es k sz 0 ps ys) (hm : Nat.beq m ps.length = true) (hb : Nat.ble (m * sz) 16777216 = true) (hn : Nat.blt d n = true) :
  HOp P n ⟨some d, .buildSlice T m ps.toArray, ty, pos, af, gd⟩ es [] (fun e' qs => ∃ b, e' = (d, .val (.slice (some ⟨b, 0, none⟩) m m)) :: es ∧ qs = [.arr (.slice (some ⟨b, 0, none⟩) m m) E k sz ys]) :=
 HOp.of rfl hn fun a w F G1 hs hG hft => by
  have hG1 : G1 = fun _ => False := funext fun b => eq_false (hG b)
  subst hG1
  obtain rfl := Nat.eq_of_beq_eq_true hm
  have hb := Nat.le_of_ble_eq_true hb
  obtain ⟨hu, i, z, hi, hsz, hby, hz, hzs, hpos⟩ := arInfo_under hT
  obtain ⟨us, hf, hfl⟩ := hp.run hs [] ((Array.range (ps.length * sz)).map ((if ps.length * i.size = 0 then #[] else z.cells)[· % (if ps.length * i.size = 0 then (#[] : Array Value) else z.cells).size]!)).toList (by simp) (by simp [hp.length])
  refine ⟨.slice (some ⟨w.heap.size, 0, none⟩) ps.length ps.length, w.alloc (.cells us.toArray E), F, _, _, _, ?_, rfl, Turn.new hft.fin (.arr (.slice (some ⟨w.heap.size, 0, none⟩) ps.length ps.length) E k sz ys) _ ⟨⟨us, ⟨hfl.length, .inr ⟨w.heap.size, ps.length, us.toArray, by rw [hp.length], Nat.zero_le _, heap_alloc_new w _, by rw [hp.length]; exact Nat.le_refl _, ?_, ?_, ?_⟩⟩, hfl.mono (frozen_alloc hft.fin _)⟩, fun b => by simp [Value.ownBlock]; exact eq_comm⟩, _, rfl, rfl⟩
  ·
   simp only [List.nil_append, Array.toArray_toList] at hf
   have hfit : ¬ ps.length * sz > 2 ^ 24 := by omega
   by_cases h0 : ps.length * sz = 0
   ·
    simp only [hsz, h0, if_true] at hf
    have hf2 : Instr.fill (fun i => some (i * sz, sz)) (Array.map (fun _ => (default : Value)) (Array.range 0)) (ps.map fun x => (x.1, a.eval x.2)) = some us.toArray := by
     rw [← hf]
     congr 1
    simp [execOp, Instr.buildSlice, run_underlying hu, run_sizeOf' hi, hsz, h0, hf2, newRow]
   ·
    simp only [hsz, h0, if_false] at hf
    simp [execOp, Instr.buildSlice, run_underlying hu, run_sizeOf' hi, hsz, h0, hfit, zeroValue, typeInfo, hi, hz, hf, newRow]
  ·
   have : ps.length ≤ ps.length * sz := Nat.le_mul_of_pos_right _ hpos
   simp only [maxLen]; omega
  ·
   rw [List.size_toArray, hfl.length, hp.length]
  ·
   rw [← hfl.length]; simp

theorem madeCells_flat {z : List Value} {x : α} (hz : z.length = sz) (hpos : 0 < sz) (hx : Cells w F (k x) z) : ∀ m, Flat w F k sz (List.replicate m x) (madeCells z.toArray (m * sz)).toList := by
 have hmade : ∀ m, (madeCells z.toArray (m * sz)).toList = (List.replicate m z).flatten := by
  intro m
  apply List.ext_getElem?
  intro t
  induction m generalizing t with
  | zero => simp [madeCells]
  | succ m ih =>
   rw [List.replicate_succ, List.flatten_cons]
   by_cases ht : t < (m + 1) * sz
   ·
    have hl : (madeCells z.toArray ((m + 1) * sz)).toList[t]? = some z[t % sz]! := by
     simp [madeCells, ht, hz]
    rw [hl]
    by_cases h1 : t < sz
    ·
     rw [List.getElem?_append_left (by omega), Nat.mod_eq_of_lt h1, getElem!_pos z t (by omega)]
     simp [hz, h1]
    ·
     rw [List.getElem?_append_right (by omega), ← ih, hz]
     have : (t - sz) % sz = t % sz := by rw [← Nat.mod_eq_sub_mod (by omega)]
     have h2 : t - sz < m * sz := by rw [Nat.add_mul, Nat.one_mul] at ht; omega
     simp [madeCells, h2, hz, this]
   ·
    rw [List.getElem?_eq_none (by simp [size_madeCells]; omega), List.getElem?_eq_none]
    simp [hz]
    rw [Nat.add_mul, Nat.one_mul] at ht
    omega
 intro m
 rw [hmade]
 induction m with
 | zero => rfl
 | succ m ih => exact ⟨z, _, by rw [List.replicate_succ, List.flatten_cons], hz, hx, ih⟩

theorem op_makeSlice {T E by' : Nat} {x y : Operand} {i : Int} {q q' : IntKind} {z : α} {zs : List Value} (hT : arInfo P T = some (E, sz, by')) (hz : zeroOf P E = some zs) (hk : ∀ w F, Cells w F (k z) zs) (hx : ev es x = some (.val (.int q i))) (hy : ev es y = some (.val (.int q' i))) (h0 : 0 ≤ i) (hb : i * by' ≤ 140737488355328) (h63 : i ≤ 9223372036854775807) (hn : Nat.blt d n = true) :
  HOp P n ⟨some d, .makeSlice T x y, ty, pos, af, gd⟩ es [] (fun e' qs => ∃ b, e' = (d, .val (.slice (some ⟨b, 0, none⟩) i.toNat i.toNat)) :: es ∧ qs = [.arr (.slice (some ⟨b, 0, none⟩) i.toNat i.toNat) E k sz (List.replicate i.toNat z)]) :=
 HOp.of rfl hn fun a w F G1 hs hG hft => by
  have hG1 : G1 = fun _ => False := funext fun b => eq_false (hG b)
  subst hG1
  obtain ⟨m, rfl⟩ := Int.eq_ofNat_of_zero_le h0
  simp only [Int.toNat_natCast]
  obtain ⟨hu, inf, zv, hi, hsz, hby, hzv, hzs, hpos⟩ := arInfo_under hT
  have hzc : zv.cells.toList = zs := by
   unfold zeroOf at hz
   rw [hi] at hz
   simpa [hzv] using hz
  have hzl : zs.length = sz := by rw [← hzc]; simpa using hzs
  have hr := run_make (P := P) w T E inf zv hu hi hzv q q' (m : Int) (m : Int) (by omega) (by omega) (by rw [hby, Int.mul_comm]; omega) h63
  have hfl : Flat w F k sz (List.replicate m z) (madeCells zs.toArray (m * sz)).toList := madeCells_flat hzl hpos (hk w F) m
  refine ⟨.slice (some ⟨w.heap.size, 0, none⟩) m m, w.alloc (.cells (madeCells zs.toArray (m * sz)) E), F, _, _, _, ?_, rfl, Turn.new hft.fin (.arr (.slice (some ⟨w.heap.size, 0, none⟩) m m) E k sz (List.replicate m z)) _ ⟨⟨_, ⟨hfl.length, .inr ⟨w.heap.size, m, _, by simp, Nat.zero_le _, heap_alloc_new w _, by simp, ?_, ?_, ?_⟩⟩, hfl.mono (frozen_alloc hft.fin _)⟩, fun b => by simp [Value.ownBlock]; exact eq_comm⟩, _, rfl, rfl⟩
  ·
   simp only [execOp, hs.val hx, hs.val hy, Sem.run_bind, hr, Result.andThen_ok, Sem.run_pure, Int.toNat_natCast, hsz]
   rw [show zv.cells = zs.toArray from by rw [← hzc]]
  ·
   simp only [maxLen]; omega
  ·
   simp [size_madeCells]
  ·
   rw [List.length_replicate, List.take_of_length_le (by simp [size_madeCells])]
end
end Go.Abs
