/- Elements of owned slices; slices and structs written out; make. -/
import Derived.Test.YtnndihmamfomcaaGreatCF
set_option autoImplicit false
set_option linter.unusedVariables false
set_option linter.unusedSimpArgs false
namespace Go.Abs
open Go

section
variable {P : Program} {n : Nat} {X : Ctx} {s : St} {a : Act} {w : World} {F G : BSet} {es : Env} {ps : List Obj} {α : Type} {k : α → List C} {sz : Nat}
variable {d ty : Nat} {pos : String} {af : Array Edge} {gd : Option (Nat × Bool)}

theorem arr_form {E : Nat} {v : Value} {xs : List α} {G1 : BSet} (h : (Obj.arr v E k sz xs).rep w F G1) (hx : xs ≠ []) : ∃ b cap, v = .slice (some ⟨b, 0, none⟩) xs.length cap := by
 obtain ⟨⟨vs, hrow, _⟩, _⟩ := h
 rcases hrow.2 with ⟨_, h0⟩ | ⟨g, cap, cur, rfl, _⟩
 ·
  exact absurd (List.eq_nil_of_length_eq_zero h0) hx
 ·
  exact ⟨g, cap, rfl⟩

theorem AW.learn {c : Code} {K : Exit → St → Prop} {Q : Prop} (h : ∀ a w, Sim n X s a w → Q) (m : Q → AW P n X c s K) : AW P n X c s K := fun a w hs => m (h a w hs) a w hs
theorem Ops.learn {ops : Array Oper} {l : List Oper} {e : Env} {os : List Obj} {K : St → Prop} {Q : Prop} (h : ∀ a w, Sim n X ⟨e, os⟩ a w → Q) (m : Q → Ops P n X ops l e os K) : Ops P n X ops l e os K := fun a w R hs => m (h a w hs) a w R hs
theorem Ops.ghost {ops : Array Oper} {l : List Oper} {e e' : Env} {os os' : List Obj} {K : St → Prop} (g : Ghost n X ⟨e, os⟩ ⟨e', os'⟩) (m : Ops P n X ops l e' os' K) : Ops P n X ops l e os K := fun a w R hs => m a w R (g a w hs)

theorem Sim.arr_one {E p : Nat} {v : Value} {xs : List α} (hp : pick p s.o = some (.arr v E k sz xs)) (a : Act) (w : World) (h : Sim n X s a w) : v.oneCell' = true := by
 obtain ⟨F, G, h⟩ := h
 obtain ⟨G1, ⟨⟨vs, hrow, _⟩, _⟩, _⟩ := h.own.pick hp
 rcases hrow.2 with ⟨rfl, _⟩ | ⟨_, _, _, rfl, _⟩ <;> rfl

theorem op_len_arr {T E sz' by' p E' : Nat} {x : Operand} {v : Value} {xs : List α} (hT : slInfo P T = some (E', sz', by')) (hx : ev es x = some (.val v)) (hp : pick p ps = some (.arr v E k sz xs)) (hn : Nat.blt d n = true) :
  VOp false P n es ps ⟨some d, .call ⟨.builtin .len, #[x], #[T]⟩, ty, pos, af, gd⟩ d (.int xs.length) :=
 VOp.mk rfl hn fun a w F Gp hs ho => by
  obtain ⟨G1, ⟨⟨vs, hrow, _⟩, _⟩, _⟩ := ho.pick hp
  refine ⟨_, fun w2 _ => ?_, rfl⟩
  rcases hrow.2 with ⟨hv, h0⟩ | ⟨g, cap, cur, hv, _⟩
  ·
   simp [execOp, resolve, invoke, builtin, hs.val hx, hv, Builtin.len_, run_underlying (slInfo_under hT).1, goInt, h0]
  ·
   simp [execOp, resolve, invoke, builtin, hs.val hx, hv, Builtin.len_, run_underlying (slInfo_under hT).1, goInt]

def elemPtr (v : Value) (i sz j : Nat) : Value :=
 match v with
 | .slice (some a) _ _ => .pointer (some (a.add (i * sz + j)))
 | _ => undef

theorem elemPtr_eq (b m cap i sz j : Nat) : elemPtr (.slice (some ⟨b, 0, none⟩) m cap) i sz j = .pointer (some ⟨b, i * sz + j, none⟩) := by
 simp [elemPtr, addr_add]

theorem op_indexAddr_arr {T E by' p E' : Nat} {x y : Operand} {v : Value} {xs : List α} {e : α} {i : Int} {q : IntKind} (hT : slInfo P T = some (E, sz, by')) (hx : ev es x = some (.val v)) (hp : pick p ps = some (.arr v E' k sz xs)) (hy : ev es y = some (.val (.int q i)))
  (hi : getI xs i = some e) (hn : Nat.blt d n = true) :
  VOp false P n es ps ⟨some d, .indexAddr T x y, ty, pos, af, gd⟩ d (.val (elemPtr v i.toNat sz 0)) :=
 VOp.mk rfl hn fun a w F Gp hs ho => by
  obtain ⟨h0, h1, h2⟩ := getI_lt hi
  obtain ⟨G1, hrep, _⟩ := ho.pick hp
  obtain ⟨b, cap, rfl⟩ := arr_form hrep (fun e => by rw [e] at h2; simp at h2)
  obtain ⟨hu, inf, hinf, hsz, _⟩ := slInfo_under hT
  refine ⟨_, fun w2 _ => ?_, rfl⟩
  simp only [execOp, hs.val hx, hs.val hy, elemPtr_eq]
  simp [Instr.indexAt, asIntOf, run_underlying hu, h0, h1, run_sizeOf' hinf, hsz, addr_add]

theorem arr_cells {E : Nat} {b m cap i : Nat} {xs : List α} {e : α} {G1 : BSet} (h : (Obj.arr (.slice (some ⟨b, 0, none⟩) m cap) E k sz xs).rep w F G1) (hi : xs[i]? = some e) : ∃ us, us.length = sz ∧ Cells w F (k e) us ∧ CellsAt w b (i * sz) us := by
 obtain ⟨⟨vs, hrow, hf⟩, _⟩ := h
 obtain ⟨us, hl, hc, hus⟩ := hf.get hi
 refine ⟨us, hl, hc, fun j u hu => ?_⟩
 have := hrow.cells (g := b) rfl _ u (hus j u hu)
 rwa [addr_add, Nat.zero_add] at this

theorem op_load_arr {T M p E i j : Nat} {x : Operand} {v : Value} {xs : List α} {e : α} {c : C} (hl : ldInfo P T = some (false, M)) (hx : ev es x = some (.val (elemPtr v i sz j)))
  (hp : pick p ps = some (.arr v E k sz xs)) (hi : xs[i]? = some e) (hc : (k e)[j]? = some c) (hn : Nat.blt d n = true) :
  VOp true P n es ps ⟨some d, .load T x, ty, pos, af, gd⟩ d (c) :=
 VOp.mk rfl hn fun a w F Gp hs ho => by
  obtain ⟨G1, hrep, hsub⟩ := ho.pick hp
  obtain ⟨b, cap, rfl⟩ := arr_form hrep (fun e => by rw [e] at hi; simp at hi)
  obtain ⟨us, _, hcl, hat⟩ := arr_cells hrep hi
  obtain ⟨v, hv, hr, _⟩ := hcl.get hc
  refine ⟨v, fun w2 hw => ?_, hr⟩
  simp only [execOp, hs.val hx, elemPtr_eq]
  simp [Instr.loadAt, Instr.sureAddr, run_loadVar1 hl ((hat.mono (hw rfl b (.inr (hsub b ((hrep.2 b).2 rfl))))) j v hv)]

theorem op_loadA_arr {T M p E i j : Nat} {x : Operand} {v : Value} {xs : List α} {e : α} {ds : List C} (hl : ldInfo P T = some (true, M)) (hx : ev es x = some (.val (elemPtr v i sz j)))
  (hp : pick p ps = some (.arr v E k sz xs)) (hi : xs[i]? = some e) (hd : ((k e).drop j).take M = ds) (hm : Nat.ble (j + M) (k e).length = true) (hn : Nat.blt d n = true) :
  VOp true P n es ps ⟨some d, .load T x, ty, pos, af, gd⟩ d (.agg ds) :=
 VOp.mk rfl hn fun a w F Gp hs ho => by
  obtain ⟨G1, hrep, hsub⟩ := ho.pick hp
  obtain ⟨b, cap, rfl⟩ := arr_form hrep (fun e => by rw [e] at hi; simp at hi)
  obtain ⟨us, _, hcl, hat⟩ := arr_cells hrep hi
  have hlen : ((us.drop j).take M).length = M := by rw [List.length_take, List.length_drop, hcl.length]; have := Nat.le_of_ble_eq_true hm; omega
  refine ⟨_, fun w2 hw => ?_, (us.drop j).take M, rfl, hd ▸ (hcl.drop j).take M⟩
  simp only [execOp, hs.val hx, elemPtr_eq]
  simp [Instr.loadAt, Instr.sureAddr, run_loadVarA hl hlen (((hat.mono (hw rfl b (.inr (hsub b ((hrep.2 b).2 rfl))))).drop j).take M)]

theorem arr_store_turn {E b m cap i j : Nat} {xs : List α} {e e' : α} {G1 : BSet} {us : List Value} {ds : List C} (hft : Fit w F G1) (hrep : (Obj.arr (.slice (some ⟨b, 0, none⟩) m cap) E k sz xs).rep w F G1) (hi : xs[i]? = some e)
  (hds : Cells w F ds us) (hjm : j + us.length ≤ (k e).length) (he : (k e).take j ++ ds ++ (k e).drop (j + ds.length) = k e') :
  ∃ w', (storeCells ⟨b, i * sz + j, none⟩ us).run P w = .ok () w' ∧ Turn w F G1 w' F G1 [.arr (.slice (some ⟨b, 0, none⟩) m cap) E k sz (xs.set i e')] := by
 obtain ⟨⟨vs, ⟨hvl, hrow⟩, hf⟩, hG⟩ := hrep
 rcases hrow with ⟨h, _⟩ | ⟨g, cap', cur, hv, _, hg, hnc, hcm, hcs, htake⟩
 ·
  cases h
 ·
  cases hv
  obtain ⟨old, hol, hoc, hog⟩ := hf.get hi
  have hG' : ∀ b', G1 b' ↔ b' = b := fun b' => by rw [hG b']; simp [Value.ownBlock]; exact eq_comm
  have hin : i < xs.length := (List.getElem?_eq_some_iff.1 hi).1
  have hkl : (k e).length = sz := by rw [← hoc.length, hol]
  have hbound : i * sz + sz ≤ xs.length * sz := by rw [← Nat.succ_mul]; exact Nat.mul_le_mul_right _ hin
  have hcl : xs.length * sz ≤ cur.size := by rw [hcs]; exact Nat.mul_le_mul_right _ hnc
  have hg' : w.heap[b]? = some (.cells cur.toList.toArray E (0, 0)) := by simpa using hg
  have hst := run_storeCells_row (P := P) (off := i * sz + j) (vs := us) hg' (by simp only [Array.length_toList]; omega) hds.one
  refine ⟨_, hst, ?_⟩
  have hother : ∀ c, c ≠ b → (w.setRow b (cur.toList.take (i * sz + j) ++ us ++ cur.toList.drop (i * sz + j + us.length)).toArray).heap[c]? = w.heap[c]? := fun c hc => setRow_other w b c _ hc
  have hFb : ∀ c, F c → F c ∧ (w.setRow b (cur.toList.take (i * sz + j) ++ us ++ cur.toList.drop (i * sz + j + us.length)).toArray).heap[c]? = w.heap[c]? := fun c hc => ⟨hc, hother c fun e => (hft.gin b ((hG' b).2 rfl)).2 (e ▸ hc)⟩
  refine ⟨Own.of_one ⟨⟨vs.take (i * sz) ++ (old.take j ++ us ++ old.drop (j + us.length)) ++ vs.drop (i * sz + sz), ⟨?_, .inr ⟨b, cap, _, by rw [List.length_set], Nat.zero_le _, setRow_heap w b _ _ E (0, 0) hg, ?_, hcm, ?_, ?_⟩⟩, ?_⟩, hG⟩, fun _ h => h, fun c hc => ⟨by simpa using hft.fin c hc, .inl hc⟩,
   fun c hc => ⟨by simpa using (hft.gin c hc).1, (hft.gin c hc).2, .inl hc⟩, ⟨rfl, rfl, rfl, by simp, (by first | exact Nat.le_refl _ | exact Nat.le_succ _), fun c _ hc => hother c fun e => hc ((hG' c).2 e)⟩⟩
  ·
   simp only [List.length_append, List.length_take, List.length_drop, List.length_set]
   have := hf.length
   omega
  ·
   rw [List.length_set]; exact hnc
  ·
   simp only [List.size_toArray, List.length_append, List.length_take, List.length_drop, Array.length_toList, ← hcs]
   omega
  ·
   simp only [List.length_set]
   have hvs := hf.length
   apply List.ext_getElem?
   intro t
   have hold : ∀ t, t < sz → old[t]? = vs[i * sz + t]? := fun t ht => by
    rw [hog t _ (List.getElem?_eq_getElem (by omega))]
    exact List.getElem?_eq_getElem (by omega)
   have hcur : ∀ t, t < xs.length * sz → cur.toList[t]? = vs[t]? := fun t ht => by rw [← htake, List.getElem?_take_of_lt ht]
   by_cases ht : t < xs.length * sz
   ·
    rw [List.getElem?_take_of_lt ht]
    simp only [List.getElem?_append, List.length_append, List.length_take, List.length_drop, Array.length_toList, List.getElem?_take, List.getElem?_drop]
    by_cases h1 : t < i * sz
    ·
     rw [if_pos (by omega), if_pos (by omega), if_pos (by omega), if_pos (by omega), if_pos (by omega), if_pos h1]
     exact hcur t ht
    ·
     by_cases h2 : t < i * sz + j
     ·
      rw [if_pos (by omega), if_pos (by omega), if_pos (by omega), if_pos (by omega), if_neg (by omega), if_pos (by omega), if_pos (by omega), if_pos (by omega)]
      rw [hcur t ht, show min (i * sz) vs.length = i * sz from by omega, hold _ (by omega)]
      congr 1
      omega
     ·
      by_cases h3 : t < i * sz + j + us.length
      ·
       rw [if_pos (by omega), if_neg (by omega), if_pos (by omega), if_neg (by omega), if_pos (by omega), if_neg (by omega)]
       congr 1
       omega
      ·
       by_cases h4 : t < i * sz + sz
       ·
        rw [if_neg (by omega), if_pos (by omega), if_neg (by omega), if_neg (by omega)]
        rw [hcur _ (by omega), hold _ (by omega)]
        congr 1
        omega
       ·
        rw [if_neg (by omega), if_neg (by omega)]
        rw [hcur _ (by omega)]
        congr 1
        omega
   ·
    rw [List.getElem?_eq_none (by simp only [List.length_take, List.length_append, List.length_drop, Array.length_toList]; omega), List.getElem?_eq_none (by simp only [List.length_append, List.length_take, List.length_drop]; omega)]
  ·
   refine (hf.mono hFb).set hi ?_ ?_
   ·
    simp only [List.length_append, List.length_take, List.length_drop]
    omega
   ·
    rw [← he]
    exact ((hoc.set hds (by rw [← hds.length]; omega)).mono hFb)

theorem op_store_arr {T E i j : Nat} {x y : Operand} {v : Value} {xs : List α} {e e' : α} {c : C} (hl : ldInfo P T = some (false, 1)) (hx : ev es x = some (.val (elemPtr v i sz j))) (hy : ev es y = some c) (h1 : One c)
  (hi : xs[i]? = some e) (hj : Nat.blt j (k e).length = true) (he : (k e).take j ++ [c] ++ (k e).drop (j + 1) = k e') :
  HOp P n ⟨none, .store T x y, ty, pos, af, gd⟩ es [.arr v E k sz xs] (fun f qs => f = es ∧ qs = [.arr v E k sz (xs.set i e')]) :=
 HOp.of0 rfl fun a w F G1 hs hown hft => by
  have hrep := hown.only
  obtain ⟨b, cap, rfl⟩ := arr_form hrep (fun e => by rw [e] at hi; simp at hi)
  have hv := hs.ev hy
  obtain ⟨w', hr, ht⟩ := arr_store_turn (P := P) (us := [a.eval y]) (ds := [c]) (e' := e') hft hrep hi (cells_one h1 hv) (blt_lt hj) he
  refine ⟨w', F, G1, _, ?_, ht, rfl, rfl⟩
  simp only [execOp, hs.val hx, elemPtr_eq]
  simp [Instr.storeAt, Instr.sureAddr, storeVar, run_sizeOf hl, cells_of_one (h1 _ _ _ hv), hr]

theorem op_storeA_arr {T M E i j : Nat} {x y : Operand} {v : Value} {xs : List α} {e e' : α} {ds : List C} (hl : ldInfo P T = some (true, M)) (hx : ev es x = some (.val (elemPtr v i sz j))) (hy : ev es y = some (.agg ds)) (hdm : Nat.beq ds.length M = true)
  (hi : xs[i]? = some e) (hj : Nat.ble (j + ds.length) (k e).length = true) (he : (k e).take j ++ ds ++ (k e).drop (j + ds.length) = k e') :
  HOp P n ⟨none, .store T x y, ty, pos, af, gd⟩ es [.arr v E k sz xs] (fun f qs => f = es ∧ qs = [.arr v E k sz (xs.set i e')]) :=
 HOp.of0 rfl fun a w F G1 hs hown hft => by
  have hrep := hown.only
  obtain ⟨b, cap, rfl⟩ := arr_form hrep (fun e => by rw [e] at hi; simp at hi)
  obtain ⟨us, hv, hds⟩ := hs.ev hy
  have hum : us.length = M := by rw [hds.length]; exact Nat.eq_of_beq_eq_true hdm
  obtain ⟨w', hr, ht⟩ := arr_store_turn (P := P) (us := us) (ds := ds) (e' := e') hft hrep hi hds (by rw [hds.length]; exact Nat.le_of_ble_eq_true hj) he
  refine ⟨w', F, G1, _, ?_, ht, rfl, rfl⟩
  simp only [execOp, hs.val hx, hv, elemPtr_eq]
  simp [Instr.storeAt, Instr.sureAddr, storeVar, run_sizeOf hl, Value.cells, hum, hr]
end
end Go.Abs
