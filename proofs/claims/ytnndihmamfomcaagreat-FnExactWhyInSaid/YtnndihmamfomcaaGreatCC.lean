/- Rules of operations on structs in memory: addresses of fields, loads, stores, new variables. -/
import Derived.Test.YtnndihmamfomcaaGreatCB
set_option autoImplicit false
set_option linter.unusedVariables false
set_option linter.unusedSimpArgs false
namespace Go.Abs
open Go

def fieldOff (P : Program) (T j : Nat) : Option Nat :=
 match P.underlying T with
 | some (.struct fields) => match fields[j]? with
  | some f => match P.info? f.type with
   | some i => if i.size = 0 then none else some f.offset
   | none => none
  | none => none
 | _ => none

def ldInfo (P : Program) (T : Nat) : Option (Bool × Nat) :=
 match P.underlying T with
 | none => none
 | some d => match P.info? T with
  | none => none
  | some i => some (match d with | .struct _ => true | .array _ _ => true | _ => false, i.size)

def zeroOf (P : Program) (T : Nat) : Option (List Value) :=
 match P.info? T with
 | some i => i.zero.map fun z => z.cells.toList
 | none => none

theorem addr_add (b off k : Nat) : (⟨b, off, none⟩ : Addr).add k = ⟨b, off + k, none⟩ := by
 unfold Addr.add
 split
 ·
  rename_i h; rw [h]; rfl
 ·
  rfl

section
variable {P : Program} {n : Nat} {a : Act} {w : World} {F G : BSet} {es : Env} {ps : List Obj}
variable {d ty : Nat} {pos : String} {af : Array Edge} {gd : Option (Nat × Bool)}

theorem run_fieldAt {T j fo b off : Nat} (hf : fieldOff P T j = some fo) : (Instr.fieldAt T (.pointer (some ⟨b, off, none⟩)) j).run P w = .ok (.pointer (some ⟨b, off + fo, none⟩)) w := by
 unfold fieldOff at hf
 split at hf
 ·
  rename_i fields hu
  split at hf
  ·
   rename_i f hfi
   split at hf
   ·
    rename_i i hi
    split at hf
    ·
     cases hf
    ·
     rename_i hz
     cases hf
     simp [Instr.fieldAt, run_underlying hu, hfi, Instr.sureAddr, fieldPlace, sizeOf, typeInfo, hi, hz, addr_add]
   ·
    cases hf
  ·
   cases hf
 ·
  cases hf

theorem op_fieldAddr {T j fo b off : Nat} {x : Operand} (hf : fieldOff P T j = some fo) (hx : ev es x = some (.val (.pointer (some ⟨b, off, none⟩)))) (hn : Nat.blt d n = true) :
  VOp false P n es ps ⟨some d, .fieldAddr T x j, ty, pos, af, gd⟩ d (.val (.pointer (some ⟨b, off + fo, none⟩))) :=
 VOp.mk rfl hn fun a w F Gp hs ho => ⟨_, fun w2 _ => by simp only [execOp, hs.val hx]; simp [run_fieldAt hf], rfl⟩

theorem op_fieldAddr_ip {T j fo : Nat} {x : Operand} {cs ds : List C} (hf : fieldOff P T j = some fo) (hx : ev es x = some (.ip cs)) (hd : cs.drop fo = ds) (hn : Nat.blt d n = true) :
  VOp false P n es ps ⟨some d, .fieldAddr T x j, ty, pos, af, gd⟩ d (.ip ds) :=
 VOp.mk rfl hn fun a w F Gp hs ho => by
  obtain ⟨b, off, vs, hv, hb, h1, h2⟩ := hs.ev hx
  exact ⟨_, fun w2 _ => by simp only [execOp, hv]; simp [run_fieldAt hf], b, off + fo, vs.drop fo, rfl, hb, h1.drop fo, hd ▸ h2.drop fo⟩

theorem run_isAgg {T : Nat} {g : Bool} {m : Nat} (h : ldInfo P T = some (g, m)) : (isAgg T).run P w = .ok g w := by
 unfold ldInfo at h
 split at h
 ·
  cases h
 ·
  rename_i dd hu
  split at h
  ·
   cases h
  ·
   simp only [Option.some.injEq, Prod.mk.injEq] at h
   obtain ⟨rfl, _⟩ := h
   simp only [isAgg, Sem.run_bind, run_underlying hu, Result.andThen_ok]
   cases dd <;> rfl

theorem run_sizeOf {T : Nat} {g : Bool} {m : Nat} (h : ldInfo P T = some (g, m)) : (sizeOf T).run P w = .ok m w := by
 unfold ldInfo at h
 split at h
 ·
  cases h
 ·
  split at h
  ·
   cases h
  ·
   rename_i hi
   simp only [Option.some.injEq, Prod.mk.injEq] at h
   obtain ⟨_, rfl⟩ := h
   simp [sizeOf, typeInfo, hi]

theorem run_loadVar1 {T m b off : Nat} {v : Value} (h : ldInfo P T = some (false, m)) (hc : w.cell? ⟨b, off, none⟩ = some v) : (loadVar T ⟨b, off, none⟩).run P w = .ok v w := by
 simp [loadVar, run_isAgg h, hc]

theorem run_loadVarA {T m b off : Nat} {vs : List Value} (h : ldInfo P T = some (true, m)) (hl : vs.length = m) (hc : CellsAt w b off vs) : (loadVar T ⟨b, off, none⟩).run P w = .ok (.agg vs.toArray) w := by
 have := run_loadCells_list (P := P) (w := w) ⟨b, off, none⟩ vs (fun j v hj => by rw [addr_add]; exact hc j v hj)
 rw [hl] at this
 simp [loadVar, run_isAgg h, run_sizeOf h, this]

theorem op_load_ip {T m : Nat} {x : Operand} {c : C} {cs : List C} (hl : ldInfo P T = some (false, m)) (hx : ev es x = some (.ip (c :: cs))) (hn : Nat.blt d n = true) :
  VOp true P n es ps ⟨some d, .load T x, ty, pos, af, gd⟩ d (c) :=
 VOp.mk rfl hn fun a w F Gp hs ho => by
  obtain ⟨b, off, vs, hv, hb, h1, v, r, hvs, hc, _, _⟩ := hs.ev hx
  subst hvs
  refine ⟨v, fun w2 hw => ?_, hc⟩
  simp only [execOp, hv]
  simp [Instr.loadAt, Instr.sureAddr, run_loadVar1 hl (show w2.cell? ⟨b, off, none⟩ = some v from (h1.mono (hw rfl b (.inl hb))) 0 v rfl)]

theorem op_load_ipA {T m : Nat} {x : Operand} {cs ds : List C} (hl : ldInfo P T = some (true, m)) (hx : ev es x = some (.ip cs)) (hd : cs.take m = ds) (hm : Nat.ble m cs.length = true) (hn : Nat.blt d n = true) :
  VOp true P n es ps ⟨some d, .load T x, ty, pos, af, gd⟩ d (.agg ds) :=
 VOp.mk rfl hn fun a w F Gp hs ho => by
  obtain ⟨b, off, vs, hv, hb, h1, h2⟩ := hs.ev hx
  have hlen : (vs.take m).length = m := by rw [List.length_take, h2.length]; have := Nat.le_of_ble_eq_true hm; omega
  refine ⟨_, fun w2 hw => ?_, vs.take m, rfl, hd ▸ h2.take m⟩
  simp only [execOp, hv]
  simp [Instr.loadAt, Instr.sureAddr, run_loadVarA hl hlen ((h1.mono (hw rfl b (.inl hb))).take m)]


def Obj.box (b T : Nat) (cs : List C) : Obj where
 rep w F G := (∀ b', G b' ↔ b' = b) ∧ ∃ vs, w.heap[b]? = some (.cells vs.toArray T (0, 0)) ∧ Cells w F cs vs
 mono := by
  rintro w w' F F' G ⟨hg, vs, h1, h2⟩ k g
  exact ⟨hg, vs, (g b ((hg b).2 rfl)).trans h1, h2.mono k⟩

theorem cellsAt_of_block {b T : Nat} {vs : List Value} {fr : Nat × Nat} (h : w.heap[b]? = some (.cells vs.toArray T fr)) : CellsAt w b 0 vs := fun j u hu => by
 rw [cell_of_row w b (0 + j) _ _ _ h]
 simpa using hu

theorem Own.pick {os : List Obj} (h : Own w F os G) {p : Nat} {o : Obj} (hp : pick p os = some o) : ∃ G1, o.rep w F G1 ∧ ∀ b, G1 b → G b := by
 obtain ⟨r, hr⟩ := pick_perm hp
 obtain ⟨G1, G2, hi, _, h1, _⟩ := h.perm hr
 exact ⟨G1, h1, fun b hb => (hi b).2 (.inl hb)⟩

theorem op_load {T m b off p T' : Nat} {x : Operand} {cs : List C} {c : C} (hl : ldInfo P T = some (false, m)) (hx : ev es x = some (.val (.pointer (some ⟨b, off, none⟩))))
  (hp : pick p ps = some (.box b T' cs)) (hc : cs[off]? = some c) (hn : Nat.blt d n = true) :
  VOp true P n es ps ⟨some d, .load T x, ty, pos, af, gd⟩ d (c) :=
 VOp.mk rfl hn fun a w F Gp hs ho => by
  obtain ⟨G1, ⟨hg, vs, hb, hcs⟩, hsub⟩ := ho.pick hp
  obtain ⟨v, hv, hr, _⟩ := hcs.get hc
  refine ⟨v, fun w2 hw => ?_, hr⟩
  have h0 := cellsAt_of_block ((hw rfl b (.inr (hsub b ((hg b).2 rfl)))).trans hb) off v hv
  rw [Nat.zero_add] at h0
  simp only [execOp, hs.val hx]
  simp [Instr.loadAt, Instr.sureAddr, run_loadVar1 hl h0]

theorem op_loadA {T m b off p T' : Nat} {x : Operand} {cs ds : List C} (hl : ldInfo P T = some (true, m)) (hx : ev es x = some (.val (.pointer (some ⟨b, off, none⟩))))
  (hp : pick p ps = some (.box b T' cs)) (hd : (cs.drop off).take m = ds) (hm : Nat.ble (off + m) cs.length = true) (hn : Nat.blt d n = true) :
  VOp true P n es ps ⟨some d, .load T x, ty, pos, af, gd⟩ d (.agg ds) :=
 VOp.mk rfl hn fun a w F Gp hs ho => by
  obtain ⟨G1, ⟨hg, vs, hb, hcs⟩, hsub⟩ := ho.pick hp
  have hlen : ((vs.drop off).take m).length = m := by rw [List.length_take, List.length_drop, hcs.length]; have := Nat.le_of_ble_eq_true hm; omega
  refine ⟨_, fun w2 hw => ?_, (vs.drop off).take m, rfl, hd ▸ (hcs.drop off).take m⟩
  have h0 := ((cellsAt_of_block ((hw rfl b (.inr (hsub b ((hg b).2 rfl)))).trans hb)).drop off).take m
  rw [Nat.zero_add] at h0
  simp only [execOp, hs.val hx]
  simp [Instr.loadAt, Instr.sureAddr, run_loadVarA hl hlen h0]

theorem Turn.new (hf : ∀ b, F b → b < w.heap.size) (o : Obj) (b : Go.Obj) (ho : o.rep (w.alloc b) F (· = w.heap.size)) : Turn w F (fun _ => False) (w.alloc b) F (· = w.heap.size) [o] where
 own := ⟨(· = w.heap.size), fun _ => False, fun _ => by simp, fun _ _ h => h, ho, fun _ h => h⟩
 sub := fun _ h => h
 fin := fun b hb => ⟨by have := hf b hb; simp; omega, .inl hb⟩
 gin := fun b hb => ⟨by subst hb; simp, fun hb' => by have := hf b hb'; omega, .inr (by omega)⟩
 chg := ⟨rfl, rfl, rfl, by simp, (by first | exact Nat.le_refl _ | exact Nat.le_succ _), fun b hb _ => heap_alloc_old w _ hb⟩

theorem frozen_alloc (hf : ∀ b, F b → b < w.heap.size) (o : Go.Obj) : ∀ b, F b → F b ∧ (w.alloc o).heap[b]? = w.heap[b]? := fun b hb => ⟨hb, heap_alloc_old w o (hf b hb)⟩

def One (c : C) : Prop := ∀ w F v, c.rep w F v → v.oneCell' = true
theorem One.val {x : Value} (h : x.oneCell' = true) : One (.val x) := fun _ _ v hv => by rw [show v = x from hv]; exact h
theorem One.im {α : Type} {k : α → List C} {sz : Nat} {xs : List α} : One (.im k sz xs) := fun _ _ v ⟨_, _, e, _⟩ => by rw [e]; rfl
theorem One.ip {cs : List C} : One (.ip cs) := fun _ _ v ⟨_, _, _, e, _⟩ => by rw [e]; rfl

theorem cells_one {c : C} {v : Value} (h1 : One c) (h : c.rep w F v) : Cells w F [c] [v] := ⟨v, [], rfl, h, h1 _ _ _ h, rfl⟩
theorem cells_of_one {v : Value} (h : v.oneCell' = true) : v.cells = #[v] := by cases v <;> first | rfl | simp [Value.oneCell'] at h

theorem op_alloc {T : Nat} {zs : List Value} {cs : List C} (hz : zeroOf P T = some zs) (hc : ∀ w F, Cells w F cs zs) (hn : Nat.blt d n = true) :
  HOp P n ⟨some d, .alloc T, ty, pos, af, gd⟩ es [] (fun e' qs => ∃ b, e' = (d, .val (.pointer (some ⟨b, 0, none⟩))) :: es ∧ qs = [.box b T cs]) :=
 HOp.of rfl hn fun a w F G1 hs h1 hf => by
  have hG1 : G1 = fun _ => False := funext fun b => eq_false (h1 b)
  subst hG1
  unfold zeroOf at hz
  split at hz
  ·
   rename_i i hi
   simp only [Option.map_eq_some_iff] at hz
   obtain ⟨z, hz1, hz2⟩ := hz
   refine ⟨.pointer (some ⟨w.heap.size, 0, none⟩), w.alloc (.cells zs.toArray T), F, _, _, _, ?_, rfl, Turn.new hf.fin (.box w.heap.size T cs) _ ⟨fun _ => Iff.rfl, zs, heap_alloc_new w _, hc _ _⟩, _, rfl, rfl⟩
   simp [execOp, Instr.alloc, zeroValue, typeInfo, hi, hz1, newVar, newRow, ← hz2]
  ·
   cases hz

theorem op_box {T : Nat} {x : Operand} {c : C} (hx : ev es x = some c) (h1 : One c) (hn : Nat.blt d n = true) :
  HOp P n ⟨some d, .box T x, ty, pos, af, gd⟩ es [] (fun e' qs => ∃ b, e' = (d, .val (.pointer (some ⟨b, 0, none⟩))) :: es ∧ qs = [.box b T [c]]) :=
 HOp.of rfl hn fun a w F G1 hs hG hf => by
  have hG1 : G1 = fun _ => False := funext fun b => eq_false (hG b)
  subst hG1
  have hv := hs.ev hx
  refine ⟨.pointer (some ⟨w.heap.size, 0, none⟩), w.alloc (.cells #[a.eval x] T), F, _, _, _, ?_, rfl, Turn.new hf.fin (.box w.heap.size T [c]) _ ⟨fun _ => Iff.rfl, [a.eval x], heap_alloc_new w _, cells_one h1 (C.mono _ hv (frozen_alloc hf.fin _))⟩, _, rfl, rfl⟩
  simp [execOp, Instr.box, newVar, newRow, cells_of_one (h1 _ _ _ hv)]

theorem op_boxA {T : Nat} {x : Operand} {cs : List C} (hx : ev es x = some (.agg cs)) (hn : Nat.blt d n = true) :
  HOp P n ⟨some d, .box T x, ty, pos, af, gd⟩ es [] (fun e' qs => ∃ b, e' = (d, .val (.pointer (some ⟨b, 0, none⟩))) :: es ∧ qs = [.box b T cs]) :=
 HOp.of rfl hn fun a w F G1 hs hG hf => by
  have hG1 : G1 = fun _ => False := funext fun b => eq_false (hG b)
  subst hG1
  obtain ⟨vs, hv, hcs⟩ := hs.ev hx
  refine ⟨.pointer (some ⟨w.heap.size, 0, none⟩), w.alloc (.cells vs.toArray T), F, _, _, _, ?_, rfl, Turn.new hf.fin (.box w.heap.size T cs) _ ⟨fun _ => Iff.rfl, vs, heap_alloc_new w _, hcs.mono (frozen_alloc hf.fin _)⟩, _, rfl, rfl⟩
  simp [execOp, Instr.box, newVar, newRow, hv, Value.cells]

theorem run_storeCells_row {b T off : Nat} {old vs : List Value} (hb : w.heap[b]? = some (.cells old.toArray T (0, 0))) (hl : off + vs.length ≤ old.length) (h1 : ∀ u ∈ vs, u.oneCell' = true) :
  (storeCells ⟨b, off, none⟩ vs).run P w = .ok () (w.setRow b (old.take off ++ vs ++ old.drop (off + vs.length)).toArray) := by
 have := run_storeCells_at P b off T vs 0 old.toArray w hb (by simpa using hl) h1
 simpa using this

theorem Cells.set {cs ds : List C} {vs us : List Value} {off : Nat} (h : Cells w F cs vs) (k : Cells w F ds us) (hl : off + ds.length ≤ cs.length) :
  Cells w F (cs.take off ++ ds ++ cs.drop (off + ds.length)) (vs.take off ++ us ++ vs.drop (off + us.length)) := by
 rw [k.length]
 exact ((h.take off).append k).append (h.drop _)

theorem Turn.set {b T : Nat} {gs : List C} {old vs : List Value} {G1 : BSet} (hf : Fit w F G1) (hG : ∀ b', G1 b' ↔ b' = b) (hb : w.heap[b]? = some (.cells old.toArray T (0, 0))) (hes : Cells w F gs vs) : Turn w F G1 (w.setRow b vs.toArray) F G1 [.box b T gs] := by
 have hother : ∀ k, k ≠ b → (w.setRow b vs.toArray).heap[k]? = w.heap[k]? := fun k hk => setRow_other w b k _ hk
 have hFb : ∀ k, F k → F k ∧ (w.setRow b vs.toArray).heap[k]? = w.heap[k]? := fun k hk => ⟨hk, hother k fun e => (hf.gin b ((hG b).2 rfl)).2 (e ▸ hk)⟩
 refine ⟨⟨G1, fun _ => False, fun _ => by simp, fun _ _ h => h, ⟨hG, vs, ?_, hes.mono hFb⟩, fun _ h => h⟩, fun _ h => h, fun k hk => ⟨by simpa using hf.fin k hk, .inl hk⟩,
  fun k hk => ⟨by simpa using (hf.gin k hk).1, (hf.gin k hk).2, .inl hk⟩, ⟨rfl, rfl, rfl, by simp, (by first | exact Nat.le_refl _ | exact Nat.le_succ _), fun k _ hk => hother k fun e => hk ((hG k).2 e)⟩⟩
 exact setRow_heap w b _ vs.toArray T (0, 0) hb

theorem Own.only {o : Obj} {G1 : BSet} (h : Own w F [o] G1) : o.rep w F G1 := by
 obtain ⟨G2, G3, hi, _, ho, hno⟩ := h
 have : G1 = G2 := funext fun b => propext ((hi b).trans ⟨fun h => h.resolve_right (hno b), .inl⟩)
 exact this ▸ ho

theorem op_store {T b off T' : Nat} {x y : Operand} {cs gs : List C} {c : C} (hl : ldInfo P T = some (false, 1)) (hx : ev es x = some (.val (.pointer (some ⟨b, off, none⟩))))
  (hy : ev es y = some c) (h1 : One c) (hm : Nat.blt off cs.length = true) (he : cs.take off ++ [c] ++ cs.drop (off + 1) = gs) :
  HOp P n ⟨none, .store T x y, ty, pos, af, gd⟩ es [.box b T' cs] (fun e' qs => e' = es ∧ qs = [.box b T' gs]) :=
 HOp.of0 rfl fun a w F G1 hs ho hf => by
  obtain ⟨hG, vs, hb, hcs⟩ := ho.only
  have hv := hs.ev hy
  have hlen : off + [a.eval y].length ≤ vs.length := by rw [hcs.length]; exact blt_lt hm
  refine ⟨_, _, _, _, ?_, Turn.set (gs := gs) (vs := vs.take off ++ [a.eval y] ++ vs.drop (off + 1)) hf hG hb (he ▸ hcs.set (cells_one h1 hv) (show off + [c].length ≤ cs.length from blt_lt hm)), rfl, rfl⟩
  simp only [execOp, hs.val hx]
  simp [Instr.storeAt, Instr.sureAddr, storeVar, run_sizeOf hl, cells_of_one (h1 _ _ _ hv), run_storeCells_row hb hlen (fun u hu => by rw [List.mem_singleton.1 hu]; exact h1 _ _ _ hv)]

theorem op_storeA {T m b off T' : Nat} {x y : Operand} {cs ds gs : List C} (hl : ldInfo P T = some (true, m)) (hx : ev es x = some (.val (.pointer (some ⟨b, off, none⟩))))
  (hy : ev es y = some (.agg ds)) (hdm : Nat.beq ds.length m = true) (hm : Nat.ble (off + ds.length) cs.length = true) (he : cs.take off ++ ds ++ cs.drop (off + ds.length) = gs) :
  HOp P n ⟨none, .store T x y, ty, pos, af, gd⟩ es [.box b T' cs] (fun e' qs => e' = es ∧ qs = [.box b T' gs]) :=
 HOp.of0 rfl fun a w F G1 hs ho hf => by
  obtain ⟨hG, vs, hb, hcs⟩ := ho.only
  obtain ⟨us, hv, hds⟩ := hs.ev hy
  have hlen : off + us.length ≤ vs.length := by rw [hcs.length, hds.length]; exact Nat.le_of_ble_eq_true hm
  have hum : us.length = m := by rw [hds.length]; exact Nat.eq_of_beq_eq_true hdm
  refine ⟨_, _, _, _, ?_, Turn.set (gs := gs) (vs := vs.take off ++ us ++ vs.drop (off + us.length)) hf hG hb (he ▸ hcs.set hds (Nat.le_of_ble_eq_true hm)), rfl, rfl⟩
  simp only [execOp, hs.val hx, hv]
  simp [Instr.storeAt, Instr.sureAddr, storeVar, run_sizeOf hl, Value.cells, hum, run_storeCells_row hb hlen hds.one]
end
end Go.Abs
