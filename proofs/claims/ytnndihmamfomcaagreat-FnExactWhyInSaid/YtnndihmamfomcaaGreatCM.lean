/- Views of owned arrays: a block's row of elements (some of them not known), parts of it copied to and fro. -/
import Derived.Test.YtnndihmamfomcaaGreatCJ
import Derived.Lib.Overlaps
set_option autoImplicit false
set_option linter.unusedVariables false
set_option linter.unusedSimpArgs false
namespace Go.Abs
open Go

def FlatO {α : Type} (w : World) (F : BSet) (k : α → List C) (sz : Nat) : List (Option α) → List Value → Prop
 | [], vs => vs = []
 | y :: ys, vs => ∃ a r, vs = a ++ r ∧ a.length = sz ∧ (∀ x, y = some x → Cells w F (k x) a) ∧ FlatO w F k sz ys r

section
variable {α : Type} {w w' : World} {F F' : BSet} {k : α → List C} {sz : Nat}

theorem FlatO.mono : ∀ {ys : List (Option α)} {vs : List Value}, FlatO w F k sz ys vs → (∀ b, F b → F' b ∧ w'.heap[b]? = w.heap[b]?) → FlatO w' F' k sz ys vs
 | [], _, h, _ => h
 | _ :: _, _, ⟨a, r, e, hl, h1, h2⟩, m => ⟨a, r, e, hl, fun x hx => (h1 x hx).mono m, h2.mono m⟩

theorem FlatO.length : ∀ {ys : List (Option α)} {vs : List Value}, FlatO w F k sz ys vs → vs.length = ys.length * sz
 | [], _, h => by rw [show _ = [] from h]; simp
 | _ :: _, _, ⟨a, r, e, hl, _, h2⟩ => by rw [e, List.length_append, hl, h2.length, List.length_cons, Nat.add_mul, Nat.one_mul, Nat.add_comm]

theorem FlatO.append : ∀ {ys zs : List (Option α)} {vs us : List Value}, FlatO w F k sz ys vs → FlatO w F k sz zs us → FlatO w F k sz (ys ++ zs) (vs ++ us)
 | [], _, _, _, h, m => by rw [show _ = [] from h]; exact m
 | _ :: _, _, _, _, ⟨a, r, e, hl, h1, h2⟩, m => ⟨a, r ++ _, by rw [e, List.append_assoc], hl, h1, h2.append m⟩

theorem FlatO.of_flat : ∀ {xs : List α} {vs : List Value}, Flat w F k sz xs vs → FlatO w F k sz (xs.map some) vs
 | [], _, h => h
 | _ :: _, _, ⟨a, r, e, hl, h1, h2⟩ => ⟨a, r, e, hl, fun x hx => by cases hx; exact h1, FlatO.of_flat h2⟩

theorem FlatO.none : ∀ {n : Nat} {vs : List Value}, vs.length = n * sz → FlatO w F k sz (List.replicate n (none : Option α)) vs
 | 0, vs, h => List.eq_nil_of_length_eq_zero (by simpa using h)
 | n + 1, vs, h => by
  rw [Nat.add_mul, Nat.one_mul] at h
  exact ⟨vs.take sz, vs.drop sz, (List.take_append_drop sz vs).symm, (by rw [List.length_take]; omega), (fun x hx => by cases hx), FlatO.none (by rw [List.length_drop]; omega)⟩

theorem FlatO.drop : ∀ {ys : List (Option α)} {vs : List Value} (n : Nat), FlatO w F k sz ys vs → FlatO w F k sz (ys.drop n) (vs.drop (n * sz))
 | _, _, 0, h => by simpa using h
 | [], _, _ + 1, h => by rw [show _ = [] from h]; simp [FlatO]
 | _ :: _, _, n + 1, ⟨a, r, e, hl, _, h2⟩ => by
  subst e
  rw [List.drop_succ_cons, show (n + 1) * sz = a.length + n * sz from by rw [hl, Nat.add_mul, Nat.one_mul, Nat.add_comm], List.drop_length_add_append]
  exact h2.drop n

theorem FlatO.take : ∀ {ys : List (Option α)} {vs : List Value} (n : Nat), FlatO w F k sz ys vs → FlatO w F k sz (ys.take n) (vs.take (n * sz))
 | _, _, 0, _ => by simp [FlatO]
 | [], _, _ + 1, h => by rw [show _ = [] from h]; simp [FlatO]
 | _ :: _, _, n + 1, ⟨a, r, e, hl, h1, h2⟩ => by
  subst e
  rw [List.take_succ_cons, show (n + 1) * sz = a.length + n * sz from by rw [hl, Nat.add_mul, Nat.one_mul, Nat.add_comm], List.take_length_add_append]
  exact ⟨a, _, rfl, hl, h1, h2.take n⟩

theorem FlatO.flat : ∀ {xs : List α} {vs : List Value}, FlatO w F k sz (xs.map some) vs → Flat w F k sz xs vs
 | [], _, h => h
 | _ :: _, _, ⟨a, r, e, hl, h1, h2⟩ => ⟨a, r, e, hl, h1 _ rfl, h2.flat⟩

theorem FlatO.part {ys : List (Option α)} {vs : List Value} {xs : List α} {o n : Nat} (h : FlatO w F k sz ys vs) (hx : (ys.drop o).take n = xs.map some) : Flat w F k sz xs ((vs.drop (o * sz)).take (n * sz)) :=
 FlatO.flat (hx ▸ (h.drop o).take n)

theorem FlatO.splice {ys : List (Option α)} {vs us : List Value} {xs : List α} {o : Nat} (h : FlatO w F k sz ys vs) (hu : Flat w F k sz xs us) : FlatO w F k sz (ys.take o ++ xs.map some ++ ys.drop (o + xs.length)) (vs.take (o * sz) ++ us ++ vs.drop (o * sz + us.length)) := by
 rw [hu.length, ← Nat.add_mul]
 exact ((h.take o).append (FlatO.of_flat hu)).append (h.drop _)
end

def Obj.raw {α : Type} (b E : Nat) (k : α → List C) (sz : Nat) (ys : List (Option α)) : Obj where
 rep w F G := (∀ b', G b' ↔ b' = b) ∧ ∃ vs, w.heap[b]? = some (.cells vs.toArray E (0, 0)) ∧ FlatO w F k sz ys vs
 mono := by
  rintro w w' F F' G ⟨hg, vs, h1, h2⟩ m g
  exact ⟨hg, vs, (g b ((hg b).2 rfl)).trans h1, h2.mono m⟩

section
variable {P : Program} {n : Nat} {X : Ctx} {α : Type} {k : α → List C} {sz : Nat} {e : Env} {o r : List Obj}

theorem Sim.arr_cases {p E : Nat} {v : Value} {xs : List α} {s : St} (hp : pick p s.o = some (.arr v E k sz xs)) (a : Act) (w : World) (h : Sim n X s a w) :
  (v = .slice none 0 0 ∧ xs = []) ∨ ∃ b cap, v = .slice (some ⟨b, 0, none⟩) xs.length cap ∧ xs.length ≤ cap ∧ cap ≤ maxLen := by
 obtain ⟨F, G, h⟩ := h
 obtain ⟨G1, ⟨⟨vs, hrow, _⟩, _⟩, _⟩ := h.own.pick hp
 rcases hrow.2 with ⟨rfl, h0⟩ | ⟨g, cap, cur, rfl, _, _, hnc, hcm, _⟩
 ·
  exact .inl ⟨rfl, List.eq_nil_of_length_eq_zero h0⟩
 ·
  exact .inr ⟨g, cap, rfl, hnc, hcm⟩

theorem Ghost.raw {p E b cap : Nat} {xs : List α} (hp : picks [p] o = some ([.arr (.slice (some ⟨b, 0, none⟩) xs.length cap) E k sz xs], r)) :
  Ghost n X ⟨e, o⟩ ⟨e, .raw b E k sz (xs.map some ++ List.replicate (cap - xs.length) none) :: r⟩ := by
 rintro a w ⟨F, G, h⟩
 obtain ⟨G1, G2, hi, hd, h1, h2⟩ := Own.append.1 (h.own.perm (picks_perm hp))
 refine ⟨F, G, ⟨h.env, (Own.append (os := [_]).2 ⟨G1, G2, fun _ => Iff.rfl, hd, Own.of_one ?_, h2⟩ : Own w F _ _).congr fun b => (hi b).symm, h.fin, h.gin, h.sub, h.chg, h.size, h.defs⟩⟩
 obtain ⟨⟨vs, ⟨hl, hrow⟩, hf⟩, hG⟩ := h1.only
 rcases hrow with ⟨hv, _⟩ | ⟨g, cap', cur, hv, _, hb, hnc, hcm, hcs, htake⟩
 ·
  cases hv
 ·
  cases hv
  refine ⟨fun b' => by rw [hG b']; simp [Value.ownBlock]; exact eq_comm, cur.toList, by simpa using hb, ?_⟩
  rw [← List.take_append_drop (xs.length * sz) cur.toList, htake]
  refine (FlatO.of_flat hf).append (FlatO.none ?_)
  rw [List.length_drop, Array.length_toList, hcs, Nat.sub_mul]

theorem Ghost.arr {p E b m : Nat} {ys : List (Option α)} {xs : List α} (hp : picks [p] o = some ([.raw b E k sz ys], r)) (hx : ys.take m = xs.map some) (hm : m ≤ ys.length) (hmax : ys.length ≤ maxLen) :
  Ghost n X ⟨e, o⟩ ⟨e, .arr (.slice (some ⟨b, 0, none⟩) m ys.length) E k sz xs :: r⟩ := by
 rintro a w ⟨F, G, h⟩
 obtain ⟨G1, G2, hi, hd, h1, h2⟩ := Own.append.1 (h.own.perm (picks_perm hp))
 refine ⟨F, G, ⟨h.env, (Own.append (os := [_]).2 ⟨G1, G2, fun _ => Iff.rfl, hd, Own.of_one ?_, h2⟩ : Own w F _ _).congr fun b => (hi b).symm, h.fin, h.gin, h.sub, h.chg, h.size, h.defs⟩⟩
 obtain ⟨hG, vs, hb, hf⟩ := h1.only
 have hxl : xs.length = m := by
  have := congrArg List.length hx
  simp at this; omega
 subst hxl
 have hfl : Flat w F k sz xs (vs.take (xs.length * sz)) := FlatO.flat (hx ▸ hf.take xs.length)
 refine ⟨⟨vs.take (xs.length * sz), ⟨hfl.length, .inr ⟨b, ys.length, vs.toArray, rfl, Nat.zero_le _, hb, hm, hmax, by simpa using hf.length, rfl⟩⟩, hfl⟩, fun b' => by rw [hG b']; simp [Value.ownBlock]; exact eq_comm⟩


def vw (b o sz len cap : Nat) : Value := .slice (some ⟨b, o * sz, none⟩) len cap

variable {a : Act} {w : World} {F G : BSet} {es : Env} {ps : List Obj} {d ty : Nat} {pos : String} {af : Array Edge} {gd : Option (Nat × Bool)}

theorem run_slice_vw {T E by' b of' len cap : Nat} (hT : slInfo P T = some (E, sz, by')) {lo hi : Option Value} {l h : Nat} (hlo : lo = none ∧ l = 0 ∨ ∃ q, lo = some (.int q l)) (hhi : hi = none ∧ h = len ∨ ∃ q, hi = some (.int q h)) (hlh : l ≤ h) (hh : h ≤ cap) (hl : l < cap) :
  (Instr.sliceAt T (vw b of' sz len cap) lo hi none).run P w = .ok (vw b (of' + l) sz (h - l) (cap - l)) w := by
 obtain ⟨hu, inf, hinf, hsz, _⟩ := slInfo_under hT
 have hb : ∀ (q : IntKind) (i y : Nat) (code : BoundsCode), i ≤ y → (Instr.sliceBound (.int q i) y code).run P w = .ok i w := fun q i y code hle => by
  simp [Instr.sliceBound, asIntOf, hle]
 have hne : ¬ cap = l := by omega
 have hne0 : ¬ cap = 0 := by omega
 have e : of' * sz + l * sz = (of' + l) * sz := (Nat.add_mul ..).symm
 unfold vw
 rcases hlo with ⟨rfl, rfl⟩ | ⟨q, rfl⟩ <;> rcases hhi with ⟨rfl, rfl⟩ | ⟨q', rfl⟩
 ·
  simp [Instr.sliceAt, Instr.slice, run_underlying hu, Instr.sliceBounds, run_sizeOf' hinf, hsz, addr_add, hne0]
 ·
  simp [Instr.sliceAt, Instr.slice, run_underlying hu, Instr.sliceBounds, run_sizeOf' hinf, hsz, hb _ h cap _ hh, addr_add, hne0]
 ·
  simp [Instr.sliceAt, Instr.slice, run_underlying hu, Instr.sliceBounds, run_sizeOf' hinf, hsz, hb _ l h _ hlh, addr_add, hne, e]
 ·
  simp [Instr.sliceAt, Instr.slice, run_underlying hu, Instr.sliceBounds, run_sizeOf' hinf, hsz, hb _ l h _ hlh, hb _ h cap _ hh, addr_add, hne, e]

theorem op_slice_vw_l {T E by' b of' len cap l : Nat} {x y : Operand} {q : IntKind} (hT : slInfo P T = some (E, sz, by')) (hx : ev es x = some (.val (vw b of' sz len cap))) (hy : ev es y = some (.val (.int q l))) (h1 : l ≤ len) (h2 : len ≤ cap) (h3 : l < cap) (hn : Nat.blt d n = true) :
  VOp false P n es ps ⟨some d, .slice T x (some y) none none, ty, pos, af, gd⟩ d (.val (vw b (of' + l) sz (len - l) (cap - l))) :=
 VOp.mk rfl hn fun a w F Gp hs ho => ⟨_, fun w2 _ => by
  simp only [execOp, hs.val hx, Option.map_some, hs.val hy, Option.map_none]
  simp [run_slice_vw hT (.inr ⟨q, rfl⟩) (.inl ⟨rfl, rfl⟩) h1 h2 h3], rfl⟩
theorem op_slice_vw_h {T E by' b of' len cap h : Nat} {x z : Operand} {q : IntKind} (hT : slInfo P T = some (E, sz, by')) (hx : ev es x = some (.val (vw b of' sz len cap))) (hz : ev es z = some (.val (.int q h))) (h2 : h ≤ cap) (h3 : 0 < cap) (hn : Nat.blt d n = true) :
  VOp false P n es ps ⟨some d, .slice T x none (some z) none, ty, pos, af, gd⟩ d (.val (vw b of' sz h cap)) :=
 VOp.mk rfl hn fun a w F Gp hs ho => ⟨_, fun w2 _ => by
  simp only [execOp, hs.val hx, Option.map_some, hs.val hz, Option.map_none]
  simp [run_slice_vw hT (.inl ⟨rfl, rfl⟩) (.inr ⟨q, rfl⟩) (Nat.zero_le _) h2 h3], rfl⟩
theorem op_cap_val {T E sz' by' m cap : Nat} {A : Option Addr} {x : Operand} (hT : slInfo P T = some (E, sz', by')) (hx : ev es x = some (.val (.slice A m cap))) (hn : Nat.blt d n = true) :
  VOp false P n es ps ⟨some d, .call ⟨.builtin .cap, #[x], #[T]⟩, ty, pos, af, gd⟩ d (.int cap) :=
 VOp.mk rfl hn fun a w F Gp hs ho => ⟨_, fun w2 _ => by
  simp [execOp, resolve, invoke, builtin, hs.val hx, Builtin.cap_, run_underlying (slInfo_under hT).1, goInt], rfl⟩

theorem run_copy_at {dT sT E by' b off dl dc sl sc T : Nat} {A : Option Addr} {cs old : List Value} (hT : slInfo P dT = some (E, sz, by')) (hb : w.heap[b]? = some (.cells old.toArray T (0, 0))) (hn : cs.length = Nat.min sl dl * sz)
  (hsrc : ∀ a, A = some a → ∀ j v, cs[j]? = some v → w.cell? (a.add j) = some v) (hA : A = none → cs = []) (hfit : off + cs.length ≤ old.length) (h1 : ∀ u ∈ cs, u.oneCell' = true) (ty : TypeId) :
  (Builtin.copy_ #[dT, sT] ty #[.slice (some ⟨b, off, none⟩) dl dc, .slice A sl sc]).run P w = .ok (goInt ((Nat.min sl dl : Nat) : Int)) (w.setRow b (old.take off ++ cs ++ old.drop (off + cs.length)).toArray) := by
 obtain ⟨hu, inf, hinf, hsz, _⟩ := slInfo_under hT
 have hst := run_storeCells_row (P := P) (off := off) (vs := cs) hb hfit h1
 cases A with
 | none =>
  obtain rfl := hA rfl
  simp [Builtin.copy_, run_underlying hu, Builtin.lenOf, Builtin.firstCells, run_sizeOf' hinf] at hst ⊢
  rw [hst]; rfl
 | some ad =>
  have hl := run_loadCells_list (P := P) w ad cs (hsrc ad rfl)
  rw [hn] at hl
  simp [Builtin.copy_, run_underlying hu, Builtin.lenOf, Builtin.firstCells, run_sizeOf' hinf, hsz, hl, hst]

theorem part_cells {b T o m : Nat} {vs : List Value} (hb : w.heap[b]? = some (.cells vs.toArray T (0, 0))) : ∀ j v, ((vs.drop (o * sz)).take m)[j]? = some v → w.cell? ((⟨b, o * sz, none⟩ : Addr).add j) = some v := fun j v hv => by
 have := ((cellsAt_of_block hb).drop (o * sz)).take m j v hv
 rw [addr_add]
 simpa using this

theorem Turn.setRaw {b T : Nat} {ys : List (Option α)} {old vs : List Value} {G1 : BSet} (hf : Fit w F G1) (hG : ∀ b', G1 b' ↔ b' = b) (hb : w.heap[b]? = some (.cells old.toArray T (0, 0))) (hes : FlatO w F k sz ys vs) : Turn w F G1 (w.setRow b vs.toArray) F G1 [.raw b T k sz ys] := by
 have hother : ∀ k, k ≠ b → (w.setRow b vs.toArray).heap[k]? = w.heap[k]? := fun k hk => setRow_other w b k _ hk
 have hFb : ∀ k, F k → F k ∧ (w.setRow b vs.toArray).heap[k]? = w.heap[k]? := fun k hk => ⟨hk, hother k fun e => (hf.gin b ((hG b).2 rfl)).2 (e ▸ hk)⟩
 refine ⟨Own.of_one ⟨hG, vs, setRow_heap w b _ vs.toArray T (0, 0) hb, hes.mono hFb⟩, fun _ h => h, fun k hk => ⟨by simpa using hf.fin k hk, .inl hk⟩,
  fun k hk => ⟨by simpa using (hf.gin k hk).1, (hf.gin k hk).2, .inl hk⟩, ⟨rfl, rfl, rfl, by simp, (by first | exact Nat.le_refl _ | exact Nat.le_succ _), fun k _ hk => hother k fun e => hk ((hG k).2 e)⟩⟩

theorem op_copy_self {dT sT E by' b od dl dc os sl sc E' : Nat} {x y : Operand} {ys : List (Option α)} {xs : List α} (hT : slInfo P dT = some (E, sz, by')) (hx : ev es x = some (.val (vw b od sz dl dc))) (hy : ev es y = some (.val (vw b os sz sl sc)))
  (hk : (ys.drop os).take (Nat.min sl dl) = xs.map some) (hl : xs.length = Nat.min sl dl) (hfit : od + xs.length ≤ ys.length) (hn : Nat.blt d n = true) :
  HOp P n ⟨some d, .call ⟨.builtin .copy, #[x, y], #[dT, sT]⟩, ty, pos, af, gd⟩ es [.raw b E' k sz ys] (fun e' qs => e' = (d, .int xs.length) :: es ∧ qs = [.raw b E' k sz (ys.take od ++ xs.map some ++ ys.drop (od + xs.length))]) :=
 HOp.of rfl hn fun a w F G1 hs ho hft => by
  obtain ⟨hG, vs, hb, hf⟩ := ho.only
  have hp := hf.part hk
  have hlen := hp.length
  have hvl := hf.length
  have hfit' : od * sz + ((vs.drop (os * sz)).take (Nat.min sl dl * sz)).length ≤ vs.length := by
   rw [hlen, hvl, ← Nat.add_mul]; exact Nat.mul_le_mul_right _ hfit
  have hr := run_copy_at (P := P) (sT := sT) (dl := dl) (dc := dc) (sl := sl) (sc := sc) (A := some ⟨b, os * sz, none⟩) hT hb (by rw [hlen, hl]) (fun a ha => by cases ha; exact part_cells hb) (fun h => by cases h) hfit' hp.one ty
  refine ⟨_, _, F, G1, .int xs.length, _, ?_, by rw [hl]; rfl, Turn.setRaw hft hG hb (hf.splice hp), rfl, rfl⟩
  simp only [execOp, resolve, invoke, builtin, hs.val hx, hs.val hy, vw, Sem.run_bind, List.map_toArray, List.map_cons, List.map_nil]
  simp [hr, hs.val hx, hs.val hy, vw, invoke, builtin, goInt]

theorem Turn.frame {w' : World} {F' Ga Gb G1 Ga' : BSet} {qs rs : List Obj} (hi : ∀ b, G1 b ↔ Ga b ∨ Gb b) (hd : ∀ b, Ga b → ¬ Gb b) (h2 : Own w F rs Gb) (hft : Fit w F G1) (ht : Turn w F Ga w' F' Ga' qs) : Turn w F G1 w' F' (fun b => Ga' b ∨ Gb b) (qs ++ rs) := by
 have hfa : Fit w F Ga := ⟨hft.fin, fun b hb => hft.gin b ((hi b).2 (.inl hb))⟩
 have hsame : ∀ b, Gb b → w'.heap[b]? = w.heap[b]? := fun b hb => ht.chg.block b (hft.gin b ((hi b).2 (.inr hb))).1 fun hg => hd b hg hb
 have hnot : ∀ b, Ga' b → ¬ Gb b := fun b hb hg => by
  rcases (ht.gin b hb).2.2 with h | h
  ·
   exact hd b h hg
  ·
   have := (hft.gin b ((hi b).2 (.inr hg))).1; omega
 refine ⟨Own.append.2 ⟨Ga', Gb, fun _ => Iff.rfl, hnot, ht.own, h2.mono (ht.same hfa) hsame⟩, ht.sub, fun b hb => ⟨(ht.fin b hb).1, (ht.fin b hb).2.imp id fun h => h.imp (fun h => (hi b).2 (.inl h)) id⟩, fun b hb => ?_, ⟨ht.chg.os, ht.chg.tape, ht.chg.output, ht.chg.size, ht.chg.drawn, fun b hb hn => ht.chg.block b hb fun h => hn ((hi b).2 (.inl h))⟩⟩
 rcases hb with hb | hb
 ·
  exact ⟨(ht.gin b hb).1, (ht.gin b hb).2.1, (ht.gin b hb).2.2.imp (fun h => (hi b).2 (.inl h)) id⟩
 ·
  have h3 := hft.gin b ((hi b).2 (.inr hb))
  refine ⟨Nat.lt_of_lt_of_le h3.1 ht.chg.size, fun hf => ?_, .inl ((hi b).2 (.inr hb))⟩
  rcases (ht.fin b hf).2 with h | h | h
  ·
   exact h3.2 h
  ·
   exact hd b h hb
  ·
   have := h3.1; omega

theorem op_copy_arr {dT sT E by' b od dl dc E' E2 : Nat} {x y : Operand} {ys : List (Option α)} {u : Value} {zs xs : List α} (hT : slInfo P dT = some (E, sz, by')) (hx : ev es x = some (.val (vw b od sz dl dc))) (hy : ev es y = some (.val u))
  (hk : xs = zs.take dl) (hfit : od + xs.length ≤ ys.length) (hn : Nat.blt d n = true) :
  HOp P n ⟨some d, .call ⟨.builtin .copy, #[x, y], #[dT, sT]⟩, ty, pos, af, gd⟩ es [.raw b E' k sz ys, .arr u E2 k sz zs] (fun e' qs => e' = (d, .int xs.length) :: es ∧ qs = [.raw b E' k sz (ys.take od ++ xs.map some ++ ys.drop (od + xs.length)), .arr u E2 k sz zs]) :=
 HOp.of rfl hn fun a w F G1 hs ho hft => by
  obtain ⟨Ga, Gb, hi, hd, h1, h2⟩ := ho
  obtain ⟨hG, vs, hb, hf⟩ := h1
  obtain ⟨⟨us, hrow, hfz⟩, hGu⟩ := h2.only
  have hu : ∃ A c, u = .slice A zs.length c ∧ (A = none → zs = []) ∧ ∀ a, A = some a → ∀ j v, us[j]? = some v → w.cell? (a.add j) = some v := by
   rcases hrow.2 with ⟨rfl, h0⟩ | ⟨g, cap, cur, rfl, _, _⟩
   ·
    exact ⟨none, 0, (by rw [h0]), (fun _ => List.eq_nil_of_length_eq_zero h0), (fun a h => by cases h)⟩
   ·
    exact ⟨some ⟨g, 0, none⟩, cap, rfl, (fun h => by cases h), (fun a ha => by cases ha; exact hrow.cells rfl)⟩
  obtain ⟨A, c, rfl, hA, hcell⟩ := hu
  have hxl : xs.length = Nat.min zs.length dl := by rw [hk, List.length_take, Nat.min_comm]
  have hp : Flat w F k sz xs (us.take (dl * sz)) := by
   rw [hk]
   exact FlatO.flat (by have := (FlatO.of_flat hfz).take dl; rwa [← List.map_take] at this)
  have hlen := hp.length
  have hvl := hf.length
  have hfit' : od * sz + (us.take (dl * sz)).length ≤ vs.length := by rw [hlen, hvl, ← Nat.add_mul]; exact Nat.mul_le_mul_right _ hfit
  have hr := run_copy_at (P := P) (sT := sT) (dl := dl) (dc := dc) (sl := zs.length) (sc := c) (A := A) hT hb (by rw [hlen, hxl]) (fun a ha j v hv => by
   rw [List.getElem?_take] at hv
   split at hv
   ·
    exact hcell a ha j v hv
   ·
    cases hv) (fun h => by
   have h0 := hfz.length
   rw [hA h] at h0
   simp at h0
   rw [h0]; simp) hfit' hp.one ty
  refine ⟨_, _, F, fun b => Ga b ∨ Gb b, .int xs.length, _, ?_, by rw [hxl]; rfl, Turn.frame (qs := [_]) hi hd h2 hft (Turn.setRaw ⟨hft.fin, fun b hb => hft.gin b ((hi b).2 (.inl hb))⟩ hG hb (hf.splice hp)), rfl, rfl⟩
  simp [execOp, resolve, invoke, builtin, hr, hs.val hx, hs.val hy, vw, goInt]

theorem op_overlaps {f : FuncId} {fn : Func} {tS tR E by' b of' lb cb E' E2 : Nat} {ts : Array TypeId} {x y : Operand} {ys : List (Option α)} {zs : List α} {u : Value} (hT : arInfo P tS = some (E, sz, by')) (hfn : P.funcs[f]? = some fn) (hname : (fn.name == "runtime.NumGoroutine") = false) (hbody : fn.body.isNone = true)
  (hnext : Extern.findNext fn = none) (hext : Extern.find fn = some (Extern.SlicesOverlaps.overlaps #[tS, tS] #[tR])) (hx : ev es x = some (.val u)) (hy : ev es y = some (.val (vw b of' sz lb cb))) (hz : zs ≠ []) (hys : ys ≠ []) (hn : Nat.blt d n = true) :
  HOp P n ⟨some d, .call ⟨.value (.func f), #[x, y], ts⟩, ty, pos, af, gd⟩ es [.raw b E' k sz ys, .arr u E2 k sz zs] (fun e' qs => e' = (d, .bool false) :: es ∧ qs = [.raw b E' k sz ys, .arr u E2 k sz zs]) :=
 HOp.of rfl hn fun a w F G1 hs ho hft => by
  have ho' := ho
  obtain ⟨Ga, Gb, hi, hd, h1, h2⟩ := ho
  obtain ⟨hG, vs, hb, hf⟩ := h1
  obtain ⟨⟨us, hrow, hfz⟩, hGu⟩ := h2.only
  obtain ⟨hu, inf, z, hinf, hsz, _, _, _, hpos⟩ := arInfo_under hT
  rcases hrow.2 with ⟨_, h0⟩ | ⟨g, cap, cur, rfl, _, hg, _⟩
  ·
   exact absurd (List.eq_nil_of_length_eq_zero h0) hz
  ·
   have hne : g ≠ b := fun e => hd b ((hG b).2 rfl) ((hGu b).2 (by simp [Value.ownBlock, e]))
   have hsa : w.shape? g = some (E2, cur.size) := by simp [World.shape?, hg]
   have hsb : w.shape? b = some (E', vs.toArray.size) := by simp [World.shape?, hb]
   have hkb : vs.toArray.size ≠ 0 := by
    rw [List.size_toArray, hf.length]
    have : 0 < ys.length := List.length_pos_iff.2 hys
    exact Nat.ne_of_gt (Nat.mul_pos this hpos)
   have hf1 : w.frozen? ⟨g, 0, none⟩ = false := by simp [World.frozen?, hg]
   have hf2 : w.frozen? { block := g, off := cur.size } = false := by simp [World.frozen?, hg]
   have hrun := Lib.run_overlaps_apart (P := P) w tS tR E hu sz (fun w => by rw [← hsz]; exact run_sizeOf' hinf) ⟨g, 0, none⟩ ⟨b, of' * sz, none⟩ zs.length cap lb cb hne E2 E' cur.size vs.toArray.size hsa hsb hkb hf1 hf2
   refine ⟨.bool false, w, F, G1, .bool false, _, ?_, rfl, ⟨ho', fun _ h => h, fun b hb => ⟨hft.fin b hb, .inl hb⟩, fun b hb => ⟨(hft.gin b hb).1, (hft.gin b hb).2, .inl hb⟩, Chg.refl _ _⟩, rfl, rfl⟩
   have hcall := run_callFunc_extern (P := P) hfn hname hbody hnext hext #[.slice (some ⟨g, 0, none⟩) zs.length cap, .slice (some ⟨b, of' * sz, none⟩) lb cb] w
   rw [hrun] at hcall
   have hfv : a.eval (.func f) = .func (.func f) #[] #[] := rfl
   simp [execOp, resolve, hfv, Deferred.ofValue, invoke, hs.val hx, hs.val hy, vw, hcall]

theorem run_append_make (t ti ty e : TypeId) (i : TypeInfo) (z : Value) (ht : P.underlying t = some (.slice e)) {kk : IntKind} (hti : P.underlying ti = some (.int kk)) (hi : P.info? e = some i) (hz : i.zero = some z)
  (b : Addr) (sLen sCap m : Nat) (olds : List Value) (hlo : olds.length = sLen * i.size) (holds : ∀ j v, olds[j]? = some v → w.cell? (b.add j) = some v) (kx : IntKind) (hm : m ≤ 9223372036854775807) (hmb : m * i.bytes ≤ 140737488355328) (hpos : m * i.size ≠ 0)
  (hg : sCap < sLen + m) (h63 : ((sLen + m : Nat) : Int) ≤ 9223372036854775807) (hfit : Builtin.nextslicecap (sLen + m) sCap * i.bytes ≤ 281474976710656) :
  (Builtin.append_ #[t, ti] ty #[.slice (some b) sLen sCap, .int kx m]).run P w =
   .ok (.slice (some ⟨w.heap.size, 0, none⟩) (sLen + m) (grownCap w (sLen + m) sCap e))
    (w.drew.alloc (.cells (olds.toArray ++ Builtin.zeroCells z.cells m ++ Builtin.zeroCells z.cells (grownCap w (sLen + m) sCap e - (sLen + m))) e)) := by
 have hn : ¬ (sLen + m ≤ sCap) := by omega
 have h63' : ¬ (9223372036854775807 < ((sLen : Int) + (m : Int))) := by omega
 have h48' : ¬ (281474976710656 < Builtin.nextslicecap (sLen + m) sCap * i.bytes) := by omega
 have hw : IntKind.i64.wrap (m : Int) = m := by rw [IntKind.wrap_i64]; omega
 have hneg : ¬ ((m : Int) < 0) := by omega
 have hbig : ¬ (281474976710656 < (m : Int) * (i.bytes : Int)) := by rw [← Int.natCast_mul]; omega
 have hfo := run_firstCells_some (P := P) w.drew i.size sLen b sLen sCap olds hlo (by simpa using holds)
 simp [Builtin.append_, run_underlying ht, run_underlying hti, sizeOf, typeInfo, zeroValue, hi, hz, asInt, asIntOf, hw, hneg, hbig, hn, h63', h48', Question.forced, hfo, newRow, grownCap, hpos]

theorem zeroCells_flat {z : List Value} {x : α} (hz : z.length = sz) (hpos : 0 < sz) (hx : Cells w F (k x) z) (m : Nat) : Flat w F k sz (List.replicate m x) (Builtin.zeroCells z.toArray m).toList := by
 have := madeCells_flat (w := w) (F := F) (k := k) hz hpos hx m
 simpa [madeCells, Builtin.zeroCells, hz] using this

theorem op_append_make {T ti E by' b of' len cap m E' : Nat} {x y : Operand} {q kk : IntKind} {ys : List (Option α)} {xs : List α} {z0 : α} {zs : List Value} (hT : arInfo P T = some (E, sz, by')) (hti : P.underlying ti = some (.int kk)) (hz : zeroOf P E = some zs) (hk0 : ∀ w F, Cells w F (k z0) zs)
  (hx : ev es x = some (.val (vw b of' sz len cap))) (hy : ev es y = some (.val (.int q m))) (hk : (ys.drop of').take len = xs.map some) (hl : xs.length = len) (hm : 0 < m) (hg : cap < len + m) (hb : (len + m) * by' ≤ 140737488355328) (hby : 0 < by') (hn : Nat.blt d n = true) :
  HOp P n ⟨some d, .call ⟨.builtin .append, #[x, y], #[T, ti]⟩, ty, pos, af, gd⟩ es [.raw b E' k sz ys] (fun e' qs => ∃ b2 c2, len + m ≤ c2 ∧ c2 ≤ maxLen ∧ e' = (d, .val (vw b2 0 sz (len + m) c2)) :: es ∧
   qs = [.raw b2 E k sz (xs.map some ++ List.replicate m (some z0) ++ List.replicate (c2 - (len + m)) none), .raw b E' k sz ys]) :=
 HOp.of rfl hn fun a w F G1 hs ho hft => by
  obtain ⟨hG, vs, hb', hf⟩ := ho.only
  obtain ⟨hu, i, z, hi, hsz, hbyy, hzv, hzs, hpos⟩ := arInfo_under hT
  have hzc : z.cells.toList = zs := by
   unfold zeroOf at hz
   rw [hi] at hz
   simpa [hzv] using hz
  have hp := hf.part hk
  have hlen := hp.length
  have h63 : len + m ≤ 140737488355328 := Nat.le_trans (Nat.le_mul_of_pos_right _ hby) hb
  have hcm : len + m ≤ maxLen := by simp only [maxLen]; omega
  have hr := run_append_make (P := P) (w := w) T ti ty E i z hu hti hi hzv ⟨b, of' * sz, none⟩ len cap m _ (by rw [hlen, hl, hsz]) (part_cells hb') q (by omega)
   (by rw [hbyy]; exact Nat.le_trans (Nat.mul_le_mul_right _ (by omega)) hb) (by rw [hsz]; exact Nat.ne_of_gt (Nat.mul_pos hm hpos)) hg (by omega) (by rw [hbyy]; exact growslice_fits hg hb)
  have hge := grownCap_ge w (len + m) cap E
  have hle := grownCap_le_maxLen w (len + m) cap E hcm
  have hnew : w.drew.heap.size = w.heap.size := rfl
  obtain ⟨c2, hc2⟩ : ∃ c2, c2 = grownCap w (len + m) cap E := ⟨_, rfl⟩
  rw [← hc2] at hr hge hle
  have hfl : FlatO (w.drew.alloc (.cells (((vs.drop (of' * sz)).take (len * sz)).toArray ++ Builtin.zeroCells z.cells m ++ Builtin.zeroCells z.cells (c2 - (len + m))) E)) F k sz (xs.map some ++ List.replicate m (some z0) ++ List.replicate (c2 - (len + m)) none)
    (((vs.drop (of' * sz)).take (len * sz)).toArray ++ Builtin.zeroCells z.cells m ++ Builtin.zeroCells z.cells (c2 - (len + m))).toList := by
   have hold : ∀ b, F b → F b ∧ (w.drew.alloc (.cells (((vs.drop (of' * sz)).take (len * sz)).toArray ++ Builtin.zeroCells z.cells m ++ Builtin.zeroCells z.cells (c2 - (len + m))) E)).heap[b]? = w.heap[b]? := fun b hb => ⟨hb, heap_alloc_old w.drew _ (hft.fin b hb)⟩
   rw [Array.toList_append, Array.toList_append]
   have hz1 : z.cells = zs.toArray := by rw [← hzc]
   refine FlatO.append (FlatO.append (FlatO.of_flat (hp.mono hold)) ?_) (FlatO.none (by simp [size_zeroCells, hzs]))
   have := FlatO.of_flat (zeroCells_flat (w := w.drew.alloc (.cells (((vs.drop (of' * sz)).take (len * sz)).toArray ++ Builtin.zeroCells z.cells m ++ Builtin.zeroCells z.cells (c2 - (len + m))) E)) (F := F) (k := k) (x := z0) (z := zs) (by rw [← hzc]; simpa using hzs) hpos (hk0 _ _) m)
   rw [List.map_replicate, ← hz1] at this
   exact this
  have hsame : ∀ b, b < w.heap.size → (w.drew.alloc (.cells (((vs.drop (of' * sz)).take (len * sz)).toArray ++ Builtin.zeroCells z.cells m ++ Builtin.zeroCells z.cells (c2 - (len + m))) E)).heap[b]? = w.heap[b]? := fun b hb => heap_alloc_old w.drew _ hb
  refine ⟨.slice (some ⟨w.heap.size, 0, none⟩) (len + m) c2, w.drew.alloc (.cells (((vs.drop (of' * sz)).take (len * sz)).toArray ++ Builtin.zeroCells z.cells m ++ Builtin.zeroCells z.cells (c2 - (len + m))) E), F, fun b => b = w.heap.size ∨ G1 b, .val (vw w.heap.size 0 sz (len + m) c2), _, ?_, by simp [C.val, vw], ⟨?_, fun _ h => h, fun b hb => ⟨?_, .inl hb⟩, fun b hb => ?_, ⟨rfl, rfl, rfl, by simp, (by first | exact Nat.le_refl _ | exact Nat.le_succ _), fun b hb _ => hsame b hb⟩⟩, _, c2, hge, hle, rfl, rfl⟩
  ·
   simp [execOp, resolve, invoke, builtin, hs.val hx, hs.val hy, vw, hr]
  ·
   refine ⟨(· = w.heap.size), G1, fun _ => Iff.rfl, fun c hc hg => ?_, ⟨fun _ => Iff.rfl, _, ?_, hfl⟩, ho.mono (fun b hb => ⟨hb, hsame b (hft.fin b hb)⟩) fun b hb => hsame b (hft.gin b hb).1⟩
   ·
    have := (hft.gin c hg).1; omega
   ·
    rw [Array.toArray_toList]; exact heap_alloc_new w.drew _
  ·
   have := hft.fin b hb; simp; omega
  ·
   rcases hb with rfl | hb
   ·
    exact ⟨by simp, fun hf => by have := hft.fin _ hf; omega, .inr (Nat.le_refl _)⟩
   ·
    have := hft.gin b hb
    exact ⟨by simp; omega, this.2, .inl hb⟩
end
section
variable {P : Program} {n : Nat} {X : Ctx} {α : Type} {k : α → List C} {sz : Nat} {e : Env} {o r : List Obj} {es : Env} {ps : List Obj} {d ty : Nat} {pos : String} {af : Array Edge} {gd : Option (Nat × Bool)}

theorem vw_zero (b sz len cap : Nat) : vw b 0 sz len cap = .slice (some ⟨b, 0, none⟩) len cap := by simp [vw]

theorem Sim.arr_cap {p E : Nat} {v : Value} {xs : List α} {s : St} (hp : pick p s.o = some (.arr v E k sz xs)) (a : Act) (w : World) (h : Sim n X s a w) :
  ∃ A cap, v = .slice A xs.length cap ∧ xs.length ≤ cap ∧ cap ≤ maxLen ∧ (xs = [] ∧ A = none ∨ ∃ b, A = some ⟨b, 0, none⟩) := by
 rcases Sim.arr_cases hp a w h with ⟨rfl, rfl⟩ | ⟨b, cap, rfl, h1, h2⟩
 ·
  exact ⟨none, 0, rfl, Nat.le_refl _, Nat.zero_le _, .inl ⟨rfl, rfl⟩⟩
 ·
  exact ⟨_, cap, rfl, h1, h2, .inr ⟨b, rfl⟩⟩

theorem op_slice_any_l {T E by' m cap l : Nat} {A : Option Addr} {x y : Operand} {q : IntKind} (hT : slInfo P T = some (E, sz, by')) (hx : ev es x = some (.val (.slice A m cap))) (hy : ev es y = some (.val (.int q l))) (h1 : l ≤ m) (h2 : m ≤ cap) (hn : Nat.blt d n = true) :
  VOp false P n es ps ⟨some d, .slice T x (some y) none none, ty, pos, af, gd⟩ d (.val (.slice (if cap = l then A else A.map (·.add (l * sz))) (m - l) (cap - l))) :=
 VOp.mk rfl hn fun a w F Gp hs ho => ⟨_, fun w2 _ => by
  simp only [execOp, hs.val hx, Option.map_some, hs.val hy, Option.map_none]
  simp [run_slice hT (.inr ⟨q, rfl⟩) (.inl ⟨rfl, rfl⟩) h1 (Nat.le_refl _) h2], rfl⟩

theorem op_copy_raw {dT sT E by' b od dl dc b2 os sl sc E' E2 : Nat} {x y : Operand} {ys zs : List (Option α)} {xs : List α} (hT : slInfo P dT = some (E, sz, by')) (hx : ev es x = some (.val (vw b od sz dl dc))) (hy : ev es y = some (.val (vw b2 os sz sl sc)))
  (hk : (zs.drop os).take (Nat.min sl dl) = xs.map some) (hl : xs.length = Nat.min sl dl) (hfit : od + xs.length ≤ ys.length) (hn : Nat.blt d n = true) :
  HOp P n ⟨some d, .call ⟨.builtin .copy, #[x, y], #[dT, sT]⟩, ty, pos, af, gd⟩ es [.raw b E' k sz ys, .raw b2 E2 k sz zs] (fun e' qs => e' = (d, .int xs.length) :: es ∧ qs = [.raw b E' k sz (ys.take od ++ xs.map some ++ ys.drop (od + xs.length)), .raw b2 E2 k sz zs]) :=
 HOp.of rfl hn fun a w F G1 hs ho hft => by
  obtain ⟨Ga, Gb, hi, hd, h1, h2⟩ := ho
  obtain ⟨hG, vs, hb, hf⟩ := h1
  obtain ⟨hGu, us, hbu, hfz⟩ := h2.only
  have hp := hfz.part hk
  have hlen := hp.length
  have hvl := hf.length
  have hfit' : od * sz + ((us.drop (os * sz)).take (Nat.min sl dl * sz)).length ≤ vs.length := by rw [hlen, hvl, ← Nat.add_mul]; exact Nat.mul_le_mul_right _ hfit
  have hr := run_copy_at (P := P) (sT := sT) (dl := dl) (dc := dc) (sl := sl) (sc := sc) (A := some ⟨b2, os * sz, none⟩) hT hb (by rw [hlen, hl]) (fun a ha => by cases ha; exact part_cells hbu) (fun h => by cases h) hfit' hp.one ty
  refine ⟨_, _, F, fun b => Ga b ∨ Gb b, .int xs.length, _, ?_, by rw [hl]; rfl, Turn.frame (qs := [_]) hi hd h2 hft (Turn.setRaw ⟨hft.fin, fun b hb => hft.gin b ((hi b).2 (.inl hb))⟩ hG hb (hf.splice hp)), rfl, rfl⟩
  simp only [execOp, resolve, invoke, builtin, hs.val hx, hs.val hy, vw, Sem.run_bind, List.map_toArray, List.map_cons, List.map_nil]
  simp [hr, hs.val hx, hs.val hy, vw, invoke, builtin, goInt]


def insI {α : Type} (by' : Nat) (xs : List α) (i : Int) (ys : List α) : Option (List α) :=
 if 0 ≤ i ∧ i ≤ xs.length ∧ 0 < ys.length ∧ (xs.length + ys.length) * by' ≤ 140737488355328 then some (xs.take i.toNat ++ ys ++ xs.drop i.toNat) else none

theorem insI_some {by' : Nat} {xs ys zs : List α} {i : Int} (h : insI by' xs i ys = some zs) : ∃ j : Nat, i = j ∧ j ≤ xs.length ∧ 0 < ys.length ∧ (xs.length + ys.length) * by' ≤ 140737488355328 ∧ xs.take j ++ ys ++ xs.drop j = zs := by
 unfold insI at h
 split at h
 ·
  rename_i hc
  exact ⟨i.toNat, by omega, by omega, hc.2.2.1, hc.2.2.2, Option.some.inj h⟩
 ·
  cases h

theorem ins_room {xs ys : List α} {i m c : Nat} (hi : i < xs.length) (hc : xs.length + ys.length ≤ c) (hm : m = ys.length) (r0 r1 : List (Option α)) (h0 : r0 = xs.map some ++ List.replicate (c - xs.length) none)
  (h1 : r1 = r0.take (i + m) ++ (xs.drop i).map some ++ r0.drop (i + m + (xs.drop i).length)) :
  (r1.take i ++ ys.map some ++ r1.drop (i + ys.length)).take (xs.length + m) = (xs.take i ++ ys ++ xs.drop i).map some ∧ (r1.take i ++ ys.map some ++ r1.drop (i + ys.length)).length = c ∧ r1.length = c ∧ r0.length = c := by
 subst hm
 have l0 : r0.length = c := by rw [h0]; simp; omega
 have l1 : r1.length = c := by rw [h1]; simp [l0]; omega
 refine ⟨?_, by simp [l1]; omega, l1, l0⟩
 have e1 : r1.take i = (xs.take i).map some := by
  rw [h1, List.append_assoc, List.take_append_of_le_length (by simp [l0]; omega), List.take_take, Nat.min_eq_left (by omega), h0, List.take_append_of_le_length (by simp; omega), List.map_take]
 have e2 : r1.drop (i + ys.length) = (xs.drop i).map some ++ r0.drop (i + ys.length + (xs.drop i).length) := by
  rw [h1, List.append_assoc, List.drop_left' (by simp [l0]; omega)]
 rw [e1, e2, ← List.append_assoc, List.take_left' (by simp; omega)]
 simp

theorem ins_grow {xs ys : List α} {z : α} {i m c : Nat} (hi : i < xs.length) (hc : xs.length + ys.length ≤ c) (hm : m = ys.length) (r0 r1 : List (Option α)) (h0 : r0 = (xs.take i).map some ++ List.replicate (xs.length + m - i) (some z) ++ List.replicate (c - (xs.length + m)) none)
  (h1 : r1 = r0.take i ++ ys.map some ++ r0.drop (i + ys.length)) :
  (r1.take (i + m) ++ (xs.drop i).map some ++ r1.drop (i + m + (xs.drop i).length)).take (xs.length + m) = (xs.take i ++ ys ++ xs.drop i).map some ∧ (r1.take (i + m) ++ (xs.drop i).map some ++ r1.drop (i + m + (xs.drop i).length)).length = c ∧ r1.length = c ∧ r0.length = c := by
 subst hm
 have l0 : r0.length = c := by rw [h0]; simp; omega
 have l1 : r1.length = c := by rw [h1]; simp [l0]; omega
 refine ⟨?_, by simp [l1]; omega, l1, l0⟩
 have e1 : r0.take i = (xs.take i).map some := by
  rw [h0, List.append_assoc, List.take_left' (by simp; omega)]
 have e2 : r1.take (i + ys.length) = (xs.take i).map some ++ ys.map some := by
  rw [h1, e1, List.take_left' (by simp; omega)]
 rw [e2, List.take_left' (by simp; omega)]
 simp
theorem op_slice_vw_l' {T E by' b of' len cap l o' l' c' : Nat} {x y : Operand} {q : IntKind} (hT : slInfo P T = some (E, sz, by')) (hx : ev es x = some (.val (vw b of' sz len cap))) (hy : ev es y = some (.val (.int q l))) (h1 : l ≤ len) (h2 : len ≤ cap) (h3 : l < cap) (ho : of' + l = o') (hl : len - l = l') (hc : cap - l = c') (hn : Nat.blt d n = true) :
  VOp false P n es ps ⟨some d, .slice T x (some y) none none, ty, pos, af, gd⟩ d (.val (vw b o' sz l' c')) := by
 subst ho hl hc
 exact op_slice_vw_l hT hx hy h1 h2 h3 hn
theorem op_append_make' {T ti E by' b of' len cap m E' N : Nat} {x y : Operand} {q kk : IntKind} {ys : List (Option α)} {xs : List α} {z0 : α} {zs : List Value} (hT : arInfo P T = some (E, sz, by')) (hti : P.underlying ti = some (.int kk)) (hz : zeroOf P E = some zs) (hk0 : ∀ w F, Cells w F (k z0) zs)
  (hx : ev es x = some (.val (vw b of' sz len cap))) (hy : ev es y = some (.val (.int q m))) (hk : (ys.drop of').take len = xs.map some) (hl : xs.length = len) (hN : len + m = N) (hm : 0 < m) (hg : cap < N) (hb : N * by' ≤ 140737488355328) (hby : 0 < by') (hn : Nat.blt d n = true) :
  HOp P n ⟨some d, .call ⟨.builtin .append, #[x, y], #[T, ti]⟩, ty, pos, af, gd⟩ es [.raw b E' k sz ys] (fun e' qs => ∃ b2 c2, N ≤ c2 ∧ c2 ≤ maxLen ∧ e' = (d, .val (vw b2 0 sz N c2)) :: es ∧
   qs = [.raw b2 E k sz (xs.map some ++ List.replicate m (some z0) ++ List.replicate (c2 - N) none), .raw b E' k sz ys]) := by
 subst hN
 exact op_append_make hT hti hz hk0 hx hy hk hl hm hg hb hby hn

theorem binC_add {a b c : Nat} (h : a + b = c) (hc : c ≤ 9223372036854775807) : binC .add (.int .i64 a) (.int .i64 b) = some (.int .i64 (c : Int)) := by
 subst h
 have e : IntKind.i64.wrap ((a : Int) + (b : Int)) = ((a + b : Nat) : Int) := by rw [IntKind.wrap_i64]; omega
 simp only [binC, if_pos, e]
theorem binC_sub {a b c : Nat} (h : c + b = a) (hc : a ≤ 9223372036854775807) : binC .sub (.int .i64 a) (.int .i64 b) = some (.int .i64 (c : Int)) := by
 subst h
 have e : IntKind.i64.wrap (((c + b : Nat) : Int) - (b : Int)) = (c : Int) := by rw [IntKind.wrap_i64]; omega
 simp only [binC, if_pos, e]
theorem nmin_self {a : Nat} : Nat.min a a = a := Nat.min_self a
theorem nmin_right {a b : Nat} (h : b ≤ a) : Nat.min a b = b := Nat.min_eq_right h
theorem Ghost.arr2 {p E b m c : Nat} {ys : List (Option α)} {xs : List α} {v : Value} (hp : picks [p] o = some ([.raw b E k sz ys], r)) (hx : ys.take m = xs.map some) (hm : m ≤ c) (hc : ys.length = c) (hmax : c ≤ maxLen) (hv : v = .slice (some ⟨b, 0, none⟩) m c) :
  Ghost n X ⟨e, o⟩ ⟨e, .arr v E k sz xs :: r⟩ := by
 subst hc hv
 exact Ghost.arr hp hx hm hmax
end
end Go.Abs
