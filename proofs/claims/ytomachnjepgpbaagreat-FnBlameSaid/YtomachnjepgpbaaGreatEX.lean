/- Views of owned arrays: a block's row of elements (some of them not known), parts of it copied to and fro. -/
import Derived.Test.YtomachnjepgpbaaGreatEL
import Derived.Lib.Overlaps
import Derived.Laws.StructEq
import Derived.Lib.SliceRun
import Derived.MapKept
import Derived.Laws.BytesString
import Derived.Laws.Concat
import Derived.Shelf.SlSortCmp.InsertionK
import Derived.Sort.OwnSortedInts
set_option autoImplicit false
set_option linter.unusedVariables false
set_option linter.unusedSimpArgs false
namespace Go.Abs
open Go

def Y54 {α : Type} (w : World) (F : BSet) (k : α → List C) (sz : Nat) : List (Option α) → List Value → Prop
 | [], vs => vs = []
 | y :: ys, vs => ∃ a r, vs = a ++ r ∧ a.length = sz ∧ (∀ x, y = some x → Y1 w F (k x) a) ∧ Y54 w F k sz ys r

section
variable {α : Type} {w w' : World} {F F' : BSet} {k : α → List C} {sz : Nat}

theorem Y54.mono : ∀ {ys : List (Option α)} {vs : List Value}, Y54 w F k sz ys vs → (∀ b, F b → F' b ∧ w'.heap[b]? = w.heap[b]?) → Y54 w' F' k sz ys vs
 | [], _, h, _ => h
 | _ :: _, _, ⟨a, r, e, hl, h1, h2⟩, m => ⟨a, r, e, hl, fun x hx => (h1 x hx).mono m, h2.mono m⟩

theorem Y54.length : ∀ {ys : List (Option α)} {vs : List Value}, Y54 w F k sz ys vs → vs.length = ys.length * sz
 | [], _, h => by rw [show _ = [] from h]; simp
 | _ :: _, _, ⟨a, r, e, hl, _, h2⟩ => by rw [e, List.length_append, hl, h2.length, List.length_cons, Nat.add_mul, Nat.one_mul, Nat.add_comm]

theorem Y54.append : ∀ {ys zs : List (Option α)} {vs us : List Value}, Y54 w F k sz ys vs → Y54 w F k sz zs us → Y54 w F k sz (ys ++ zs) (vs ++ us)
 | [], _, _, _, h, m => by rw [show _ = [] from h]; exact m
 | _ :: _, _, _, _, ⟨a, r, e, hl, h1, h2⟩, m => ⟨a, r ++ _, by rw [e, List.append_assoc], hl, h1, h2.append m⟩

theorem Y54.of_flat : ∀ {xs : List α} {vs : List Value}, Flat w F k sz xs vs → Y54 w F k sz (xs.map some) vs
 | [], _, h => h
 | _ :: _, _, ⟨a, r, e, hl, h1, h2⟩ => ⟨a, r, e, hl, fun x hx => by cases hx; exact h1, Y54.of_flat h2⟩

theorem Y54.none : ∀ {n : Nat} {vs : List Value}, vs.length = n * sz → Y54 w F k sz (List.replicate n (none : Option α)) vs
 | 0, vs, h => List.eq_nil_of_length_eq_zero (by simpa using h)
 | n + 1, vs, h => by
  rw [Nat.add_mul, Nat.one_mul] at h
  exact ⟨vs.take sz, vs.drop sz, (List.take_append_drop sz vs).symm, (by rw [List.length_take]; omega), (fun x hx => by cases hx), Y54.none (by rw [List.length_drop]; omega)⟩

theorem Y54.drop : ∀ {ys : List (Option α)} {vs : List Value} (n : Nat), Y54 w F k sz ys vs → Y54 w F k sz (ys.drop n) (vs.drop (n * sz))
 | _, _, 0, h => by simpa using h
 | [], _, _ + 1, h => by rw [show _ = [] from h]; simp [Y54]
 | _ :: _, _, n + 1, ⟨a, r, e, hl, _, h2⟩ => by
  subst e
  rw [List.drop_succ_cons, show (n + 1) * sz = a.length + n * sz from by rw [hl, Nat.add_mul, Nat.one_mul, Nat.add_comm], List.drop_length_add_append]
  exact h2.drop n

theorem Y54.take : ∀ {ys : List (Option α)} {vs : List Value} (n : Nat), Y54 w F k sz ys vs → Y54 w F k sz (ys.take n) (vs.take (n * sz))
 | _, _, 0, _ => by simp [Y54]
 | [], _, _ + 1, h => by rw [show _ = [] from h]; simp [Y54]
 | _ :: _, _, n + 1, ⟨a, r, e, hl, h1, h2⟩ => by
  subst e
  rw [List.take_succ_cons, show (n + 1) * sz = a.length + n * sz from by rw [hl, Nat.add_mul, Nat.one_mul, Nat.add_comm], List.take_length_add_append]
  exact ⟨a, _, rfl, hl, h1, h2.take n⟩

theorem Y54.flat : ∀ {xs : List α} {vs : List Value}, Y54 w F k sz (xs.map some) vs → Flat w F k sz xs vs
 | [], _, h => h
 | _ :: _, _, ⟨a, r, e, hl, h1, h2⟩ => ⟨a, r, e, hl, h1 _ rfl, h2.flat⟩

theorem Y54.part {ys : List (Option α)} {vs : List Value} {xs : List α} {o n : Nat} (h : Y54 w F k sz ys vs) (hx : (ys.drop o).take n = xs.map some) : Flat w F k sz xs ((vs.drop (o * sz)).take (n * sz)) :=
 Y54.flat (hx ▸ (h.drop o).take n)

theorem Y54.splice {ys : List (Option α)} {vs us : List Value} {xs : List α} {o : Nat} (h : Y54 w F k sz ys vs) (hu : Flat w F k sz xs us) : Y54 w F k sz (ys.take o ++ xs.map some ++ ys.drop (o + xs.length)) (vs.take (o * sz) ++ us ++ vs.drop (o * sz + us.length)) := by
 rw [hu.length, ← Nat.add_mul]
 exact ((h.take o).append (Y54.of_flat hu)).append (h.drop _)
end

def Obj.raw {α : Type} (b E : Nat) (k : α → List C) (sz : Nat) (ys : List (Option α)) : Obj where
 rep w F G := (∀ b', G b' ↔ b' = b) ∧ ∃ vs, w.heap[b]? = some (.cells vs.toArray E (0, 0)) ∧ Y54 w F k sz ys vs
 mono := by
  rintro w w' F F' G ⟨hg, vs, h1, h2⟩ m g
  exact ⟨hg, vs, (g b ((hg b).2 rfl)).trans h1, h2.mono m⟩

section
variable {P : Program} {n : Nat} {X : Ctx} {α : Type} {k : α → List C} {sz : Nat} {e : Env} {o r : List Obj}

theorem Sim.arr_cases {p E : Nat} {v : Value} {xs : List α} {s : St} (hp : pick p s.o = some (.arr v E k sz xs)) (a : Act) (w : World) (h : Sim n X s a w) :
  (v = .slice none 0 0 ∧ xs = []) ∨ ∃ b cap, v = .slice (some ⟨b, 0, none⟩) xs.length cap ∧ xs.length ≤ cap ∧ cap ≤ maxLen := by
 obtain ⟨F, G, h⟩ := h
 obtain ⟨G1, ⟨⟨vs, hrow, _⟩, _⟩, _⟩ := h.own.pick hp
 rcases hrow.2 with ⟨rfl, h0⟩ | ⟨g, cap, cur, rfl, _, _, hnc, hcm, _⟩
 ·
  exact .inl ⟨rfl, List.eq_nil_of_length_eq_zero h0⟩
 ·
  exact .inr ⟨g, cap, rfl, hnc, hcm⟩

theorem Y25.raw {p E b cap : Nat} {xs : List α} (hp : Y7 [p] o = some ([.arr (.slice (some ⟨b, 0, none⟩) xs.length cap) E k sz xs], r)) :
  Y25 n X ⟨e, o⟩ ⟨e, .raw b E k sz (xs.map some ++ List.replicate (cap - xs.length) none) :: r⟩ := by
 rintro a w ⟨F, G, h⟩
 obtain ⟨G1, G2, hi, hd, h1, h2⟩ := Own.append.1 (h.own.perm (Y8 hp))
 refine ⟨F, G, ⟨h.env, (Own.append (os := [_]).2 ⟨G1, G2, fun _ => Iff.rfl, hd, Own.of_one ?_, h2⟩ : Own w F _ _).congr fun b => (hi b).symm, h.fin, h.gin, h.sub, h.chg, h.size, h.defs⟩⟩
 obtain ⟨⟨vs, ⟨hl, hrow⟩, hf⟩, hG⟩ := h1.only
 rcases hrow with ⟨hv, _⟩ | ⟨g, cap', cur, hv, _, hb, hnc, hcm, hcs, htake⟩
 ·
  cases hv
 ·
  cases hv
  refine ⟨fun b' => by rw [hG b']; simp [Value.ownBlock]; exact eq_comm, cur.toList, by simpa using hb, ?_⟩
  rw [← List.take_append_drop (xs.length * sz) cur.toList, htake]
  refine (Y54.of_flat hf).append (Y54.none ?_)
  rw [List.length_drop, Array.length_toList, hcs, Nat.sub_mul]

theorem Y25.arr {p E b m : Nat} {ys : List (Option α)} {xs : List α} (hp : Y7 [p] o = some ([.raw b E k sz ys], r)) (hx : ys.take m = xs.map some) (hm : m ≤ ys.length) (hmax : ys.length ≤ maxLen) :
  Y25 n X ⟨e, o⟩ ⟨e, .arr (.slice (some ⟨b, 0, none⟩) m ys.length) E k sz xs :: r⟩ := by
 rintro a w ⟨F, G, h⟩
 obtain ⟨G1, G2, hi, hd, h1, h2⟩ := Own.append.1 (h.own.perm (Y8 hp))
 refine ⟨F, G, ⟨h.env, (Own.append (os := [_]).2 ⟨G1, G2, fun _ => Iff.rfl, hd, Own.of_one ?_, h2⟩ : Own w F _ _).congr fun b => (hi b).symm, h.fin, h.gin, h.sub, h.chg, h.size, h.defs⟩⟩
 obtain ⟨hG, vs, hb, hf⟩ := h1.only
 have hxl : xs.length = m := by
  have := congrArg List.length hx
  simp at this; omega
 subst hxl
 have hfl : Flat w F k sz xs (vs.take (xs.length * sz)) := Y54.flat (hx ▸ hf.take xs.length)
 refine ⟨⟨vs.take (xs.length * sz), ⟨hfl.length, .inr ⟨b, ys.length, vs.toArray, rfl, Nat.zero_le _, hb, hm, hmax, by simpa using hf.length, rfl⟩⟩, hfl⟩, fun b' => by rw [hG b']; simp [Value.ownBlock]; exact eq_comm⟩


def vw (b o sz len cap : Nat) : Value := .slice (some ⟨b, o * sz, none⟩) len cap

variable {a : Act} {w : World} {F G : BSet} {es : Env} {ps : List Obj} {d ty : Nat} {pos : String} {af : Array Edge} {gd : Option (Nat × Bool)}

theorem Y55 {T E by' b of' len cap : Nat} (hT : Y2c P T = some (E, sz, by')) {lo hi : Option Value} {l h : Nat} (hlo : lo = none ∧ l = 0 ∨ ∃ q, lo = some (.int q l)) (hhi : hi = none ∧ h = len ∨ ∃ q, hi = some (.int q h)) (hlh : l ≤ h) (hh : h ≤ cap) (hl : l < cap) :
  (Instr.sliceAt T (vw b of' sz len cap) lo hi none).run P w = .ok (vw b (of' + l) sz (h - l) (cap - l)) w := by
 obtain ⟨hu, inf, hinf, hsz, _⟩ := Y2g hT
 have hb : ∀ (q : IntKind) (i y : Nat) (code : BoundsCode), i ≤ y → (Instr.sliceBound (.int q i) y code).run P w = .ok i w := fun q i y code hle => by
  simp [Instr.sliceBound, asIntOf, hle]
 have hne : ¬ cap = l := by omega
 have hne0 : ¬ cap = 0 := by omega
 have e : of' * sz + l * sz = (of' + l) * sz := (Nat.add_mul ..).symm
 unfold vw
 rcases hlo with ⟨rfl, rfl⟩ | ⟨q, rfl⟩ <;> rcases hhi with ⟨rfl, rfl⟩ | ⟨q', rfl⟩
 ·
  simp [Instr.sliceAt, Instr.slice, run_underlying hu, Instr.sliceBounds, Y2h hinf, hsz, Y1d, hne0]
 ·
  simp [Instr.sliceAt, Instr.slice, run_underlying hu, Instr.sliceBounds, Y2h hinf, hsz, hb _ h cap _ hh, Y1d, hne0]
 ·
  simp [Instr.sliceAt, Instr.slice, run_underlying hu, Instr.sliceBounds, Y2h hinf, hsz, hb _ l h _ hlh, Y1d, hne, e]
 ·
  simp [Instr.sliceAt, Instr.slice, run_underlying hu, Instr.sliceBounds, Y2h hinf, hsz, hb _ l h _ hlh, hb _ h cap _ hh, Y1d, hne, e]

theorem Y56 {T E by' b of' len cap l : Nat} {x y : Operand} {q : IntKind} (hT : Y2c P T = some (E, sz, by')) (hx : ev es x = some (.val (vw b of' sz len cap))) (hy : ev es y = some (.val (.int q l))) (h1 : l ≤ len) (h2 : len ≤ cap) (h3 : l < cap) (hn : Nat.blt d n = true) :
  VOp false P n es ps ⟨some d, .slice T x (some y) none none, ty, pos, af, gd⟩ d (.val (vw b (of' + l) sz (len - l) (cap - l))) :=
 VOp.mk rfl hn fun a w F Gp hs ho => ⟨_, fun w2 _ => by
  simp only [execOp, hs.val hx, Option.map_some, hs.val hy, Option.map_none]
  simp [Y55 hT (.inr ⟨q, rfl⟩) (.inl ⟨rfl, rfl⟩) h1 h2 h3], rfl⟩
theorem Y57 {T E by' b of' len cap h : Nat} {x z : Operand} {q : IntKind} (hT : Y2c P T = some (E, sz, by')) (hx : ev es x = some (.val (vw b of' sz len cap))) (hz : ev es z = some (.val (.int q h))) (h2 : h ≤ cap) (h3 : 0 < cap) (hn : Nat.blt d n = true) :
  VOp false P n es ps ⟨some d, .slice T x none (some z) none, ty, pos, af, gd⟩ d (.val (vw b of' sz h cap)) :=
 VOp.mk rfl hn fun a w F Gp hs ho => ⟨_, fun w2 _ => by
  simp only [execOp, hs.val hx, Option.map_some, hs.val hz, Option.map_none]
  simp [Y55 hT (.inl ⟨rfl, rfl⟩) (.inr ⟨q, rfl⟩) (Nat.zero_le _) h2 h3], rfl⟩
theorem Y58 {T E sz' by' m cap : Nat} {A : Option Addr} {x : Operand} (hT : Y2c P T = some (E, sz', by')) (hx : ev es x = some (.val (.slice A m cap))) (hn : Nat.blt d n = true) :
  VOp false P n es ps ⟨some d, .call ⟨.builtin .cap, #[x], #[T]⟩, ty, pos, af, gd⟩ d (.int cap) :=
 VOp.mk rfl hn fun a w F Gp hs ho => ⟨_, fun w2 _ => by
  simp [execOp, resolve, invoke, builtin, hs.val hx, Builtin.cap_, run_underlying (Y2g hT).1, goInt], rfl⟩

theorem Y59 {dT sT E by' b off dl dc sl sc T : Nat} {A : Option Addr} {cs old : List Value} (hT : Y2c P dT = some (E, sz, by')) (hb : w.heap[b]? = some (.cells old.toArray T (0, 0))) (hn : cs.length = Nat.min sl dl * sz)
  (hsrc : ∀ a, A = some a → ∀ j v, cs[j]? = some v → w.cell? (a.add j) = some v) (hA : A = none → cs = []) (hfit : off + cs.length ≤ old.length) (h1 : ∀ u ∈ cs, u.oneCell' = true) (ty : TypeId) :
  (Builtin.copy_ #[dT, sT] ty #[.slice (some ⟨b, off, none⟩) dl dc, .slice A sl sc]).run P w = .ok (goInt ((Nat.min sl dl : Nat) : Int)) (w.setRow b (old.take off ++ cs ++ old.drop (off + cs.length)).toArray) := by
 obtain ⟨hu, inf, hinf, hsz, _⟩ := Y2g hT
 have hst := Y1w (P := P) (off := off) (vs := cs) hb hfit h1
 cases A with
 | none =>
  obtain rfl := hA rfl
  simp [Builtin.copy_, run_underlying hu, Builtin.lenOf, Builtin.firstCells, Y2h hinf] at hst ⊢
  rw [hst]; rfl
 | some ad =>
  have hl := run_loadCells_list (P := P) w ad cs (hsrc ad rfl)
  rw [hn] at hl
  simp [Builtin.copy_, run_underlying hu, Builtin.lenOf, Builtin.firstCells, Y2h hinf, hsz, hl, hst]

theorem Y5a {b T o m : Nat} {vs : List Value} (hb : w.heap[b]? = some (.cells vs.toArray T (0, 0))) : ∀ j v, ((vs.drop (o * sz)).take m)[j]? = some v → w.cell? ((⟨b, o * sz, none⟩ : Addr).add j) = some v := fun j v hv => by
 have := ((Y1n hb).drop (o * sz)).take m j v hv
 rw [Y1d]
 simpa using this

theorem Turn.setRaw {b T : Nat} {ys : List (Option α)} {old vs : List Value} {G1 : BSet} (hf : Fit w F G1) (hG : ∀ b', G1 b' ↔ b' = b) (hb : w.heap[b]? = some (.cells old.toArray T (0, 0))) (hes : Y54 w F k sz ys vs) : Turn w F G1 (w.setRow b vs.toArray) F G1 [.raw b T k sz ys] := by
 have hother : ∀ k, k ≠ b → (w.setRow b vs.toArray).heap[k]? = w.heap[k]? := fun k hk => setRow_other w b k _ hk
 have hFb : ∀ k, F k → F k ∧ (w.setRow b vs.toArray).heap[k]? = w.heap[k]? := fun k hk => ⟨hk, hother k fun e => (hf.gin b ((hG b).2 rfl)).2 (e ▸ hk)⟩
 refine ⟨Own.of_one ⟨hG, vs, setRow_heap w b _ vs.toArray T (0, 0) hb, hes.mono hFb⟩, fun _ h => h, fun k hk => ⟨by simpa using hf.fin k hk, .inl hk⟩,
  fun k hk => ⟨by simpa using (hf.gin k hk).1, (hf.gin k hk).2, .inl hk⟩, ⟨rfl, rfl, rfl, by simp, (by first | exact Nat.le_refl _ | exact Nat.le_succ _), fun k _ hk => hother k fun e => hk ((hG k).2 e)⟩⟩

theorem Y5b {dT sT E by' b od dl dc os sl sc E' : Nat} {x y : Operand} {ys : List (Option α)} {xs : List α} (hT : Y2c P dT = some (E, sz, by')) (hx : ev es x = some (.val (vw b od sz dl dc))) (hy : ev es y = some (.val (vw b os sz sl sc)))
  (hk : (ys.drop os).take (Nat.min sl dl) = xs.map some) (hl : xs.length = Nat.min sl dl) (hfit : od + xs.length ≤ ys.length) (hn : Nat.blt d n = true) :
  HOp P n ⟨some d, .call ⟨.builtin .copy, #[x, y], #[dT, sT]⟩, ty, pos, af, gd⟩ es [.raw b E' k sz ys] (fun e' qs => e' = (d, .int xs.length) :: es ∧ qs = [.raw b E' k sz (ys.take od ++ xs.map some ++ ys.drop (od + xs.length))]) :=
 HOp.of rfl hn fun a w F G1 hs ho hft => by
  obtain ⟨hG, vs, hb, hf⟩ := ho.only
  have hp := hf.part hk
  have hlen := hp.length
  have hvl := hf.length
  have hfit' : od * sz + ((vs.drop (os * sz)).take (Nat.min sl dl * sz)).length ≤ vs.length := by
   rw [hlen, hvl, ← Nat.add_mul]; exact Nat.mul_le_mul_right _ hfit
  have hr := Y59 (P := P) (sT := sT) (dl := dl) (dc := dc) (sl := sl) (sc := sc) (A := some ⟨b, os * sz, none⟩) hT hb (by rw [hlen, hl]) (fun a ha => by cases ha; exact Y5a hb) (fun h => by cases h) hfit' hp.one ty
  refine ⟨_, _, F, G1, .int xs.length, _, ?_, by rw [hl]; rfl, Turn.setRaw hft hG hb (hf.splice hp), rfl, rfl⟩
  simp only [execOp, resolve, invoke, builtin, hs.val hx, hs.val hy, vw, Sem.run_bind, List.map_toArray, List.map_cons, List.map_nil]
  simp [hr, hs.val hx, hs.val hy, vw, invoke, builtin, goInt]

theorem Turn.frame {w' : World} {F' Ga Gb G1 Ga' : BSet} {qs rs : List Obj} (hi : ∀ b, G1 b ↔ Ga b ∨ Gb b) (hd : ∀ b, Ga b → ¬ Gb b) (h2 : Own w F rs Gb) (hft : Fit w F G1) (ht : Turn w F Ga w' F' Ga' qs) : Turn w F G1 w' F' (fun b => Ga' b ∨ Gb b) (qs ++ rs) := by
 have hfa : Fit w F Ga := ⟨hft.fin, fun b hb => hft.gin b ((hi b).2 (.inl hb)), hft.glob⟩
 have hsame : ∀ b, Gb b → w'.heap[b]? = w.heap[b]? := fun b hb => ht.chg.block b (hft.gin b ((hi b).2 (.inr hb))).1 fun hg => hd b hg hb
 have hnot : ∀ b, Ga' b → ¬ Gb b := fun b hb hg => by
  rcases (ht.gin b hb).2.2 with h | h
  ·
   exact hd b h hg
  ·
   have := (hft.gin b ((hi b).2 (.inr hg))).1; omega
 refine ⟨Own.append.2 ⟨Ga', Gb, fun _ => Iff.rfl, hnot, ht.own, h2.mono (ht.same hfa) hsame⟩, ht.sub, fun b hb => ⟨(ht.fin b hb).1, (ht.fin b hb).2.imp id fun h => h.imp (fun h => (hi b).2 (.inl h)) id⟩, fun b hb => ?_, ⟨ht.chg.os, ht.chg.tape, ht.chg.output, ht.chg.size, ht.chg.drawn, fun b hb hn => ht.chg.block b hb fun h => hn ((hi b).2 (.inl h))⟩⟩
 rcases hb with hb | hb
 ·
  exact ⟨(ht.gin b hb).1, (ht.gin b hb).2.1, (ht.gin b hb).2.2.imp (fun h => (hi b).2 (.inl h)) id⟩
 ·
  have h3 := hft.gin b ((hi b).2 (.inr hb))
  refine ⟨Nat.lt_of_lt_of_le h3.1 ht.chg.size, fun hf => ?_, .inl ((hi b).2 (.inr hb))⟩
  rcases (ht.fin b hf).2 with h | h | h
  ·
   exact h3.2 h
  ·
   exact hd b h hb
  ·
   have := h3.1; omega

theorem Y5c {dT sT E by' b od dl dc E' E2 : Nat} {x y : Operand} {ys : List (Option α)} {u : Value} {zs xs : List α} (hT : Y2c P dT = some (E, sz, by')) (hx : ev es x = some (.val (vw b od sz dl dc))) (hy : ev es y = some (.val u))
  (hk : xs = zs.take dl) (hfit : od + xs.length ≤ ys.length) (hn : Nat.blt d n = true) :
  HOp P n ⟨some d, .call ⟨.builtin .copy, #[x, y], #[dT, sT]⟩, ty, pos, af, gd⟩ es [.raw b E' k sz ys, .arr u E2 k sz zs] (fun e' qs => e' = (d, .int xs.length) :: es ∧ qs = [.raw b E' k sz (ys.take od ++ xs.map some ++ ys.drop (od + xs.length)), .arr u E2 k sz zs]) :=
 HOp.of rfl hn fun a w F G1 hs ho hft => by
  obtain ⟨Ga, Gb, hi, hd, h1, h2⟩ := ho
  obtain ⟨hG, vs, hb, hf⟩ := h1
  obtain ⟨⟨us, hrow, hfz⟩, hGu⟩ := h2.only
  have hu : ∃ A c, u = .slice A zs.length c ∧ (A = none → zs = []) ∧ ∀ a, A = some a → ∀ j v, us[j]? = some v → w.cell? (a.add j) = some v := by
   rcases hrow.2 with ⟨rfl, h0⟩ | ⟨g, cap, cur, rfl, _, _⟩
   ·
    exact ⟨none, 0, (by rw [h0]), (fun _ => List.eq_nil_of_length_eq_zero h0), (fun a h => by cases h)⟩
   ·
    exact ⟨some ⟨g, 0, none⟩, cap, rfl, (fun h => by cases h), (fun a ha => by cases ha; exact hrow.cells rfl)⟩
  obtain ⟨A, c, rfl, hA, hcell⟩ := hu
  have hxl : xs.length = Nat.min zs.length dl := by rw [hk, List.length_take, Nat.min_comm]
  have hp : Flat w F k sz xs (us.take (dl * sz)) := by
   rw [hk]
   exact Y54.flat (by have := (Y54.of_flat hfz).take dl; rwa [← List.map_take] at this)
  have hlen := hp.length
  have hvl := hf.length
  have hfit' : od * sz + (us.take (dl * sz)).length ≤ vs.length := by rw [hlen, hvl, ← Nat.add_mul]; exact Nat.mul_le_mul_right _ hfit
  have hr := Y59 (P := P) (sT := sT) (dl := dl) (dc := dc) (sl := zs.length) (sc := c) (A := A) hT hb (by rw [hlen, hxl]) (fun a ha j v hv => by
   rw [List.getElem?_take] at hv
   split at hv
   ·
    exact hcell a ha j v hv
   ·
    cases hv) (fun h => by
   have h0 := hfz.length
   rw [hA h] at h0
   simp at h0
   rw [h0]; simp) hfit' hp.one ty
  refine ⟨_, _, F, fun b => Ga b ∨ Gb b, .int xs.length, _, ?_, by rw [hxl]; rfl, Turn.frame (qs := [_]) hi hd h2 hft (Turn.setRaw ⟨hft.fin, fun b hb => hft.gin b ((hi b).2 (.inl hb)), hft.glob⟩ hG hb (hf.splice hp)), rfl, rfl⟩
  simp [execOp, resolve, invoke, builtin, hr, hs.val hx, hs.val hy, vw, goInt]

theorem Y5d {f : FuncId} {fn : Func} {tS tR E by' b of' lb cb E' E2 : Nat} {ts : Array TypeId} {x y : Operand} {ys : List (Option α)} {zs : List α} {u : Value} (hT : Y30 P tS = some (E, sz, by')) (hfn : P.funcs[f]? = some fn) (hname : (fn.name == "runtime.NumGoroutine") = false) (hbody : fn.body.isNone = true)
  (hnext : Extern.findNext fn = none) (hext : Extern.find fn = some (Extern.SlicesOverlaps.overlaps #[tS, tS] #[tR])) (hx : ev es x = some (.val u)) (hy : ev es y = some (.val (vw b of' sz lb cb))) (hz : zs ≠ []) (hys : ys ≠ []) (hn : Nat.blt d n = true) :
  HOp P n ⟨some d, .call ⟨.value (.func f), #[x, y], ts⟩, ty, pos, af, gd⟩ es [.raw b E' k sz ys, .arr u E2 k sz zs] (fun e' qs => e' = (d, .bool false) :: es ∧ qs = [.raw b E' k sz ys, .arr u E2 k sz zs]) :=
 HOp.of rfl hn fun a w F G1 hs ho hft => by
  have ho' := ho
  obtain ⟨Ga, Gb, hi, hd, h1, h2⟩ := ho
  obtain ⟨hG, vs, hb, hf⟩ := h1
  obtain ⟨⟨us, hrow, hfz⟩, hGu⟩ := h2.only
  obtain ⟨hu, inf, z, hinf, hsz, _, _, _, hpos⟩ := Y31 hT
  rcases hrow.2 with ⟨_, h0⟩ | ⟨g, cap, cur, rfl, _, hg, _⟩
  ·
   exact absurd (List.eq_nil_of_length_eq_zero h0) hz
  ·
   have hne : g ≠ b := fun e => hd b ((hG b).2 rfl) ((hGu b).2 (by simp [Value.ownBlock, e]))
   have hsa : w.shape? g = some (E2, cur.size) := by simp [World.shape?, hg]
   have hsb : w.shape? b = some (E', vs.toArray.size) := by simp [World.shape?, hb]
   have hkb : vs.toArray.size ≠ 0 := by
    rw [List.size_toArray, hf.length]
    have : 0 < ys.length := List.length_pos_iff.2 hys
    exact Nat.ne_of_gt (Nat.mul_pos this hpos)
   have hf1 : w.frozen? ⟨g, 0, none⟩ = false := by simp [World.frozen?, hg]
   have hf2 : w.frozen? { block := g, off := cur.size } = false := by simp [World.frozen?, hg]
   have hrun := Lib.run_overlaps_apart (P := P) w tS tR E hu sz (fun w => by rw [← hsz]; exact Y2h hinf) ⟨g, 0, none⟩ ⟨b, of' * sz, none⟩ zs.length cap lb cb hne E2 E' cur.size vs.toArray.size hsa hsb hkb hf1 hf2
   refine ⟨.bool false, w, F, G1, .bool false, _, ?_, rfl, ⟨ho', fun _ h => h, fun b hb => ⟨hft.fin b hb, .inl hb⟩, fun b hb => ⟨(hft.gin b hb).1, (hft.gin b hb).2, .inl hb⟩, Chg.refl _ _⟩, rfl, rfl⟩
   have hcall := run_callFunc_extern (P := P) hfn hname hbody hnext hext #[.slice (some ⟨g, 0, none⟩) zs.length cap, .slice (some ⟨b, of' * sz, none⟩) lb cb] w
   rw [hrun] at hcall
   have hfv : a.eval (.func f) = .func (.func f) #[] #[] := rfl
   simp [execOp, resolve, hfv, Deferred.ofValue, invoke, hs.val hx, hs.val hy, vw, hcall]

theorem Y5e (t ti ty e : TypeId) (i : TypeInfo) (z : Value) (ht : P.underlying t = some (.slice e)) {kk : IntKind} (hti : P.underlying ti = some (.int kk)) (hi : P.info? e = some i) (hz : i.zero = some z)
  (b : Addr) (sLen sCap m : Nat) (olds : List Value) (hlo : olds.length = sLen * i.size) (holds : ∀ j v, olds[j]? = some v → w.cell? (b.add j) = some v) (kx : IntKind) (hm : m ≤ 9223372036854775807) (hmb : m * i.bytes ≤ 140737488355328) (hpos : m * i.size ≠ 0)
  (hg : sCap < sLen + m) (h63 : ((sLen + m : Nat) : Int) ≤ 9223372036854775807) (hfit : Builtin.nextslicecap (sLen + m) sCap * i.bytes ≤ 281474976710656) :
  (Builtin.append_ #[t, ti] ty #[.slice (some b) sLen sCap, .int kx m]).run P w =
   .ok (.slice (some ⟨w.heap.size, 0, none⟩) (sLen + m) (grownCap w (sLen + m) sCap e))
    (w.drew.alloc (.cells (olds.toArray ++ Builtin.zeroCells z.cells m ++ Builtin.zeroCells z.cells (grownCap w (sLen + m) sCap e - (sLen + m))) e)) := by
 have hn : ¬ (sLen + m ≤ sCap) := by omega
 have h63' : ¬ (9223372036854775807 < ((sLen : Int) + (m : Int))) := by omega
 have h48' : ¬ (281474976710656 < Builtin.nextslicecap (sLen + m) sCap * i.bytes) := by omega
 have hw : IntKind.i64.wrap (m : Int) = m := by rw [IntKind.wrap_i64]; omega
 have hneg : ¬ ((m : Int) < 0) := by omega
 have hbig : ¬ (281474976710656 < (m : Int) * (i.bytes : Int)) := by rw [← Int.natCast_mul]; omega
 have hfo := run_firstCells_some (P := P) w.drew i.size sLen b sLen sCap olds hlo (by simpa using holds)
 simp [Builtin.append_, run_underlying ht, run_underlying hti, sizeOf, typeInfo, zeroValue, hi, hz, asInt, asIntOf, hw, hneg, hbig, hn, h63', h48', Question.forced, hfo, newRow, grownCap, hpos]

theorem Y5f {z : List Value} {x : α} (hz : z.length = sz) (hpos : 0 < sz) (hx : Y1 w F (k x) z) (m : Nat) : Flat w F k sz (List.replicate m x) (Builtin.zeroCells z.toArray m).toList := by
 have := Y3m (w := w) (F := F) (k := k) hz hpos hx m
 simpa [madeCells, Builtin.zeroCells, hz] using this

theorem Y5g {T ti E by' b of' len cap m E' : Nat} {x y : Operand} {q kk : IntKind} {ys : List (Option α)} {xs : List α} {z0 : α} {zs : List Value} (hT : Y30 P T = some (E, sz, by')) (hti : P.underlying ti = some (.int kk)) (hz : Y1c P E = some zs) (hk0 : ∀ w F, Y1 w F (k z0) zs)
  (hx : ev es x = some (.val (vw b of' sz len cap))) (hy : ev es y = some (.val (.int q m))) (hk : (ys.drop of').take len = xs.map some) (hl : xs.length = len) (hm : 0 < m) (hg : cap < len + m) (hb : (len + m) * by' ≤ 140737488355328) (hby : 0 < by') (hn : Nat.blt d n = true) :
  HOp P n ⟨some d, .call ⟨.builtin .append, #[x, y], #[T, ti]⟩, ty, pos, af, gd⟩ es [.raw b E' k sz ys] (fun e' qs => ∃ b2 c2, len + m ≤ c2 ∧ c2 ≤ maxLen ∧ e' = (d, .val (vw b2 0 sz (len + m) c2)) :: es ∧
   qs = [.raw b2 E k sz (xs.map some ++ List.replicate m (some z0) ++ List.replicate (c2 - (len + m)) none), .raw b E' k sz ys]) :=
 HOp.of rfl hn fun a w F G1 hs ho hft => by
  obtain ⟨hG, vs, hb', hf⟩ := ho.only
  obtain ⟨hu, i, z, hi, hsz, hbyy, hzv, hzs, hpos⟩ := Y31 hT
  have hzc : z.cells.toList = zs := by
   unfold Y1c at hz
   rw [hi] at hz
   simpa [hzv] using hz
  have hp := hf.part hk
  have hlen := hp.length
  have h63 : len + m ≤ 140737488355328 := Nat.le_trans (Nat.le_mul_of_pos_right _ hby) hb
  have hcm : len + m ≤ maxLen := by simp only [maxLen]; omega
  have hr := Y5e (P := P) (w := w) T ti ty E i z hu hti hi hzv ⟨b, of' * sz, none⟩ len cap m _ (by rw [hlen, hl, hsz]) (Y5a hb') q (by omega)
   (by rw [hbyy]; exact Nat.le_trans (Nat.mul_le_mul_right _ (by omega)) hb) (by rw [hsz]; exact Nat.ne_of_gt (Nat.mul_pos hm hpos)) hg (by omega) (by rw [hbyy]; exact growslice_fits hg hb)
  have hge := grownCap_ge w (len + m) cap E
  have hle := grownCap_le_maxLen w (len + m) cap E hcm
  have hnew : w.drew.heap.size = w.heap.size := rfl
  obtain ⟨c2, hc2⟩ : ∃ c2, c2 = grownCap w (len + m) cap E := ⟨_, rfl⟩
  rw [← hc2] at hr hge hle
  have hfl : Y54 (w.drew.alloc (.cells (((vs.drop (of' * sz)).take (len * sz)).toArray ++ Builtin.zeroCells z.cells m ++ Builtin.zeroCells z.cells (c2 - (len + m))) E)) F k sz (xs.map some ++ List.replicate m (some z0) ++ List.replicate (c2 - (len + m)) none)
    (((vs.drop (of' * sz)).take (len * sz)).toArray ++ Builtin.zeroCells z.cells m ++ Builtin.zeroCells z.cells (c2 - (len + m))).toList := by
   have hold : ∀ b, F b → F b ∧ (w.drew.alloc (.cells (((vs.drop (of' * sz)).take (len * sz)).toArray ++ Builtin.zeroCells z.cells m ++ Builtin.zeroCells z.cells (c2 - (len + m))) E)).heap[b]? = w.heap[b]? := fun b hb => ⟨hb, heap_alloc_old w.drew _ (hft.fin b hb)⟩
   rw [Array.toList_append, Array.toList_append]
   have hz1 : z.cells = zs.toArray := by rw [← hzc]
   refine Y54.append (Y54.append (Y54.of_flat (hp.mono hold)) ?_) (Y54.none (by simp [size_zeroCells, hzs]))
   have := Y54.of_flat (Y5f (w := w.drew.alloc (.cells (((vs.drop (of' * sz)).take (len * sz)).toArray ++ Builtin.zeroCells z.cells m ++ Builtin.zeroCells z.cells (c2 - (len + m))) E)) (F := F) (k := k) (x := z0) (z := zs) (by rw [← hzc]; simpa using hzs) hpos (hk0 _ _) m)
   rw [List.map_replicate, ← hz1] at this
   exact this
  have hsame : ∀ b, b < w.heap.size → (w.drew.alloc (.cells (((vs.drop (of' * sz)).take (len * sz)).toArray ++ Builtin.zeroCells z.cells m ++ Builtin.zeroCells z.cells (c2 - (len + m))) E)).heap[b]? = w.heap[b]? := fun b hb => heap_alloc_old w.drew _ hb
  refine ⟨.slice (some ⟨w.heap.size, 0, none⟩) (len + m) c2, w.drew.alloc (.cells (((vs.drop (of' * sz)).take (len * sz)).toArray ++ Builtin.zeroCells z.cells m ++ Builtin.zeroCells z.cells (c2 - (len + m))) E), F, fun b => b = w.heap.size ∨ G1 b, .val (vw w.heap.size 0 sz (len + m) c2), _, ?_, by simp [C.val, vw], ⟨?_, fun _ h => h, fun b hb => ⟨?_, .inl hb⟩, fun b hb => ?_, ⟨rfl, rfl, rfl, by simp, (by first | exact Nat.le_refl _ | exact Nat.le_succ _), fun b hb _ => hsame b hb⟩⟩, _, c2, hge, hle, rfl, rfl⟩
  ·
   simp [execOp, resolve, invoke, builtin, hs.val hx, hs.val hy, vw, hr]
  ·
   refine ⟨(· = w.heap.size), G1, fun _ => Iff.rfl, fun c hc hg => ?_, ⟨fun _ => Iff.rfl, _, ?_, hfl⟩, ho.mono (fun b hb => ⟨hb, hsame b (hft.fin b hb)⟩) fun b hb => hsame b (hft.gin b hb).1⟩
   ·
    have := (hft.gin c hg).1; omega
   ·
    rw [Array.toArray_toList]; exact heap_alloc_new w.drew _
  ·
   have := hft.fin b hb; simp; omega
  ·
   rcases hb with rfl | hb
   ·
    exact ⟨by simp, fun hf => by have := hft.fin _ hf; omega, .inr (Nat.le_refl _)⟩
   ·
    have := hft.gin b hb
    exact ⟨by simp; omega, this.2, .inl hb⟩
end
section
variable {P : Program} {n : Nat} {X : Ctx} {α : Type} {k : α → List C} {sz : Nat} {e : Env} {o r : List Obj} {es : Env} {ps : List Obj} {d ty : Nat} {pos : String} {af : Array Edge} {gd : Option (Nat × Bool)}

theorem Y5h (b sz len cap : Nat) : vw b 0 sz len cap = .slice (some ⟨b, 0, none⟩) len cap := by simp [vw]

theorem Sim.arr_cap {p E : Nat} {v : Value} {xs : List α} {s : St} (hp : pick p s.o = some (.arr v E k sz xs)) (a : Act) (w : World) (h : Sim n X s a w) :
  ∃ A cap, v = .slice A xs.length cap ∧ xs.length ≤ cap ∧ cap ≤ maxLen ∧ (xs = [] ∧ A = none ∨ ∃ b, A = some ⟨b, 0, none⟩) := by
 rcases Sim.arr_cases hp a w h with ⟨rfl, rfl⟩ | ⟨b, cap, rfl, h1, h2⟩
 ·
  exact ⟨none, 0, rfl, Nat.le_refl _, Nat.zero_le _, .inl ⟨rfl, rfl⟩⟩
 ·
  exact ⟨_, cap, rfl, h1, h2, .inr ⟨b, rfl⟩⟩

theorem Y5i {T E by' m cap l : Nat} {A : Option Addr} {x y : Operand} {q : IntKind} (hT : Y2c P T = some (E, sz, by')) (hx : ev es x = some (.val (.slice A m cap))) (hy : ev es y = some (.val (.int q l))) (h1 : l ≤ m) (h2 : m ≤ cap) (hn : Nat.blt d n = true) :
  VOp false P n es ps ⟨some d, .slice T x (some y) none none, ty, pos, af, gd⟩ d (.val (.slice (if cap = l then A else A.map (·.add (l * sz))) (m - l) (cap - l))) :=
 VOp.mk rfl hn fun a w F Gp hs ho => ⟨_, fun w2 _ => by
  simp only [execOp, hs.val hx, Option.map_some, hs.val hy, Option.map_none]
  simp [Y2t hT (.inr ⟨q, rfl⟩) (.inl ⟨rfl, rfl⟩) h1 (Nat.le_refl _) h2], rfl⟩

theorem Y5j {dT sT E by' b od dl dc b2 os sl sc E' E2 : Nat} {x y : Operand} {ys zs : List (Option α)} {xs : List α} (hT : Y2c P dT = some (E, sz, by')) (hx : ev es x = some (.val (vw b od sz dl dc))) (hy : ev es y = some (.val (vw b2 os sz sl sc)))
  (hk : (zs.drop os).take (Nat.min sl dl) = xs.map some) (hl : xs.length = Nat.min sl dl) (hfit : od + xs.length ≤ ys.length) (hn : Nat.blt d n = true) :
  HOp P n ⟨some d, .call ⟨.builtin .copy, #[x, y], #[dT, sT]⟩, ty, pos, af, gd⟩ es [.raw b E' k sz ys, .raw b2 E2 k sz zs] (fun e' qs => e' = (d, .int xs.length) :: es ∧ qs = [.raw b E' k sz (ys.take od ++ xs.map some ++ ys.drop (od + xs.length)), .raw b2 E2 k sz zs]) :=
 HOp.of rfl hn fun a w F G1 hs ho hft => by
  obtain ⟨Ga, Gb, hi, hd, h1, h2⟩ := ho
  obtain ⟨hG, vs, hb, hf⟩ := h1
  obtain ⟨hGu, us, hbu, hfz⟩ := h2.only
  have hp := hfz.part hk
  have hlen := hp.length
  have hvl := hf.length
  have hfit' : od * sz + ((us.drop (os * sz)).take (Nat.min sl dl * sz)).length ≤ vs.length := by rw [hlen, hvl, ← Nat.add_mul]; exact Nat.mul_le_mul_right _ hfit
  have hr := Y59 (P := P) (sT := sT) (dl := dl) (dc := dc) (sl := sl) (sc := sc) (A := some ⟨b2, os * sz, none⟩) hT hb (by rw [hlen, hl]) (fun a ha => by cases ha; exact Y5a hbu) (fun h => by cases h) hfit' hp.one ty
  refine ⟨_, _, F, fun b => Ga b ∨ Gb b, .int xs.length, _, ?_, by rw [hl]; rfl, Turn.frame (qs := [_]) hi hd h2 hft (Turn.setRaw ⟨hft.fin, fun b hb => hft.gin b ((hi b).2 (.inl hb)), hft.glob⟩ hG hb (hf.splice hp)), rfl, rfl⟩
  simp only [execOp, resolve, invoke, builtin, hs.val hx, hs.val hy, vw, Sem.run_bind, List.map_toArray, List.map_cons, List.map_nil]
  simp [hr, hs.val hx, hs.val hy, vw, invoke, builtin, goInt]


def insI {α : Type} (by' : Nat) (xs : List α) (i : Int) (ys : List α) : Option (List α) :=
 if 0 ≤ i ∧ i ≤ xs.length ∧ 0 < ys.length ∧ (xs.length + ys.length) * by' ≤ 140737488355328 then some (xs.take i.toNat ++ ys ++ xs.drop i.toNat) else none

theorem Y5k {by' : Nat} {xs ys zs : List α} {i : Int} (h : insI by' xs i ys = some zs) : ∃ j : Nat, i = j ∧ j ≤ xs.length ∧ 0 < ys.length ∧ (xs.length + ys.length) * by' ≤ 140737488355328 ∧ xs.take j ++ ys ++ xs.drop j = zs := by
 unfold insI at h
 split at h
 ·
  rename_i hc
  exact ⟨i.toNat, by omega, by omega, hc.2.2.1, hc.2.2.2, Wj h⟩
 ·
  cases h

theorem Y5l {xs ys : List α} {i m c : Nat} (hi : i < xs.length) (hc : xs.length + ys.length ≤ c) (hm : m = ys.length) (r0 r1 : List (Option α)) (h0 : r0 = xs.map some ++ List.replicate (c - xs.length) none)
  (h1 : r1 = r0.take (i + m) ++ (xs.drop i).map some ++ r0.drop (i + m + (xs.drop i).length)) :
  (r1.take i ++ ys.map some ++ r1.drop (i + ys.length)).take (xs.length + m) = (xs.take i ++ ys ++ xs.drop i).map some ∧ (r1.take i ++ ys.map some ++ r1.drop (i + ys.length)).length = c ∧ r1.length = c ∧ r0.length = c := by
 subst hm
 have l0 : r0.length = c := by rw [h0]; simp; omega
 have l1 : r1.length = c := by rw [h1]; simp [l0]; omega
 refine ⟨?_, by simp [l1]; omega, l1, l0⟩
 have e1 : r1.take i = (xs.take i).map some := by
  rw [h1, List.append_assoc, List.take_append_of_le_length (by simp [l0]; omega), List.take_take, Nat.min_eq_left (by omega), h0, List.take_append_of_le_length (by simp; omega), List.map_take]
 have e2 : r1.drop (i + ys.length) = (xs.drop i).map some ++ r0.drop (i + ys.length + (xs.drop i).length) := by
  rw [h1, List.append_assoc, List.drop_left' (by simp [l0]; omega)]
 rw [e1, e2, ← List.append_assoc, List.take_left' (by simp; omega)]
 simp

theorem Y5m {xs ys : List α} {z : α} {i m c : Nat} (hi : i < xs.length) (hc : xs.length + ys.length ≤ c) (hm : m = ys.length) (r0 r1 : List (Option α)) (h0 : r0 = (xs.take i).map some ++ List.replicate (xs.length + m - i) (some z) ++ List.replicate (c - (xs.length + m)) none)
  (h1 : r1 = r0.take i ++ ys.map some ++ r0.drop (i + ys.length)) :
  (r1.take (i + m) ++ (xs.drop i).map some ++ r1.drop (i + m + (xs.drop i).length)).take (xs.length + m) = (xs.take i ++ ys ++ xs.drop i).map some ∧ (r1.take (i + m) ++ (xs.drop i).map some ++ r1.drop (i + m + (xs.drop i).length)).length = c ∧ r1.length = c ∧ r0.length = c := by
 subst hm
 have l0 : r0.length = c := by rw [h0]; simp; omega
 have l1 : r1.length = c := by rw [h1]; simp [l0]; omega
 refine ⟨?_, by simp [l1]; omega, l1, l0⟩
 have e1 : r0.take i = (xs.take i).map some := by
  rw [h0, List.append_assoc, List.take_left' (by simp; omega)]
 have e2 : r1.take (i + ys.length) = (xs.take i).map some ++ ys.map some := by
  rw [h1, e1, List.take_left' (by simp; omega)]
 rw [e2, List.take_left' (by simp; omega)]
 simp
theorem Y5n {T E by' b of' len cap l o' l' c' : Nat} {x y : Operand} {q : IntKind} (hT : Y2c P T = some (E, sz, by')) (hx : ev es x = some (.val (vw b of' sz len cap))) (hy : ev es y = some (.val (.int q l))) (h1 : l ≤ len) (h2 : len ≤ cap) (h3 : l < cap) (ho : of' + l = o') (hl : len - l = l') (hc : cap - l = c') (hn : Nat.blt d n = true) :
  VOp false P n es ps ⟨some d, .slice T x (some y) none none, ty, pos, af, gd⟩ d (.val (vw b o' sz l' c')) := by
 subst ho hl hc
 exact Y56 hT hx hy h1 h2 h3 hn
theorem Y5o {T ti E by' b of' len cap m E' N : Nat} {x y : Operand} {q kk : IntKind} {ys : List (Option α)} {xs : List α} {z0 : α} {zs : List Value} (hT : Y30 P T = some (E, sz, by')) (hti : P.underlying ti = some (.int kk)) (hz : Y1c P E = some zs) (hk0 : ∀ w F, Y1 w F (k z0) zs)
  (hx : ev es x = some (.val (vw b of' sz len cap))) (hy : ev es y = some (.val (.int q m))) (hk : (ys.drop of').take len = xs.map some) (hl : xs.length = len) (hN : len + m = N) (hm : 0 < m) (hg : cap < N) (hb : N * by' ≤ 140737488355328) (hby : 0 < by') (hn : Nat.blt d n = true) :
  HOp P n ⟨some d, .call ⟨.builtin .append, #[x, y], #[T, ti]⟩, ty, pos, af, gd⟩ es [.raw b E' k sz ys] (fun e' qs => ∃ b2 c2, N ≤ c2 ∧ c2 ≤ maxLen ∧ e' = (d, .val (vw b2 0 sz N c2)) :: es ∧
   qs = [.raw b2 E k sz (xs.map some ++ List.replicate m (some z0) ++ List.replicate (c2 - N) none), .raw b E' k sz ys]) := by
 subst hN
 exact Y5g hT hti hz hk0 hx hy hk hl hm hg hb hby hn

theorem Y5p {a b c : Nat} (h : a + b = c) (hc : c ≤ 9223372036854775807) : binC .add (.int .i64 a) (.int .i64 b) = some (.int .i64 (c : Int)) := by
 subst h
 have e : IntKind.i64.wrap ((a : Int) + (b : Int)) = ((a + b : Nat) : Int) := by rw [IntKind.wrap_i64]; omega
 simp only [binC, if_pos, e]
theorem Y5q {a b c : Nat} (h : c + b = a) (hc : a ≤ 9223372036854775807) : binC .sub (.int .i64 a) (.int .i64 b) = some (.int .i64 (c : Int)) := by
 subst h
 have e : IntKind.i64.wrap (((c + b : Nat) : Int) - (b : Int)) = (c : Int) := by rw [IntKind.wrap_i64]; omega
 simp only [binC, if_pos, e]
theorem Y5r {a : Nat} : Nat.min a a = a := Nat.min_self a
theorem Y5s {a b : Nat} (h : b ≤ a) : Nat.min a b = b := Nat.min_eq_right h
theorem Y25.arr2 {p E b m c : Nat} {ys : List (Option α)} {xs : List α} {v : Value} (hp : Y7 [p] o = some ([.raw b E k sz ys], r)) (hx : ys.take m = xs.map some) (hm : m ≤ c) (hc : ys.length = c) (hmax : c ≤ maxLen) (hv : v = .slice (some ⟨b, 0, none⟩) m c) :
  Y25 n X ⟨e, o⟩ ⟨e, .arr v E k sz xs :: r⟩ := by
 subst hc hv
 exact Y25.arr hp hx hm hmax
end
end Go.Abs
namespace Go.Abs
open Go

def Y5t (P : Program) : List Field → Nat → Option (List Nat)
 | [], _ => some []
 | f :: fs, i =>
  if (f.name != "_") && f.offset == i && (Y1b P f.type == some (false, 1)) then
   match P.underlying f.type, Y5t P fs (i + 1) with
   | some (.int _), some l => some (0 :: l)
   | some .bool, some l => some (1 :: l)
   | some .string, some l => some (2 :: l)
   | _, _ => none
  else none

def Y5u (P : Program) (T : Nat) : Option (List Nat) :=
 match P.underlying T with
 | some (.struct fs) => if P.stoodInHeld T || P.eqGuardType P.depth T then none else Y5t P fs.toList 0
 | _ => none

def Y5v (q : Nat) (u v : Value) : Option Bool :=
 match q, u, v with
 | 0, .int k a, .int k' b => if k = k' then some (a == b) else none
 | 1, .bool a, .bool b => some (a == b)
 | 2, .string a, .string b => some (a.toList == b.toList)
 | _, _, _ => none

def Y5w : List Nat → List Value → List Value → Option Bool
 | [], [], [] => some true
 | q :: qs, u :: us, v :: vs => match Y5v q u v, Y5w qs us vs with
  | some b, some r => some (b && r)
  | _, _ => none
 | _, _, _ => none

section
variable {P : Program} {n : Nat} {a : Act} {w : World} {F G : BSet} {es : Env} {ps : List Obj}
variable {d ty : Nat} {pos : String} {af : Array Edge} {gd : Option (Nat × Bool)}

theorem Y5x {t off : Nat} {xs : Array Value} {v : Value} (ht : Y1b P t = some (false, 1)) (hx : xs[off]? = some v) : (part t xs off).run P w = .ok v w := by
 simp [part, Y1h ht, hx]

theorem Y5y {xs ys : List Value} (m : Nat) : ∀ (fs : List Field) (i : Nat) (ks : List Nat) (us vs : List Value) (b : Bool), Y5t P fs i = some ks → xs.drop i = us → ys.drop i = vs → Y5w ks us vs = some b →
  (Op.eqFields (m + 1) xs.toArray ys.toArray fs).run P w = .ok b w
 | [], i, ks, us, vs, b, hk, hx, hy, hb => by
  cases hk
  cases us <;> cases vs <;> simp [Y5w] at hb
  subst hb; rfl
 | f :: fs, i, ks, us, vs, b, hk, hx, hy, hb => by
  unfold Y5t at hk
  split at hk
  ·
   rename_i hc
   simp only [Bool.and_eq_true, bne_iff_ne, ne_eq, beq_iff_eq] at hc
   obtain ⟨⟨hn, ho⟩, hl⟩ := hc
   have key : ∀ (q : Nat) (l : List Nat), Y5t P fs (i + 1) = some l → ks = q :: l → (∀ u v b, Y5v q u v = some b → (Op.equalIn (m + 1) f.type u v).run P w = .ok b w) → (Op.eqFields (m + 1) xs.toArray ys.toArray (f :: fs)).run P w = .ok b w := by
    intro q l h1 h2 h3
    subst h2
    unfold Y5w at hb
    split at hb
    ·
     rename_i h; cases h
    ·
     rename_i q' qs u us v vs e1
     cases e1
     split at hb
     ·
      rename_i b1 r hb1 hr
      cases hb
      have hxi : xs.toArray[f.offset]? = some u := by
       have : (xs.drop i)[0]? = some u := by rw [hx]; rfl
       rw [List.getElem?_drop] at this
       simpa [ho] using this
      have hyi : ys.toArray[f.offset]? = some v := by
       have : (ys.drop i)[0]? = some v := by rw [hy]; rfl
       rw [List.getElem?_drop] at this
       simpa [ho] using this
      have hx' : xs.drop (i + 1) = us := by rw [← List.tail_drop, hx]; rfl
      have hy' : ys.drop (i + 1) = vs := by rw [← List.tail_drop, hy]; rfl
      have ih := Y5y m fs (i + 1) _ _ _ r h1 hx' hy' hr
      simp only [Op.eqFields, ne_eq, hn, not_false_eq_true, if_true, Sem.run_bind, Y5x hl hxi, Y5x hl hyi, Result.andThen_ok, h3 _ _ _ hb1]
      cases b1
      ·
       simp
      ·
       simpa using ih
     ·
      cases hb
    ·
     cases hb
   split at hk
   ·
    rename_i hu hl'; cases hk
    refine key 0 _ hl' rfl fun u v b hs => ?_
    unfold Y5v at hs
    split at hs
    ·
     split at hs
     ·
      rename_i hkk; subst hkk; cases hs; exact run_equalIn_int (h := hu) ..
     ·
      cases hs
    ·
     rename_i h; cases h
    ·
     rename_i h; cases h
    ·
     cases hs
   ·
    rename_i hu hl'; cases hk
    refine key 1 _ hl' rfl fun u v b hs => ?_
    unfold Y5v at hs
    split at hs
    ·
     rename_i h; cases h
    ·
     cases hs; exact run_equalIn_bool' (h := hu) ..
    ·
     rename_i h; cases h
    ·
     cases hs
   ·
    rename_i hu hl'; cases hk
    refine key 2 _ hl' rfl fun u v b hs => ?_
    unfold Y5v at hs
    split at hs
    ·
     rename_i h; cases h
    ·
     rename_i h; cases h
    ·
     cases hs; exact run_equalIn_string (h := hu) ..
    ·
     cases hs
   ·
    cases hk
  ·
   cases hk

theorem Y5z {us : List Value} : ∀ {vs : List Value}, Y1 w F (us.map C.val) vs → vs = us := by
 induction us with
 | nil => exact fun h => h
 | cons u us ih => rintro _ ⟨v, r, rfl, h1, _, h3⟩; rw [ih h3, show v = u from h1]

theorem Y60 {T : Nat} {ks : List Nat} {us vs : List Value} {b : Bool} (hk : Y5u P T = some ks) (hb : Y5w ks us vs = some b) : (Op.equalIn 10000 T (.agg us.toArray) (.agg vs.toArray)).run P w = .ok b w ∧ P.eqGuardType P.depth T = false := by
 unfold Y5u at hk
 split at hk
 ·
  rename_i fs hu
  split at hk
  ·
   cases hk
  ·
   rename_i hs
   simp only [Bool.or_eq_true, not_or, Bool.not_eq_true] at hs
   have hf : P.fieldsOf T = fs := by simp [Program.fieldsOf, hu]
   refine ⟨?_, hs.2⟩
   rw [run_equalIn_agg w 9999 T us.toArray vs.toArray (by rw [hf]; exact hu) hs.1, hf]
   exact Y5y 9998 fs.toList 0 ks us vs b hk rfl rfl hb
 ·
  cases hk

theorem Y61 {T u : Nat} {x y : Operand} {cs ds : List C} (us vs : List Value) {b : Bool} {ks : List Nat} (hk : Y5u P T = some ks) (hx : ev es x = some (.agg cs)) (hy : ev es y = some (.agg ds)) (h1 : cs = us.map C.val) (h2 : ds = vs.map C.val) (hb : Y5w ks us vs = some b) (hn : Nat.blt d n = true) :
  VOp false P n es ps ⟨some d, .binOp .eql T x y u, ty, pos, af, gd⟩ d (.bool b) :=
 VOp.mk rfl hn fun a w F Gp hs ho => ⟨_, fun w2 _ => by
  subst h1 h2
  obtain ⟨us', hu, hcu⟩ := hs.ev hx
  obtain ⟨vs', hv, hcv⟩ := hs.ev hy
  rw [Y5z hcu] at hu
  rw [Y5z hcv] at hv
  obtain ⟨h1, h2⟩ := Y60 (w := w2) hk hb
  simp only [execOp, hu, hv, Sem.run_bind, run_eqGuard_agg w2 .eql T x y _ _ h2, Result.andThen_ok, run_eql_struct, h1, Sem.run_map]
  rfl, rfl⟩
theorem Y62 {T u : Nat} {x y : Operand} {cs ds : List C} (us vs : List Value) {b : Bool} {ks : List Nat} (hk : Y5u P T = some ks) (hx : ev es x = some (.agg cs)) (hy : ev es y = some (.agg ds)) (h1 : cs = us.map C.val) (h2 : ds = vs.map C.val) (hb : Y5w ks us vs = some b) (hn : Nat.blt d n = true) :
  VOp false P n es ps ⟨some d, .binOp .neq T x y u, ty, pos, af, gd⟩ d (.bool !b) :=
 VOp.mk rfl hn fun a w F Gp hs ho => ⟨_, fun w2 _ => by
  subst h1 h2
  obtain ⟨us', hu, hcu⟩ := hs.ev hx
  obtain ⟨vs', hv, hcv⟩ := hs.ev hy
  rw [Y5z hcu] at hu
  rw [Y5z hcv] at hv
  obtain ⟨h1, h2⟩ := Y60 (w := w2) hk hb
  simp only [execOp, hu, hv, Sem.run_bind, run_eqGuard_agg w2 .neq T x y _ _ h2, Result.andThen_ok, run_neq_struct, h1, Sem.run_map]
  rfl, rfl⟩

theorem Y63 {α : Type} {k : α → List C} {sz T E by' u N K : Nat} {x : Operand} {xs : List α} (hT : Y2c P T = some (E, sz, by')) (hx : ev es x = some (.im k sz xs)) (hn : Nat.blt d n = true) :
  HOp P n ⟨some d, .binOp .eql T x (.const (.slice none N K)) u, ty, pos, af, gd⟩ es [] (fun e' qs => ∃ b : Bool, (b = true → xs = []) ∧ e' = (d, .bool b) :: es ∧ qs = []) :=
 HOp.of rfl hn fun a w F G1 hs ho hft => by
  obtain ⟨A, cap, hv, hc, h⟩ := hs.ev hx
  have hr := Lib.run_eql_slice_nil (P := P) w T E A xs.length cap N K (Y2g hT).1
  refine ⟨.bool A.isNone, w, F, G1, .bool A.isNone, [], ?_, rfl, ⟨ho, fun _ h => h, fun b hb => ⟨hft.fin b hb, .inl hb⟩, fun b hb => ⟨(hft.gin b hb).1, (hft.gin b hb).2, .inl hb⟩, Chg.refl _ _⟩, A.isNone, fun hA => ?_, rfl, rfl⟩
  ·
   have hk : a.eval (.const (.slice none N K)) = .slice none N K := rfl
   simp only [execOp, hv, hk, Sem.run_bind]
   simp [eqGuard, hr]
  ·
   cases xs with
   | nil => rfl
   | cons x0 xs =>
    obtain ⟨b, off, vs, h', _⟩ := h 0 x0 rfl
    rw [h'] at hA
    cases hA
end
end Go.Abs
namespace Go.Abs
open Go

section
variable {α σ τ ω : Type}

theorem Y64 {xs : List α} {l h : Nat} (h1 : l ≤ h) (h2 : h ≤ xs.length) : Y2d xs (l : Int) (h : Int) = some ((xs.drop l).take (h - l)) := by
 unfold Y2d
 rw [if_pos (by omega)]
 simp
theorem Y65 {xs : List α} {h : Nat} (h2 : h ≤ xs.length) : Y2d xs 0 (h : Int) = some (xs.take h) := by
 have := Y64 (xs := xs) (l := 0) (h := h) (by omega) h2
 simpa using this
theorem Y66 {xs : List α} {l : Nat} (h2 : l ≤ xs.length) : Y2d xs (l : Int) (xs.length : Int) = some (xs.drop l) := by
 rw [Y64 h2 (Nat.le_refl _), List.take_of_length_le (by simp)]

theorem shr1 {n : Nat} (h : n < 18446744073709551616) : shrI .u64 (IntKind.u64.wrap (n : Int)) 1 = ((n / 2 : Nat) : Int) := by
 have e : IntKind.u64.wrap (n : Int) = n := IntWalk.u64_in _ ⟨by omega, by omega⟩
 rw [e]
 show Int.fdiv (n : Int) (2 ^ (min 1 64)) = _
 rw [show (2 ^ (min 1 64) : Int) = 2 from rfl, Int.fdiv_eq_ediv_of_nonneg _ (by decide)]
 omega
end
end Go.Abs
namespace Go.Abs
open Go

def Obj.deep {α γ : Type} (v : Value) (E : Nat) (k : α → γ → List C) (os : α → γ → List Obj) (sz : Nat) (xs : List α) : Obj where
 rep w F G := ∃ us : List γ, us.length = xs.length ∧ Own w F (.arr v E (fun p : α × γ => k p.1 p.2) sz (xs.zip us) :: (xs.zip us).flatMap fun p => os p.1 p.2) G
 mono := by
  rintro w w' F F' G ⟨us, hl, h⟩ m g
  exact ⟨us, hl, h.mono m g⟩

def Obj.hole {α γ : Type} (v : Value) (E : Nat) (k : α → γ → List C) (os : α → γ → List Obj) (sz : Nat) (xs : List α) (i : Nat) (u : γ) : Obj where
 rep w F G := ∃ us : List γ, us.length = xs.length ∧ us[i]? = some u ∧ Own w F (.arr v E (fun p : α × γ => k p.1 p.2) sz (xs.zip us) :: ((xs.zip us).eraseIdx i).flatMap fun p => os p.1 p.2) G
 mono := by
  rintro w w' F F' G ⟨us, hl, hu, h⟩ m g
  exact ⟨us, hl, hu, h.mono m g⟩

section
variable {P : Program} {n : Nat} {X : Ctx} {a : Act} {w : World} {F G : BSet} {es : Env} {ps : List Obj} {o : Oper} {T T' : Env → List Obj → Prop}

theorem HOp.frame (h : HOp P n o es ps T) (rs : List Obj) : HOp P n o es (ps ++ rs) (fun e' qs => ∃ q, T e' q ∧ qs = q ++ rs) := by
 intro a w F G1 hs ho hf hsz Kc Q hK
 obtain ⟨Ga, Gb, hi, hd, h1, h2⟩ := Own.append.1 ho
 refine h a w F Ga hs h1 ⟨hf.fin, fun b hb => hf.gin b ((hi b).2 (.inl hb)), hf.glob⟩ hsz Kc Q fun v w' e' qs F' G1' ht hT he => ?_
 exact hK v w' e' (qs ++ rs) F' _ (Turn.frame hi hd h2 hf ht) ⟨qs, hT, rfl⟩ he

theorem HOp.conv (h : HOp P n o es ps T) (k : ∀ e' qs, T e' qs → ∃ qs', (∀ w F G, Own w F qs G → ∃ G', (∀ b, G' b → G b) ∧ Own w F qs' G') ∧ T' e' qs') : HOp P n o es ps T' := by
 intro a w F G1 hs ho hf hsz Kc Q hK
 refine h a w F G1 hs ho hf hsz Kc Q fun v w' e' qs F' G1' ht hT he => ?_
 obtain ⟨qs', hc, hT'⟩ := k e' qs hT
 obtain ⟨G', hsub, ho'⟩ := hc w' F' G1' ht.own
 exact hK v w' e' qs' F' G' ⟨ho', ht.sub, ht.fin, fun b hb => ht.gin b (hsub b hb), ht.chg⟩ hT' he

theorem HOp.pre {ps' : List Obj} (k : ∀ w F G, Own w F ps' G → ∃ qs, Own w F qs G ∧ HOp P n o es qs T) : HOp P n o es ps' T := by
 intro a w F G1 hs ho hf hsz Kc Q hK
 obtain ⟨qs, h1, h2⟩ := k w F G1 ho
 exact h2 a w F G1 hs h1 hf hsz Kc Q hK

theorem VOp.pre {m : Bool} {d : Nat} {c : C} {ps' : List Obj} (hd : o.dst = some d) (hn : Nat.blt d n = true) (k : ∀ w F G, Own w F ps' G → ∃ qs, Own w F qs G ∧ VOp m P n es qs o d c) : VOp m P n es ps' o d c :=
 ⟨hd, hn, fun a w F Gp hs ho => by
  obtain ⟨qs, h1, h2⟩ := k w F Gp ho
  exact h2.run a w F Gp hs h1⟩

variable {α γ : Type} {k : α → γ → List C} {ob : α → γ → List Obj} {sz : Nat} {v : Value} {E : Nat}

theorem Own.deep_iff {xs : List α} : Own w F [.deep v E k ob sz xs] G ↔ ∃ us : List γ, us.length = xs.length ∧ Own w F (.arr v E (fun p : α × γ => k p.1 p.2) sz (xs.zip us) :: (xs.zip us).flatMap fun p => ob p.1 p.2) G :=
 ⟨fun h => h.only, fun h => Own.of_one h⟩

theorem Y67 {xs : List α} {us : List γ} {i : Nat} {x : α} (hl : us.length = xs.length) (hx : xs[i]? = some x) : ∃ u, us[i]? = some u ∧ (xs.zip us)[i]? = some (x, u) := by
 have hi := (List.getElem?_eq_some_iff.1 hx).1
 have hu : us[i]? = some us[i] := We (by omega)
 exact ⟨_, hu, by rw [List.getElem?_zip_eq_some]; exact ⟨hx, hu⟩⟩

theorem Y68 {β : Type} {f : β → List Obj} {ps : List β} {i : Nat} {p : β} (h : ps[i]? = some p) : (ps.flatMap f).Perm (f p ++ (ps.eraseIdx i).flatMap f) := by
 induction ps generalizing i with
 | nil => simp at h
 | cons q ps ih =>
  cases i with
  | zero => simp at h; subst h; simp
  | succ i =>
   simp only [List.getElem?_cons_succ] at h
   simp only [List.flatMap_cons, List.eraseIdx_cons_succ]
   refine ((ih h).append_left (f q)).trans ?_
   rw [← List.append_assoc, ← List.append_assoc]
   exact List.perm_append_comm.append_right _

variable {d ty : Nat} {pos : String} {af : Array Edge} {gd : Option (Nat × Bool)}

theorem Ops.take {ops : Array Oper} {l : List Oper} {os r : List Obj} {K : St → Prop} {xs : List α} {i : Nat} {e : α} {p : Nat} (hp : Y7 [p] os = some ([.deep v E k ob sz xs], r)) (hi : xs[i]? = some e)
  (h : ∀ u, appK (ob e u) (.hole v E k ob sz xs i u :: r) fun os' => Ops P n X ops l es os' K) : Ops P n X ops l es os K := fun a w Q hs hQ => by
 obtain ⟨F, G, hs⟩ := hs
 obtain ⟨G1, G2, hG, hd, h1, h2⟩ := Own.append.1 (hs.own.perm (Y8 hp))
 obtain ⟨us, hul, hown⟩ := Own.deep_iff.1 h1
 obtain ⟨u, hu, hz⟩ := Y67 hul hi
 have hperm := (Y68 (f := fun p : α × γ => ob p.1 p.2) hz).cons (.arr v E (fun p : α × γ => k p.1 p.2) sz (xs.zip us))
 have ho2 : Own w F (ob e u ++ (.arr v E (fun p : α × γ => k p.1 p.2) sz (xs.zip us) :: ((xs.zip us).eraseIdx i).flatMap fun p => ob p.1 p.2)) G1 := hown.perm (hperm.trans List.perm_middle.symm)
 obtain ⟨Ga, Gb, hGi, hGd, h3, h4⟩ := Own.append.1 ho2
 have ho3 : Own w F (ob e u ++ (.hole v E k ob sz xs i u :: r)) G := by
  refine ((Own.append (os := ob e u) (ps := .hole v E k ob sz xs i u :: r)).2 ⟨Ga, fun b => Gb b ∨ G2 b, fun b => Iff.rfl, fun b hb hx => ?_, h3, ⟨Gb, G2, fun b => Iff.rfl, fun b hb hx => hd b ((hGi b).2 (.inr hb)) hx, ⟨us, hul, hu, h4⟩, h2⟩⟩ : Own w F _ (fun b => Ga b ∨ Gb b ∨ G2 b)).congr fun b => ?_
  ·
   rcases hx with hx | hx
   ·
    exact hGd b hb hx
   ·
    exact hd b ((hGi b).2 (.inl hb)) hx
  ·
   rw [hG b, hGi b, or_assoc]
 exact Y9.1 (h u) a w Q ⟨F, G, ⟨hs.env, ho3, hs.fin, hs.gin, hs.sub, hs.chg, hs.size, hs.defs⟩⟩ hQ

theorem Own.none_cons {o : Obj} {r : List Obj} (h : o.rep w F fun _ => False) (k : Own w F r fun _ => False) : Own w F (o :: r) fun _ => False := ⟨_, _, fun _ => by simp, fun _ h => h.elim, h, k⟩
theorem Own.none_nil : Own w F [] fun _ => False := fun _ h => h
theorem Y69 {β : Type} {kk : β → List C} {s E0 : Nat} : (Obj.arr (.slice none 0 0) E0 kk s []).rep w F fun _ => False := ⟨⟨[], World.ownsRow_nil w 0 E0 s, rfl⟩, fun b => by simp [Value.ownBlock]⟩
theorem Y6a {E0 : Nat} : (Obj.deep (.slice none 0 0) E0 k ob sz []).rep w F fun _ => False := ⟨[], rfl, Own.none_cons Y69 Own.none_nil⟩

theorem Frz.deep {kim : α → List C} {xs : List α} (h : ∀ x u, FrzL (k x u) (ob x u) (kim x)) : Frz (.val v) [.deep v E k ob sz xs] (.im kim sz xs) := fun w F G F' u hv ho hF hG => by
 rw [show u = v from hv]
 obtain ⟨us, hul, Ga, Gb, hi, _, h1, h2⟩ := Own.deep_iff.1 ho
 obtain ⟨A, cap, e, hc, hx⟩ := Y4h h1 hF fun b hb => hG b ((hi b).2 (.inl hb))
 have hz : (xs.zip us).length = xs.length := by simp; omega
 rw [hz] at e hc
 refine ⟨A, cap, e, hc, fun i x hxi => ?_⟩
 obtain ⟨t, _, hzi⟩ := Y67 hul hxi
 obtain ⟨b, off, vs, hA, hb, hl, hcs, hcl⟩ := hx i (x, t) hzi
 refine ⟨b, off, vs, hA, hb, hl, hcs, ?_⟩
 obtain ⟨Gc, Gd, hi2, _, h3, _⟩ := Own.append.1 (h2.perm (Y68 (f := fun p : α × γ => ob p.1 p.2) hzi))
 exact h x t w F' Gc F' vs hcl (h3.mono (fun b hb => ⟨hF b hb, rfl⟩) fun _ _ => rfl) (fun _ h => h) fun b hb => hG b ((hi b).2 (.inr ((hi2 b).2 (.inl hb))))

theorem Y4k.deep {xs : List α} (h : ∀ x u, Y4j (k x u)) (ho : ∀ x u, ∀ o ∈ ob x u, Y4k o) : Y4k (.deep v E k ob sz xs) := fun w F F' G ⟨us, hl, hown⟩ => by
 refine ⟨us, hl, hown.plain fun o hmem => ?_⟩
 rcases List.mem_cons.1 hmem with rfl | hmem
 ·
  exact Y4k.arr fun p => h p.1 p.2
 ·
  obtain ⟨p, _, hp⟩ := List.mem_flatMap.1 hmem
  exact ho p.1 p.2 o hp

theorem Y25.freezeBy {e : Env} {o r qs : List Obj} {ns : List Nat} {t : Nat} {c c' : C} (hp : Y7 ns o = some (qs, r)) (ht : get e t = some c) (hf : Frz c qs c') : Y25 n X ⟨e, o⟩ ⟨(t, c') :: e, r⟩ := by
 rintro a w ⟨F, G, h⟩
 obtain ⟨G1, G2, hi, hd, h1, h2⟩ := Own.append.1 (h.own.perm (Y8 hp))
 have hmono : ∀ b, F b → (F b ∨ G1 b) ∧ w.heap[b]? = w.heap[b]? := fun b hb => ⟨.inl hb, rfl⟩
 refine ⟨fun b => F b ∨ G1 b, G2, ⟨fun i c1 hc => ?_, h2.mono hmono fun _ _ => rfl, fun b hb => ?_, fun b hb => ?_, fun b hb => .inl (h.sub b hb), h.chg, h.size, h.defs⟩⟩
 ·
  by_cases hit : t = i
  ·
   subst hit
   rw [Ya] at hc
   cases hc
   exact hf w F G1 _ _ (h.env t _ ht) h1 (fun _ h => .inl h) fun _ h => .inr h
  ·
   rw [Yb _ _ hit] at hc
   exact C.mono _ (h.env i c1 hc) hmono
 ·
  rcases hb with hb | hb
  ·
   exact h.fin b hb
  ·
   have := h.gin b ((hi b).2 (.inl hb))
   exact ⟨this.1, this.2.2.elim (fun h => .inr (.inl h)) fun h => .inr (.inr h)⟩
 ·
  have := h.gin b ((hi b).2 (.inr hb))
  exact ⟨this.1, fun hf => hf.elim this.2.1 fun hg => hd b hg hb, this.2.2⟩

end
end Go.Abs
namespace Go.Abs
open Go

def mget {β : Type} : List (Int × β) → Int → Option β
 | [], _ => none
 | (i, x) :: m, j => if j = i then some x else mget m j
def mset {β : Type} : List (Int × β) → Int → β → List (Int × β)
 | [], j, y => [(j, y)]
 | (i, x) :: m, j, y => if j = i then (i, y) :: m else (i, x) :: mset m j y

theorem Y6b {β : Type} (m : List (Int × β)) (j : Int) (y : β) (l : Int) : mget (mset m j y) l = if l = j then some y else mget m l := by
 induction m with
 | nil => simp [mset, mget]
 | cons p m ih =>
  obtain ⟨i, x⟩ := p
  unfold mset
  by_cases h : j = i
  ·
   subst h
   rw [if_pos rfl, mget, mget]
   by_cases hl : l = j <;> simp [hl]
  ·
   rw [if_neg h, mget, mget, ih]
   by_cases hl : l = i
   ·
    subst hl
    rw [if_pos rfl, if_pos rfl, if_neg (fun e => h e.symm)]
   ·
    rw [if_neg hl, if_neg hl]

theorem Y6c {β : Type} (m : List (Int × β)) (j : Int) (x y : β) : mset (mset m j x) j y = mset m j y := by
 induction m with
 | nil => simp [mset]
 | cons p m ih =>
  obtain ⟨i, z⟩ := p
  by_cases h : j = i
  ·
   subst h; simp [mset]
  ·
   simp [mset, h, ih]

theorem Y6d {β : Type} {m : List (Int × β)} {j : Int} {x : β} (h : mget m j = some x) : mset m j x = m := by
 induction m with
 | nil => cases h
 | cons p m ih =>
  obtain ⟨i, z⟩ := p
  unfold mget at h
  unfold mset
  by_cases hj : j = i
  ·
   rw [if_pos hj] at h ⊢; cases h; rfl
  ·
   rw [if_neg hj] at h ⊢; rw [ih h]

theorem Y6e {β : Type} {m : List (Int × β)} {j : Int} {x : β} (h : (m.map (·.1)).Nodup) : ((mset m j x).map (·.1)).Nodup ∧ ∀ i, i ∈ (mset m j x).map (·.1) → i = j ∨ i ∈ m.map (·.1) := by
 induction m with
 | nil => simp [mset]
 | cons p m ih =>
  obtain ⟨i, z⟩ := p
  simp only [List.map_cons, List.nodup_cons] at h
  obtain ⟨h1, h2⟩ := ih h.2
  unfold mset
  by_cases hj : j = i
  ·
   rw [if_pos hj]; simp only [List.map_cons, List.nodup_cons]; exact ⟨h, fun l hl => .inr hl⟩
  ·
   rw [if_neg hj]
   simp only [List.map_cons, List.nodup_cons]
   refine ⟨⟨fun hm => ?_, h1⟩, fun l hl => ?_⟩
   ·
    rcases h2 i hm with e | e
    ·
     exact hj e.symm
    ·
     exact h.1 e
   ·
    rcases List.mem_cons.1 hl with e | e
    ·
     exact .inr (by simp [e])
    ·
     exact (h2 l e).imp id fun h => by simp [h]

def Ents {β : Type} (w : World) (F : BSet) (kd : IntKind) (kc : β → C) : List (Int × β) → List MapEntry → Prop
 | [], es => es = []
 | (i, x) :: m, es => ∃ e r, es = e :: r ∧ e.key = .int kd i ∧ (kc x).rep w F e.val ∧ Ents w F kd kc m r

section
variable {β : Type} {w w' : World} {F F' : BSet} {kd : IntKind} {kc : β → C}

theorem Ents.mono : ∀ {m : List (Int × β)} {es : List MapEntry}, Ents w F kd kc m es → (∀ b, F b → F' b ∧ w'.heap[b]? = w.heap[b]?) → Ents w' F' kd kc m es
 | [], _, h, _ => h
 | (_, _) :: _, _, ⟨e, r, h1, h2, h3, h4⟩, k => ⟨e, r, h1, h2, C.mono _ h3 k, h4.mono k⟩

theorem Ents.find : ∀ {m : List (Int × β)} {es : List MapEntry} (j : Int) (i : Nat), Ents w F kd kc m es →
  (mget m j = none ∧ Instr.findNow (.int kd) (.int kd j) es i = some none ∧ ∀ y v born, (kc y).rep w F v → Ents w F kd kc (mset m j y) (es ++ [⟨.int kd j, v, born⟩])) ∨
  ∃ x t v, mget m j = some x ∧ Instr.findNow (.int kd) (.int kd j) es i = some (some (i + t, v)) ∧ (kc x).rep w F v ∧ es[t]?.map (·.key) = some (.int kd j) ∧
   ∀ y u, (kc y).rep w F u → Ents w F kd kc (mset m j y) (es.modify t fun e => { e with key := .int kd j, val := u })
 | [], _, j, i, h => by
  rw [show _ = [] from h]
  exact .inl ⟨rfl, rfl, fun y v born hv => ⟨_, [], rfl, rfl, hv, rfl⟩⟩
 | (l, x) :: m, _, j, i, ⟨e, r, h1, h2, h3, h4⟩ => by
  subst h1
  by_cases hj : j = l
  ·
   subst hj
   refine .inr ⟨x, 0, e.val, by rw [mget, if_pos rfl], ?_, h3, by simp [h2], fun y u hu => ?_⟩
   ·
    simp [Instr.findNow, Instr.sameNow, h2]
   ·
    rw [mset, if_pos rfl]
    exact ⟨_, r, rfl, rfl, hu, h4⟩
  ·
   have hne : (j == l) = false := beq_false_of_ne hj
   rcases Ents.find j (i + 1) h4 with ⟨g1, g2, g3⟩ | ⟨x', t, v, g1, g2, g3, g4, g5⟩
   ·
    refine .inl ⟨by rw [mget, if_neg hj]; exact g1, by simp [Instr.findNow, Instr.sameNow, h2, hne, g2], fun y v born hv => ?_⟩
    rw [mset, if_neg hj]
    exact ⟨e, _, rfl, h2, h3, g3 y v born hv⟩
   ·
    refine .inr ⟨x', t + 1, v, by rw [mget, if_neg hj]; exact g1, ?_, g3, by simpa using g4, fun y u hu => ?_⟩
    ·
     simp [Instr.findNow, Instr.sameNow, h2, hne, g2]; omega
    ·
     rw [mset, if_neg hj]
     exact ⟨e, _, rfl, h2, h3, g5 y u hu⟩
end

structure Y6f {β : Type} (m : List (Int × β)) (es : List MapEntry) (clock : Nat) : Prop where
 lt : ∀ e ∈ es, e.born < clock
 one : (es.map (·.born)).Nodup
 keys : (m.map (·.1)).Nodup

theorem Y6f.push {β : Type} {m m' : List (Int × β)} {es : List MapEntry} {clock : Nat} (h : Y6f m es clock) (hm : (m'.map (·.1)).Nodup) {k v : Value} : Y6f m' (es ++ [⟨k, v, clock⟩]) (clock + 1) := by
 refine ⟨fun e he => ?_, ?_, hm⟩
 ·
  rcases List.mem_append.1 he with he | he
  ·
   have := h.lt e he; omega
  ·
   rw [List.mem_singleton.1 he]; exact Nat.lt_succ_self _
 ·
  rw [List.map_append, List.nodup_append]
  refine ⟨h.one, by simp, fun a ha b hb e => ?_⟩
  obtain ⟨x, hx, rfl⟩ := List.mem_map.1 ha
  simp at hb
  have := h.lt x hx
  omega

theorem Y6f.modify {β : Type} {m m' : List (Int × β)} {es : List MapEntry} {clock t : Nat} {f : MapEntry → MapEntry} (h : Y6f m es clock) (hm : (m'.map (·.1)).Nodup) (hf : ∀ e, (f e).born = e.born) : Y6f m' (es.modify t f) clock := by
 have hb : (es.modify t f).map (·.born) = es.map (·.born) := by
  apply List.ext_getElem?
  intro i
  simp only [List.getElem?_map, List.getElem?_modify]
  cases es[i]? with
  | none => simp
  | some e => by_cases hti : t = i <;> simp [hti, hf]
 refine ⟨fun e he => ?_, by rw [hb]; exact h.one, hm⟩
 have : e.born ∈ (es.modify t f).map (·.born) := List.mem_map.2 ⟨e, he, rfl⟩
 rw [hb] at this
 obtain ⟨x, hx, e⟩ := List.mem_map.1 this
 rw [← e]
 exact h.lt x hx

def Obj.map {β : Type} (b : Nat) (kd : IntKind) (kc : β → C) (m : List (Int × β)) : Obj where
 rep w F G := (∀ b', G b' ↔ b' = b) ∧ ∃ (es : Array MapEntry) (clock : Nat), w.heap[b]? = some (.map es clock) ∧ Ents w F kd kc m es.toList ∧ Y6f m es.toList clock
 mono := by
  rintro w w' F F' G ⟨hg, es, c, h1, h2, h3⟩ m g
  exact ⟨hg, es, c, (g b ((hg b).2 rfl)).trans h1, h2.mono m, h3⟩

def Obj.mapE {β : Type} (b : Nat) (kd : IntKind) (kc : β → C) (m : List (Int × β)) (z0 : β) (j : Int) (st : Int) : Obj where
 rep w F G := (∀ b', G b' ↔ b' = b) ∧ ∃ (es : Array MapEntry) (clock t : Nat) (e : MapEntry), w.heap[b]? = some (.map es clock) ∧ Ents w F kd kc (mset m j ((mget m j).getD z0)) es.toList ∧ Y6f (mset m j ((mget m j).getD z0)) es.toList clock ∧ es[t]? = some e ∧ e.key = .int kd j ∧ (e.born : Int) = st
 mono := by
  rintro w w' F F' G ⟨hg, es, c, t, e, h1, h2, h3⟩ m g
  exact ⟨hg, es, c, t, e, (g b ((hg b).2 rfl)).trans h1, h2.mono m, h3⟩

def Y6g (P : Program) (T : Nat) : Option (IntKind × Nat) :=
 match P.underlying T with
 | some (.map k e) => match P.underlying k with
  | some (.int kd) => some (kd, e)
  | _ => none
 | _ => none

theorem Y6h {P : Program} {T E : Nat} {kd : IntKind} (h : Y6g P T = some (kd, E)) : ∃ k, P.underlying T = some (.map k E) ∧ P.underlying k = some (.int kd) := by
 unfold Y6g at h
 split at h
 ·
  rename_i k e hu
  split at h
  ·
   rename_i kd' hk
   cases h
   exact ⟨k, hu, hk⟩
  ·
   cases h
 ·
  cases h

def Y6i (P : Program) (T : Nat) : Option Value := (P.info? T).bind (·.zero)

section
variable {P : Program} {n : Nat} {a : Act} {w : World} {F G : BSet} {es : Env} {ps : List Obj} {β : Type} {kd : IntKind} {kc : β → C} {m : List (Int × β)}
variable {d ty : Nat} {pos : String} {af : Array Edge} {gd : Option (Nat × Bool)}

theorem Y6j {k : Nat} (hk : P.underlying k = some (.int kd)) (e : Bool) (j : Int) (l : Nat) : (Instr.checkKey e (l + 1) k (.int kd j)).run P w = .ok () w := by
 simp [Instr.checkKey, run_underlying hk]
theorem Y6k {k : Nat} (hk : P.underlying k = some (.int kd)) (e : Bool) (j : Int) : (Instr.checkKey e 10000 k (.int kd j)).run P w = .ok () w := Y6j hk e j 9999
theorem Y6l (j : Int) (l : Nat) : Instr.sameBits (l + 1) (.int kd j) (.int kd j) = true := by simp [Instr.sameBits]

theorem Y6m {k : Nat} (hk : P.underlying k = some (.int kd)) {j : Int} {es : List MapEntry} {r : Option (Nat × Value)} (h : Instr.findNow (.int kd) (.int kd j) es 0 = some r) : (Instr.findKey k (.int kd j) es).run P w = .ok r w := by
 simp [Instr.findKey, run_underlying hk, h]

theorem Y6n {T : Nat} (hn : Nat.blt d n = true) : HOp P n ⟨some d, .makeMap T none, ty, pos, af, gd⟩ es [] (fun e' qs => ∃ b, e' = (d, .val (.map (some b))) :: es ∧ qs = [.map b kd kc []]) :=
 HOp.of rfl hn fun a w F G1 hs h1 hf => by
  have hG1 : G1 = fun _ => False := funext fun b => eq_false (h1 b)
  subst hG1
  refine ⟨.map (some w.heap.size), w.alloc (.map #[] 0), F, _, _, _, ?_, rfl, Turn.new hf.fin (.map w.heap.size kd kc []) _ ⟨fun _ => Iff.rfl, #[], 0, heap_alloc_new w _, rfl, ⟨fun _ h => (by cases h), (by simp), (by simp)⟩⟩, _, rfl, rfl⟩
  simp [execOp, Instr.makeMap]

theorem Y6o {T E k p b : Nat} {j : Int} {zv : Value} {z0 : β} (hu : P.underlying T = some (.map k E)) (hk : P.underlying k = some (.int kd)) (hz : Y6i P E = some zv) (hz0 : ∀ w F, (kc z0).rep w F zv) (hp : pick p ps = some (.map b kd kc m)) (ho : Own w F ps G) :
  ∃ v, (kc ((mget m j).getD z0)).rep w F v ∧ ∀ (ok : Bool) (w2 : World), w2.heap[b]? = w.heap[b]? → (Instr.lookup T (.map (some b)) (.int kd j) ok).run P w2 = .ok (if ok then .tuple #[v, .bool (mget m j).isSome] else v) w2 := by
 obtain ⟨G1, ⟨_, en, clock, hb, he, _⟩, _⟩ := ho.pick hp
 obtain ⟨inf, hi, hzz⟩ : ∃ inf, P.info? E = some inf ∧ inf.zero = some zv := by
  unfold Y6i at hz
  cases hi : P.info? E with
  | none => rw [hi] at hz; cases hz
  | some inf => rw [hi] at hz; exact ⟨inf, rfl, hz⟩
 rcases he.find j 0 with ⟨g1, g2, _⟩ | ⟨x, t, v, g1, g2, g3, _⟩
 ·
  refine ⟨zv, by rw [g1]; exact hz0 w F, fun ok w2 hw => ?_⟩
  rw [g1]
  have hck := Y6k (P := P) (w := w2) hk en.isEmpty j
  have hfk := Y6m (P := P) (w := w2) hk g2
  have hgo := MapKept.run_getObj_map (P := P) (hw.trans hb)
  cases ok <;> simp [Instr.lookup, run_underlying hu, hgo, hck, hfk, zeroValue, typeInfo, hi, hzz]
 ·
  refine ⟨v, by rw [g1]; exact g3, fun ok w2 hw => ?_⟩
  rw [g1]
  have hck := Y6k (P := P) (w := w2) hk en.isEmpty j
  have hfk := Y6m (P := P) (w := w2) hk g2
  have hgo := MapKept.run_getObj_map (P := P) (hw.trans hb)
  cases ok <;> simp [Instr.lookup, run_underlying hu, hgo, hck, hfk]

theorem Y6p {T E p b : Nat} {x y : Operand} {j : Int} {zv : Value} {z0 : β} (hT : Y6g P T = some (kd, E)) (hz : Y6i P E = some zv) (hz0 : ∀ w F, (kc z0).rep w F zv) (hx : ev es x = some (.val (.map (some b)))) (hy : ev es y = some (.val (.int kd j)))
  (hp : pick p ps = some (.map b kd kc m)) (hn : Nat.blt d n = true) : VOp true P n es ps ⟨some d, .lookup T x y false, ty, pos, af, gd⟩ d (kc ((mget m j).getD z0)) :=
 VOp.mk rfl hn fun a w F Gp hs ho => by
  obtain ⟨k, hu, hk⟩ := Y6h hT
  obtain ⟨v, hv, hr⟩ := Y6o (j := j) hu hk hz hz0 hp ho
  obtain ⟨G1, ⟨hg, _⟩, hsub⟩ := ho.pick hp
  exact ⟨v, fun w2 hw => by
   have := hr false w2 (hw rfl b (.inr (hsub b ((hg b).2 rfl))))
   simp only [execOp, hs.val hx, hs.val hy]
   simp [this], hv⟩

theorem Y6q {T E p b : Nat} {x y : Operand} {j : Int} {zv : Value} {z0 : β} (hT : Y6g P T = some (kd, E)) (hz : Y6i P E = some zv) (hz0 : ∀ w F, (kc z0).rep w F zv) (hx : ev es x = some (.val (.map (some b)))) (hy : ev es y = some (.val (.int kd j)))
  (hp : pick p ps = some (.map b kd kc m)) (hn : Nat.blt d n = true) : VOp true P n es ps ⟨some d, .lookup T x y true, ty, pos, af, gd⟩ d (.tup [kc ((mget m j).getD z0), .bool (mget m j).isSome]) :=
 VOp.mk rfl hn fun a w F Gp hs ho => by
  obtain ⟨k, hu, hk⟩ := Y6h hT
  obtain ⟨v, hv, hr⟩ := Y6o (j := j) hu hk hz hz0 hp ho
  obtain ⟨G1, ⟨hg, _⟩, hsub⟩ := ho.pick hp
  exact ⟨.tuple #[v, .bool (mget m j).isSome], fun w2 hw => by
   have := hr true w2 (hw rfl b (.inr (hsub b ((hg b).2 rfl))))
   simp only [execOp, hs.val hx, hs.val hy]
   simp [this], [v, .bool (mget m j).isSome], rfl, v, _, rfl, hv, _, [], rfl, rfl, rfl⟩

theorem Turn.setMap {b : Nat} {es0 : Array MapEntry} {c0 : Nat} {G1 : BSet} {o : Obj} (hft : Fit w F G1) (hG : ∀ b', G1 b' ↔ b' = b) (hb : w.heap[b]? = some (.map es0 c0)) (en' : Array MapEntry) (c' : Nat)
  (ho : ∀ w' : World, (∀ c, F c → F c ∧ w'.heap[c]? = w.heap[c]?) → w'.heap[b]? = some (.map en' c') → o.rep w' F G1) : ∃ w', (setObj b (.map en' c')).run P w = .ok () w' ∧ Turn w F G1 w' F G1 [o] := by
 have hlt : b < w.heap.size := (hft.gin b ((hG b).2 rfl)).1
 have hr := MapKept.run_setObj_map (P := P) (.map en' c') hb
 have hother : ∀ c, c ≠ b → (w.heap.setIfInBounds b (.map en' c'))[c]? = w.heap[c]? := fun c hc => by rw [Array.getElem?_setIfInBounds_ne (Ne.symm hc)]
 have hsame : (w.heap.setIfInBounds b (.map en' c'))[b]? = some (.map en' c') := by simp [hlt]
 have hFb : ∀ c, F c → F c ∧ (w.heap.setIfInBounds b (.map en' c'))[c]? = w.heap[c]? := fun c hc => ⟨hc, hother c fun e => (hft.gin b ((hG b).2 rfl)).2 (e ▸ hc)⟩
 exact ⟨_, hr, ⟨Own.of_one (ho _ hFb hsame), fun _ h => h, fun c hc => ⟨by simpa using hft.fin c hc, .inl hc⟩, fun c hc => ⟨by simpa using (hft.gin c hc).1, (hft.gin c hc).2, .inl hc⟩, ⟨rfl, rfl, rfl, by simp, (by first | exact Nat.le_refl _ | exact Nat.le_succ _), fun c _ hc => hother c fun e => hc ((hG c).2 e)⟩⟩⟩

theorem Y6r {T E b : Nat} {x y z : Operand} {j : Int} {c : C} {v : β} (hT : Y6g P T = some (kd, E)) (hx : ev es x = some (.val (.map (some b)))) (hy : ev es y = some (.val (.int kd j))) (hz : ev es z = some c) (hc : c = kc v) :
  HOp P n ⟨none, .mapUpdate T x y z, ty, pos, af, gd⟩ es [.map b kd kc m] (fun e' qs => e' = es ∧ qs = [.map b kd kc (mset m j v)]) :=
 HOp.of0 rfl fun a w F G1 hs ho hft => by
  subst hc
  obtain ⟨k, hu, hk⟩ := Y6h hT
  obtain ⟨hG, en, clock, hb, he, hst⟩ := ho.only
  have hv := hs.ev hz
  have hgo := MapKept.run_getObj_map (P := P) hb
  have hms := (Y6e (j := j) (x := v) hst.keys).1
  rcases he.find j 0 with ⟨g1, g2, g3⟩ | ⟨x0, t, v0, g1, g2, g3, g4, g5⟩
  ·
   obtain ⟨w', hr, ht⟩ := Turn.setMap (P := P) (o := .map b kd kc (mset m j v)) hft hG hb (en.push ⟨.int kd j, a.eval z, clock⟩) (clock + 1) fun w' hF hb' => ⟨hG, _, _, hb', by
    have := (g3 v (a.eval z) clock hv).mono hF
    simpa using this, by
    have := hst.push (m' := mset m j v) hms (k := .int kd j) (v := a.eval z)
    simpa using this⟩
   refine ⟨w', F, G1, _, ?_, ht, rfl, rfl⟩
   have hck := Y6k (P := P) (w := w) hk false j
   have hfk := Y6m (P := P) (w := w) hk g2
   simp only [execOp, hs.val hx, hs.val hy]
   simp [Instr.mapUpdate, run_underlying hu, hgo, hck, hfk, hr]
  ·
   obtain ⟨w', hr, ht⟩ := Turn.setMap (P := P) (o := .map b kd kc (mset m j v)) hft hG hb (en.modify t fun e => { e with key := .int kd j, val := a.eval z }) clock fun w' hF hb' => ⟨hG, _, _, hb', by
    have := (g5 v (a.eval z) hv).mono hF
    simpa using this, by
    have := hst.modify (m' := mset m j v) (t := t) (f := fun e => { e with key := .int kd j, val := a.eval z }) hms fun _ => rfl
    simpa using this⟩
   refine ⟨w', F, G1, _, ?_, ht, rfl, rfl⟩
   have hck := Y6k (P := P) (w := w) hk false j
   have hfk := Y6m (P := P) (w := w) hk g2
   simp only [execOp, hs.val hx, hs.val hy]
   have g4' : (en[t]?.map (·.key)).getD (.int kd j) = .int kd j := by
    have : en[t]?.map (·.key) = some (.int kd j) := by simpa using g4
    rw [this]; rfl
   have g6 : (Instr.keyThatStays (.int kd j) (.int kd j)).run P w = .ok (.int kd j) w := by
    unfold Instr.keyThatStays
    rw [if_pos]
    ·
     rfl
    ·
     exact Y6l j 9999
   rw [Nat.zero_add] at hfk
   simp [Instr.mapUpdate, run_underlying hu, hgo, hck, hfk, g4', g6, hr]

theorem Ents.key {en : List MapEntry} {t : Nat} {e : MapEntry} {j : Int} (h : Ents w F kd kc m en) (ht : en[t]? = some e) (hk : e.key = .int kd j) : j ∈ m.map (·.1) := by
 induction m generalizing en t with
 | nil => rw [show en = [] from h] at ht; simp at ht
 | cons p m ih =>
  obtain ⟨i, x⟩ := p
  obtain ⟨e0, r, rfl, h2, _, h4⟩ := h
  cases t with
  | zero =>
   simp at ht; subst ht
   rw [h2] at hk
   cases hk
   simp
  | succ t => simp only [List.map_cons, List.mem_cons]; exact .inr (ih h4 (by simpa using ht))

theorem Ents.setAt {en : List MapEntry} {t : Nat} {e : MapEntry} {j : Int} {y : β} {u : Value} (h : Ents w F kd kc m en) (hn : (m.map (·.1)).Nodup) (ht : en[t]? = some e) (hk : e.key = .int kd j) (hu : (kc y).rep w F u) : Ents w F kd kc (mset m j y) (en.modify t fun e => { e with val := u }) := by
 induction m generalizing en t with
 | nil => rw [show en = [] from h] at ht; simp at ht
 | cons p m ih =>
  obtain ⟨i, x⟩ := p
  obtain ⟨e0, r, rfl, h2, h3, h4⟩ := h
  simp only [List.map_cons, List.nodup_cons] at hn
  cases t with
  | zero =>
   simp at ht; subst ht
   rw [h2] at hk
   cases hk
   rw [mset, if_pos rfl]
   exact ⟨_, r, rfl, h2, hu, h4⟩
  | succ t =>
   have ht' : r[t]? = some e := by simpa using ht
   have hj : j ≠ i := fun e' => hn.1 (e' ▸ h4.key ht' hk)
   rw [mset, if_neg hj]
   exact ⟨e0, _, rfl, h2, h3, ih h4 hn.2 ht'⟩

theorem Y6s : ∀ {l : List MapEntry} {t : Nat} {e : MapEntry}, (l.map (·.born)).Nodup → l[t]? = some e → l.findIdx? (fun x => (x.born : Int) == (e.born : Int)) = some t
 | [], _, _, _, h => by simp at h
 | x :: l, 0, e, _, h => by
  simp at h; subst h; simp [List.findIdx?_cons]
 | x :: l, t + 1, e, hn, h => by
  simp only [List.map_cons, List.nodup_cons] at hn
  have h' : l[t]? = some e := by simpa using h
  have hne : x.born ≠ e.born := fun e' => hn.1 (e' ▸ List.mem_map.2 ⟨e, List.mem_of_getElem? h', rfl⟩)
  rw [List.findIdx?_cons, if_neg (by simp; omega), Y6s hn.2 h']
  rfl

theorem Y6t {T E b : Nat} {x y : Operand} {j : Int} {zv : Value} {z0 : β} (hT : Y6g P T = some (kd, E)) (hz : Y6i P E = some zv) (hz0 : ∀ w F, (kc z0).rep w F zv) (hx : ev es x = some (.val (.map (some b)))) (hy : ev es y = some (.val (.int kd j))) (hn : Nat.blt d n = true) :
  HOp P n ⟨some d, .mapEntry T x y, ty, pos, af, gd⟩ es [.map b kd kc m] (fun e' qs => ∃ st : Int, e' = (d, .tup [.any, .int st]) :: es ∧ qs = [.mapE b kd kc m z0 j st]) :=
 HOp.of rfl hn fun a w F G1 hs ho hft => by
  obtain ⟨k, hu, hk⟩ := Y6h hT
  obtain ⟨hG, en, clock, hb, he, hst⟩ := ho.only
  have hgo := MapKept.run_getObj_map (P := P) hb
  have hms := (Y6e (j := j) (x := (mget m j).getD z0) hst.keys).1
  obtain ⟨inf, hi, hzz⟩ : ∃ inf, P.info? E = some inf ∧ inf.zero = some zv := by
   unfold Y6i at hz
   cases hi : P.info? E with
   | none => rw [hi] at hz; cases hz
   | some inf => rw [hi] at hz; exact ⟨inf, rfl, hz⟩
  rcases he.find j 0 with ⟨g1, g2, g3⟩ | ⟨x0, t, v0, g1, g2, g3, g4, g5⟩
  ·
   obtain ⟨w', hr, ht⟩ := Turn.setMap (P := P) (o := .mapE b kd kc m z0 j (clock : Int)) hft hG hb (en.push ⟨.int kd j, zv, clock⟩) (clock + 1) fun w' hF hb' => ⟨hG, _, _, en.size, ⟨.int kd j, zv, clock⟩, hb', by
    have := (g3 ((mget m j).getD z0) zv clock (by rw [g1]; exact hz0 w F)).mono hF
    simpa using this, by
    have := hst.push (m' := mset m j ((mget m j).getD z0)) hms (k := .int kd j) (v := zv)
    simpa using this, by simp, rfl, rfl⟩
   refine ⟨.tuple #[zv, goInt clock], w', F, G1, .tup [.any, .int (clock : Int)], _, ?_, ⟨[zv, goInt clock], rfl, zv, _, rfl, trivial, goInt clock, [], rfl, rfl, rfl⟩, ht, _, rfl, rfl⟩
   have hck := Y6k (P := P) (w := w) hk false j
   have hfk := Y6m (P := P) (w := w) hk g2
   simp only [execOp, hs.val hx, hs.val hy]
   simp [Instr.mapEntry, run_underlying hu, hgo, hck, hfk, zeroValue, typeInfo, hi, hzz, hr]
  ·
   have hen : ∃ e0, en[t]? = some e0 ∧ e0.key = .int kd j := by
    have : (en.toList[t]?).map (·.key) = some (.int kd j) := g4
    rw [Option.map_eq_some_iff] at this
    obtain ⟨e0, h1, h2⟩ := this
    exact ⟨e0, by simpa using h1, h2⟩
   obtain ⟨e0, he0, hke⟩ := hen
   have hv0 : ∀ e1 : MapEntry, en[t]? = some e1 → v0 = v0 := fun _ _ => rfl
   obtain ⟨w', hr, ht⟩ := Turn.setMap (P := P) (o := .mapE b kd kc m z0 j (e0.born : Int)) hft hG hb (en.modify t fun e => { e with key := .int kd j }) clock fun w' hF hb' => ⟨hG, _, _, t, { e0 with key := .int kd j }, hb', by
    rw [g1, Option.getD_some, Y6d g1]
    have hsame : (en.modify t fun e => { e with key := .int kd j }) = en := by
     apply Array.ext_getElem?
     intro i
     rw [Array.getElem?_modify]
     by_cases hti : t = i
     ·
      subst hti; rw [if_pos rfl, he0]; cases e0; simp only at hke; subst hke; rfl
     ·
      rw [if_neg hti]
    rw [hsame]
    exact he.mono hF, by
    have := hst.modify (m' := mset m j ((mget m j).getD z0)) (t := t) (f := fun e => { e with key := .int kd j }) hms fun _ => rfl
    simpa using this, by rw [Array.getElem?_modify, if_pos rfl, he0]; rfl, rfl, rfl⟩
   refine ⟨.tuple #[v0, goInt e0.born], w', F, G1, .tup [.any, .int (e0.born : Int)], _, ?_, ⟨[v0, goInt e0.born], rfl, v0, _, rfl, trivial, goInt e0.born, [], rfl, rfl, rfl⟩, ht, _, rfl, rfl⟩
   have hck := Y6k (P := P) (w := w) hk false j
   have hfk := Y6m (P := P) (w := w) hk g2
   have g6 : (Instr.keyThatStays (.int kd j) (.int kd j)).run P w = .ok (.int kd j) w := by
    unfold Instr.keyThatStays
    rw [if_pos]
    ·
     rfl
    ·
     exact Y6l j 9999
   rw [Nat.zero_add] at hfk
   simp only [execOp, hs.val hx, hs.val hy]
   simp [Instr.mapEntry, run_underlying hu, hgo, hck, hfk, he0, hke, g6, hr]

theorem Y6u {T b : Nat} {x y z : Operand} {j st : Int} {c : C} {v z0 : β} (hx : ev es x = some (.val (.map (some b)))) (hy : ev es y = some (.int st)) (hz : ev es z = some c) (hc : c = kc v) :
  HOp P n ⟨none, .entryStore T x y z, ty, pos, af, gd⟩ es [.mapE b kd kc m z0 j st] (fun e' qs => e' = es ∧ qs = [.map b kd kc (mset m j v)]) :=
 HOp.of0 rfl fun a w F G1 hs ho hft => by
  subst hc
  obtain ⟨hG, en, clock, t, e0, hb, he, hst, he0, hke, rfl⟩ := ho.only
  have hv := hs.ev hz
  have hgo := MapKept.run_getObj_map (P := P) hb
  have hl0 : en.toList[t]? = some e0 := by simpa using he0
  have hfi : en.findIdx? (fun e => (e.born : Int) == (e0.born : Int)) = some t := by
   have := Y6s hst.one hl0
   cases en
   simpa using this
  obtain ⟨w', hr, ht⟩ := Turn.setMap (P := P) (o := .map b kd kc (mset m j v)) hft hG hb (en.modify t fun e => { e with val := a.eval z }) clock fun w' hF hb' => ⟨hG, _, _, hb', by
   have := (he.setAt (y := v) (u := a.eval z) hst.keys hl0 hke hv).mono hF
   rw [Y6c] at this
   simpa using this, by
   have hk2 : ((mset m j v).map (·.1)).Nodup := by
    have := (Y6e (j := j) (x := v) hst.keys).1
    rwa [Y6c] at this
   have := hst.modify (m' := mset m j v) (t := t) (f := fun e => { e with val := a.eval z }) hk2 fun _ => rfl
   simpa using this⟩
  refine ⟨w', F, G1, _, ?_, ht, rfl, rfl⟩
  simp only [execOp, hs.val hx, hs.val hy]
  simp [Instr.entryStore, hgo, asInt, asIntOf, hfi, hr]
end
end Go.Abs
namespace Go.Abs
open Go

def C.clo (f : Nat) (cs : List C) : C where
 rep w F v := ∃ vals, v = .func (.func f) #[] vals.toArray ∧ Reps w F cs vals
 mono := by rintro w w' F F' v ⟨vals, rfl, h⟩ k; exact ⟨vals, rfl, h.mono k⟩
theorem One.clo {f : Nat} {cs : List C} : One (.clo f cs) := fun _ _ v ⟨_, e, _⟩ => by rw [e]; rfl

section
variable {P : Program} {n : Nat} {a : Act} {w : World} {F G : BSet} {es : Env} {ps : List Obj}
variable {d ty : Nat} {pos : String} {af : Array Edge} {gd : Option (Nat × Bool)}

theorem Y6v {f : Nat} {xs : List Operand} {cs : List C} (hx : evs es xs = some cs) (hn : Nat.blt d n = true) : VOp false P n es ps ⟨some d, .makeFunc (.func f) #[] xs.toArray, ty, pos, af, gd⟩ d (.clo f cs) :=
 VOp.mk rfl hn fun a w F Gp hs ho => ⟨.func (.func f) #[] (xs.map a.eval).toArray, fun w2 _ => by simp [execOp, Instr.makeFunc, Sem.run], _, rfl, hs.evs hx⟩

theorem Y6w {f : FuncId} {x : Operand} {xs : List Operand} {ts : Array TypeId} {cs ds : List C} {R : C → List Obj → Prop} (hfv : ev es x = some (.clo f ds)) (h : Ok P f (cs ++ ds) ps R) (hx : evs es xs = some cs) (hn : Nat.blt d n = true) :
  HOp P n ⟨some d, .call ⟨.value x, xs.toArray, ts⟩, ty, pos, af, gd⟩ es ps (fun e' qs => ∃ c, R c qs ∧ e' = (d, c) :: es) := by
 intro a w F G1 hs ho hf hsz Kc Q hK
 obtain ⟨cap, hv, hcap⟩ := hs.ev hfv
 have hcall := h.2 w F G1 _ (Reps.append (hs.evs hx) hcap) ho hf
 have hrun : (execOp a.eval ⟨some d, .call ⟨.value x, xs.toArray, ts⟩, ty, pos, af, gd⟩).run P w = .ok (.enter f (xs.map a.eval ++ cap).toArray) w := by
  simp [execOp, resolve, hv, Deferred.ofValue, invoke, h.1 _ w]
 unfold Oper.wp
 rw [hrun]
 refine hcall.mono fun e w' ⟨v, c, qs, F', G', he, hr, hc, ht⟩ => ?_
 subst he
 exact hK v w' _ qs F' G' ht ⟨c, hr, rfl⟩ (Ym.put (hs.mono (ht.same hf)) (hsz ▸ Yl hn) hc)

theorem Y6x {f : FuncId} {x : Operand} {xs : List Operand} {ts : Array TypeId} {cs ds : List C} {c : C} {qs : List Obj} (hfv : ev es x = some (.clo f ds)) (h : Ok P f (cs ++ ds) ps fun c' qs' => c' = c ∧ qs' = qs) (hx : evs es xs = some cs) (hn : Nat.blt d n = true) :
  HOp P n ⟨some d, .call ⟨.value x, xs.toArray, ts⟩, ty, pos, af, gd⟩ es ps (fun e' qs' => e' = (d, c) :: es ∧ qs' = qs) := by
 intro a w F G1 hs ho hf hsz Kc Q hK
 exact Y6w hfv h hx hn a w F G1 hs ho hf hsz Kc Q fun v w' e' qs' F' G1' ht ⟨c', ⟨h1, h2⟩, h3⟩ he => hK v w' e' qs' F' G1' ht ⟨by rw [h3, h1], h2⟩ he

end
end Go.Abs
namespace Go.Abs
open Go

def Y6y (P : Program) (T j : Nat) : Option (Nat × Nat × Bool) :=
 match P.underlying T with
 | some (.struct fields) => match fields[j]? with
  | some f => match Y1b P f.type with
   | some (g, m) => some (f.offset, m, g)
   | none => none
  | none => none
 | _ => none

theorem Frz.imp {c c' : C} (h : Imp c c') : Frz c [] c' := fun _ _ _ _ v hc _ hF _ => C.mono _ (h _ _ v hc) fun b hb => ⟨hF b hb, rfl⟩

section
variable {P : Program} {n : Nat} {X : Ctx} {a : Act} {w : World} {F G : BSet} {es : Env} {ps : List Obj}
variable {d ty : Nat} {pos : String} {af : Array Edge} {gd : Option (Nat × Bool)}

theorem Y6z {T j fo m : Nat} {g : Bool} (h : Y6y P T j = some (fo, m, g)) : ∃ fields f, P.underlying T = some (.struct fields) ∧ fields[j]? = some f ∧ Y1b P f.type = some (g, m) ∧ f.offset = fo := by
 unfold Y6y at h
 split at h
 ·
  rename_i fields hu
  split at h
  ·
   rename_i f hf
   split at h
   ·
    rename_i g' m' hl
    cases h
    exact ⟨fields, f, hu, hf, hl, rfl⟩
   ·
    cases h
  ·
   cases h
 ·
  cases h

theorem Y70 {T j fo m : Nat} {x : Operand} {cs : List C} {c : C} (hf : Y6y P T j = some (fo, m, false)) (hx : ev es x = some (.agg cs)) (hc : cs[fo]? = some c) (hn : Nat.blt d n = true) : VOp false P n es ps ⟨some d, .field T x j, ty, pos, af, gd⟩ d (c) :=
 VOp.mk rfl hn fun a w F Gp hs ho => by
  obtain ⟨fields, f, hu, hfi, hl, rfl⟩ := Y6z hf
  obtain ⟨vs, hv, hcs⟩ := hs.ev hx
  obtain ⟨v, h1, h2, _⟩ := hcs.get hc
  refine ⟨v, fun w2 _ => ?_, h2⟩
  simp only [execOp, hv]
  simp [Instr.field, run_underlying hu, hfi, asAgg, part, Y1h hl, h1]

theorem Y71 {T j fo m : Nat} {x : Operand} {cs ds : List C} (hf : Y6y P T j = some (fo, m, true)) (hx : ev es x = some (.agg cs)) (hd : (cs.drop fo).take m = ds) (hn : Nat.blt d n = true) : VOp false P n es ps ⟨some d, .field T x j, ty, pos, af, gd⟩ d (.agg ds) :=
 VOp.mk rfl hn fun a w F Gp hs ho => by
  obtain ⟨fields, f, hu, hfi, hl, rfl⟩ := Y6z hf
  obtain ⟨vs, hv, hcs⟩ := hs.ev hx
  refine ⟨.agg ((vs.drop f.offset).take m).toArray, fun w2 _ => ?_, _, rfl, hd ▸ (hcs.drop f.offset).take m⟩
  simp only [execOp, hv]
  have he : vs.toArray.extract f.offset (f.offset + m) = ((vs.drop f.offset).take m).toArray := by
   apply Array.ext'
   simp [List.extract_eq_take_drop]
  simp [Instr.field, run_underlying hu, hfi, asAgg, part, Y1h hl, Y1i hl, he]

theorem Y25.boxFrz {e : Env} {o r qs : List Obj} {ns : List Nat} {b T : Nat} {cs cs' : List C} (hp : Y7 ns o = some (.box b T cs :: qs, r)) (hf : FrzL cs qs cs') : Y25 n X ⟨e, o⟩ ⟨e, .box b T cs' :: r⟩ := by
 rintro a w ⟨F, G, h⟩
 obtain ⟨G1, G2, hi, hd, h1, h2⟩ := Own.append.1 (h.own.perm (Y8 hp))
 obtain ⟨Ga, Gb, hi2, hd2, ⟨hG, vs, hb, hcs⟩, h3⟩ := h1
 have hmono : ∀ b, F b → (F b ∨ Gb b) ∧ w.heap[b]? = w.heap[b]? := fun b hb => ⟨.inl hb, rfl⟩
 refine ⟨fun b => F b ∨ Gb b, fun b => Ga b ∨ G2 b, ⟨fun i c1 hc => C.mono _ (h.env i c1 hc) hmono, ⟨Ga, G2, fun _ => Iff.rfl, fun b hb hx => hd b ((hi2 b).2 (.inl hb)) hx, ⟨hG, vs, hb, hf w F Gb _ vs hcs h3 (fun _ h => .inl h) fun _ h => .inr h⟩, h2.mono hmono fun _ _ => rfl⟩, fun b hb => ?_, fun b hb => ?_, fun b hb => .inl (h.sub b hb), h.chg, h.size, h.defs⟩⟩
 ·
  rcases hb with hb | hb
  ·
   exact h.fin b hb
  ·
   have := h.gin b ((hi b).2 (.inl ((hi2 b).2 (.inr hb))))
   exact ⟨this.1, this.2.2.elim (fun h => .inr (.inl h)) fun h => .inr (.inr h)⟩
 ·
  rcases hb with hb | hb
  ·
   have := h.gin b ((hi b).2 (.inl ((hi2 b).2 (.inl hb))))
   exact ⟨this.1, fun hf => hf.elim this.2.1 fun hg => hd2 b hb hg, this.2.2⟩
  ·
   have := h.gin b ((hi b).2 (.inr hb))
   exact ⟨this.1, fun hf => hf.elim this.2.1 fun hg => hd b ((hi2 b).2 (.inr hg)) hb, this.2.2⟩

def Y72 (ns : List Int) : ByteArray := ns.foldl (fun r n => r.push (UInt8.ofNat n.toNat)) ByteArray.empty

def Y73 (P : Program) (T : Nat) : Bool :=
 match P.underlying T with
 | some (.slice e) => match P.underlying e with
  | some (.int .u8) => true
  | _ => false
 | _ => false

theorem Y74 {T : Nat} (h : Y73 P T = true) : ∃ e, P.underlying T = some (.slice e) ∧ P.underlying e = some (.int .u8) := by
 unfold Y73 at h
 split at h
 ·
  rename_i e hu
  split at h
  ·
   rename_i he; exact ⟨e, hu, he⟩
  ·
   cases h
 ·
  cases h

theorem Y75 {k : Int → List C} (hk : ∀ x, k x = [C.val (.int .u8 x)]) : ∀ {xs : List Int} {vs : List Value}, Flat w F k 1 xs vs → vs = xs.map (Value.int .u8)
 | [], _, h => h
 | x :: xs, _, ⟨a, r, e, _, h1, h2⟩ => by
  rw [hk] at h1
  obtain ⟨v, r', e1, h3, _, h4⟩ := h1
  rw [e, e1, show r' = [] from h4, Y75 hk h2, show v = .int .u8 x from h3]
  rfl

theorem Y76 {T U p E : Nat} {x : Operand} {v : Value} {k : Int → List C} {xs : List Int} (hT : Y73 P T = true) (hU : P.underlying U = some .string) (hk : ∀ x, k x = [C.val (.int .u8 x)]) (hx : ev es x = some (.val v)) (hp : pick p ps = some (.arr v E k 1 xs)) (hn : Nat.blt d n = true) :
  VOp true P n es ps ⟨some d, .convert T U x, ty, pos, af, gd⟩ d (.str (Y72 xs)) :=
 VOp.mk rfl hn fun a w F Gp hs ho => by
  obtain ⟨e, hu, he⟩ := Y74 hT
  obtain ⟨G1, hrep, hsub⟩ := ho.pick hp
  refine ⟨.string (Y72 xs), fun w2 hw => ?_, rfl⟩
  obtain ⟨⟨vs, hrow, hf⟩, hG⟩ := hrep
  have hvs := Y75 hk hf
  rcases hrow.2 with ⟨rfl, h0⟩ | ⟨g, cap, cur, rfl, _, hb, _⟩
  ·
   obtain rfl := List.eq_nil_of_length_eq_zero h0
   simp only [execOp, hs.val hx, Sem.run_bind, Sem.run_map, run_convert_bytes_string w2 T U e none 0 0 hu he hU]
   rfl
  ·
   have hcell : ∀ j u, vs[j]? = some u → w2.cell? ((⟨g, 0, none⟩ : Addr).add j) = some u := fun j u hj => by
    have := hrow.cells (g := g) rfl j u hj
    rw [Y1d] at this ⊢
    rw [← this]
    exact World.cell?_of_block (hw rfl g (.inr (hsub g ((hG g).2 rfl))))
   have hl := run_loadCells_list (P := P) w2 ⟨g, 0, none⟩ vs hcell
   rw [hf.length, Nat.mul_one, hvs] at hl
   simp only [execOp, hs.val hx, Sem.run_bind, Sem.run_map, run_convert_bytes_string w2 T U e _ _ _ hu he hU, run_bytesToString w2 ⟨g, 0, none⟩ xs.length cap xs hl]
   rfl

theorem Y77 {t u : Nat} {x y : Operand} {i j : ByteArray} (hx : ev es x = some (.str i)) (hy : ev es y = some (.str j)) (hb : i.size + j.size ≤ 9223372036854775807) (hn : Nat.blt d n = true) :
  VOp false P n es ps ⟨some d, .binOp .add t x y u, ty, pos, af, gd⟩ d (.str (i ++ j)) :=
 VOp.mk rfl hn fun a w F Gp hs ho => ⟨_, fun w2 _ => by
  simp only [execOp, hs.val hx, hs.val hy, Sem.run_bind]
  simp [binOp, eqGuard_at_string, run_string_add_sum w2 i j hb], rfl⟩
end
end Go.Abs
namespace Go.Abs
open Go

def dropV (v : Value) (sz l : Nat) : Value :=
 match v with
 | .slice A n cap => .slice (if cap = l then A else A.map (·.add (l * sz))) (n - l) (cap - l)
 | _ => undef
def takeV (v : Value) (h : Nat) : Value :=
 match v with
 | .slice A _ cap => .slice A h cap
 | _ => undef

section
variable {P : Program} {n : Nat} {X : Ctx} {a : Act} {w : World} {F G : BSet} {es : Env} {ps : List Obj} {α : Type} {k : α → List C} {sz : Nat}
variable {d ty : Nat} {pos : String} {af : Array Edge} {gd : Option (Nat × Bool)}

theorem Y78 {E : Nat} {v : Value} {xs : List α} {G1 : BSet} (h : (Obj.arr v E k sz xs).rep w F G1) : ∃ A cap, v = .slice A xs.length cap ∧ xs.length ≤ cap ∧ (A = none → xs = []) := by
 obtain ⟨⟨vs, hrow, _⟩, _⟩ := h
 rcases hrow.2 with ⟨rfl, h0⟩ | ⟨g, cap, cur, rfl, _, _, hnc, _⟩
 ·
  have : xs = [] := List.eq_nil_of_length_eq_zero h0
  subst this
  exact ⟨none, 0, rfl, Nat.le_refl _, fun _ => rfl⟩
 ·
  exact ⟨_, cap, rfl, hnc, fun h => by cases h⟩

theorem Y79 {T E E' by' p l : Nat} {x y : Operand} {q : IntKind} {v : Value} {xs : List α} {li : Int} (hT : Y2c P T = some (E', sz, by')) (hx : ev es x = some (.val v)) (hp : pick p ps = some (.arr v E k sz xs)) (hy : ev es y = some (.val (.int q li))) (h0 : 0 ≤ li ∧ li ≤ xs.length) (hl : l = li.toNat) (hn : Nat.blt d n = true) :
  VOp false P n es ps ⟨some d, .slice T x (some y) none none, ty, pos, af, gd⟩ d (.val (dropV v sz l)) :=
 VOp.mk rfl hn fun a w F Gp hs ho => by
  obtain ⟨G1, hrep, _⟩ := ho.pick hp
  obtain ⟨A, cap, rfl, hc, _⟩ := Y78 hrep
  obtain ⟨m, rfl⟩ := Int.eq_ofNat_of_zero_le h0.1
  rw [Int.toNat_natCast] at hl
  subst hl
  refine ⟨_, fun w2 _ => ?_, rfl⟩
  have hr := Y2t (P := P) (w := w2) (A := A) (len := xs.length) (cap := cap) hT (lo := some (.int q l)) (hi := none) (l := l) (h := xs.length) (.inr ⟨q, rfl⟩) (.inl ⟨rfl, rfl⟩) (by omega) (Nat.le_refl _) hc
  simp only [execOp, hs.val hx, Option.map_some, hs.val hy, Option.map_none, dropV]
  simp [hr]

theorem Y7a {T E E' by' p l : Nat} {x y : Operand} {q : IntKind} {v : Value} {xs : List α} {li : Int} (hT : Y2c P T = some (E', sz, by')) (hx : ev es x = some (.val v)) (hp : pick p ps = some (.arr v E k sz xs)) (hy : ev es y = some (.val (.int q li))) (h0 : 0 ≤ li ∧ li ≤ xs.length) (hl : l = li.toNat) (hn : Nat.blt d n = true) :
  VOp false P n es ps ⟨some d, .slice T x none (some y) none, ty, pos, af, gd⟩ d (.val (takeV v l)) :=
 VOp.mk rfl hn fun a w F Gp hs ho => by
  obtain ⟨G1, hrep, _⟩ := ho.pick hp
  obtain ⟨A, cap, rfl, hc, hA⟩ := Y78 hrep
  obtain ⟨m, rfl⟩ := Int.eq_ofNat_of_zero_le h0.1
  rw [Int.toNat_natCast] at hl
  subst hl
  refine ⟨takeV (.slice A xs.length cap) l, fun w2 _ => ?_, rfl⟩
  simp only [execOp, hs.val hx, Option.map_some, hs.val hy, Option.map_none, takeV]
  have hr := Y2t (P := P) (w := w2) (A := A) (len := xs.length) (cap := cap) hT (lo := none) (hi := some (.int q l)) (l := 0) (h := l) (.inl ⟨rfl, rfl⟩) (.inr ⟨q, rfl⟩) (Nat.zero_le _) (by omega) hc
  have e : (if cap = 0 then A else A.map (·.add (0 * sz))) = A := by
   split
   ·
    rfl
   ·
    cases A <;> simp [Addr.add]
  rw [e] at hr
  simp only [Nat.sub_zero] at hr
  simp [hr]

theorem Y7b {T E E' sz' by' p l : Nat} {x : Operand} {v : Value} {xs : List α} (hT : Y2c P T = some (E', sz', by')) (hx : ev es x = some (.val (dropV v sz l))) (hp : pick p ps = some (.arr v E k sz xs)) (hl : l ≤ xs.length) (hn : Nat.blt d n = true) :
  VOp false P n es ps ⟨some d, .call ⟨.builtin .len, #[x], #[T]⟩, ty, pos, af, gd⟩ d (.int ((xs.drop l).length : Nat)) :=
 VOp.mk rfl hn fun a w F Gp hs ho => by
  obtain ⟨G1, hrep, _⟩ := ho.pick hp
  obtain ⟨A, cap, rfl, hc, hA⟩ := Y78 hrep
  refine ⟨_, fun w2 _ => ?_, rfl⟩
  simp [execOp, resolve, invoke, builtin, hs.val hx, dropV, Builtin.len_, run_underlying (Y2g hT).1, goInt]

theorem Y7c {T E E' by' p l : Nat} {x y : Operand} {v : Value} {xs : List α} {e : α} {i : Int} {q : IntKind} (hT : Y2c P T = some (E, sz, by')) (hx : ev es x = some (.val (dropV v sz l))) (hp : pick p ps = some (.arr v E' k sz xs)) (hy : ev es y = some (.val (.int q i)))
  (hi : getI (xs.drop l) i = some e) (hn : Nat.blt d n = true) :
  VOp false P n es ps ⟨some d, .indexAddr T x y, ty, pos, af, gd⟩ d (.val (Y37 v (l + i.toNat) sz 0)) :=
 VOp.mk rfl hn fun a w F Gp hs ho => by
  obtain ⟨h0, h1, h2⟩ := Y2f hi
  rw [List.length_drop] at h1
  obtain ⟨G1, hrep, _⟩ := ho.pick hp
  obtain ⟨b, cap, rfl⟩ := Y35 hrep (fun e => by rw [e] at h2; simp at h2)
  obtain ⟨A, cap', e, hc, _⟩ := Y78 hrep
  cases e
  obtain ⟨hu, inf, hinf, hsz, _⟩ := Y2g hT
  have hne : ¬ cap = l := by omega
  refine ⟨_, fun w2 _ => ?_, rfl⟩
  simp only [execOp, hs.val hx, hs.val hy, Y38, dropV, if_neg hne, Option.map_some]
  have hlt : i.toNat < xs.length - l := by omega
  simp [Instr.indexAt, asIntOf, run_underlying hu, h0, show i < ((xs.length - l : Nat) : Int) by omega, Y2h hinf, hsz, Y1d, Nat.add_mul]

theorem Y7d {xs : List α} {l : Nat} {i : Int} {e : α} (h : getI (xs.drop l) i = some e) : xs[l + i.toNat]? = some e := by
 have := (Y2f h).2.2
 rwa [List.getElem?_drop] at this

theorem Int.le_toNat_len {i : Int} {xs : List α} {u : Unit} (h : chk (decide (0 ≤ i ∧ i ≤ (xs.length : Int))) = some u) : i.toNat ≤ xs.length := by
 have := Wo (Y45 h)
 omega

theorem Y25.prefix {e : Env} {o r : List Obj} {p E h : Nat} {v : Value} {xs : List α} (hp : Y7 [p] o = some ([.arr v E k sz xs], r)) (hh : h ≤ xs.length) : Y25 n X ⟨e, o⟩ ⟨e, .arr (takeV v h) E k sz (xs.take h) :: r⟩ := by
 rintro a w ⟨F, G, hs⟩
 obtain ⟨G1, G2, hi, hd, h1, h2⟩ := Own.append.1 (hs.own.perm (Y8 hp))
 refine ⟨F, G, ⟨hs.env, (Own.append (os := [_]).2 ⟨G1, G2, fun _ => Iff.rfl, hd, Own.of_one ?_, h2⟩ : Own w F _ _).congr fun b => (hi b).symm, hs.fin, hs.gin, hs.sub, hs.chg, hs.size, hs.defs⟩⟩
 obtain ⟨⟨vs, ⟨hl, hrow⟩, hf⟩, hG⟩ := h1.only
 have hft : Flat w F k sz (xs.take h) (vs.take (h * sz)) := by
  have := (Y54.of_flat hf).take h
  rw [← List.map_take] at this
  exact this.flat
 have htl : (xs.take h).length = h := by simp; omega
 rcases hrow with ⟨rfl, h0⟩ | ⟨g, cap, cur, rfl, hbg, hb, hnc, hcm, hcs, htake⟩
 ·
  obtain rfl : xs = [] := List.eq_nil_of_length_eq_zero h0
  obtain rfl : h = 0 := by simpa using hh
  exact ⟨⟨[], World.ownsRow_nil w 0 E sz, by simp [Flat]⟩, fun b => by rw [hG b]; rfl⟩
 ·
  refine ⟨⟨vs.take (h * sz), ⟨by rw [hft.length], .inr ⟨g, cap, cur, by rw [htl]; rfl, hbg, hb, by omega, hcm, hcs, ?_⟩⟩, hft⟩, fun b => by rw [hG b]; rfl⟩
  rw [htl, ← htake, List.take_take, Nat.min_eq_left (Nat.mul_le_mul_right _ hh)]

theorem HOp.ofN {o : Oper} {T : Env → List Obj → Prop} (hd : o.dst = none)
  (H : ∀ a w F G1, Ym w F es a → Own w F ps G1 → Fit w F G1 → ∃ v w' F' G1' qs, (execOp a.eval o).run P w = .ok (.value v) w' ∧ Turn w F G1 w' F' G1' qs ∧ T es qs) : HOp P n o es ps T := by
 intro a w F G1 hs ho hf hsz Kc Q hK
 obtain ⟨v, w', F', G1', qs, hr, ht, hT⟩ := H a w F G1 hs ho hf
 unfold Oper.wp
 rw [hr]
 show Kc (a.put o.dst v) w'
 refine hK v w' _ qs F' G1' ht hT ?_
 rw [hd]
 exact hs.mono (ht.same hf)

theorem Y7e {b E cap : Nat} {xs : List α} {G1 : BSet} (h : Own w F [.arr (.slice (some ⟨b, 0, none⟩) xs.length cap) E k sz xs] G1) : Own w F [.raw b E k sz (xs.map some ++ List.replicate (cap - xs.length) none)] G1 := by
 refine Own.of_one ?_
 obtain ⟨⟨vs, ⟨hl, hrow⟩, hf⟩, hG⟩ := h.only
 rcases hrow with ⟨hv, _⟩ | ⟨g, cap', cur, hv, _, hb, hnc, hcm, hcs, htake⟩
 ·
  cases hv
 ·
  cases hv
  refine ⟨fun b' => by rw [hG b']; simp [Value.ownBlock]; exact eq_comm, cur.toList, by simpa using hb, ?_⟩
  rw [← List.take_append_drop (xs.length * sz) cur.toList, htake]
  refine (Y54.of_flat hf).append (Y54.none ?_)
  rw [List.length_drop, Array.length_toList, hcs, Nat.sub_mul]

theorem Y7f {b E m : Nat} {ys : List (Option α)} {xs : List α} {G1 : BSet} (h : Own w F [.raw b E k sz ys] G1) (hx : ys.take m = xs.map some) (hm : m ≤ ys.length) (hmax : ys.length ≤ maxLen) : Own w F [.arr (.slice (some ⟨b, 0, none⟩) m ys.length) E k sz xs] G1 := by
 refine Own.of_one ?_
 obtain ⟨hG, vs, hb, hf⟩ := h.only
 have hxl : xs.length = m := by
  have := congrArg List.length hx
  simp at this; omega
 subst hxl
 have hfl : Flat w F k sz xs (vs.take (xs.length * sz)) := Y54.flat (hx ▸ hf.take xs.length)
 exact ⟨⟨vs.take (xs.length * sz), ⟨hfl.length, .inr ⟨b, ys.length, vs.toArray, rfl, Nat.zero_le _, hb, hm, hmax, by simpa using hf.length, rfl⟩⟩, hfl⟩, fun b' => by rw [hG b']; simp [Value.ownBlock]; exact eq_comm⟩

theorem Y7g {T E by' b o len cap E' : Nat} {x : Operand} {ys : List (Option α)} {z : α} {zs : List Value} (hT : Y30 P T = some (E, sz, by')) (hz : Y1c P E = some zs) (hk : ∀ w F, Y1 w F (k z) zs) (hx : ev es x = some (.val (vw b o sz len cap))) (hlen : 0 < len) (hfit : o + len ≤ ys.length) :
  HOp P n ⟨none, .call ⟨.builtin .clear, #[x], #[T]⟩, ty, pos, af, gd⟩ es [.raw b E' k sz ys] (fun e' qs => e' = es ∧ qs = [.raw b E' k sz (ys.take o ++ (List.replicate len z).map some ++ ys.drop (o + len))]) :=
 HOp.ofN rfl fun a w F G1 hs ho hft => by
  obtain ⟨hu, i, zv, hi, hsz, _, hzv, hzs, hpos⟩ := Y31 hT
  have hzc : zv.cells.toList = zs := by
   unfold Y1c at hz
   rw [hi] at hz
   simpa [hzv] using hz
  have hzl : zs.length = sz := by rw [← hzc]; simpa using hzs
  obtain ⟨hG, vs, hb, hf⟩ := ho.only
  have hzf := Y5f (w := w) (F := F) (k := k) (x := z) (z := zs) hzl hpos (hk w F) len
  have hzv2 : zv.cells = zs.toArray := by rw [← hzc]
  have hfl := hf.length
  have hzlen := hzf.length
  rw [List.length_replicate] at hzlen
  have hst := Y1w (P := P) (off := o * sz) (vs := (Builtin.zeroCells zs.toArray len).toList) hb (by rw [hzlen, hfl, ← Nat.add_mul]; exact Nat.mul_le_mul_right _ hfit) hzf.one
  have hsp := hf.splice (o := o) hzf
  rw [List.length_replicate] at hsp
  refine ⟨.tuple #[], _, F, G1, _, ?_, Turn.setRaw hft hG hb hsp, rfl, rfl⟩
  obtain ⟨len, rfl⟩ : ∃ m, len = m + 1 := ⟨len - 1, by omega⟩
  simp only [execOp, resolve, invoke, builtin, hs.val hx, vw, Sem.run_bind, List.map_toArray, List.map_cons, List.map_nil]
  simp [hs.val hx, vw, invoke, builtin, Builtin.clear_, run_underlying hu, zeroValue, typeInfo, hi, hzv, hzv2, hst]

theorem Y7h {T E by' l : Nat} {x : Operand} {v : Value} {xs : List α} {z : α} {zs : List Value} (hT : Y30 P T = some (E, sz, by')) (hz : Y1c P E = some zs) (hk : ∀ w F, Y1 w F (k z) zs) (hx : ev es x = some (.val (dropV v sz l))) (hl : l ≤ xs.length) :
  HOp P n ⟨none, .call ⟨.builtin .clear, #[x], #[T]⟩, ty, pos, af, gd⟩ es [.arr v E k sz xs] (fun e' qs => e' = es ∧ qs = [.arr v E k sz (xs.take l ++ List.replicate (xs.length - l) z)]) :=
 HOp.pre fun w F G hown => by
  refine ⟨_, hown, ?_⟩
  obtain ⟨A, cap, hv, hc, hA⟩ := Y78 hown.only
  by_cases hlt : l = xs.length
  ·
   subst hlt
   refine HOp.ofN rfl fun a w F G1 hs ho hft => ⟨.tuple #[], w, F, G1, _, ?_, ⟨?_, fun _ h => h, fun b hb => ⟨hft.fin b hb, .inl hb⟩, fun b hb => ⟨(hft.gin b hb).1, (hft.gin b hb).2, .inl hb⟩, Chg.refl _ _⟩, rfl, rfl⟩
   ·
    obtain ⟨hu, _⟩ := Y31 hT
    have hx' := hs.val hx
    subst hv
    unfold dropV at hx'
    simp only [Nat.sub_self] at hx'
    simp only [execOp, resolve, invoke, builtin, hx', Sem.run_bind, List.map_toArray, List.map_cons, List.map_nil]
    cases (if cap = xs.length then A else A.map (·.add (xs.length * sz))) <;> simp [hx', invoke, builtin, Builtin.clear_, run_underlying hu]
   ·
    rw [Nat.sub_self, List.replicate_zero, List.append_nil, List.take_length]
    exact ho
  ·
   obtain ⟨b, cap', hv'⟩ := Y35 hown.only (fun e => hlt (by rw [e] at hl ⊢; simpa using hl))
   subst hv'
   cases hv
   have hmax : cap ≤ maxLen := by
    obtain ⟨⟨vs, ⟨_, hrow⟩, _⟩, _⟩ := hown.only
    rcases hrow with ⟨hv, _⟩ | ⟨g, cap', cur, hv, _, _, _, hcm, _⟩
    ·
     cases hv
    ·
     cases hv; exact hcm
   have hx2 : ev es x = some (.val (vw b l sz (xs.length - l) (cap - l))) := by
    rw [hx]
    have hne : ¬ cap = l := by omega
    simp [dropV, vw, hne, Y1d]
   refine HOp.pre fun w F G hown2 => ⟨_, Y7e hown2, ?_⟩
   refine (Y7g hT hz hk hx2 (by omega) (by simp; omega)).conv fun e' qs ⟨he, hq⟩ => ⟨_, fun w F G ho2 => ⟨G, fun _ h => h, ?_⟩, he, rfl⟩
   subst hq
   have hlen : ((xs.map some ++ List.replicate (cap - xs.length) none).take l ++ (List.replicate (xs.length - l) z).map some ++ (xs.map some ++ List.replicate (cap - xs.length) (none : Option α)).drop (l + (xs.length - l))).length = cap := by simp; omega
   have hr := Y7f (m := xs.length) (xs := xs.take l ++ List.replicate (xs.length - l) z) ho2 (by
    have e1 : (xs.map some ++ List.replicate (cap - xs.length) none).take l = (xs.take l).map some := by rw [List.take_append_of_le_length (by simp; omega), List.map_take]
    rw [e1, List.take_left' (by simp; omega), List.map_append]) (by rw [hlen]; exact hc) (by rw [hlen]; exact hmax)
   rw [hlen] at hr
   exact hr

inductive Part (v : Value) (sz : Nat) (xs : List α) : Value → List α → Prop
 | drop (l : Nat) (h : l ≤ xs.length) : Part v sz xs (dropV v sz l) (xs.drop l)
 | take (h : Nat) (hh : h ≤ xs.length) : Part v sz xs (takeV v h) (xs.take h)

theorem Y7i {E : Nat} {v u : Value} {xs ys : List α} {G1 : BSet} (h : (Obj.arr v E k sz xs).rep w F G1) (hp : Part v sz xs u ys) :
  ∃ A c news, u = .slice A ys.length c ∧ (A = none → ys = []) ∧ Flat w F k sz ys news ∧ ∀ a, A = some a → ∀ j t, news[j]? = some t → w.cell? (a.add j) = some t := by
 obtain ⟨⟨vs, hrow, hf⟩, _⟩ := h
 have hrow' := hrow
 obtain ⟨hl, hrow⟩ := hrow
 cases hp with
 | drop l hle =>
  have hft : Flat w F k sz (xs.drop l) (vs.drop (l * sz)) := by
   have := (Y54.of_flat hf).drop l
   rw [← List.map_drop] at this
   exact this.flat
  rcases hrow with ⟨rfl, h0⟩ | ⟨g, cap, cur, rfl, _, hb, hnc, _⟩
  ·
   obtain rfl : xs = [] := List.eq_nil_of_length_eq_zero h0
   obtain rfl : l = 0 := by simpa using hle
   exact ⟨none, 0, _, rfl, fun _ => rfl, hft, fun a h => by cases h⟩
  ·
   by_cases hcl : cap = l
   ·
    have hlen : l = xs.length := by omega
    refine ⟨some ⟨g, 0, none⟩, cap - l, _, by simp [dropV, hcl], (fun h => by cases h), hft, fun a ha j t ht => ?_⟩
    have := hft.length
    have h0 : (vs.drop (l * sz)).length = 0 := by rw [this]; simp [hlen]
    rw [List.getElem?_eq_none (by omega)] at ht
    cases ht
   ·
    refine ⟨some ⟨g, l * sz, none⟩, cap - l, _, by simp [dropV, hcl, Y1d], (fun h => by cases h), hft, fun a ha j t ht => ?_⟩
    cases ha
    rw [List.getElem?_drop] at ht
    have := hrow'.cells (g := g) rfl _ t ht
    rw [Y1d] at this ⊢
    rw [Nat.zero_add] at this
    exact this
 | take m hle =>
  have hft : Flat w F k sz (xs.take m) (vs.take (m * sz)) := by
   have := (Y54.of_flat hf).take m
   rw [← List.map_take] at this
   exact this.flat
  have hml : (xs.take m).length = m := by simp; omega
  rcases hrow with ⟨rfl, h0⟩ | ⟨g, cap, cur, rfl, _, hb, hnc, _⟩
  ·
   obtain rfl : xs = [] := List.eq_nil_of_length_eq_zero h0
   exact ⟨none, 0, _, by rw [hml]; rfl, (fun _ => by simp), hft, fun a h => by cases h⟩
  ·
   refine ⟨some ⟨g, 0, none⟩, cap, _, by rw [hml]; rfl, (fun h => by cases h), hft, fun a ha j t ht => ?_⟩
   cases ha
   rw [List.getElem?_take] at ht
   split at ht
   ·
    exact hrow'.cells (g := g) rfl _ t ht
   ·
    cases ht

theorem Y7j {T E E2 by' : Nat} {x y : Operand} {v u v2 : Value} {xs ys zs : List α} (hT : Y30 P T = some (E, sz, by')) (hx : ev es x = some (.val v)) (hy : ev es y = some (.val u)) (hpt : Part v2 sz zs u ys)
  (hb : (xs.length + ys.length) * by' ≤ 140737488355328) (h63 : xs.length + ys.length ≤ 9223372036854775807) (hn : Nat.blt d n = true) :
  HOp P n ⟨some d, .call ⟨.builtin .append, #[x, y], #[T, T]⟩, ty, pos, af, gd⟩ es [.arr v E k sz xs, .arr v2 E2 k sz zs] (fun e' qs => ∃ v', e' = (d, .val v') :: es ∧ qs = [.arr v' E k sz (xs ++ ys), .arr v2 E2 k sz zs]) :=
 HOp.of rfl hn fun a w F G1 hs ho hft => by
  obtain ⟨G3, G4, hi, hd, h1, h2⟩ := ho
  obtain ⟨A, c, news, hu, hA, hf, hnews⟩ := Y7i h2.only hpt
  have hft' : Fit w F G3 := ⟨hft.fin, fun b hb => hft.gin b ((hi b).2 (.inl hb)), hft.glob⟩
  obtain ⟨v', w', G1', hr, ht⟩ := Y32 (c := c) hT hft' h1 hA hf hnews hb h63 ty
  refine ⟨v', w', F, _, .val v', _, ?_, rfl, Turn.frame (qs := [_]) hi hd h2 hft ht, v', rfl, rfl⟩
  have hy' := hs.val hy
  rw [hu] at hy'
  simp [execOp, resolve, invoke, builtin, hs.val hx, hy', hr]
end
end Go.Abs
namespace Go.Abs
open Go

def delI {α : Type} (xs : List α) (i j : Int) : Option (List α) := if 0 ≤ i ∧ i ≤ j ∧ j ≤ xs.length then some (xs.take i.toNat ++ xs.drop j.toNat) else none

theorem Y7k {α : Type} {xs zs : List α} {i j : Int} (h : delI xs i j = some zs) : ∃ a b : Nat, i = a ∧ j = b ∧ a ≤ b ∧ b ≤ xs.length ∧ xs.take a ++ xs.drop b = zs := by
 unfold delI at h
 split at h
 ·
  rename_i hc
  exact ⟨i.toNat, j.toNat, by omega, by omega, by omega, by omega, Wj h⟩
 ·
  cases h

section
variable {P : Program} {n : Nat} {X : Ctx} {a : Act} {w : World} {F G : BSet} {es : Env} {ps : List Obj} {α : Type} {k : α → List C} {sz : Nat}
variable {d ty : Nat} {pos : String} {af : Array Edge} {gd : Option (Nat × Bool)}

theorem Y7l {T E E' by' p i j : Nat} {x y z m : Operand} {q1 q2 q3 : IntKind} {v : Value} {xs : List α} (hT : Y2c P T = some (E', sz, by')) (hx : ev es x = some (.val v)) (hp : pick p ps = some (.arr v E k sz xs)) (hy : ev es y = some (.val (.int q1 i))) (hz : ev es z = some (.val (.int q2 j))) (hm : ev es m = some (.val (.int q3 (xs.length : Int))))
  (hij : i ≤ j) (hj : j ≤ xs.length) (hn : Nat.blt d n = true) : VOp false P n es ps ⟨some d, .slice T x (some y) (some z) (some m), ty, pos, af, gd⟩ d .any :=
 VOp.mk rfl hn fun a w F Gp hs ho => by
  obtain ⟨G1, hrep, _⟩ := ho.pick hp
  obtain ⟨A, cap, rfl, hc, _⟩ := Y78 hrep
  obtain ⟨hu, inf, hinf, hsz, _⟩ := Y2g hT
  have hb : ∀ (q : IntKind) (i y : Nat) (code : BoundsCode) (w : World), i ≤ y → (Instr.sliceBound (.int q i) y code).run P w = .ok i w := fun q i y code w hle => by
   simp [Instr.sliceBound, asIntOf, hle]
  refine ⟨.slice (if xs.length = i then A else A.map (·.add (i * sz))) (j - i) (xs.length - i), fun w2 _ => ?_, trivial⟩
  simp only [execOp, hs.val hx, Option.map_some, hs.val hy, hs.val hz, hs.val hm]
  simp [Instr.sliceAt, Instr.slice, run_underlying hu, Instr.sliceBounds, Y2h hinf, hsz, hb _ i j _ _ hij, hb _ j _ _ _ hj, hb _ xs.length cap _ _ hc]

theorem Y7m {T E by' i j : Nat} {x y : Operand} {v : Value} {xs : List α} (hT : Y30 P T = some (E, sz, by')) (hx : ev es x = some (.val (takeV v i))) (hy : ev es y = some (.val (dropV v sz j))) (hij : i ≤ j) (hj : j ≤ xs.length) (hn : Nat.blt d n = true) :
  HOp P n ⟨some d, .call ⟨.builtin .append, #[x, y], #[T, T]⟩, ty, pos, af, gd⟩ es [.arr v E k sz xs] (fun e' qs => e' = (d, .val (takeV v (i + (xs.length - j)))) :: es ∧ qs = [.arr v E k sz (xs.take i ++ xs.drop j ++ xs.drop (i + (xs.length - j)))]) :=
 HOp.of rfl hn fun a w F G1 hs ho hft => by
  obtain ⟨hu, inf, zv, hi, hsz, hby, hzv, hzs, hpos⟩ := Y31 hT
  have hrep := ho.only
  obtain ⟨A, c, news, hu2, hA, hf, hnews⟩ := Y7i hrep (Part.drop j hj)
  have hrep' := hrep
  obtain ⟨⟨vs, ⟨hvl, hrow⟩, hff⟩, hG⟩ := hrep'
  have hx' := hs.val hx
  have hy' := hs.val hy
  rw [hu2] at hy'
  rcases hrow with ⟨rfl, h0⟩ | ⟨g, cap, cur, rfl, hbg, hb, hnc, hcm, hcs, htake⟩
  ·
   obtain rfl : xs = [] := List.eq_nil_of_length_eq_zero h0
   obtain rfl : j = 0 := by simpa using hj
   obtain rfl : i = 0 := by omega
   refine ⟨.slice none 0 0, w, F, G1, _, _, ?_, rfl, ⟨?_, fun _ h => h, fun b hb => ⟨hft.fin b hb, .inl hb⟩, fun b hb => ⟨(hft.gin b hb).1, (hft.gin b hb).2, .inl hb⟩, Chg.refl _ _⟩, rfl, rfl⟩
   ·
    have e1 : takeV (.slice none 0 0) 0 = .slice none 0 0 := rfl
    have e2 : dropV (.slice none 0 0) sz 0 = .slice none 0 0 := rfl
    rw [e1] at hx'
    have hy2 := hs.val hy
    rw [e2] at hy2
    simp [execOp, resolve, invoke, builtin, hx', hy2, Builtin.append_, run_underlying hu, sizeOf, typeInfo, hi, Builtin.lenOf, Builtin.firstCells]
   ·
    simpa using ho
  ·
   have hAne : ∃ ad, A = some ad := by
    cases A with
    | none =>
     exfalso
     by_cases hcj : cap = j
     ·
      simp [dropV, hcj] at hu2
     ·
      simp [dropV, hcj] at hu2
    | some ad => exact ⟨ad, rfl⟩
   obtain ⟨ad, rfl⟩ := hAne
   have hnl := hf.length
   have hdl : (xs.drop j).length = xs.length - j := List.length_drop
   have hroom : i + (xs.drop j).length ≤ cap := by omega
   have hfit : i * sz + news.length ≤ cur.size := by rw [hnl, hcs, ← Nat.add_mul]; exact Nat.mul_le_mul_right _ hroom
   have hr := run_append_room (P := P) w T ty E inf hu hi g i cap cur hb ad (xs.drop j).length c news (by rw [hnl, hsz]) (hnews ad rfl) hf.one hroom (by rw [hsz]; exact hfit)
   rw [hsz] at hr
   have hraw := (Y7e (k := k) (cap := cap) ho).only
   obtain ⟨hGr, ws, hbw, hfw⟩ := hraw
   have hws : ws = cur.toList := by
    rw [hb] at hbw
    cases hbw
    simp
   subst hws
   have hsp := hfw.splice (o := i) hf
   have hturn := Turn.setRaw (T := E) hft hGr hbw hsp
   have hcapl : (xs.map some ++ List.replicate (cap - xs.length) (none : Option α)).length = cap := by simp; omega
   have hlen : ((xs.map some ++ List.replicate (cap - xs.length) none).take i ++ (xs.drop j).map some ++ (xs.map some ++ List.replicate (cap - xs.length) (none : Option α)).drop (i + (xs.drop j).length)).length = cap := by
    simp; omega
   rw [hdl] at hr hy'
   refine ⟨.slice (some ⟨g, 0, none⟩) (i + (xs.length - j)) cap, _, F, G1, .val (takeV (.slice (some ⟨g, 0, none⟩) xs.length cap) (i + (xs.length - j))), _, ?_, rfl, ⟨?_, hturn.sub, hturn.fin, hturn.gin, hturn.chg⟩, rfl, rfl⟩
   ·
    have hx2 : a.eval x = .slice (some ⟨g, 0, none⟩) i cap := hx'
    simp only [execOp, resolve, invoke, builtin, hx2, hy', Sem.run_bind, List.map_toArray, List.map_cons, List.map_nil]
    simp [hx2, hy', invoke, builtin, hr]
   ·
    have hr2 := Y7f (m := xs.length) (xs := xs.take i ++ xs.drop j ++ xs.drop (i + (xs.length - j))) hturn.own (by
     have e1 : (xs.map some ++ List.replicate (cap - xs.length) none).take i = (xs.take i).map some := by rw [List.take_append_of_le_length (by simp; omega), List.map_take]
     have e2 : (xs.map some ++ List.replicate (cap - xs.length) none).drop (i + (xs.drop j).length) = (xs.drop (i + (xs.length - j))).map some ++ List.replicate (cap - xs.length) none := by rw [List.drop_append_of_le_length (by simp; omega), List.map_drop, hdl]
     rw [e1, e2, ← List.append_assoc, List.take_left' (by simp; omega)]
     simp) (by rw [hlen]; exact hnc) (by rw [hlen]; exact hcm)
    rw [hlen] at hr2
    exact hr2

theorem Y7n {T E E' by' p l h : Nat} {x y z : Operand} {q q' : IntKind} {v : Value} {xs : List α} (hT : Y2c P T = some (E', sz, by')) (hx : ev es x = some (.val (takeV v l))) (hp : pick p ps = some (.arr v E k sz xs)) (hy : ev es y = some (.val (.int q l))) (hz : ev es z = some (.val (.int q' h))) (hl : l ≤ h) (hh : h = xs.length) (hn : Nat.blt d n = true) :
  VOp false P n es ps ⟨some d, .slice T x (some y) (some z) none, ty, pos, af, gd⟩ d (.val (dropV v sz l)) :=
 VOp.mk rfl hn fun a w F Gp hs ho => by
  subst hh
  obtain ⟨G1, hrep, _⟩ := ho.pick hp
  obtain ⟨A, cap, rfl, hc, _⟩ := Y78 hrep
  obtain ⟨hu, inf, hinf, hsz, _⟩ := Y2g hT
  have hb : ∀ (q : IntKind) (i y : Nat) (code : BoundsCode) (w : World), i ≤ y → (Instr.sliceBound (.int q i) y code).run P w = .ok i w := fun q i y code w hle => by
   simp [Instr.sliceBound, asIntOf, hle]
  refine ⟨_, fun w2 _ => ?_, rfl⟩
  simp only [execOp, hs.val hx, Option.map_some, hs.val hy, hs.val hz, Option.map_none, takeV, dropV]
  simp [Instr.sliceAt, Instr.slice, run_underlying hu, Instr.sliceBounds, Y2h hinf, hsz, hb _ l xs.length _ _ hl, hb _ xs.length cap _ _ hc]

theorem Y7o {T E' by' m cap l : Nat} {A : Option Addr} {x y : Operand} {q : IntKind} (hT : Y2c P T = some (E', sz, by')) (hx : ev es x = some (.val (.slice A m cap))) (hy : ev es y = some (.val (.int q l))) (h1 : l ≤ m) (h2 : m ≤ cap) (hn : Nat.blt d n = true) :
  VOp false P n es ps ⟨some d, .slice T x (some y) none none, ty, pos, af, gd⟩ d (.val (dropV (.slice A m cap) sz l)) := Y5i hT hx hy h1 h2 hn
theorem Y7p {T E' by' m cap l : Nat} {A : Option Addr} {x y : Operand} {q : IntKind} (hT : Y2c P T = some (E', sz, by')) (hx : ev es x = some (.val (.slice A m cap))) (hy : ev es y = some (.val (.int q l))) (h1 : l ≤ m) (h2 : m ≤ cap) (hn : Nat.blt d n = true) :
  VOp false P n es ps ⟨some d, .slice T x none (some y) none, ty, pos, af, gd⟩ d (.val (takeV (.slice A m cap) l)) :=
 VOp.mk rfl hn fun a w F Gp hs ho => by
  refine ⟨takeV (.slice A m cap) l, fun w2 _ => ?_, rfl⟩
  have hr := Y2t (P := P) (w := w2) (A := A) (len := m) (cap := cap) hT (lo := none) (hi := some (.int q l)) (l := 0) (h := l) (.inl ⟨rfl, rfl⟩) (.inr ⟨q, rfl⟩) (Nat.zero_le _) h1 h2
  have e : (if cap = 0 then A else A.map (·.add (0 * sz))) = A := by
   split
   ·
    rfl
   ·
    cases A <;> simp [Addr.add]
  rw [e] at hr
  simp only [Nat.sub_zero] at hr
  simp only [execOp, hs.val hx, Option.map_some, hs.val hy, Option.map_none, takeV]
  simp [hr]

theorem Y7q {xs : List α} {i j : Nat} {z : α} (hij : i ≤ j) (hj : j ≤ xs.length) :
  ((xs.take i ++ xs.drop j ++ xs.drop (i + (xs.length - j))).take (i + (xs.length - j)) ++ List.replicate ((xs.take i ++ xs.drop j ++ xs.drop (i + (xs.length - j))).length - (i + (xs.length - j))) z).take (i + (xs.length - j)) = xs.take i ++ xs.drop j := by
 have e1 : (xs.take i ++ xs.drop j ++ xs.drop (i + (xs.length - j))).take (i + (xs.length - j)) = xs.take i ++ xs.drop j := List.take_left' (by simp; omega)
 rw [e1, List.take_left' (by simp; omega)]
end
end Go.Abs
namespace Go.Abs
open Go

def Obj.que {α : Type} (u : Value) (E : Nat) (k : α → List C) (sz : Nat) (ys : List α) : Obj where
 rep w F G := (u = .slice none 0 0 ∧ ys = [] ∧ ∀ b, ¬ G b) ∨
  ∃ (b o cap : Nat) (zs : List (Option α)), u = .slice (some ⟨b, o * sz, none⟩) ys.length cap ∧ (Obj.raw b E k sz zs).rep w F G ∧ (zs.drop o).take ys.length = ys.map some ∧ ys.length ≤ cap ∧ o + cap ≤ zs.length ∧ zs.length ≤ maxLen
 mono := by
  rintro w w' F F' G (h | ⟨b, o, cap, zs, h1, h2, h3⟩) m g
  ·
   exact .inl h
  ·
   exact .inr ⟨b, o, cap, zs, h1, Obj.mono _ h2 m g, h3⟩

section
variable {P : Program} {n : Nat} {X : Ctx} {a : Act} {w : World} {F G : BSet} {es : Env} {ps : List Obj} {α : Type} {k : α → List C} {sz : Nat}
variable {d ty : Nat} {pos : String} {af : Array Edge} {gd : Option (Nat × Bool)}

theorem Y7r {v : Value} {E : Nat} {xs : List α} {G1 : BSet} (h : Own w F [.arr v E k sz xs] G1) : Own w F [.que v E k sz xs] G1 := by
 have hrep := h.only
 obtain ⟨⟨vs, ⟨hl, hrow⟩, hf⟩, hG⟩ := hrep
 rcases hrow with ⟨rfl, h0⟩ | ⟨g, cap, cur, rfl, hbg, hb, hnc, hcm, hcs, htake⟩
 ·
  exact Own.of_one (.inl ⟨rfl, List.eq_nil_of_length_eq_zero h0, fun b hb => by have := (hG b).1 hb; cases this⟩)
 ·
  refine Own.of_one (.inr ⟨g, 0, cap, _, by rw [Nat.zero_mul], (Y7e h).only, ?_, hnc, by simp; omega, by simp; omega⟩)
  rw [List.drop_zero, List.take_left' (by simp)]

theorem Y25.que {e : Env} {o r : List Obj} {p E : Nat} {v : Value} {xs : List α} (hp : Y7 [p] o = some ([.arr v E k sz xs], r)) : Y25 n X ⟨e, o⟩ ⟨e, .que v E k sz xs :: r⟩ := by
 rintro a w ⟨F, G, hs⟩
 obtain ⟨G1, G2, hi, hd, h1, h2⟩ := Own.append.1 (hs.own.perm (Y8 hp))
 exact ⟨F, G, ⟨hs.env, ((Own.append (os := [_]) (ps := r)).2 ⟨G1, G2, fun _ => Iff.rfl, hd, Y7r h1, h2⟩).congr fun b => (hi b).symm, hs.fin, hs.gin, hs.sub, hs.chg, hs.size, hs.defs⟩⟩

theorem Y7s {T E E' sz' by' p : Nat} {x : Operand} {u : Value} {ys : List α} (hT : Y2c P T = some (E', sz', by')) (hx : ev es x = some (.val u)) (hp : pick p ps = some (.que u E k sz ys)) (hn : Nat.blt d n = true) :
  VOp false P n es ps ⟨some d, .call ⟨.builtin .len, #[x], #[T]⟩, ty, pos, af, gd⟩ d (.int ys.length) :=
 VOp.mk rfl hn fun a w F Gp hs ho => by
  obtain ⟨G1, hrep, _⟩ := ho.pick hp
  refine ⟨_, fun w2 _ => ?_, rfl⟩
  rcases hrep with ⟨rfl, rfl, _⟩ | ⟨b, o, cap, zs, rfl, _⟩
  ·
   simp [execOp, resolve, invoke, builtin, hs.val hx, Builtin.len_, run_underlying (Y2g hT).1, goInt]
  ·
   simp [execOp, resolve, invoke, builtin, hs.val hx, Builtin.len_, run_underlying (Y2g hT).1, goInt]

theorem Y7t {T E by' p E' : Nat} {x y : Operand} {u : Value} {ys : List α} {e : α} {i : Int} {q : IntKind} (hT : Y2c P T = some (E, sz, by')) (hx : ev es x = some (.val u)) (hp : pick p ps = some (.que u E' k sz ys)) (hy : ev es y = some (.val (.int q i)))
  (hi : getI ys i = some e) (hn : Nat.blt d n = true) :
  VOp false P n es ps ⟨some d, .indexAddr T x y, ty, pos, af, gd⟩ d (.val (Y37 u i.toNat sz 0)) :=
 VOp.mk rfl hn fun a w F Gp hs ho => by
  obtain ⟨h0, h1, h2⟩ := Y2f hi
  obtain ⟨G1, hrep, _⟩ := ho.pick hp
  rcases hrep with ⟨_, rfl, _⟩ | ⟨b, o, cap, zs, rfl, _⟩
  ·
   simp at h2
  ·
   obtain ⟨hu, inf, hinf, hsz, _⟩ := Y2g hT
   refine ⟨_, fun w2 _ => ?_, rfl⟩
   simp only [execOp, hs.val hx, hs.val hy, Y37]
   simp [Instr.indexAt, asIntOf, run_underlying hu, h0, h1, Y2h hinf, hsz, Y1d]

theorem Y7u {T M p E i j : Nat} {x : Operand} {u : Value} {ys : List α} {e : α} {c : C} (hl : Y1b P T = some (false, M)) (hx : ev es x = some (.val (Y37 u i sz j)))
  (hp : pick p ps = some (.que u E k sz ys)) (hi : ys[i]? = some e) (hc : (k e)[j]? = some c) (hn : Nat.blt d n = true) :
  VOp true P n es ps ⟨some d, .load T x, ty, pos, af, gd⟩ d (c) :=
 VOp.mk rfl hn fun a w F Gp hs ho => by
  obtain ⟨G1, hrep, hsub⟩ := ho.pick hp
  rcases hrep with ⟨_, rfl, _⟩ | ⟨b, o, cap, zs, rfl, ⟨hG, vs, hb, hf⟩, hk, _⟩
  ·
   simp at hi
  ·
   have hpart := hf.part hk
   obtain ⟨us, hul, hcl, hus⟩ := hpart.get hi
   obtain ⟨v, hv, hr, _⟩ := hcl.get hc
   refine ⟨v, fun w2 hw => ?_, hr⟩
   have hcell := Y5a (w := w) (sz := sz) (o := o) (m := ys.length * sz) hb _ v (hus j v hv)
   simp only [execOp, hs.val hx, Y37]
   rw [Y1d] at hcell ⊢
   have h2 : w2.cell? ⟨b, o * sz + (i * sz + j), none⟩ = some v := (World.cell?_of_block (hw rfl b (.inr (hsub b ((hG b).2 rfl))))).trans hcell
   simp [Instr.loadAt, Instr.sureAddr, Y1j hl h2]

theorem Y7v {T E E' by' l : Nat} {x y : Operand} {q : IntKind} {u : Value} {ys : List α} {li : Int} (hT : Y2c P T = some (E', sz, by')) (hx : ev es x = some (.val u)) (hy : ev es y = some (.val (.int q li))) (h0 : 0 ≤ li ∧ li ≤ ys.length) (hl : l = li.toNat) (hn : Nat.blt d n = true) :
  HOp P n ⟨some d, .slice T x (some y) none none, ty, pos, af, gd⟩ es [.que u E k sz ys] (fun e' qs => ∃ u', e' = (d, .val u') :: es ∧ qs = [.que u' E k sz (ys.drop l)]) :=
 HOp.of rfl hn fun a w F G1 hs ho hft => by
  obtain ⟨m, rfl⟩ := Int.eq_ofNat_of_zero_le h0.1
  rw [Int.toNat_natCast] at hl
  subst hl
  have hsame : ∀ u', (Obj.que u' E k sz (ys.drop l)).rep w F G1 → Turn w F G1 w F G1 [.que u' E k sz (ys.drop l)] := fun u' h => ⟨Own.of_one h, fun _ h => h, fun b hb => ⟨hft.fin b hb, .inl hb⟩, fun b hb => ⟨(hft.gin b hb).1, (hft.gin b hb).2, .inl hb⟩, Chg.refl _ _⟩
  rcases ho.only with ⟨rfl, rfl, hG⟩ | ⟨b, o, cap, zs, rfl, hraw, hk, hc, hoc, hmax⟩
  ·
   obtain rfl : l = 0 := by have := h0.2; simp at this; omega
   have hr := Y2t (P := P) (w := w) (A := none) (len := 0) (cap := 0) hT (lo := some (.int q (0 : Nat))) (hi := none) (l := 0) (h := 0) (.inr ⟨q, rfl⟩) (.inl ⟨rfl, rfl⟩) (Nat.le_refl _) (Nat.le_refl _) (Nat.le_refl _)
   refine ⟨.slice none 0 0, w, F, G1, .val (.slice none 0 0), _, ?_, rfl, hsame (.slice none 0 0) (.inl ⟨rfl, rfl, hG⟩), _, rfl, rfl⟩
   simp only [execOp, hs.val hx, Option.map_some, hs.val hy, Option.map_none]
   simp at hr
   simp [hr]
  ·
   have hr := Y2t (P := P) (w := w) (A := some ⟨b, o * sz, none⟩) (len := ys.length) (cap := cap) hT (lo := some (.int q l)) (hi := none) (l := l) (h := ys.length) (.inr ⟨q, rfl⟩) (.inl ⟨rfl, rfl⟩) (by omega) (Nat.le_refl _) hc
   have hdl : (ys.drop l).length = ys.length - l := List.length_drop
   have hdr : ∀ t, t ≤ ys.length → ((zs.drop (o + t)).take (ys.length - t)) = (ys.drop t).map some := fun t ht => by
    rw [← List.drop_drop, ← List.drop_take, hk, List.map_drop]
   refine ⟨_, w, F, G1, .val (.slice (if cap = l then some ⟨b, o * sz, none⟩ else (some (⟨b, o * sz, none⟩ : Addr)).map (·.add (l * sz))) (ys.length - l) (cap - l)), _, ?_, rfl, hsame _ ?_, _, rfl, rfl⟩
   ·
    simp only [execOp, hs.val hx, Option.map_some, hs.val hy, Option.map_none]
    simp at hr
    simp [hr]
   ·
    by_cases h : cap = l
    ·
     have hz : ys.length - l = 0 := by omega
     refine .inr ⟨b, o, cap - l, zs, by rw [if_pos h, hdl], hraw, ?_, by omega, by omega, hmax⟩
     rw [hdl, hz, List.take_zero]
     have : ys.drop l = [] := List.eq_nil_of_length_eq_zero (by omega)
     rw [this]; rfl
    ·
     refine .inr ⟨b, o + l, cap - l, zs, by rw [if_neg h, hdl, Option.map_some, Y1d, Nat.add_mul], hraw, ?_, by omega, by omega, hmax⟩
     rw [hdl]
     exact hdr l (by omega)

theorem Y7w (t ty e : TypeId) (i : TypeInfo) (ht : P.underlying t = some (.slice e)) (hi : P.info? e = some i) (g off sLen sCap : Nat) (cur : Array Value) {T0 : TypeId} (hg : w.heap[g]? = some (.cells cur T0 (0, 0)))
  (a : Addr) (m c : Nat) (news : List Value) (hl : news.length = m * i.size) (hnews : ∀ j u, news[j]? = some u → w.cell? (a.add j) = some u) (h1 : ∀ u ∈ news, u.oneCell' = true) (hroom : sLen + m ≤ sCap) (hfit : off + sLen * i.size + news.length ≤ cur.size) :
  (Builtin.append_ #[t, t] ty #[.slice (some ⟨g, off, none⟩) sLen sCap, .slice (some a) m c]).run P w =
   .ok (.slice (some ⟨g, off, none⟩) (sLen + m) sCap) (w.setRow g (cur.toList.take (off + sLen * i.size) ++ news ++ cur.toList.drop (off + sLen * i.size + news.length)).toArray) := by
 have hf := run_firstCells_some (P := P) w i.size m a m c news hl hnews
 have hst := run_storeCells_at P g (off + sLen * i.size) T0 news 0 cur w hg (by simpa using hfit) h1
 simp only [Nat.add_zero] at hst
 simp [Builtin.append_, run_underlying ht, sizeOf, typeInfo, hi, Builtin.lenOf, hroom, hf, Addr.add_lit, hst]

theorem Y7x {b o cap E m : Nat} {zs : List (Option α)} {ys : List α} {G1 : BSet} (h : Own w F [.raw b E k sz zs] G1) (hm : m = ys.length) (hk : (zs.drop o).take m = ys.map some) (hc : m ≤ cap) (hoc : o + cap ≤ zs.length) (hmax : zs.length ≤ maxLen) : Own w F [.que (.slice (some ⟨b, o * sz, none⟩) m cap) E k sz ys] G1 := by
 subst hm
 exact Own.of_one (.inr ⟨b, o, cap, zs, rfl, h.only, hk, hc, hoc, hmax⟩)

theorem Y7y {T E by' : Nat} {x y : Operand} {u : Value} {xs ys : List α} (hT : Y30 P T = some (E, sz, by')) (hx : ev es x = some (.val u)) (hy : ev es y = some (.im k sz ys))
  (hb : (xs.length + ys.length) * by' ≤ 140737488355328) (h63 : xs.length + ys.length ≤ 9223372036854775807) (hn : Nat.blt d n = true) :
  HOp P n ⟨some d, .call ⟨.builtin .append, #[x, y], #[T, T]⟩, ty, pos, af, gd⟩ es [.que u E k sz xs] (fun e' qs => ∃ u', e' = (d, .val u') :: es ∧ qs = [.que u' E k sz (xs ++ ys)]) :=
 HOp.pre fun w F G hown => by
  rcases hown.only with ⟨rfl, rfl, hG⟩ | ⟨b, o, cap, zs, rfl, hraw, hk, hc, hoc, hmax⟩
  ·
   refine ⟨[.arr (.slice none 0 0) E k sz []], Own.of_one ⟨⟨[], World.ownsRow_nil w 0 E sz, rfl⟩, fun b => by simp [Value.ownBlock, hG b]⟩, ?_⟩
   refine (Y33 hT hx hy hb h63 hn).conv fun e' qs ⟨v', he, hq⟩ => ⟨_, fun w F G ho => ⟨G, fun _ h => h, ?_⟩, v', he, rfl⟩
   subst hq
   exact Y7r ho
  ·
   refine ⟨[.raw b E k sz zs], Own.of_one hraw, ?_⟩
   refine HOp.of rfl hn fun a w F G1 hs ho hft => ?_
   obtain ⟨hu, inf, zv, hi, hsz, hby, hzv, hzs, hpos⟩ := Y31 hT
   obtain ⟨A, c, news, hv, _, hf, hA, _, hnews⟩ := Y2y (hs.ev hy)
   obtain ⟨hGb, vs, hbv, hfz⟩ := ho.only
   have hx' := hs.val hx
   have hnl := hf.length
   cases A with
   | none =>
    obtain rfl := hA rfl
    refine ⟨.slice (some ⟨b, o * sz, none⟩) xs.length cap, w, F, G1, .val (.slice (some ⟨b, o * sz, none⟩) xs.length cap), _, ?_, rfl, ⟨Y7x ho (by simp) (by simpa using hk) hc hoc hmax, fun _ h => h, fun b hb => ⟨hft.fin b hb, .inl hb⟩, fun b hb => ⟨(hft.gin b hb).1, (hft.gin b hb).2, .inl hb⟩, Chg.refl _ _⟩, _, rfl, rfl⟩
    simp [execOp, resolve, invoke, builtin, hx', hv, Builtin.append_, run_underlying hu, sizeOf, typeInfo, hi, Builtin.lenOf, Builtin.firstCells, hc, storeCells]
   | some ad =>
    by_cases hroom : xs.length + ys.length ≤ cap
    ·
     have hfl := hfz.length
     have hfit : o * sz + xs.length * inf.size + news.length ≤ vs.toArray.size := by
      rw [hsz, hnl, List.size_toArray, hfl, ← Nat.add_mul, ← Nat.add_mul]
      exact Nat.mul_le_mul_right _ (by omega)
     have hr := Y7w (P := P) T ty E inf hu hi b (o * sz) xs.length cap vs.toArray hbv ad ys.length c news (by rw [hnl, hsz]) (hnews ad rfl) hf.one hroom hfit
     rw [hsz] at hr
     have hsp := hfz.splice (o := o + xs.length) hf
     rw [Nat.add_mul] at hsp
     have hturn := Turn.setRaw (T := E) hft hGb hbv hsp
     have hlen : (zs.take (o + xs.length) ++ ys.map some ++ zs.drop (o + xs.length + ys.length)).length = zs.length := by simp; omega
     refine ⟨.slice (some ⟨b, o * sz, none⟩) (xs.length + ys.length) cap, _, F, G1, .val (.slice (some ⟨b, o * sz, none⟩) (xs.length + ys.length) cap), _, ?_, rfl, ⟨Y7x hturn.own (by simp) ?_ hroom (by rw [hlen]; exact hoc) (by rw [hlen]; exact hmax), hturn.sub, hturn.fin, hturn.gin, hturn.chg⟩, _, rfl, rfl⟩
     ·
      simp [execOp, resolve, invoke, builtin, hx', hv, hr]
     ·
      have e1 : (zs.take (o + xs.length)).drop o = xs.map some := by rw [← hk, List.drop_take]; congr 1; omega
      rw [List.append_assoc, List.drop_append_of_le_length (by simp; omega), e1, ← List.append_assoc, List.take_left' (by simp), List.map_append]
    ·
     have hpart := hfz.part hk
     have hr := run_append_grow (P := P) (w := w) T ty E inf zv hu hi hzv ⟨b, o * sz, none⟩ xs.length cap _ (by rw [hpart.length, hsz]) (Y5a hbv) ad ys.length c news (by rw [hnl, hsz]) (hnews ad rfl) (by omega) (by omega) (by rw [hby]; exact growslice_fits (by omega) hb)
     have hge := grownCap_ge w (xs.length + ys.length) cap E
     have hcm : grownCap w (xs.length + ys.length) cap E ≤ maxLen := grownCap_le_maxLen w (xs.length + ys.length) cap E (by simp only [maxLen]; omega)
     obtain ⟨c2, hc2⟩ : ∃ c2, c2 = grownCap w (xs.length + ys.length) cap E := ⟨_, rfl⟩
     rw [← hc2] at hr hge hcm
     have hold : ∀ b, F b → F b ∧ (w.drew.alloc (.cells (((vs.drop (o * sz)).take (xs.length * sz)).toArray ++ news.toArray ++ Builtin.zeroCells zv.cells (c2 - (xs.length + ys.length))) E)).heap[b]? = w.heap[b]? := fun b hb => ⟨hb, heap_alloc_old w.drew _ (hft.fin b hb)⟩
     have hfl2 : Y54 (w.drew.alloc (.cells (((vs.drop (o * sz)).take (xs.length * sz)).toArray ++ news.toArray ++ Builtin.zeroCells zv.cells (c2 - (xs.length + ys.length))) E)) F k sz ((xs ++ ys).map some ++ List.replicate (c2 - (xs.length + ys.length)) none)
       (((vs.drop (o * sz)).take (xs.length * sz)).toArray ++ news.toArray ++ Builtin.zeroCells zv.cells (c2 - (xs.length + ys.length))).toList := by
      rw [Array.toList_append, Array.toList_append]
      refine Y54.append (Y54.of_flat ((hpart.mono hold).append (hf.mono hold))) (Y54.none (by simp [size_zeroCells, hzs]))
     refine ⟨.slice (some ⟨w.heap.size, 0, none⟩) (xs.length + ys.length) c2, w.drew.alloc (.cells (((vs.drop (o * sz)).take (xs.length * sz)).toArray ++ news.toArray ++ Builtin.zeroCells zv.cells (c2 - (xs.length + ys.length))) E), F, (· = w.heap.size), .val (.slice (some ⟨w.heap.size, 0, none⟩) (xs.length + ys.length) c2), _, ?_, rfl, ⟨?_, fun _ h => h, fun b hb => ⟨by have := hft.fin b hb; simp; omega, .inl hb⟩, fun b hb => ⟨by subst hb; simp, fun hf => by have := hft.fin b hf; omega, .inr (by omega)⟩, ⟨rfl, rfl, rfl, by simp, (by first | exact Nat.le_refl _ | exact Nat.le_succ _), fun b hb _ => heap_alloc_old w.drew _ hb⟩⟩, _, rfl, rfl⟩
     ·
      simp [execOp, resolve, invoke, builtin, hx', hv, hr]
     ·
      have hl3 : ((xs ++ ys).map some ++ List.replicate (c2 - (xs.length + ys.length)) (none : Option α)).length = c2 := by simp; omega
      have := Y7x (w := w.drew.alloc (.cells (((vs.drop (o * sz)).take (xs.length * sz)).toArray ++ news.toArray ++ Builtin.zeroCells zv.cells (c2 - (xs.length + ys.length))) E)) (F := F) (k := k) (sz := sz) (b := w.heap.size) (o := 0) (cap := c2) (E := E) (m := xs.length + ys.length) (zs := (xs ++ ys).map some ++ List.replicate (c2 - (xs.length + ys.length)) none) (ys := xs ++ ys) (G1 := (· = w.heap.size))
       (Own.of_one ⟨fun _ => Iff.rfl, _, by rw [Array.toArray_toList]; exact heap_alloc_new w.drew _, hfl2⟩) (by simp) (by rw [List.drop_zero, List.take_left' (by simp)]) hge (by rw [hl3]; omega) (by rw [hl3]; exact hcm)
      rwa [Nat.zero_mul] at this

theorem HOp.frz {o : Oper} {t : Nat} {c c' : C} {qs : List Obj} {T : Env → List Obj → Prop} (ht : get es t = some c) (hf : Frz c qs c') (h : HOp P n o ((t, c') :: es) ps T) : HOp P n o es (qs ++ ps) T := by
 intro a w F G1 hs ho hft hsz Kc Q hK
 obtain ⟨Ga, Gb, hi, hd, h1, h2⟩ := Own.append.1 ho
 have hmono : ∀ b, F b → (F b ∨ Ga b) ∧ w.heap[b]? = w.heap[b]? := fun b hb => ⟨.inl hb, rfl⟩
 have henv : Ym w (fun b => F b ∨ Ga b) ((t, c') :: es) a := fun i c1 hi1 => by
  by_cases hit : t = i
  ·
   subst hit
   rw [Ya] at hi1
   cases hi1
   exact hf w F Ga _ _ (hs t c ht) h1 (fun _ h => .inl h) fun _ h => .inr h
  ·
   rw [Yb _ _ hit] at hi1
   exact C.mono _ (hs i c1 hi1) hmono
 have hfit : Fit w (fun b => F b ∨ Ga b) Gb := ⟨fun b hb => hb.elim (hft.fin b) fun hb => (hft.gin b ((hi b).2 (.inl hb))).1, fun b hb => ⟨(hft.gin b ((hi b).2 (.inr hb))).1, fun hf => hf.elim (hft.gin b ((hi b).2 (.inr hb))).2 fun hg => hd b hg hb⟩, hft.glob.mono fun b hb => ⟨.inl hb, rfl⟩⟩
 refine h a w _ Gb henv (h2.mono hmono fun _ _ => rfl) hfit hsz Kc Q fun v w' e' rs F' G1' ht' hT he => hK v w' e' rs F' G1' ⟨ht'.own, fun b hb => ht'.sub b (.inl hb), fun b hb => ⟨(ht'.fin b hb).1, ?_⟩, fun b hb => ⟨(ht'.gin b hb).1, (ht'.gin b hb).2.1, ?_⟩, ⟨ht'.chg.os, ht'.chg.tape, ht'.chg.output, ht'.chg.size, ht'.chg.drawn, fun b hb hn => ht'.chg.block b hb fun hg => hn ((hi b).2 (.inr hg))⟩⟩ hT he
 ·
  rcases (ht'.fin b hb).2 with (h | h) | h | h
  ·
   exact .inl h
  ·
   exact .inr (.inl ((hi b).2 (.inl h)))
  ·
   exact .inr (.inl ((hi b).2 (.inr h)))
  ·
   exact .inr (.inr h)
 ·
  exact (ht'.gin b hb).2.2.imp (fun h => (hi b).2 (.inr h)) id
end
end Go.Abs
namespace Go.Abs
open Go


def ltc {α : Type} (cf : α → α → Option Int) (x y : α) : Bool := decide ((cf x y).getD 0 < 0)

def Y7z {α : Type} (cf : α → α → Option Int) (xs : List α) : Prop :=
 (∀ x ∈ xs, ∀ y ∈ xs, (cf x y).isSome = true) ∧ (∀ x ∈ xs, ltc cf x x = false) ∧ (∀ x ∈ xs, ∀ y ∈ xs, ∀ z ∈ xs, ltc cf x y = true → ltc cf y z = true → ltc cf x z = true) ∧
  (xs.Pairwise fun x y => ltc cf x y = !ltc cf y x) ∧ xs.length < 4611686018427387904

instance {α : Type} (cf : α → α → Option Int) (xs : List α) : Decidable (Y7z cf xs) := by unfold Y7z; infer_instance

def Y80 {α : Type} (cf : α → α → Option Int) (xs : List α) : Option (List α) := if Y7z cf xs then some (xs.mergeSort fun x y => !ltc cf y x) else none


section
variable {α : Type} {w w' : World} {F F' : BSet} {k : α → List C} {sz : Nat}

theorem Flat.slice : ∀ {xs : List α} {vs : List Value} {i : Nat} {x : α}, Flat w F k sz xs vs → xs[i]? = some x → Y1 w F (k x) ((vs.drop (i * sz)).take sz)
 | [], _, _, _, _, hi => by simp at hi
 | _ :: _, _, 0, _, ⟨a, r, e, hl, h1, _⟩, hi => by
  simp at hi; subst hi; subst e
  rw [Nat.zero_mul, List.drop_zero, List.take_left' hl]
  exact h1
 | _ :: _, _, i + 1, _, ⟨a, r, e, hl, _, h2⟩, hi => by
  subst e
  have := h2.slice (i := i) (by simpa using hi)
  rw [show (i + 1) * sz = a.length + i * sz by rw [hl, Nat.add_mul, Nat.one_mul, Nat.add_comm], List.drop_length_add_append]
  exact this

theorem Flat.of_slices : ∀ {xs : List α} {vs : List Value}, vs.length = xs.length * sz → (∀ i x, xs[i]? = some x → Y1 w F (k x) ((vs.drop (i * sz)).take sz)) → Flat w F k sz xs vs
 | [], vs, hl, _ => List.eq_nil_of_length_eq_zero (by simpa using hl)
 | x :: xs, vs, hl, h => by
  rw [List.length_cons, Nat.add_mul, Nat.one_mul] at hl
  refine ⟨vs.take sz, vs.drop sz, (List.take_append_drop _ _).symm, by simp; omega, by simpa using h 0 x rfl, Flat.of_slices (by simp; omega) fun i y hy => ?_⟩
  have := h (i + 1) y (by simpa using hy)
  rw [List.drop_drop]
  rwa [Nat.add_mul, Nat.one_mul, Nat.add_comm] at this

theorem Y81 {vs : List Value} {n : Nat} (hvs : vs.length = n * sz) {i j : Nat} (hi : i < n) (hj : j < sz) : ((vs.drop (i * sz)).take sz)[j]? = vs[i * sz + j]? := by
 rw [List.getElem?_take_of_lt hj, List.getElem?_drop]

theorem Y82 {vs : List Value} {n : Nat} (hvs : vs.length = n * sz) {i : Nat} (hi : i < n) : ((vs.drop (i * sz)).take sz).length = sz := by
 have : (i + 1) * sz ≤ n * sz := Nat.mul_le_mul_right _ hi
 rw [Nat.add_mul, Nat.one_mul] at this
 simp; omega
end

theorem Y83 {w w' : World} (h : Chg (fun _ => False) w w') : ∃ q os', w' = Sort.grow (w.drewN q) os' := by
 refine ⟨w'.drawn - w.drawn, w'.heap.extract w.heap.size w'.heap.size, ?_⟩
 have h1 := h.os; have h2 := h.tape; have h3 := h.output; have h4 := h.drawn; have h5 := h.size; have h6 := h.block
 have hh : w'.heap = w.heap ++ w'.heap.extract w.heap.size w'.heap.size := by
  apply Array.ext_getElem?
  intro i
  rw [Array.getElem?_append]
  split
  ·
   exact h6 i ‹_› fun h => h
  ·
   rw [Array.getElem?_extract]
   by_cases hi : i < w'.heap.size
   ·
    rw [if_pos (by omega)]
    congr 1
    omega
   ·
    rw [Array.getElem?_eq_none (by omega)]
    split
    ·
     rw [Array.getElem?_eq_none (by omega)]
    ·
     rfl
 obtain ⟨hp', tp', dr', os', ou'⟩ := w'
 obtain ⟨hp, tp, dr, os, ou⟩ := w
 simp only at h1 h2 h3 h4 h5 h6 hh
 subst h1 h2 h3
 simp only [Sort.grow, World.drewN, World.mk.injEq, true_and, and_true]
 exact ⟨hh, by omega⟩

section
variable {β : Type} [Inhabited β] (enc : β → List Value) (sz : Nat) (w : World) (blk m : Nat) (d : Array β) (os : Array Go.Obj)

theorem Y84 : w.heap.size ≤ (Proofs.sortWorldK enc sz w blk 0 m d os).heap.size := by
 unfold Proofs.sortWorldK Sort.putRowK
 simp [Sort.ahead]

theorem Y85 {b : Nat} (hb : b < w.heap.size) (hne : b ≠ blk) : (Proofs.sortWorldK enc sz w blk 0 m d os).heap[b]? = w.heap[b]? := by
 unfold Proofs.sortWorldK Sort.putRowK
 rw [Sort.heap_grow_old _ _ (by simpa [Sort.ahead] using hb)]
 simp [Sort.putRow, Sort.mapBlock, Sort.ahead, Array.getElem?_modify, Ne.symm hne]

theorem Y86 {cur : Array Value} {e : TypeId} {fr : Nat × Nat} (hb : w.heap[blk]? = some (.cells cur e fr)) : (Proofs.sortWorldK enc sz w blk 0 m d os).heap[blk]? = some (.cells (Sort.putCells id 0 (Sort.flatK enc sz d) cur) e fr) := by
 have hg : blk < w.heap.size := (Array.getElem?_eq_some_iff.1 hb).1
 unfold Proofs.sortWorldK Sort.putRowK
 rw [Sort.heap_grow_old _ _ (by simpa [Sort.ahead] using hg)]
 simp [Sort.putRow, Sort.mapBlock, Sort.ahead, Array.getElem?_modify, hb, Sort.onCells]

theorem Y87 {G : BSet} (hG : G blk) : Chg G w (Proofs.sortWorldK enc sz w blk 0 m d os) :=
 ⟨rfl, rfl, rfl, Y84 enc sz w blk m d os, Nat.le_add_right _ _, fun b hb hn => Y85 enc sz w blk m d os hb fun e => hn (e ▸ hG)⟩
end

theorem Y88 (cur ts : Array Value) (h : ts.size ≤ cur.size) : (Sort.putCells id 0 ts cur).toList.take ts.size = ts.toList := by
 apply List.ext_getElem?
 intro j
 by_cases hj : j < ts.size
 ·
  rw [List.getElem?_take_of_lt hj, Array.getElem?_toList]
  simp [Sort.putCells, hj, show j < cur.size by omega]
 ·
  rw [List.getElem?_take_eq_none (by omega), List.getElem?_eq_none (by simp; omega)]


structure Y89 (P : Program) (f sz : Nat) : Prop where
 enters : Y1z P f
 ofNone : ∀ (p : Option Addr) (cap : Nat) (fv : Value) (w : World), Calls P f #[.slice p 0 cap, fv] w fun e w' => e = .returned (.tuple #[]) ∧ w' = w
 ofSome : ∀ {β : Type} [Inhabited β] (enc : β → List Value), (∀ x, (enc x).length = sz) → (∀ x, ∀ v ∈ enc x, v.oneCell' = true) → ∀ (cf : β → β → Int), Sort.SWO (Proofs.ltOf cf) → ∀ (g : Nat) (cb : Array Value) (blk cap : Nat) (d : Array β) (w : World),
  Y1z P g → Proofs.CmpLays P g cb enc sz cf blk 0 d.size w → Sort.HoldsK enc sz w blk 0 d → blk < w.heap.size → d.size < 4611686018427387904 → (∀ x y, Proofs.ltOf cf x y = false → Proofs.ltOf cf y x = false → x = y) →
  Calls P f #[.slice (some ⟨blk, 0, none⟩) d.size cap, .func (.func g) #[] cb] w fun e w' => e = .returned (.tuple #[]) ∧ ∃ n os, w' = Proofs.sortWorldK enc sz w blk 0 n (d.toList.mergeSort fun x y => !(Proofs.ltOf cf) y x).toArray os

def Y8a (es : Env) (y : Operand) (g : Nat) (cc : List C) : Prop := ∀ {w : World} {F : BSet} {a : Act}, Ym w F es a → ∃ vals : List Value, a.eval y = .func (.func g) #[] vals.toArray ∧ Reps w F cc vals

theorem Y8a.clo {es : Env} {y : Operand} {g : Nat} {cc : List C} (hy : ev es y = some (.clo g cc)) : Y8a es y g cc := fun hs => hs.ev hy
theorem Y8a.val {es : Env} {y : Operand} {g : Nat} (hy : ev es y = some (.val (.func (.func g) #[] #[]))) : Y8a es y g [] := fun hs => ⟨[], hs.val hy, rfl⟩

section
variable {P : Program} {n : Nat} {a : Act} {w : World} {F G : BSet} {es : Env} {ps : List Obj} {α : Type} {k : α → List C} {sz : Nat}
variable {d ty : Nat} {pos : String} {af : Array Edge} {gd : Option (Nat × Bool)}

theorem Z0 {f g E : Nat} {v : Value} {xs r : List α} {cc cc' : List C} {cap : List Value} {cf : α → α → Option Int} {Ga Gb : BSet} (hS : Y89 P f sz) (hsz : 0 < sz) (hcap : Reps w F cc cap) (hf : FrzT cc ps cc')
  (hcmp : ∀ x y r, cf x y = some r → Ok P g ([.agg (k x), .agg (k y)] ++ cc') [] fun c qs => c = .int r ∧ qs = []) (h : Y80 cf xs = some r)
  (hfit : Fit w F Ga) (hfitb : Fit w F Gb) (hd : ∀ b, Ga b → ¬ Gb b) (h1 : (Obj.arr v E k sz xs).rep w F Ga) (h2 : Own w F ps Gb) :
  Calls P f #[v, .func (.func g) #[] cap.toArray] w fun e w' => e = .returned (.tuple #[]) ∧ Turn w F Ga w' F Ga [.arr v E k sz r] := by
 obtain ⟨⟨vs, hrow, hfl⟩, hG⟩ := h1
 have hdone : r = xs → ∀ e w', (e = Ending.returned (.tuple #[]) ∧ w' = w) → e = .returned (.tuple #[]) ∧ Turn w F Ga w' F Ga [.arr v E k sz r] := by
  rintro rfl e w' ⟨h3, rfl⟩
  exact ⟨h3, Own.of_one ⟨⟨vs, hrow, hfl⟩, hG⟩, fun _ h => h, fun b hb => ⟨hfit.fin b hb, .inl hb⟩, fun b hb => ⟨(hfit.gin b hb).1, (hfit.gin b hb).2, .inl hb⟩, Chg.refl _ _⟩
 have hnil : xs = [] → r = xs := fun e => by
  subst e
  unfold Y80 at h
  split at h
  ·
   cases h; simp
  ·
   cases h
 rcases hrow.2 with ⟨rfl, h0⟩ | ⟨blk, cp, cur, rfl, _, hb, hnc, hcm, hcs, htake⟩
 ·
  exact (hS.ofNone none 0 _ w).mono (hdone (hnil (List.eq_nil_of_length_eq_zero h0)))
 by_cases hne : xs = []
 ·
  have hl0 : xs.length = 0 := by rw [hne]; rfl
  have := (hS.ofNone (some ⟨blk, 0, none⟩) cp (.func (.func g) #[] cap.toArray) w).mono (hdone (hnil hne))
  rw [hl0]
  rwa [hl0] at this
 have hvl : vs.length = xs.length * sz := hrow.1
 have hblk : blk < w.heap.size := (Array.getElem?_eq_some_iff.1 hb).1
 have hpos : 0 < xs.length := List.length_pos_iff.2 hne
 letI : Inhabited (_root_.Fin xs.length) := ⟨⟨0, hpos⟩⟩
 obtain ⟨hok, hr⟩ : Y7z cf xs ∧ r = xs.mergeSort fun x y => !ltc cf y x := by
  unfold Y80 at h
  split at h
  ·
   cases h; exact ⟨‹_›, rfl⟩
  ·
   cases h
 obtain ⟨ho1, ho2, ho3, ho4, ho5⟩ := hok
 have hGb : Ga blk := (hG blk).2 rfl
 -- the elements' places
 let enc : _root_.Fin xs.length → List Value := fun i => (vs.drop (i.1 * sz)).take sz
 let cf' : _root_.Fin xs.length → _root_.Fin xs.length → Int := fun i j => (cf xs[i] xs[j]).getD 0
 have hlt : ∀ i j, Proofs.ltOf cf' i j = ltc cf xs[i] xs[j] := fun _ _ => rfl
 have hmem : ∀ i : _root_.Fin xs.length, xs[i] ∈ xs := fun i => Wm _
 have htot : ∀ i j : _root_.Fin xs.length, i ≠ j → ltc cf xs[i] xs[j] = !ltc cf xs[j] xs[i] := by
  intro i j hij
  rcases Nat.lt_or_gt_of_ne (fun e => hij (Fin.ext e)) with hl | hl
  ·
   exact List.pairwise_iff_getElem.1 ho4 i.1 j.1 i.2 j.2 hl
  ·
   have := List.pairwise_iff_getElem.1 ho4 j.1 i.1 j.2 i.2 hl
   show ltc cf xs[i.1] xs[j.1] = !ltc cf xs[j.1] xs[i.1]
   rw [this, Bool.not_not]
 have hswo : Sort.SWO (Proofs.ltOf cf') := by
  refine ⟨fun i => ho2 _ (hmem i), fun i j l h1 h2 => ho3 _ (hmem i) _ (hmem j) _ (hmem l) h1 h2, fun i j l h1 h2 => ?_⟩
  rw [hlt] at h1 h2 ⊢
  by_cases hij : i = j
  ·
   subst hij; exact h2
  by_cases hjl : j = l
  ·
   subst hjl; exact h1
  have h3 := htot i j hij; have h4 := htot j l hjl
  rw [h1] at h3; rw [h2] at h4
  have h5 : ltc cf xs[j] xs[i] = true := by cases hq : ltc cf xs[j] xs[i] <;> simp_all
  have h6 : ltc cf xs[l] xs[j] = true := by cases hq : ltc cf xs[l] xs[j] <;> simp_all
  have h7 := ho3 _ (hmem l) _ (hmem j) _ (hmem i) h6 h5
  cases hq : ltc cf xs[i] xs[l] with
  | false => rfl
  | true =>
   have h8 := ho3 _ (hmem i) _ (hmem l) _ (hmem i) hq h7
   have h9 := ho2 _ (hmem i)
   simp only [Fin.getElem_fin] at h8 h9
   rw [h9] at h8; cases h8
 have hT : ∀ i j, Proofs.ltOf cf' i j = false → Proofs.ltOf cf' j i = false → i = j := fun i j h1 h2 => by
  by_cases hij : i = j
  ·
   exact hij
  ·
   have h3 := htot i j hij
   rw [hlt] at h1 h2
   rw [h1, h2] at h3; cases h3
 have hencl : ∀ i, (enc i).length = sz := fun i => Y82 hvl i.2
 have hone : ∀ i, ∀ v ∈ enc i, v.oneCell' = true := fun i v hv => hfl.one v (List.mem_of_mem_drop (List.mem_of_mem_take hv))
 have hcell : ∀ i : _root_.Fin xs.length, Y1 w F (k xs[i]) (enc i) := fun i => hfl.slice (We i.2)
 have hFne : ∀ b, F b ∨ Gb b → b ≠ blk := fun b hb e => by
  rcases hb with hb | hb
  ·
   exact (hfit.gin blk hGb).2 (e ▸ hb)
  ·
   exact hd blk hGb (e ▸ hb)
 have hent : Y1z P g := by
  have hx := ho1 _ (hmem ⟨0, hpos⟩) _ (hmem ⟨0, hpos⟩)
  obtain ⟨r0, hr0⟩ := Option.isSome_iff_exists.1 hx
  exact (hcmp _ _ _ hr0).1
 have hds : (List.finRange xs.length).toArray.size = xs.length := by simp
 have hcl : Proofs.CmpLays P g cap.toArray enc sz cf' blk 0 (List.finRange xs.length).toArray.size w := by
  intro m os dk hdk i j
  obtain ⟨r0, hr0⟩ := Option.isSome_iff_exists.1 (ho1 _ (hmem i) _ (hmem j))
  have hsame : ∀ b, F b ∨ Gb b → (F b ∨ Gb b) ∧ (Proofs.sortWorldK enc sz w blk 0 m dk os).heap[b]? = w.heap[b]? := fun b hb =>
   ⟨hb, Y85 enc sz w blk m dk os (hb.elim (hfit.fin b) fun hb => (hfitb.gin b hb).1) (hFne b hb)⟩
  have hc2 : Reps (Proofs.sortWorldK enc sz w blk 0 m dk os) (fun b => F b ∨ Gb b) cc' cap := (hf w F Gb (fun b => F b ∨ Gb b) cap hcap h2 (fun _ h => .inl h) fun _ h => .inr h).mono hsame
  have hreps : Reps (Proofs.sortWorldK enc sz w blk 0 m dk os) (fun b => F b ∨ Gb b) ([.agg (k xs[i]), .agg (k xs[j])] ++ cc') ([.agg (enc i).toArray, .agg (enc j).toArray] ++ cap) :=
   ⟨_, _, rfl, ⟨_, rfl, (hcell i).mono fun b hb => hsame b (.inl hb)⟩, _, _, rfl, ⟨_, rfl, (hcell j).mono fun b hb => hsame b (.inl hb)⟩, hc2⟩
  have hz := Y84 enc sz w blk m dk os
  have := (hcmp _ _ _ hr0).2 _ (fun b => F b ∨ Gb b) (fun _ => False) _ hreps (fun _ h => h) ⟨fun b hb => Nat.lt_of_lt_of_le (hb.elim (hfit.fin b) fun hb => (hfitb.gin b hb).1) hz, fun _ h => h.elim, hfit.glob.mono fun b hb => ⟨.inl hb, (hsame b (.inl hb)).2⟩⟩
  have e1 : ([Value.agg (enc i).toArray, .agg (enc j).toArray] ++ cap).toArray = #[.agg (enc i).toArray, .agg (enc j).toArray] ++ cap.toArray := by simp
  rw [e1] at this
  refine this.mono fun e w' ⟨v, c, qs, F', G', he, ⟨hc, hq⟩, hv, ht⟩ => ?_
  subst hc
  rw [show v = .int .i64 r0 from hv] at he
  refine ⟨?_, Y83 ht.chg⟩
  rw [he]
  show _ = Ending.returned (.int .i64 ((cf xs[i] xs[j]).getD 0))
  rw [hr0]; rfl
 have hholds : Sort.HoldsK enc sz w blk 0 (List.finRange xs.length).toArray := by
  intro t ht
  rw [Sort.size_flatK, hds] at ht
  have hq : t / sz < xs.length := Nat.div_lt_of_lt_mul (by rwa [Nat.mul_comm])
  have hm := Nat.mod_lt t hsz
  refine ⟨?_, by simp [World.frozen?, hb]⟩
  rw [id, Sort.get_flatK _ _ _ _ (by rwa [hds])]
  have e0 : (List.finRange xs.length).toArray[t / sz]! = ⟨t / sz, hq⟩ := by simp [hq]
  rw [e0]
  have e1 : (enc ⟨t / sz, hq⟩)[t % sz]? = vs[t]? := by
   have := Y81 (sz := sz) hvl hq hm
   rwa [Nat.div_add_mod'] at this
  have e2 : cur[t]? = vs[t]? := by
   rw [← htake, List.getElem?_take_of_lt ht, Array.getElem?_toList]
  have ht2 : t < vs.length := by rw [hvl]; exact ht
  simp only [World.cell?, hb, Nat.zero_add, Option.isSome_none, Bool.false_eq_true, if_false]
  rw [e2, getElem!_def, e1, We ht2]
 have hsmall : (List.finRange xs.length).toArray.size < 4611686018427387904 := by
  rw [hds]; exact ho5
 have hcall := hS.ofSome enc hencl hone cf' hswo g cap.toArray blk cp (List.finRange xs.length).toArray w hent hcl hholds hblk hsmall hT
 rw [hds] at hcall
 refine hcall.mono fun e w' ⟨he, m, os, hw⟩ => ⟨he, ?_⟩
 rw [List.toList_toArray] at hw
 have hperm := List.mergeSort_perm (List.finRange xs.length) fun x y => !(Proofs.ltOf cf') y x
 generalize hD : (List.finRange xs.length).mergeSort (fun x y => !(Proofs.ltOf cf') y x) = D at hw hperm
 have hDl : D.length = xs.length := by rw [hperm.length_eq]; simp
 have hrD : r = D.map fun i => xs[i] := by
  have hm := List.map_mergeSort (r := fun x y => !(Proofs.ltOf cf') y x) (s := fun x y => !ltc cf y x) (f := fun i : _root_.Fin xs.length => xs[i]) (l := List.finRange xs.length) (fun a _ b _ => by rw [hlt])
  have hm2 : (xs.mergeSort fun x y => !ltc cf y x) = ((List.finRange xs.length).mergeSort fun x y => !(Proofs.ltOf cf') y x).map fun i => xs[i] := by
   rw [hm]
   congr 1
   exact List.ext_getElem (by simp) fun i h1 h2 => by simp
  exact hr.trans (hm2.trans (congrArg (List.map fun i : _root_.Fin xs.length => xs[i]) hD))
 have hrl : r.length = xs.length := by rw [hrD]; simp [hDl]
 subst hw
 have hzz := Y84 enc sz w blk m D.toArray os
 refine ⟨Own.of_one ⟨⟨(Sort.flatK enc sz D.toArray).toList, ?_, ?_⟩, ?_⟩, fun _ h => h, fun b hb => ⟨Nat.lt_of_lt_of_le (hfit.fin b hb) hzz, .inl hb⟩, fun b hb => ⟨Nat.lt_of_lt_of_le (hfit.gin b hb).1 hzz, (hfit.gin b hb).2, .inl hb⟩, Y87 enc sz w blk m D.toArray os hGb⟩
 ·
  rw [hrl]
  refine ⟨by simp [hDl], .inr ⟨blk, cp, _, rfl, Nat.zero_le _, Y86 enc sz w blk m D.toArray os hb, hnc, hcm, by simp [Sort.putCells, hcs], ?_⟩⟩
  have hs : (Sort.flatK enc sz D.toArray).size = xs.length * sz := by simp [hDl]
  rw [← hs]
  refine Y88 _ _ ?_
  rw [hs, hcs]
  exact Nat.mul_le_mul_right _ hnc
 ·
  refine Flat.of_slices (by simp [hDl, hrl]) fun t x hx => ?_
  rw [hrD, List.getElem?_map] at hx
  have htD : t < D.length := by
   rcases Nat.lt_or_ge t D.length with h | h
   ·
    exact h
   ·
    rw [List.getElem?_eq_none h] at hx; cases hx
  rw [We htD] at hx
  simp only [Option.map_some, Option.some.injEq] at hx
  subst hx
  have hFs : ∀ b, F b → F b ∧ (Proofs.sortWorldK enc sz w blk 0 m D.toArray os).heap[b]? = w.heap[b]? := fun b hb => ⟨hb, Y85 enc sz w blk m D.toArray os (hfit.fin b hb) (hFne b (.inl hb))⟩
  have e1 : (((Sort.flatK enc sz D.toArray).toList.drop (t * sz)).take sz) = enc D[t] := by
   apply List.ext_getElem?
   intro j
   by_cases hj : j < sz
   ·
    have hlt2 : t * sz + j < D.length * sz := by
     have : (t + 1) * sz ≤ D.length * sz := Nat.mul_le_mul_right _ htD
     rw [Nat.add_mul, Nat.one_mul] at this; omega
    rw [List.getElem?_take_of_lt hj, List.getElem?_drop, Array.getElem?_toList]
    have hg := Sort.get_flatK enc sz D.toArray (t * sz + j) (by simpa using hlt2)
    rw [Array.getElem?_eq_getElem (by simpa using hlt2)]
    rw [getElem!_pos _ _ (by simpa using hlt2)] at hg
    rw [hg, show (t * sz + j) / sz = t by rw [Nat.mul_comm, Nat.mul_add_div hsz, Nat.div_eq_of_lt hj, Nat.add_zero], show (t * sz + j) % sz = j by rw [Nat.mul_comm, Nat.mul_add_mod, Nat.mod_eq_of_lt hj]]
    have e3 : D.toArray[t]! = D[t] := by simp [htD]
    have hj2 : j < (enc D[t]).length := by rw [hencl]; exact hj
    rw [e3, getElem!_pos (enc D[t]) j hj2, We hj2]
   ·
    rw [List.getElem?_take_eq_none (by omega), List.getElem?_eq_none (by rw [hencl]; omega)]
  rw [e1]
  exact (hcell _).mono hFs
 ·
  exact hG

theorem Y8b {f g E : Nat} {x y : Operand} {ts : Array TypeId} {v : Value} {xs r : List α} {cc cc' : List C} {cf : α → α → Option Int} (hS : Y89 P f sz) (hsz : Nat.blt 0 sz = true) (hx : ev es x = some (.val v)) (hy : Y8a es y g cc) (hf : FrzT cc ps cc')
  (hcmp : ∀ x y r, cf x y = some r → Ok P g ([.agg (k x), .agg (k y)] ++ cc') [] fun c qs => c = .int r ∧ qs = []) (h : Y80 cf xs = some r) (hn : Nat.blt d n = true) :
  HOp P n ⟨some d, .call ⟨.value (.func f), #[x, y], ts⟩, ty, pos, af, gd⟩ es (.arr v E k sz xs :: ps) (fun e' qs => e' = (d, .tup []) :: es ∧ qs = .arr v E k sz r :: ps) := by
 intro a w F G1 hs ho hft hasz Kc Q hK
 obtain ⟨Ga, Gb, hi, hd, h1, h2⟩ := ho
 obtain ⟨cap, hclo, hcap⟩ := hy hs
 have hfa : Fit w F Ga := ⟨hft.fin, fun b hb => hft.gin b ((hi b).2 (.inl hb)), hft.glob⟩
 have hfb : Fit w F Gb := ⟨hft.fin, fun b hb => hft.gin b ((hi b).2 (.inr hb)), hft.glob⟩
 have hcall := Z0 hS (Yl hsz) hcap hf hcmp h hfa hfb hd h1 h2
 have hrun : (execOp a.eval ⟨some d, .call ⟨.value (.func f), #[x, y], ts⟩, ty, pos, af, gd⟩).run P w = .ok (.enter f #[v, .func (.func g) #[] cap.toArray]) w := by
  have e0 : a.eval (.func f) = .func (.func f) #[] #[] := rfl
  simp [execOp, resolve, e0, Deferred.ofValue, invoke, hS.enters _ w, hs.val hx, hclo]
 unfold Oper.wp
 rw [hrun]
 refine hcall.mono fun e w' ⟨he, ht⟩ => ?_
 subst he
 have ht' := ht.frame hi hd h2 hft
 exact hK (.tuple #[]) w' _ _ F _ ht' ⟨rfl, rfl⟩ (Ym.put (hs.mono (ht'.same hft)) (hasz ▸ Yl hn) ⟨[], rfl, rfl⟩)


structure Y8c (P : Program) (f : Nat) : Prop where
 enters : Y1z P f
 ofNone : ∀ (p : Option Addr) (cap : Nat) (w : World), Calls P f #[.slice p 0 cap] w fun e w' => e = .returned (.tuple #[]) ∧ w' = w
 ofSome : ∀ (blk cap : Nat) (zs : List Int) (w : World), Sort.Holds (Value.int .i64) w blk 0 zs.toArray → blk < w.heap.size → zs.length < 4611686018427387904 →
  Calls P f #[.slice (some ⟨blk, 0, none⟩) zs.length cap] w fun e w' => e = .returned (.tuple #[]) ∧ ∃ n os, w' = Sort.grow (Sort.putRow (Value.int .i64) (Sort.ahead w n) blk 0 (zs.mergeSort fun x y => decide (x ≤ y)).toArray) os

theorem Flat.ints {ki : Int → List C} (hk : ∀ x, ki x = [.int x]) : ∀ {xs : List Int} {vs : List Value}, Flat w F ki 1 xs vs ↔ vs = xs.map (.int .i64)
 | [], _ => Iff.rfl
 | x :: xs, vs => by
  constructor
  ·
   rintro ⟨a, r, rfl, hl, h1, h2⟩
   rw [hk] at h1
   obtain ⟨v, r', rfl, hv, _, hr'⟩ := h1
   rw [show r' = [] from hr', show v = .int .i64 x from hv, (Flat.ints hk).1 h2]
   rfl
  ·
   rintro rfl
   refine ⟨[.int .i64 x], xs.map (.int .i64), rfl, rfl, ?_, (Flat.ints hk).2 rfl⟩
   rw [hk]
   exact ⟨_, _, rfl, rfl, rfl, rfl⟩

theorem Y8d {f E : Nat} {x : Operand} {ts : Array TypeId} {v : Value} {ki : Int → List C} {xs : List Int} (hS : Y8c P f) (hk : ∀ x, ki x = [.int x]) (hlen : xs.length < 4611686018427387904) (hx : ev es x = some (.val v)) (hn : Nat.blt d n = true) :
  HOp P n ⟨some d, .call ⟨.value (.func f), #[x], ts⟩, ty, pos, af, gd⟩ es [.arr v E ki 1 xs] (fun e' qs => e' = (d, .tup []) :: es ∧ qs = [.arr v E ki 1 (xs.mergeSort fun x y => decide (x ≤ y))]) := by
 intro a w F G1 hs ho hft hasz Kc Q hK
 obtain ⟨⟨vs, hrow, hfl⟩, hG⟩ := ho.only
 have hrun : (execOp a.eval ⟨some d, .call ⟨.value (.func f), #[x], ts⟩, ty, pos, af, gd⟩).run P w = .ok (.enter f #[v]) w := by
  have e0 : a.eval (.func f) = .func (.func f) #[] #[] := rfl
  simp [execOp, resolve, e0, Deferred.ofValue, invoke, hS.enters _ w, hs.val hx]
 unfold Oper.wp
 rw [hrun]
 have hdone : xs = [] → ∀ e w', (e = Ending.returned (.tuple #[]) ∧ w' = w) → e = .returned (.tuple #[]) ∧ Turn w F G1 w' F G1 [.arr v E ki 1 (xs.mergeSort fun x y => decide (x ≤ y))] := by
  rintro rfl e w' ⟨h3, rfl⟩
  rw [show ([] : List Int).mergeSort (fun x y => decide (x ≤ y)) = [] by simp]
  exact ⟨h3, Own.of_one ⟨⟨vs, hrow, hfl⟩, hG⟩, fun _ h => h, fun b hb => ⟨hft.fin b hb, .inl hb⟩, fun b hb => ⟨(hft.gin b hb).1, (hft.gin b hb).2, .inl hb⟩, Chg.refl _ _⟩
 suffices hc : Calls P f #[v] w fun e w' => e = .returned (.tuple #[]) ∧ Turn w F G1 w' F G1 [.arr v E ki 1 (xs.mergeSort fun x y => decide (x ≤ y))] by
  refine hc.mono fun e w' ⟨he, ht⟩ => ?_
  subst he
  exact hK (.tuple #[]) w' _ _ F _ ht ⟨rfl, rfl⟩ (Ym.put (hs.mono (ht.same hft)) (hasz ▸ Yl hn) ⟨[], rfl, rfl⟩)
 rcases hrow.2 with ⟨rfl, h0⟩ | ⟨blk, cp, cur, rfl, _, hb, hnc, hcm, hcs, htake⟩
 ·
  exact (hS.ofNone none 0 w).mono (hdone (List.eq_nil_of_length_eq_zero h0))
 by_cases hne : xs = []
 ·
  have hl0 : xs.length = 0 := by rw [hne]; rfl
  have := (hS.ofNone (some ⟨blk, 0, none⟩) cp w).mono (hdone hne)
  rw [hl0]
  rwa [hl0] at this
 have hblk : blk < w.heap.size := (Array.getElem?_eq_some_iff.1 hb).1
 have hvs := (Flat.ints hk).1 hfl
 have hGb : G1 blk := (hG blk).2 rfl
 have hholds : Sort.Holds (Value.int .i64) w blk 0 xs.toArray := holds_of_blockI hb (by rw [Nat.mul_one] at htake; rw [htake, hvs])
 refine (hS.ofSome blk cp xs w hholds hblk hlen).mono fun e w' ⟨he, m, os, hw⟩ => ⟨he, ?_⟩
 have hg := grownBy_sortedI (w := w) (g := blk) (n := m) (os := os) (xs.mergeSort fun x y => decide (x ≤ y)).toArray
 have hbl := heap_sortedI (n := m) (os := os) (xs.mergeSort fun x y => decide (x ≤ y)).toArray hb
 have hl : (xs.mergeSort fun x y => decide (x ≤ y)).length = xs.length := List.length_mergeSort _
 have hdr : w.drawn ≤ w'.drawn := by rw [hw]; exact Nat.le_add_right _ _
 rw [← hw] at hg hbl
 refine ⟨Own.of_one ⟨⟨_, ?_, (Flat.ints hk).2 rfl⟩, hG⟩, fun _ h => h, fun b hb => ⟨Nat.lt_of_lt_of_le (hft.fin b hb) hg.size, .inl hb⟩, fun b hb => ⟨Nat.lt_of_lt_of_le (hft.gin b hb).1 hg.size, (hft.gin b hb).2, .inl hb⟩, ⟨hg.os, hg.tape, hg.output, hg.size, hdr, fun b hb hn => hg.block b hb fun e => hn (by cases e; exact hGb)⟩⟩
 rw [hl]
 refine ⟨by simp [hl], .inr ⟨blk, cp, _, rfl, Nat.zero_le _, hbl, hnc, hcm, by simp [Sort.putCells, hcs], ?_⟩⟩
 rw [Nat.mul_one, ← hl]
 exact take_putCellsI cur _ (by rw [hl, hcs, Nat.mul_one]; exact hnc)
end


def C.imap {β : Type} (kd : IntKind) (kc : β → C) (m : List (Int × β)) : C where
 rep w F v := ∃ (b : Nat) (es : Array MapEntry) (clock : Nat), v = .map (some b) ∧ F b ∧ w.heap[b]? = some (.map es clock) ∧ Ents w F kd kc m es.toList ∧ Y6f m es.toList clock
 mono := by
  rintro w w' F F' v ⟨b, es, c, rfl, hb, h1, h2, h3⟩ k
  exact ⟨b, es, c, rfl, (k b hb).1, ((k b hb).2).trans h1, h2.mono k, h3⟩
theorem One.imap {β : Type} {kd : IntKind} {kc : β → C} {m : List (Int × β)} : One (.imap kd kc m) := fun _ _ v ⟨_, _, _, e, _⟩ => by rw [e]; rfl

theorem Frz.map {β : Type} {kd : IntKind} {kc : β → C} {m : List (Int × β)} {b : Nat} : Frz (.val (.map (some b))) [.map b kd kc m] (.imap kd kc m) := fun w F G F' v hv ho hF hG => by
 obtain ⟨hg, es, c, h1, h2, h3⟩ := ho.only
 exact ⟨b, es, c, hv, hG b ((hg b).2 rfl), h1, h2.mono fun b hb => ⟨hF b hb, rfl⟩, h3⟩

theorem Frz.box {b T : Nat} {cs cs' : List C} {qs : List Obj} (h : FrzL cs qs cs') : Frz (.val (.pointer (some ⟨b, 0, none⟩))) (.box b T cs :: qs) (.ip cs') := fun w F G F' v hv ho hF hG => by
 obtain ⟨G1, G2, hi, hd, ⟨hg, vs, hb, hc⟩, h2⟩ := ho
 exact ⟨b, 0, vs, hv, hG b ((hi b).2 (.inl ((hg b).2 rfl))), Y1n hb, h w F G2 F' vs hc h2 hF fun b hb => hG b ((hi b).2 (.inr hb))⟩

section
variable {β : Type} {P : Program} {n : Nat} {es : Env} {ps : List Obj} {kd : IntKind} {kc : β → C} {m : List (Int × β)} {d ty : Nat} {pos : String} {af : Array Edge} {gd : Option (Nat × Bool)}

theorem Y8e {T E : Nat} {x y : Operand} {j : Int} {zv : Value} {z0 : β} (hT : Y6g P T = some (kd, E)) (hz : Y6i P E = some zv) (hz0 : ∀ w F, (kc z0).rep w F zv) (hx : ev es x = some (.imap kd kc m)) (hy : ev es y = some (.val (.int kd j)))
  (hn : Nat.blt d n = true) : VOp true P n es ps ⟨some d, .lookup T x y false, ty, pos, af, gd⟩ d (kc ((mget m j).getD z0)) :=
 VOp.mk rfl hn fun a w F Gp hs ho => by
  obtain ⟨k, hu, hk⟩ := Y6h hT
  obtain ⟨b, en, c, hv0, hF, h1, h2, h3⟩ := hs.ev hx
  obtain ⟨v, hv, hr⟩ := Y6o (P := P) (p := 0) (b := b) (j := j) (F := F) hu hk hz hz0 rfl (Own.of_one (o := .map b kd kc m) (G1 := (· = b)) ⟨fun _ => Iff.rfl, en, c, h1, h2, h3⟩)
  exact ⟨v, fun w2 hw => by
   have := hr false w2 (hw rfl b (.inl hF))
   simp only [execOp, hv0, hs.val hy]
   simp [this], hv⟩

theorem Y8f {T E : Nat} {x y : Operand} {j : Int} {zv : Value} {z0 : β} (hT : Y6g P T = some (kd, E)) (hz : Y6i P E = some zv) (hz0 : ∀ w F, (kc z0).rep w F zv) (hx : ev es x = some (.imap kd kc m)) (hy : ev es y = some (.val (.int kd j)))
  (hn : Nat.blt d n = true) : VOp true P n es ps ⟨some d, .lookup T x y true, ty, pos, af, gd⟩ d (.tup [kc ((mget m j).getD z0), .bool (mget m j).isSome]) :=
 VOp.mk rfl hn fun a w F Gp hs ho => by
  obtain ⟨k, hu, hk⟩ := Y6h hT
  obtain ⟨b, en, c, hv0, hF, h1, h2, h3⟩ := hs.ev hx
  obtain ⟨v, hv, hr⟩ := Y6o (P := P) (p := 0) (b := b) (j := j) (F := F) hu hk hz hz0 rfl (Own.of_one (o := .map b kd kc m) (G1 := (· = b)) ⟨fun _ => Iff.rfl, en, c, h1, h2, h3⟩)
  exact ⟨.tuple #[v, .bool (mget m j).isSome], fun w2 hw => by
   have := hr true w2 (hw rfl b (.inl hF))
   simp only [execOp, hv0, hs.val hy]
   simp [this], [v, .bool (mget m j).isSome], rfl, v, _, rfl, hv, _, [], rfl, rfl, rfl⟩
end
end Go.Abs
namespace Go.Abs
open Go

class FldI (P : Program) (T j : Nat) (fo : outParam Nat) : Prop where
 h : Y1a P T j = some fo
class LdI (P : Program) (T : Nat) (a : outParam Bool) (m : outParam Nat) : Prop where
 h : Y1b P T = some (a, m)
class SlI (P : Program) (T : Nat) (E sz by' : outParam Nat) : Prop where
 h : Y2c P T = some (E, sz, by')

structure Hid (q : Prop) : Prop where
 out : q
theorem cnd {α : Type} {e : Bool} {A B : Option α} {r : Option α} {Q : Prop} (h : cond e A B = r) (k1 : e = true → A = r → Q) (k2 : e = false → B = r → Q) : Q := by
 cases e with
 | true => exact k1 rfl h
 | false => exact k2 rfl h

section
variable {P : Program} {n : Nat} {X : Ctx} {s : St} {K : Exit → St → Prop}
theorem AW.ct {t : Nat} {x y : Code} {b : Bool} (hb : b = true) (ht : get s.e t = some (.bool b)) (h : AW P n X x s K) : AW P n X (.cond (.tmp t) x y) s K := AW.cond ht (fun _ => h) fun h0 => by rw [hb] at h0; cases h0
theorem AW.cf {t : Nat} {x y : Code} {b : Bool} (hb : b = false) (ht : get s.e t = some (.bool b)) (h : AW P n X y s K) : AW P n X (.cond (.tmp t) x y) s K := AW.cond ht (fun h0 => by rw [hb] at h0; cases h0) fun _ => h

variable {e : Env} {os : List Obj}
theorem Ops.hx {β : Type} {ops : Array Oper} {o : Oper} {rest : List Oper} {K : St → Prop} {ps r : List Obj} (ns : List Nat) {E : β → Env} {Q : β → List Obj} (h : HOp P n o e ps fun e' qs => ∃ b, e' = E b ∧ qs = Q b)
  (k : ∀ b, appK (Q b) r fun l => Ops P n X ops rest (E b) l K) (hg : o.guard = none := by exact rfl) (hp : Y7 ns os = some (ps, r) := by exact rfl) : Ops P n X ops (o :: rest) e os K :=
 Ops.h hg hp h fun _ _ ⟨b, h1, h2⟩ => by rw [h1, h2]; exact k b
theorem Ops.hd0 {ops : Array Oper} {o : Oper} {rest : List Oper} {K : St → Prop} {qs : List Obj} {e1 : Env} (h : HOp P n o e [] fun e' qs' => e' = e1 ∧ qs' = qs) (k : appK qs os fun l => Ops P n X ops rest e1 l K) (hg : o.guard = none := by exact rfl) : Ops P n X ops (o :: rest) e os K :=
 Ops.h (ns := []) hg rfl h fun _ _ ⟨h1, h2⟩ => by rw [h1, h2]; exact k
theorem Y3z.hx {β : Type} {i : Nat} {l : List Oper} {L Lt : List Nat} {k0 : Sch} {b : Bool} {o : Oper} {ot : List Obj} {K : St → Prop} {ps r : List Obj} (ns : List Nat) {E : β → Env} {Q : β → List Obj} (h : HOp P n o e ps fun e' qs => ∃ b, e' = E b ∧ qs = Q b)
  (k : ∀ x, appK (Q x) r fun l' => OpsD P n X l L Lt k0 b (E x) os l' K) (ho : nth l i = some o := by exact rfl) (hg : o.guard = none := by exact rfl) (hp : Y7 ns ot = some (ps, r) := by exact rfl) : Y3z P n X l L Lt i k0 b e os ot K :=
 Y3z.h ho hg hp h fun _ _ ⟨x, h1, h2⟩ => by rw [h1, h2]; exact k x
theorem Y3z.hd {i : Nat} {l : List Oper} {L Lt : List Nat} {k0 : Sch} {b : Bool} {o : Oper} {ot : List Obj} {K : St → Prop} {ps r qs : List Obj} {e1 : Env} (ns : List Nat) (h : HOp P n o e ps fun e' qs' => e' = e1 ∧ qs' = qs)
  (k : appK qs r fun l' => OpsD P n X l L Lt k0 b e1 os l' K) (ho : nth l i = some o := by exact rfl) (hg : o.guard = none := by exact rfl) (hp : Y7 ns ot = some (ps, r) := by exact rfl) : Y3z P n X l L Lt i k0 b e os ot K :=
 Y3z.h ho hg hp h fun _ _ ⟨h1, h2⟩ => by rw [h1, h2]; exact k
theorem gb {e' : Env} {o qs r : List Obj} (ns : List Nat) (h : Y7 ns o = some (qs, r) := by exact rfl) (he : e'.map (fun p => get e p.1) = e'.map (fun p => some p.2) := by exact rfl) : Y25 n X ⟨e, o⟩ ⟨e', qs⟩ := Y25.both h he
end
abbrev pt (b : Nat) : C := C.val (.pointer (some ⟨b, 0, none⟩))
end Go.Abs
namespace Go.Abs
open Go

def pkey (j : Int × Int) : Value := .agg #[.int .i64 j.1, .int .i64 j.2]
def pget {β : Type} : List ((Int × Int) × β) → Int × Int → Option β
 | [], _ => none
 | (i, x) :: m, j => if j = i then some x else pget m j
def pset {β : Type} : List ((Int × Int) × β) → Int × Int → β → List ((Int × Int) × β)
 | [], j, y => [(j, y)]
 | (i, x) :: m, j, y => if j = i then (i, y) :: m else (i, x) :: pset m j y

def Y8h {β : Type} (w : World) (F : BSet) (kc : β → C) : List ((Int × Int) × β) → List MapEntry → Prop
 | [], es => es = []
 | (i, x) :: m, es => ∃ e r, es = e :: r ∧ e.key = pkey i ∧ (kc x).rep w F e.val ∧ Y8h w F kc m r

def Y8i (P : Program) (T : Nat) : Option (Nat × Nat) :=
 match P.underlying T with
 | some (.map k e) => match P.underlying k, Y5u P k with
  | some (.struct ⟨[f, g]⟩), some [0, 0] =>
   if (f.name != "_") && (g.name != "_") && (f.offset == 0) && (g.offset == 1) && (Y1b P f.type == some (false, 1)) && (Y1b P g.type == some (false, 1)) then
    match P.underlying f.type, P.underlying g.type with
    | some (.int _), some (.int _) => some (k, e)
    | _, _ => none
   else none
  | _, _ => none
 | _ => none

structure Y8j (P : Program) (T k E : Nat) : Prop where
 map : P.underlying T = some (.map k E)
 eq : Y5u P k = some [0, 0]
 key : ∃ f g : Field, P.underlying k = some (.struct ⟨[f, g]⟩) ∧ f.name ≠ "_" ∧ g.name ≠ "_" ∧ f.offset = 0 ∧ g.offset = 1 ∧ Y1b P f.type = some (false, 1) ∧ Y1b P g.type = some (false, 1) ∧ (∃ a, P.underlying f.type = some (.int a)) ∧ ∃ a, P.underlying g.type = some (.int a)

theorem Y8k {P : Program} {T k E : Nat} (h : Y8i P T = some (k, E)) : Y8j P T k E := by
 unfold Y8i at h
 split at h
 ·
  rename_i k' e hu
  split at h
  ·
   rename_i f g h1 h2
   split at h
   ·
    rename_i hc
    simp only [Bool.and_eq_true, bne_iff_ne, ne_eq, beq_iff_eq] at hc
    split at h
    ·
     rename_i a b h3 h4
     cases h
     exact ⟨hu, h2, f, g, h1, hc.1.1.1.1.1, hc.1.1.1.1.2, hc.1.1.1.2, hc.1.1.2, hc.1.2, hc.2, ⟨a, h3⟩, ⟨b, h4⟩⟩
    ·
     cases h
   ·
    cases h
  ·
   cases h
 ·
  cases h

section
variable {P : Program} {β : Type} {w w' : World} {F F' : BSet} {kc : β → C}
theorem Y8h.mono : ∀ {m : List ((Int × Int) × β)} {es : List MapEntry}, Y8h w F kc m es → (∀ b, F b → F' b ∧ w'.heap[b]? = w.heap[b]?) → Y8h w' F' kc m es
 | [], _, h, _ => h
 | (_, _) :: _, _, ⟨e, r, h1, h2, h3, h4⟩, k => ⟨e, r, h1, h2, C.mono _ h3 k, h4.mono k⟩

theorem Y8l {k : Nat} (hk : Y5u P k = some [0, 0]) (i j : Int × Int) (w : World) : (Op.equal k (pkey j) (pkey i)).run P w = .ok (decide (j = i)) w := by
 have h := (Y60 (w := w) (us := [.int .i64 j.1, .int .i64 j.2]) (vs := [.int .i64 i.1, .int .i64 i.2]) (b := decide (j = i)) hk (by
  simp only [Y5w, Y5v, if_true]
  congr 1
  obtain ⟨a, b⟩ := i; obtain ⟨c, d⟩ := j
  simp only [Prod.mk.injEq, Bool.and_true]
  rw [Bool.eq_iff_iff]; simp)).1
 exact h

theorem Y8h.find {k : Nat} (hk : Y5u P k = some [0, 0]) : ∀ {m : List ((Int × Int) × β)} {es : List MapEntry} (j : Int × Int) (i : Nat), Y8h w F kc m es →
  (pget m j = none ∧ (∀ w2 : World, (Instr.findAsking k (pkey j) es i).run P w2 = .ok none w2) ∧ ∀ y v born, (kc y).rep w F v → Y8h w F kc (pset m j y) (es ++ [⟨pkey j, v, born⟩])) ∨
  ∃ x t v, pget m j = some x ∧ (∀ w2 : World, (Instr.findAsking k (pkey j) es i).run P w2 = .ok (some (i + t, v)) w2) ∧ (kc x).rep w F v ∧ es[t]?.map (·.key) = some (pkey j) ∧
   ∀ y u, (kc y).rep w F u → Y8h w F kc (pset m j y) (es.modify t fun e => { e with key := pkey j, val := u })
 | [], _, j, i, h => by
  rw [show _ = [] from h]
  exact .inl ⟨rfl, fun _ => rfl, fun y v born hv => ⟨_, [], rfl, rfl, hv, rfl⟩⟩
 | (l, x) :: m, _, j, i, ⟨e, r, h1, h2, h3, h4⟩ => by
  subst h1
  by_cases hj : j = l
  ·
   subst hj
   refine .inr ⟨x, 0, e.val, by rw [pget, if_pos rfl], fun w2 => ?_, h3, by simp [h2], fun y u hu => ?_⟩
   ·
    simp [Instr.findAsking, h2, Y8l hk]
   ·
    rw [pset, if_pos rfl]
    exact ⟨_, r, rfl, rfl, hu, h4⟩
  ·
   rcases Y8h.find hk j (i + 1) h4 with ⟨g1, g2, g3⟩ | ⟨x', t, v, g1, g2, g3, g4, g5⟩
   ·
    refine .inl ⟨by rw [pget, if_neg hj]; exact g1, fun w2 => by simp [Instr.findAsking, h2, Y8l hk, hj, g2], fun y v born hv => ?_⟩
    rw [pset, if_neg hj]
    exact ⟨e, _, rfl, h2, h3, g3 y v born hv⟩
   ·
    refine .inr ⟨x', t + 1, v, by rw [pget, if_neg hj]; exact g1, fun w2 => ?_, g3, by simpa using g4, fun y u hu => ?_⟩
    ·
     simp [Instr.findAsking, h2, Y8l hk, hj, g2]; omega
    ·
     rw [pset, if_neg hj]
     exact ⟨e, _, rfl, h2, h3, g5 y u hu⟩
end

def Obj.pmap {β : Type} (b : Nat) (kc : β → C) (m : List ((Int × Int) × β)) : Obj where
 rep w F G := (∀ b', G b' ↔ b' = b) ∧ ∃ (es : Array MapEntry) (clock : Nat), w.heap[b]? = some (.map es clock) ∧ Y8h w F kc m es.toList
 mono := by
  rintro w w' F F' G ⟨hg, es, c, h1, h2⟩ m g
  exact ⟨hg, es, c, (g b ((hg b).2 rfl)).trans h1, h2.mono m⟩

section
variable {P : Program} {n : Nat} {a : Act} {w : World} {F G : BSet} {es : Env} {ps : List Obj} {β : Type} {kc : β → C} {m : List ((Int × Int) × β)}
variable {d ty : Nat} {pos : String} {af : Array Edge} {gd : Option (Nat × Bool)}

theorem Y8m {k : Nat} {a : IntKind} (hk : P.underlying k = some (.int a)) (e : Bool) (j : Int) (l : Nat) : (Instr.checkKey e (l + 1) k (.int .i64 j)).run P w = .ok () w := by
 simp [Instr.checkKey, run_underlying hk]
theorem Y8n {T k E : Nat} (h : Y8j P T k E) (e : Bool) (j : Int × Int) : (Instr.checkKey e 10000 k (pkey j)).run P w = .ok () w := by
 obtain ⟨f, g, h1, h2, h3, h4, h5, h6, h7, ⟨a1, h8⟩, ⟨a2, h9⟩⟩ := h.key
 have p1 : (part f.type #[.int .i64 j.1, .int .i64 j.2] f.offset).run P w = .ok (.int .i64 j.1) w := Y5x h6 (by rw [h4]; rfl)
 have p2 : (part g.type #[.int .i64 j.1, .int .i64 j.2] g.offset).run P w = .ok (.int .i64 j.2) w := Y5x h7 (by rw [h5]; rfl)
 have c1 : (Instr.checkKey e 9999 f.type (.int .i64 j.1)).run P w = .ok () w := Y8m h8 e j.1 9998
 have c2 : (Instr.checkKey e 9999 g.type (.int .i64 j.2)).run P w = .ok () w := Y8m h9 e j.2 9998
 show (Instr.checkKey e (9999 + 1) k (pkey j)).run P w = .ok () w
 unfold Instr.checkKey pkey
 simp [run_underlying h1, h2, h3, p1, p2, c1, c2]

theorem Y8o {T k E : Nat} (hk : Y8j P T k E) {j : Int × Int} {es : List MapEntry} {r : Option (Nat × Value)} (h : ∀ w2 : World, (Instr.findAsking k (pkey j) es 0).run P w2 = .ok r w2) : (Instr.findKey k (pkey j) es).run P w = .ok r w := by
 obtain ⟨f, g, h1, _⟩ := hk.key
 cases es with
 | nil =>
  have := h w
  simp [Instr.findAsking] at this
  simp [Instr.findKey, run_underlying h1, Instr.findNow, this]
 | cons e l => simp [Instr.findKey, run_underlying h1, Instr.findNow, Instr.sameNow, h]

theorem Y8p {T : Nat} (hn : Nat.blt d n = true) : HOp P n ⟨some d, .makeMap T none, ty, pos, af, gd⟩ es [] (fun e' qs => ∃ b, e' = (d, .val (.map (some b))) :: es ∧ qs = [.pmap b kc []]) :=
 HOp.of rfl hn fun a w F G1 hs h1 hf => by
  have hG1 : G1 = fun _ => False := funext fun b => eq_false (h1 b)
  subst hG1
  refine ⟨.map (some w.heap.size), w.alloc (.map #[] 0), F, _, _, _, ?_, rfl, Turn.new hf.fin (.pmap w.heap.size kc []) _ ⟨fun _ => Iff.rfl, #[], 0, heap_alloc_new w _, rfl⟩, _, rfl, rfl⟩
  simp [execOp, Instr.makeMap]

theorem Y8q {es : Env} {y : Operand} {j : Int × Int} (hs : Ym w F es a) (hy : ev es y = some (.agg [.int j.1, .int j.2])) : a.eval y = pkey j := by
 obtain ⟨vs, h1, h2⟩ := hs.ev hy
 rw [Y5z (us := [.int .i64 j.1, .int .i64 j.2]) h2] at h1
 exact h1

theorem Y8r {T k E p b : Nat} {x y : Operand} {j : Int × Int} {zv : Value} {z0 : β} (hT : Y8i P T = some (k, E)) (hz : Y6i P E = some zv) (hz0 : ∀ w F, (kc z0).rep w F zv) (hx : ev es x = some (.val (.map (some b)))) (hy : ev es y = some (.agg [.int j.1, .int j.2]))
  (hp : pick p ps = some (.pmap b kc m)) (hn : Nat.blt d n = true) : VOp true P n es ps ⟨some d, .lookup T x y false, ty, pos, af, gd⟩ d (kc ((pget m j).getD z0)) :=
 VOp.mk rfl hn fun a w F Gp hs ho => by
  have hk := Y8k hT
  obtain ⟨G1, ⟨hg, en, clock, hb, he⟩, hsub⟩ := ho.pick hp
  obtain ⟨inf, hi, hzz⟩ : ∃ inf, P.info? E = some inf ∧ inf.zero = some zv := by
   unfold Y6i at hz
   cases hi : P.info? E with
   | none => rw [hi] at hz; cases hz
   | some inf => rw [hi] at hz; exact ⟨inf, rfl, hz⟩
  rcases he.find hk.eq j 0 with ⟨g1, g2, _⟩ | ⟨x0, t, v, g1, g2, g3, _⟩
  ·
   refine ⟨zv, fun w2 hw => ?_, by rw [g1]; exact hz0 w F⟩
   have hck := Y8n (w := w2) hk en.isEmpty j
   have hfk := Y8o (w := w2) hk g2
   have hgo := MapKept.run_getObj_map (P := P) ((hw rfl b (.inr (hsub b ((hg b).2 rfl)))).trans hb)
   simp only [execOp, hs.val hx, Y8q hs hy]
   simp [Instr.lookup, run_underlying hk.map, hgo, hck, hfk, zeroValue, typeInfo, hi, hzz]
  ·
   refine ⟨v, fun w2 hw => ?_, by rw [g1]; exact g3⟩
   have hck := Y8n (w := w2) hk en.isEmpty j
   have hfk := Y8o (w := w2) hk g2
   have hgo := MapKept.run_getObj_map (P := P) ((hw rfl b (.inr (hsub b ((hg b).2 rfl)))).trans hb)
   simp only [execOp, hs.val hx, Y8q hs hy]
   simp [Instr.lookup, run_underlying hk.map, hgo, hck, hfk]

theorem Y8s {T k E b : Nat} {x y z : Operand} {j : Int × Int} {c : C} {v : β} (hT : Y8i P T = some (k, E)) (hx : ev es x = some (.val (.map (some b)))) (hy : ev es y = some (.agg [.int j.1, .int j.2])) (hz : ev es z = some c) (hc : c = kc v) :
  HOp P n ⟨none, .mapUpdate T x y z, ty, pos, af, gd⟩ es [.pmap b kc m] (fun e' qs => e' = es ∧ qs = [.pmap b kc (pset m j v)]) :=
 HOp.of0 rfl fun a w F G1 hs ho hft => by
  subst hc
  have hk := Y8k hT
  obtain ⟨hG, en, clock, hb, he⟩ := ho.only
  have hv := hs.ev hz
  have hgo := MapKept.run_getObj_map (P := P) hb
  rcases he.find hk.eq j 0 with ⟨g1, g2, g3⟩ | ⟨x0, t, v0, g1, g2, g3, g4, g5⟩
  ·
   obtain ⟨w', hr, ht⟩ := Turn.setMap (P := P) (o := .pmap b kc (pset m j v)) hft hG hb (en.push ⟨pkey j, a.eval z, clock⟩) (clock + 1) fun w' hF hb' => ⟨hG, _, _, hb', by
    have := (g3 v (a.eval z) clock hv).mono hF
    simpa using this⟩
   refine ⟨w', F, G1, _, ?_, ht, rfl, rfl⟩
   have hck := Y8n (w := w) hk false j
   have hfk := Y8o (w := w) hk g2
   simp only [execOp, hs.val hx, Y8q hs hy]
   simp [Instr.mapUpdate, run_underlying hk.map, hgo, hck, hfk, hr]
  ·
   obtain ⟨w', hr, ht⟩ := Turn.setMap (P := P) (o := .pmap b kc (pset m j v)) hft hG hb (en.modify t fun e => { e with key := pkey j, val := a.eval z }) clock fun w' hF hb' => ⟨hG, _, _, hb', by
    have := (g5 v (a.eval z) hv).mono hF
    simpa using this⟩
   refine ⟨w', F, G1, _, ?_, ht, rfl, rfl⟩
   have hck := Y8n (w := w) hk false j
   have hfk := Y8o (w := w) hk g2
   simp only [execOp, hs.val hx, Y8q hs hy]
   have g4' : (en[t]?.map (·.key)).getD (pkey j) = pkey j := by
    have : en[t]?.map (·.key) = some (pkey j) := by simpa using g4
    rw [this]; rfl
   have g6 : (Instr.keyThatStays (pkey j) (pkey j)).run P w = .ok (pkey j) w := by
    unfold Instr.keyThatStays
    rw [if_pos]
    ·
     rfl
    ·
     simp [pkey, Instr.sameBits]
   rw [Nat.zero_add] at hfk
   simp [Instr.mapUpdate, run_underlying hk.map, hgo, hck, hfk, g4', g6, hr]
end

theorem Y3z.learn {P : Program} {n : Nat} {X : Ctx} {l : List Oper} {L Lt : List Nat} {i : Nat} {k : Sch} {e : Env} {os ot : List Obj} {K : St → Prop} {b : Bool} {R : Prop} (h : ∀ a w, Sim n X ⟨e, os ++ ot⟩ a w → R) (m : R → Y3z P n X l L Lt i k b e os ot K) : Y3z P n X l L Lt i k b e os ot K :=
 fun fuel listed hok hsel hlt a w F Gs Gt Q hs => m (h a w ⟨F, _, hs⟩) fuel listed hok hsel hlt a w F Gs Gt Q hs
theorem Y3z.gv {P : Program} {n : Nat} {X : Ctx} {l : List Oper} {L Lt : List Nat} {i : Nat} {k : Sch} {e : Env} {os ot : List Obj} {K : St → Prop} {o : Oper} {m b : Bool} {j t d : Nat} {want y : Bool} {c : C} (ho : nth l i = some o) (hg : o.guard = some (j, want)) (hj : (nth l j).bind (·.dst) = some t) (ht : get e t = some (.bool y)) (htn : Nat.blt t n = true) (hb : y = want)
  (h : VOp m P n e (os ++ ot) o d c) (hk : OpsD P n X l L Lt k b ((d, c) :: e) os ot K) : Y3z P n X l L Lt i k b e os ot K := by
 intro fuel listed hok hsel hlt a w F Gs Gt Q hs hdj h1 h2 hQ
 rw [Y3v] at ho hj
 unfold wpOp
 simp only [ho]
 rw [if_pos (by rw [Yp hg (Sim.yielded ⟨F, _, hs⟩ hj ht htn), hb]; simp)]
 refine .inl ?_
 obtain ⟨v, hr', hc⟩ := h.run a w F _ hs.env hs.own
 unfold Oper.wp
 rw [hr' w fun _ _ _ => rfl]
 show _ ∧ _
 rw [h.dst]
 exact ⟨fun _ _ _ => rfl, hk fuel _ hok hsel hlt _ w F Gs Gt Q (hs.put (Yl h.lt) hc) hdj h1 h2 hQ⟩
end Go.Abs
namespace Go.Abs
open Go
section
variable {P : Program} {n : Nat} {X : Ctx} {es : Env} {α γ : Type} {k : α → γ → List C} {ob : α → γ → List Obj} {sz E : Nat}
variable {d ty : Nat} {pos : String} {af : Array Edge} {gd : Option (Nat × Bool)}

end
end Go.Abs
namespace Go.Abs
open Go

class BxI (b : Nat) (os : List Obj) (T : outParam Nat) (cs : outParam (List C)) (r : outParam (List Obj)) : Prop where
 h : ∃ p, ∀ (δ : Type) (k : Obj → List Obj → Option δ), Y3 p os k = k (.box b T cs) r
instance {b T : Nat} {cs : List C} {r : List Obj} : BxI b (.box b T cs :: r) T cs r := ⟨0, fun _ _ => rfl⟩
instance {b T : Nat} {cs : List C} {o : Obj} {os r : List Obj} [i : BxI b os T cs r] : BxI b (o :: os) T cs (o :: r) := by
 obtain ⟨p, h⟩ := i.h
 exact ⟨p + 1, fun δ k => h δ _⟩
instance {b T : Nat} {cs : List C} {o : Obj} {os ot r : List Obj} [i : BxI b (o :: (os ++ ot)) T cs r] : BxI b ((o :: os) ++ ot) T cs r := i
instance {b T : Nat} {cs : List C} {ot r : List Obj} [i : BxI b ot T cs r] : BxI b ([] ++ ot) T cs r := i
class ArI (v : Value) (os : List Obj) {α : outParam Type} (E : outParam Nat) (k : outParam (α → List C)) (sz : outParam Nat) (xs : outParam (List α)) (r : outParam (List Obj)) : Prop where
 h : ∃ p, ∀ (δ : Type) (q : Obj → List Obj → Option δ), Y3 p os q = q (.arr v E k sz xs) r
instance {v : Value} {α : Type} {E sz : Nat} {k : α → List C} {xs : List α} {r : List Obj} : ArI v (.arr v E k sz xs :: r) E k sz xs r := ⟨0, fun _ _ => rfl⟩
instance {v : Value} {α : Type} {E sz : Nat} {k : α → List C} {xs : List α} {o : Obj} {os r : List Obj} [i : ArI v os E k sz xs r] : ArI v (o :: os) E k sz xs (o :: r) := by
 obtain ⟨p, h⟩ := i.h
 exact ⟨p + 1, fun δ q => h δ _⟩
instance {v : Value} {α : Type} {E sz : Nat} {k : α → List C} {xs : List α} {o : Obj} {os ot r : List Obj} [i : ArI v (o :: (os ++ ot)) E k sz xs r] : ArI v ((o :: os) ++ ot) E k sz xs r := i
instance {v : Value} {α : Type} {E sz : Nat} {k : α → List C} {xs : List α} {ot r : List Obj} [i : ArI v ot E k sz xs r] : ArI v ([] ++ ot) E k sz xs r := i

theorem Y8t : ∀ {p : Nat} {os : List Obj}, Y3 p os (fun o _ => some o) = pick p os
 | _, [] => by simp [Y3, pick]
 | 0, _ :: _ => rfl
 | p + 1, _ :: os => Y8t (p := p) (os := os)
section
variable {P : Program} {n : Nat} {X : Ctx} {e : Env} {os ot : List Obj} {d ty T : Nat} {pos : String} {af : Array Edge} {gd : Option (Nat × Bool)} {x y : Operand}
theorem BxI.pick {b T' : Nat} {cs : List C} {r : List Obj} (i : BxI b os T' cs r) : ∃ p, Go.Abs.pick p os = some (.box b T' cs) ∧ Y7 [p] os = some ([.box b T' cs], r) := by
 obtain ⟨p, h⟩ := i.h
 exact ⟨p, Y8t.symm.trans (h _ _), h _ _⟩
theorem ArI.pick {v : Value} {α : Type} {E sz : Nat} {k : α → List C} {xs : List α} {r : List Obj} (i : ArI v os E k sz xs r) : ∃ p, Go.Abs.pick p os = some (.arr v E k sz xs) ∧ Y7 [p] os = some ([.arr v E k sz xs], r) := by
 obtain ⟨p, h⟩ := i.h
 exact ⟨p, Y8t.symm.trans (h _ _), h _ _⟩

def Y8u : Nat → Nat → List C → Option (List C)
 | _, 0, _ => some []
 | 0, m + 1, c :: cs => match Y8u 0 m cs with
  | some ds => some (c :: ds)
  | none => none
 | o + 1, m + 1, _ :: cs => Y8u o (m + 1) cs
 | _, _, [] => none
theorem Y8v : ∀ {o m : Nat} {cs ds : List C}, Y8u o m cs = some ds → (cs.drop o).take m = ds ∧ o + m ≤ cs.length ∨ m = 0 ∧ ds = []
 | _, 0, _, _, h => .inr ⟨rfl, by simpa [Y8u] using h.symm⟩
 | 0, m + 1, c :: cs, ds, h => by
  unfold Y8u at h
  cases hm : Y8u 0 m cs with
  | none => rw [hm] at h; cases h
  | some es =>
   rw [hm] at h; cases h
   rcases Y8v hm with ⟨h1, h2⟩ | ⟨h1, h2⟩
   ·
    left; refine ⟨?_, by simp only [List.length_cons]; omega⟩
    rw [← h1]; rfl
   ·
    left; subst h1 h2; exact ⟨rfl, by simp only [List.length_cons]; omega⟩
 | o + 1, m + 1, _ :: cs, ds, h => by
  unfold Y8u at h
  rcases Y8v h with ⟨h1, h2⟩ | ⟨h1, _⟩
  ·
   left; exact ⟨h1, by simp only [List.length_cons]; omega⟩
  ·
   cases h1
 | 0, _ + 1, [], _, h => by simp [Y8u] at h
 | _ + 1, _ + 1, [], _, h => by simp [Y8u] at h
def setO : Nat → List C → List C → Option (List C)
 | 0, [], cs => some cs
 | 0, d :: ds, _ :: cs => match setO 0 ds cs with
  | some r => some (d :: r)
  | none => none
 | n + 1, ds, c :: cs => match setO n ds cs with
  | some r => some (c :: r)
  | none => none
 | _, _, [] => none
theorem Y8w : ∀ {o : Nat} {ds cs r : List C}, setO o ds cs = some r → cs.take o ++ ds ++ cs.drop (o + ds.length) = r ∧ o + ds.length ≤ cs.length
 | 0, [], cs, r, h => by simp [setO] at h; subst h; simp
 | 0, d :: ds, c :: cs, r, h => by
  unfold setO at h
  cases hm : setO 0 ds cs with
  | none => rw [hm] at h; cases h
  | some q =>
   rw [hm] at h; cases h
   obtain ⟨h1, h2⟩ := Y8w hm
   refine ⟨?_, by simp only [List.length_cons]; omega⟩
   rw [← h1]; simp
 | o + 1, ds, c :: cs, r, h => by
  unfold setO at h
  cases hm : setO o ds cs with
  | none => rw [hm] at h; cases h
  | some q =>
   rw [hm] at h; cases h
   obtain ⟨h1, h2⟩ := Y8w hm
   refine ⟨?_, by simp only [List.length_cons]; omega⟩
   rw [← h1, show o + 1 + ds.length = (o + ds.length) + 1 by omega]; simp
 | 0, _ :: _, [], _, h => by simp [setO] at h
 | _ + 1, _, [], _, h => by simp [setO] at h

theorem on {c : C} (f : One c := by first | exact One.val rfl | exact One.im | exact One.ip | exact One.clo | exact One.val (by assumption)) : One c := f

theorem lB {m b off T' : Nat} {cs : List C} {q : List Obj} {c : C} (hl : Y1b P T = some (false, m)) (hx : ev e x = some (.val (.pointer (some ⟨b, off, none⟩)))) (i : BxI b os T' cs q) (hc : cs[off]? = some c) (hn : Nat.blt d n = true) :
  VOp true P n e os ⟨some d, .load T x, ty, pos, af, gd⟩ d c := by
 obtain ⟨p, h, _⟩ := i.pick
 exact Y1o hl hx h hc hn
theorem lA {m b off T' : Nat} {cs ds : List C} {q : List Obj} (hl : Y1b P T = some (true, m)) (hx : ev e x = some (.val (.pointer (some ⟨b, off, none⟩)))) (i : BxI b os T' cs q) (hd : Y8u off m cs = some ds) (hm : Nat.ble (off + m) cs.length = true) (hn : Nat.blt d n = true) :
  VOp true P n e os ⟨some d, .load T x, ty, pos, af, gd⟩ d (.agg ds) := by
 obtain ⟨p, h, _⟩ := i.pick
 exact Y1p hl hx h (by rcases Y8v hd with h | ⟨h1, h2⟩; exact h.1; subst h1 h2; rfl) hm hn
variable {α : Type} {k : α → List C} {sz E E' by' i0 j M : Nat} {v : Value} {xs : List α} {q : List Obj} {el : α} {ds : List C} {c : C}
theorem nA {sz' : Nat} (hT : Y2c P T = some (E', sz', by')) (hx : ev e x = some (.val v)) (i : ArI v os E k sz xs q) (hn : Nat.blt d n = true) :
  VOp false P n e os ⟨some d, .call ⟨.builtin .len, #[x], #[T]⟩, ty, pos, af, gd⟩ d (.int xs.length) := by
 obtain ⟨p, h, _⟩ := i.pick
 exact Y36 hT hx h hn
theorem iA {t : Int} {qk : IntKind} (hT : Y2c P T = some (E, sz, by')) (hx : ev e x = some (.val v)) (i : ArI v os E' k sz xs q) (hy : ev e y = some (.val (.int qk t))) (hi : getI xs t = some el) (hn : Nat.blt d n = true) :
  VOp false P n e os ⟨some d, .indexAddr T x y, ty, pos, af, gd⟩ d (.val (Y37 v t.toNat sz 0)) := by
 obtain ⟨p, h, _⟩ := i.pick
 exact Y39 hT hx h hy hi hn
theorem fA {j0 fo : Nat} {t : Int} (hf : Y1a P T j = some fo) (hx : ev e x = some (.val (Y37 v t.toNat sz j0))) (i : ArI v os E k sz xs q) (hi : getI xs t = some el) (hn : Nat.blt d n = true) :
  VOp false P n e os ⟨some d, .fieldAddr T x j, ty, pos, af, gd⟩ d (.val (Y37 v t.toNat sz (j0 + fo))) := by
 obtain ⟨p, h, _⟩ := i.pick
 exact Y3a hf hx h (Y2f hi).2.2 hn
theorem eA {t : Int} (hl : Y1b P T = some (false, M)) (hx : ev e x = some (.val (Y37 v t.toNat sz j))) (i : ArI v os E k sz xs q) (hi : getI xs t = some el) (hc : (k el)[j]? = some c) (hn : Nat.blt d n = true) :
  VOp true P n e os ⟨some d, .load T x, ty, pos, af, gd⟩ d c := by
 obtain ⟨p, h, _⟩ := i.pick
 exact Y3c hl hx h (Y2f hi).2.2 hc hn
theorem eAA {t : Int} (hl : Y1b P T = some (true, M)) (hx : ev e x = some (.val (Y37 v t.toNat sz j))) (i : ArI v os E k sz xs q) (hi : getI xs t = some el) (hd : Y8u j M (k el) = some ds) (hm : Nat.ble (j + M) (k el).length = true) (hn : Nat.blt d n = true) :
  VOp true P n e os ⟨some d, .load T x, ty, pos, af, gd⟩ d (.agg ds) := by
 obtain ⟨p, h, _⟩ := i.pick
 exact Y3d hl hx h (Y2f hi).2.2 (by rcases Y8v hd with h | ⟨h1, h2⟩; exact h.1; subst h1 h2; rfl) hm hn

class AlI (P : Program) (T : Nat) (zs : outParam (List Value)) (cs : outParam (List C)) : Prop where
 h : Y1c P T = some zs
 c : ∀ w F, Y1 w F cs zs
class PlI (P : Program) (T : Nat) (ps : outParam (List (Nat × Nat))) : Prop where
 h : places P T = some ps
theorem Bld.one' {place : Nat → Option (Nat × Nat)} {cs cs' ds : List C} {i off : Nat} {c : C} {r : List (Nat × Operand)} (hx : ev e x = some c) (h1 : One c) (hp : place i = some (off, 1)) (hs : setO off [c] cs = some cs') (k : Bld e place cs' r ds) : Bld e place cs ((i, x) :: r) ds := by
 obtain ⟨h, hl⟩ := Y8w hs
 subst h
 exact .one hx h1 hp (Nat.ble_eq_true_of_le hl) k
theorem Bld.agg' {place : Nat → Option (Nat × Nat)} {cs cs' es ds : List C} {i off : Nat} {r : List (Nat × Operand)} (hx : ev e x = some (.agg es)) (hp : place i = some (off, es.length)) (hs : setO off es cs = some cs') (k : Bld e place cs' r ds) : Bld e place cs ((i, x) :: r) ds := by
 obtain ⟨h, hl⟩ := Y8w hs
 subst h
 exact .agg hx hp (Nat.ble_eq_true_of_le hl) k
theorem bl {place : Nat → Option (Nat × Nat)} {cs ds : List C} {r : List (Nat × Operand)} (f : Bld e place cs r ds := by
  repeat first
   | exact .nil
   | refine Bld.one' rfl on rfl rfl ?_
   | refine Bld.agg' rfl rfl rfl ?_) : Bld e place cs r ds := f

theorem bS {parts : List (Nat × Operand)} {ps : List (Nat × Nat)} {zs : List Value} {cs ds : List C} (i : PlI P T ps) (z : AlI P T zs cs) (hb : Bld e (fun i => ps[i]?) cs parts ds) (hn : Nat.blt d n = true) :
  VOp false P n e os ⟨some d, .build T parts.toArray, ty, pos, af, gd⟩ d (.agg ds) := Y3k i.h z.h z.c hb hn
variable {ops : Array Oper} {rest : List Oper} {K : St → Prop} {b off m T' : Nat} {cs gs : List C} {r : List Obj}
theorem al {zs : List Value} {cs : List C} (kk : ∀ b, Ops P n X ops rest ((d, pt b) :: e) (.box b T cs :: os) K) (i : AlI P T zs cs := by infer_instance) (hn : Nat.blt d n = true := by exact rfl) : Ops P n X ops (⟨some d, .alloc T, ty, pos, af, none⟩ :: rest) e os K :=
 Ops.h (ns := []) rfl rfl (Y1t i.h i.c hn) fun _ _ ⟨b, h1, h2⟩ => by rw [h1, h2]; exact kk b
theorem Ops.sA (hl : Y1b P T = some (true, m)) (hx : ev e x = some (.val (.pointer (some ⟨b, off, none⟩)))) (hy : ev e y = some (.agg ds)) (hdm : Nat.beq ds.length m = true) (i : BxI b os T' cs r) (hs : setO off ds cs = some gs)
  (kk : Ops P n X ops rest e (.box b T' gs :: r) K) : Ops P n X ops (⟨none, .store T x y, ty, pos, af, none⟩ :: rest) e os K := by
 obtain ⟨p, _, h⟩ := i.pick
 obtain ⟨h1, h2⟩ := Y8w hs
 exact Ops.hd (ns := [p]) rfl h (Y1y hl hx hy hdm (Nat.ble_eq_true_of_le h2) h1) kk
theorem Ops.s1 (hl : Y1b P T = some (false, 1)) (hx : ev e x = some (.val (.pointer (some ⟨b, off, none⟩)))) (hy : ev e y = some c) (h1 : One c) (i : BxI b os T' cs r) (hs : setO off [c] cs = some gs)
  (kk : Ops P n X ops rest e (.box b T' gs :: r) K) : Ops P n X ops (⟨none, .store T x y, ty, pos, af, none⟩ :: rest) e os K := by
 obtain ⟨p, _, h⟩ := i.pick
 obtain ⟨h3, h2⟩ := Y8w hs
 exact Ops.hd (ns := [p]) rfl h (Y1x hl hx hy h1 (Nat.ble_eq_true_of_le h2) h3) kk
variable {l : List Oper} {L Lt : List Nat} {i1 : Nat} {qs : Sch} {z : Bool}
theorem OpsD.sA (ho : nth l i1 = some ⟨none, .store T x y, ty, pos, af, none⟩) (hl : Y1b P T = some (true, m)) (hx : ev e x = some (.val (.pointer (some ⟨b, off, none⟩)))) (hy : ev e y = some (.agg ds)) (hdm : Nat.beq ds.length m = true) (i : BxI b (os ++ ot) T' cs r) (hs : setO off ds cs = some gs)
  (kk : OpsD P n X l L Lt qs false e [] (.box b T' gs :: r) K) : OpsD P n X l L Lt (.late i1 qs) z e os ot K := by
 obtain ⟨p, _, h⟩ := i.pick
 obtain ⟨h1, h2⟩ := Y8w hs
 exact OpsD.late (ns := [p]) ho rfl ((Y41 os ot _).trans h) (Y1y hl hx hy hdm (Nat.ble_eq_true_of_le h2) h1) fun _ _ ⟨h3, h4⟩ => by rw [h3, h4]; exact kk
theorem OpsD.s1 (ho : nth l i1 = some ⟨none, .store T x y, ty, pos, af, none⟩) (hl : Y1b P T = some (false, 1)) (hx : ev e x = some (.val (.pointer (some ⟨b, off, none⟩)))) (hy : ev e y = some c) (h1 : One c) (i : BxI b (os ++ ot) T' cs r) (hs : setO off [c] cs = some gs)
  (kk : OpsD P n X l L Lt qs false e [] (.box b T' gs :: r) K) : OpsD P n X l L Lt (.late i1 qs) z e os ot K := by
 obtain ⟨p, _, h⟩ := i.pick
 obtain ⟨h5, h2⟩ := Y8w hs
 exact OpsD.late (ns := [p]) ho rfl ((Y41 os ot _).trans h) (Y1x hl hx hy h1 (Nat.ble_eq_true_of_le h2) h5) fun _ _ ⟨h3, h4⟩ => by rw [h3, h4]; exact kk
theorem mS {by' : Nat} {t : Int} {qk qk' : IntKind} {u : α} {zs : List Value} {w0 : Unit} (hc : chk (decide (0 ≤ t ∧ t * (by' : Int) ≤ 140737488355328)) = some w0) (hT : Y30 P T = some (E, sz, by')) (hz : Y1c P E = some zs) (hk : ∀ w F, Y1 w F (k u) zs)
  (hx : ev e x = some (.val (.int qk t)) := by exact rfl) (hy : ev e y = some (.val (.int qk' t)) := by exact rfl) (h0 : (0 : Int) < by' := by decide) (hn : Nat.blt d n = true := by exact rfl) :
  HOp P n ⟨some d, .makeSlice T x y, ty, pos, af, gd⟩ e [] (fun e' qs => ∃ b, e' = (d, .val (.slice (some ⟨b, 0, none⟩) t.toNat t.toNat)) :: e ∧ qs = [.arr (.slice (some ⟨b, 0, none⟩) t.toNat t.toNat) E k sz (List.replicate t.toNat u)]) :=
 Y3n hT hz hk hx hy (Y4a hc).1 (Y4a hc).2 (Y4b h0 hc) hn
end
end Go.Abs
namespace Go.Abs
open Go
class Sp (P : Program) {β : Type} (f : Nat) (cs : outParam (List C)) (x : Option β) (ret : outParam (β → C)) : Prop where
 h : ∀ r, x = some r → Ok P f cs [] (fun c qs => c = ret r ∧ qs = [])
class UnI (P : Program) (T : Nat) (u : outParam TypeDesc) : Prop where
 h : P.underlying T = some u

section
variable {P : Program} {n : Nat} {X : Ctx} {s : St} {e : Env} {os : List Obj} {K : Exit → St → Prop} {α : Type}
theorem AW.cc {t : Nat} {x y : Code} {b : Bool} {A B r : Option α} (h : _root_.cond b A B = r) (ht : get s.e t = some (.bool b)) (k1 : b = true → A = r → AW P n X x s K) (k2 : b = false → B = r → AW P n X y s K) : AW P n X (.cond (.tmp t) x y) s K := by
 cases hb : b with
 | true => rw [hb] at h ht; exact AW.cond ht (fun _ => k1 hb h) fun h0 => by cases h0
 | false => rw [hb] at h ht; exact AW.cond ht (fun h0 => by cases h0) fun _ => k2 hb h
theorem AW.ccn {t : Nat} {x y : Code} {b : Bool} {A B r : Option α} (h : _root_.cond b A B = r) (ht : get s.e t = some (.bool !b)) (k1 : b = true → A = r → AW P n X y s K) (k2 : b = false → B = r → AW P n X x s K) : AW P n X (.cond (.tmp t) x y) s K := by
 cases hb : b with
 | true => rw [hb] at h ht; exact AW.cond ht (fun h0 => by cases h0) fun _ => k1 hb h
 | false => rw [hb] at h ht; exact AW.cond ht (fun _ => k2 hb h) fun h0 => by cases h0
variable {β : Type} {ops : Array Oper} {rest : List Oper} {k : St → Prop} {d ty T : Nat} {pos : String} {af : Array Edge} {gd0 : Option (Nat × Bool)}
theorem Ops.cl {f : Nat} {xs : List Operand} {ts : Array TypeId} {cs : List C} {x : Option β} {ret : β → C} {g : β → Option α} {b : α}
  (h : x.bind g = some b) (i : Sp P f cs x ret) (hx : evs e xs = some cs) (hn : Nat.blt d n = true) (m : ∀ r, x = some r → g r = some b → Ops P n X ops rest ((d, ret r) :: e) os k) :
  Ops P n X ops (⟨some d, .call ⟨.value (.func f), xs.toArray, ts⟩, ty, pos, af, none⟩ :: rest) e os k :=
 ob' h fun r g1 h => Ops.hd (ns := []) rfl rfl (Y28 (i.h r g1) hx hn) (m r g1 h)
theorem gcl {f : Nat} {xs : List Operand} {ts : Array TypeId} {cs : List C} {x : Option β} {ret : β → C} {g : β → Option α} {b : α} {j t : Nat} {want y : Bool}
  (h : x.bind g = some b) (hg : gd0 = some (j, want)) (hj : (ops[j]?).bind (·.dst) = some t) (ht : get e t = some (.bool y)) (htn : Nat.blt t n = true) (hb : y = want) (i : Sp P f cs x ret) (hx : evs e xs = some cs) (hn : Nat.blt d n = true) (m : ∀ r, x = some r → g r = some b → Ops P n X ops rest ((d, ret r) :: e) os k) :
  Ops P n X ops (⟨some d, .call ⟨.value (.func f), xs.toArray, ts⟩, ty, pos, af, gd0⟩ :: rest) e os k :=
 ob' h fun r g1 h => Ops.ghd (ns := []) hg hj ht htn hb rfl (Y28 (i.h r g1) hx hn) (m r g1 h)
theorem Ops.bx {x : Operand} {cs : List C} (hx : ev e x = some (.agg cs)) (hn : Nat.blt d n = true) (m : ∀ b, Ops P n X ops rest ((d, pt b) :: e) (Obj.box b T cs :: os) k) :
  Ops P n X ops (⟨some d, .box T x, ty, pos, af, none⟩ :: rest) e os k :=
 Ops.h (ns := []) rfl rfl (Y1v hx hn) fun _ _ ⟨b, h1, h2⟩ => by rw [h1, h2]; exact m b
theorem Y8x {m : Nat} {gd : Option (Nat × Bool)} {x : Operand} {cs ds : List C} (hl : Y1b P T = some (true, m)) (hx : ev e x = some (.ip cs)) (hd : Y8u 0 m cs = some ds) (hm : Nat.ble m cs.length = true) (hn : Nat.blt d n = true) :
  VOp true P n e os ⟨some d, .load T x, ty, pos, af, gd⟩ d (.agg ds) :=
 Y1m hl hx (by rcases Y8v hd with h | ⟨h1, h2⟩; exact h.1; subst h1 h2; rfl) hm hn
variable {l : List Oper} {L Lt : List Nat} {i : Nat} {q : Sch} {y : Bool} {ot : List Obj}
theorem Y3z.cl {f : Nat} {xs : List Operand} {ts : Array TypeId} {cs : List C} {x : Option β} {ret : β → C} {g : β → Option α} {b : α}
  (h : x.bind g = some b) (ho : nth l i = some ⟨some d, .call ⟨.value (.func f), xs.toArray, ts⟩, ty, pos, af, none⟩) (j : Sp P f cs x ret) (hx : evs e xs = some cs) (hn : Nat.blt d n = true)
  (m : ∀ r, x = some r → g r = some b → OpsD P n X l L Lt q y ((d, ret r) :: e) os ot k) : Y3z P n X l L Lt i q y e os ot k :=
 ob' h fun r g1 h => Y3z.h (ns := []) ho rfl rfl (Y28 (j.h r g1) hx hn) fun _ _ ⟨h1, h2⟩ => by rw [h1, h2]; exact m r g1 h
theorem Y3z.bx {x : Operand} {cs : List C} (ho : nth l i = some ⟨some d, .box T x, ty, pos, af, none⟩) (hx : ev e x = some (.agg cs)) (hn : Nat.blt d n = true) (m : ∀ b, OpsD P n X l L Lt q y ((d, pt b) :: e) os (Obj.box b T cs :: ot) k) : Y3z P n X l L Lt i q y e os ot k :=
 Y3z.h (ns := []) ho rfl rfl (Y1v hx hn) fun _ _ ⟨b, h1, h2⟩ => by rw [h1, h2]; exact m b
theorem dal {zs : List Value} {cs : List C} (m : ∀ b, OpsD P n X l L Lt q y ((d, pt b) :: e) os (Obj.box b T cs :: ot) k) (ho : nth l i = some ⟨some d, .alloc T, ty, pos, af, none⟩ := by exact rfl) (j : AlI P T zs cs := by infer_instance) (hn : Nat.blt d n = true := by exact rfl) : Y3z P n X l L Lt i q y e os ot k :=
 Y3z.h (ns := []) ho rfl rfl (Y1t j.h j.c hn) fun _ _ ⟨b, h1, h2⟩ => by rw [h1, h2]; exact m b
end

def lpK {τ ω β : Type} (y : τ ⊕ ω) (F : ω → Option β) (b : β) (K : Exit → St → Prop) (e : Exit) (s : St) : Prop := ∃ o, y = .inr o ∧ (F o = some b → K e s)
theorem lx {τ ω β : Type} {y : τ ⊕ ω} {F : ω → Option β} {b : β} {K : Exit → St → Prop} {e : Exit} {s : St} {o : ω} (h : some (Sum.inr o) = some y) (k : F o = some b → K e s) : lpK y F b K e s := ⟨o, (Wj h).symm, k⟩
theorem le {τ ω γ : Type} {y : τ ⊕ ω} {n : Nat} {X : Ctx} {s : St} {S : τ → γ → St} {x : τ} {v : γ} (h : some (Sum.inl x) = some y) (g : Y25 n X s (S x v)) : ∃ x' v', y = .inl x' ∧ Y25 n X s (S x' v') := ⟨x, v, (Wj h).symm, g⟩
theorem ckt {α : Type} {e : Bool} {A B r : Option α} {Q : Prop} (h : cond e A B = r) (hb : e = true) (k : A = r → Q) : Q := k (Y43 hb h)
theorem ckf {α : Type} {e : Bool} {A B r : Option α} {Q : Prop} (h : cond e A B = r) (hb : e = false) (k : B = r → Q) : Q := k (Y44 hb h)
theorem obk {α β : Type} {x : Option α} {f : α → Option β} {b : β} {a : α} {Q : Prop} (h : x.bind f = some b) (g : x = some a) (k : f a = some b → Q) : Q := k (by rw [g] at h; exact h)

theorem vo {p : Prop} (f : p := by
  first
   | exact Yr rfl rfl
   | exact Ys rfl rfl
   | exact eA LdI.h rfl inferInstance (by assumption) rfl rfl
   | exact fA FldI.h rfl inferInstance (by assumption) rfl
   | exact eAA LdI.h rfl inferInstance (by assumption) rfl rfl rfl
   | exact Y1f FldI.h rfl rfl
   | exact Y1g FldI.h rfl rfl rfl
   | exact lB LdI.h rfl inferInstance rfl rfl
   | exact Y1l LdI.h rfl rfl
   | exact lA LdI.h rfl inferInstance rfl rfl rfl
   | exact Y8x LdI.h rfl rfl rfl rfl
   | exact Yx rfl rfl rfl rfl
   | exact Y2i SlI.h rfl rfl
   | exact Y2k UnI.h rfl rfl
   | exact nA SlI.h rfl inferInstance rfl
   | exact Yv rfl rfl
   | exact Y17 rfl rfl rfl
   | exact Y18 rfl rfl
   | exact Y19 rfl rfl
   | exact Yt rfl rfl rfl rfl
   | exact Yu rfl rfl rfl rfl
   | exact Yt rfl (by assumption) rfl rfl
   | exact Yu rfl (by assumption) rfl rfl
   | exact Yt rfl (Y47 (by assumption)) rfl rfl
   | exact Yu rfl (Y46 (by assumption)) rfl rfl
   | exact Y2n SlI.h rfl rfl (by assumption) rfl
   | exact iA SlI.h rfl inferInstance rfl (by assumption) rfl
   | exact bS inferInstance inferInstance bl rfl) : p := f
theorem nw {p : Prop} (f : p := by
  first
   | exact .u rfl
   | exact .b rfl rfl
   | exact .b rfl (by assumption)
   | exact .b rfl (Y47 (by assumption))
   | exact .b rfl (Y46 (by assumption))) : p := f
theorem Y8y {γ : Type} {x : γ} : ∀ {p : Nat} {os : List Obj} {k : Obj → List Obj → Option γ}, Y3 p os k = some x → ∃ o r, k o r = some x ∧ ∀ (δ : Type) (k' : Obj → List Obj → Option δ), Y3 p os k' = k' o r
 | _, [], _, h => by simp [Y3] at h
 | 0, o :: r, _, h => ⟨o, r, h, fun _ _ => rfl⟩
 | p + 1, q :: os, k, h => by
  obtain ⟨o, r, h1, h2⟩ := Y8y (p := p) (os := os) h
  exact ⟨o, q :: r, h1, fun δ k' => h2 δ _⟩
theorem Y8z {γ : Type} {x : γ} : ∀ {ns : List Nat} {os : List Obj} {k : List Obj → List Obj → Option γ}, Y5 ns os k = some x → ∃ ps r, k ps r = some x ∧ ∀ (δ : Type) (k' : List Obj → List Obj → Option δ), Y5 ns os k' = k' ps r
 | [], os, _, h => ⟨[], os, h, fun _ _ => rfl⟩
 | n :: ns, os, k, h => by
  obtain ⟨o, r, h1, h2⟩ := Y8y h
  obtain ⟨ps, q, h3, h4⟩ := Y8z h1
  exact ⟨o :: ps, q, h3, fun δ k' => (h2 δ _).trans (h4 δ _)⟩
def Sel (os qs : List Obj) : Prop := ∃ ns r, Y7 ns os = some (qs, r)
theorem Sel.nil {os : List Obj} : Sel os [] := ⟨[], os, rfl⟩
theorem Sel.cons {os r qs : List Obj} {o : Obj} (p : Nat) (h : Y3 p os (fun o r => some (o, r)) = some (o, r)) (k : Sel r qs) : Sel os (o :: qs) := by
 obtain ⟨ns, t, hk⟩ := k
 obtain ⟨o', r', h1, h2⟩ := Y8y h
 cases h1
 obtain ⟨ps, q, h3, h4⟩ := Y8z hk
 cases h3
 exact ⟨p :: ns, t, (h2 _ _).trans (h4 _ _)⟩
theorem gs {n : Nat} {X : Ctx} {e e' : Env} {o qs : List Obj} (h : Sel o qs := by
  repeat first
   | exact Sel.nil
   | refine Sel.cons 0 rfl ?_
   | refine Sel.cons 1 rfl ?_
   | refine Sel.cons 2 rfl ?_
   | refine Sel.cons 3 rfl ?_
   | refine Sel.cons 4 rfl ?_
   | refine Sel.cons 5 rfl ?_
   | refine Sel.cons 6 rfl ?_) (he : e'.map (fun p => get e p.1) = e'.map (fun p => some p.2) := by exact rfl) : Y25 n X ⟨e, o⟩ ⟨e', qs⟩ := by
 obtain ⟨ns, r, h⟩ := h
 exact Y25.both h he
def dec : List Nat → Sch
 | [] => .done
 | n :: ns => match n % 4 with
  | 0 => .light (n / 4) false (dec ns)
  | 1 => .light (n / 4) true (dec ns)
  | 2 => .one (n / 4) (dec ns)
  | _ => .late (n / 4) (dec ns)

theorem zw {p q : Prop} (h : q) (f : Hid q → p := by
  intro hgo
  repeat first
   | refine AW.seq ?_
   | refine AW.region ?_
   | (apply Ops.v rfl; exact vo)
   | refine Ops.nil ?_
   | (apply OpsD.v rfl rfl; exact vo)
   | refine OpsD.one ?_
   | refine OpsD.done ?_
   | refine AW.block ?_
   | refine AW.skip ?_
   | refine Ops.gs rfl rfl rfl nw rfl rfl ?_
   | refine OpsD.gs rfl rfl rfl rfl nw rfl rfl ?_
   | refine Ops.sA LdI.h rfl rfl rfl inferInstance rfl ?_
   | refine Ops.s1 LdI.h rfl rfl on inferInstance rfl ?_
   | refine OpsD.sA rfl LdI.h rfl rfl rfl inferInstance rfl ?_
   | refine OpsD.s1 rfl LdI.h rfl rfl on inferInstance rfl ?_
   | (apply Ops.gv rfl rfl rfl rfl (by first | assumption | rfl | exact Y47 (by assumption) | exact Y46 (by assumption)); exact vo)
   | (apply OpsD.gv rfl rfl rfl rfl rfl (by first | assumption | rfl | exact Y47 (by assumption) | exact Y46 (by assumption)); exact vo)
  exact hgo.out) : p := f ⟨h⟩
abbrev mt (b : Nat) : C := C.val (.map (some b))
abbrev sv (b m c : Nat) : Value := .slice (some ⟨b, 0, none⟩) m c
abbrev s0 : Value := .slice none 0 0
section
variable {P : Program} {n : Nat} {X : Ctx} {e : Env} {os ot : List Obj} {k : St → Prop} {α β : Type} {b : α}
variable {ops : Array Oper} {rest : List Oper} {d ty T : Nat} {pos : String} {af : Array Edge} {l : List Oper} {L Lt : List Nat} {i : Nat} {q : Sch} {y : Bool}
theorem oc {f : Nat} {xs : List Operand} {ts : Array TypeId} {cs : List C} {x : Option β} {ret : β → C} {g : β → Option α} (h : x.bind g = some b) (m : ∀ r, x = some r → g r = some b → Ops P n X ops rest ((d, ret r) :: e) os k)
  (j : Sp P f cs x ret := by infer_instance) (hx : evs e xs = some cs := by exact rfl) (hn : Nat.blt d n = true := by exact rfl) :
  Ops P n X ops (⟨some d, .call ⟨.value (.func f), xs.toArray, ts⟩, ty, pos, af, none⟩ :: rest) e os k := Ops.cl h j hx hn m
theorem dc {f : Nat} {xs : List Operand} {ts : Array TypeId} {cs : List C} {x : Option β} {ret : β → C} {g : β → Option α} (h : x.bind g = some b) (m : ∀ r, x = some r → g r = some b → OpsD P n X l L Lt q y ((d, ret r) :: e) os ot k)
  (ho : nth l i = some ⟨some d, .call ⟨.value (.func f), xs.toArray, ts⟩, ty, pos, af, none⟩ := by exact rfl) (j : Sp P f cs x ret := by infer_instance) (hx : evs e xs = some cs := by exact rfl) (hn : Nat.blt d n = true := by exact rfl) :
  Y3z P n X l L Lt i q y e os ot k := Y3z.cl h ho j hx hn m
theorem ox {x : Operand} {cs : List C} (m : ∀ b, Ops P n X ops rest ((d, pt b) :: e) (Obj.box b T cs :: os) k) (hx : ev e x = some (.agg cs) := by exact rfl) (hn : Nat.blt d n = true := by exact rfl) :
  Ops P n X ops (⟨some d, .box T x, ty, pos, af, none⟩ :: rest) e os k := Ops.bx hx hn m
variable {x : Option β} {G : β → Option α} {c : β → C} {o : Oper} {z : Bool}
theorem oi (h : x.bind G = some b) (m : ∀ v, x = some v → G v = some b → Ops P n X ops rest ((d, c v) :: e) os k) (hg : o.guard = none := by exact rfl)
  (v : ∀ v, x = some v → VOp z P n e os o d (c v) := by first | exact fun v g => Y2n SlI.h rfl rfl g rfl | exact fun v g => Y39 (p := 0) SlI.h rfl rfl rfl g rfl) : Ops P n X ops (o :: rest) e os k :=
 ob' h fun a g h => Ops.v hg (v a g) (m a g h)
theorem di (h : x.bind G = some b) (m : ∀ v, x = some v → G v = some b → OpsD P n X l L Lt q y ((d, c v) :: e) os ot k) (ho : nth l i = some o := by exact rfl) (hg : o.guard = none := by exact rfl)
  (v : ∀ v, x = some v → VOp z P n e os o d (c v) := by first | exact fun v g => Y2n SlI.h rfl rfl g rfl | exact fun v g => Y39 (p := 0) SlI.h rfl rfl rfl g rfl) : OpsD P n X l L Lt (.light i z q) y e os ot k :=
 ob' h fun a g h => OpsD.v ho hg (v a g) (m a g h)
end
theorem rD {P : Program} {n : Nat} {X : Ctx} {id : Nat} {e : Env} {os0 os ot : List Obj} {l : List Oper} {K : Exit → St → Prop} (ns L Lt k : List Nat) (h : OpsD P n X l L Lt (dec k) true e os ot (K .normal)) (hm : P.follows .mixedOrders = true := by kernel_rfl) (hsel : Region.noSelect l.toArray = true := by kernel_rfl) (hlt : Y3o l.toArray L Lt = true := by kernel_rfl)
  (hok : (dec k).ok l.toArray L Lt l.toArray.size true (Array.replicate l.toArray.size false) = true := by kernel_rfl) (hp : Y7 ns os0 = some (os, ot) := by exact rfl) : AW P n X (.region id l.toArray true) ⟨e, os0⟩ K := AW.regionD hm hsel hlt hok hp h
abbrev sn (b : Nat) (i : Int) : Value := sv b (Int.toNat i) (Int.toNat i)
theorem fS {c : C} {cs cs' : List C} {qs : List Obj} (h : FrzL cs qs cs') : FrzL (c :: cs) qs (c :: cs') := FrzL.cons (os := []) (Frz.same _) h
theorem fT {c : C} {cs cs' : List C} {qs : List Obj} (h : FrzT cs qs cs') : FrzT (c :: cs) qs (c :: cs') := FrzT.cons (os := []) (Frz.same _) h
abbrev cI (x : Int) : C := C.int x
abbrev cV (x : Value) : C := C.val x
abbrev cM {α : Type} (k : α → List C) (sz : Nat) (xs : List α) : C := C.im k sz xs
abbrev oB (b T : Nat) (cs : List C) : Obj := Obj.box b T cs
abbrev oA {α : Type} (v : Value) (E : Nat) (k : α → List C) (sz : Nat) (xs : List α) : Obj := Obj.arr v E k sz xs
theorem sp {P : Program} {β : Type} {f : Nat} {cs : List C} {x : Option β} {ret : β → C} {fn : Func} {c : Code} {rs : List ResultVar} (hf : P.funcs[f]? = some fn) (hb : fn.body = some c) (hres : fn.results = rs.toArray) (m : ∀ r X, x = some r → AW P fn.ntmps X c ⟨Y20 0 cs, []⟩ (finK P fn.ntmps X rs fun c qs => c = ret r ∧ qs = []))
  (hname : (fn.name == "runtime.NumGoroutine") = false := by exact rfl) (hle : Nat.ble cs.length fn.ntmps = true := by exact rfl) : Sp P f cs x ret :=
 ⟨fun r h => Ok.of_body hf hname hb hres rfl hle fun X => m r X h⟩
end Go.Abs
