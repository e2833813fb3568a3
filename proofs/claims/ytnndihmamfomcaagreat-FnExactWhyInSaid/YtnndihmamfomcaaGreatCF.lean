/- Slices of the call's own: made, appended to, read and written by elements, frozen. -/
import Derived.Test.YtnndihmamfomcaaGreatCE
set_option autoImplicit false
set_option linter.unusedVariables false
set_option linter.unusedSimpArgs false
namespace Go.Abs
open Go

def Flat {α : Type} (w : World) (F : BSet) (k : α → List C) (sz : Nat) : List α → List Value → Prop
 | [], vs => vs = []
 | x :: xs, vs => ∃ a r, vs = a ++ r ∧ a.length = sz ∧ Cells w F (k x) a ∧ Flat w F k sz xs r

section
variable {α : Type} {w w' : World} {F F' : BSet} {k : α → List C} {sz : Nat}

theorem Flat.mono : ∀ {xs : List α} {vs : List Value}, Flat w F k sz xs vs → (∀ b, F b → F' b ∧ w'.heap[b]? = w.heap[b]?) → Flat w' F' k sz xs vs
 | [], _, h, _ => h
 | _ :: _, _, ⟨a, r, e, hl, h1, h2⟩, m => ⟨a, r, e, hl, h1.mono m, h2.mono m⟩

theorem Flat.length : ∀ {xs : List α} {vs : List Value}, Flat w F k sz xs vs → vs.length = xs.length * sz
 | [], _, h => by rw [show _ = [] from h]; simp
 | _ :: _, _, ⟨a, r, e, hl, _, h2⟩ => by rw [e, List.length_append, hl, h2.length, List.length_cons, Nat.add_mul, Nat.one_mul, Nat.add_comm]

theorem Flat.append : ∀ {xs ys : List α} {vs us : List Value}, Flat w F k sz xs vs → Flat w F k sz ys us → Flat w F k sz (xs ++ ys) (vs ++ us)
 | [], _, _, _, h, m => by rw [show _ = [] from h]; exact m
 | _ :: _, _, _, _, ⟨a, r, e, hl, h1, h2⟩, m => ⟨a, r ++ _, by rw [e, List.append_assoc], hl, h1, h2.append m⟩

theorem Flat.one : ∀ {xs : List α} {vs : List Value}, Flat w F k sz xs vs → ∀ u ∈ vs, u.oneCell' = true
 | [], _, h, u, hu => by rw [show _ = [] from h] at hu; cases hu
 | _ :: _, _, ⟨a, r, e, _, h1, h2⟩, u, hu => by
  subst e
  rcases List.mem_append.1 hu with hu | hu
  ·
   exact h1.one u hu
  ·
   exact h2.one u hu

theorem Flat.get : ∀ {xs : List α} {vs : List Value} {i : Nat} {x : α}, Flat w F k sz xs vs → xs[i]? = some x → ∃ a, a.length = sz ∧ Cells w F (k x) a ∧ ∀ j u, a[j]? = some u → vs[i * sz + j]? = some u
 | [], _, _, _, _, hi => by simp at hi
 | _ :: _, _, 0, _, ⟨a, r, e, hl, h1, _⟩, hi => by
  simp at hi
  subst hi
  refine ⟨a, hl, h1, fun j u hu => ?_⟩
  have hj : j < a.length := (List.getElem?_eq_some_iff.1 hu).1
  rw [e, Nat.zero_mul, Nat.zero_add, List.getElem?_append_left hj]
  exact hu
 | _ :: _, _, i + 1, _, ⟨a, r, e, hl, _, h2⟩, hi => by
  obtain ⟨a', hl', h1', hg⟩ := h2.get (by simpa using hi)
  refine ⟨a', hl', h1', fun j u hu => ?_⟩
  rw [e, Nat.add_mul, Nat.one_mul, List.getElem?_append_right (by omega)]
  rw [show i * sz + sz + j - a.length = i * sz + j from by omega]
  exact hg j u hu

theorem Flat.set : ∀ {xs : List α} {vs : List Value} {i : Nat} {x y : α} {us : List Value}, Flat w F k sz xs vs → xs[i]? = some x → us.length = sz → Cells w F (k y) us → Flat w F k sz (xs.set i y) (vs.take (i * sz) ++ us ++ vs.drop (i * sz + sz))
 | [], _, _, _, _, _, _, hi, _, _ => by simp at hi
 | _ :: _, _, 0, _, y, us, ⟨a, r, e, hl, h1, h2⟩, _, hu, hy => by
  refine ⟨us, r, ?_, hu, hy, h2⟩
  rw [e]
  simp [← hl]
 | _ :: _, _, i + 1, _, y, us, ⟨a, r, e, hl, h1, h2⟩, hi, hu, hy => by
  refine ⟨a, _, ?_, hl, h1, h2.set (by simpa using hi) hu hy⟩
  subst e
  have e1 : (i + 1) * sz = a.length + i * sz := by rw [hl, Nat.add_mul, Nat.one_mul, Nat.add_comm]
  have e2 : (i + 1) * sz + sz = a.length + (i * sz + sz) := by rw [e1]; omega
  rw [e2, e1, List.take_length_add_append, List.drop_length_add_append]
  simp

theorem im_flat {xs : List α} {v : Value} (h : (C.im k sz xs).rep w F v) :
  ∃ A cap vs, v = .slice A xs.length cap ∧ xs.length ≤ cap ∧ Flat w F k sz xs vs ∧ (A = none → xs = []) ∧ (∀ a, A = some a → xs ≠ [] → F a.block) ∧ ∀ a, A = some a → ∀ j u, vs[j]? = some u → w.cell? (a.add j) = some u := by
 obtain ⟨A, cap, e, hc, h⟩ := h
 suffices H : ∀ (ys : List α) (m : Nat), (∀ i x, ys[i]? = some x → xs[m + i]? = some x) → ∃ vs, Flat w F k sz ys vs ∧ ∀ a, A = some a → ∀ j u, vs[j]? = some u → w.cell? (a.add (m * sz + j)) = some u by
  obtain ⟨vs, h1, h2⟩ := H xs 0 fun i x hx => by simpa using hx
  refine ⟨A, cap, vs, e, hc, h1, fun hA => ?_, fun a hA hne => ?_, fun a hA j u hu => by simpa using h2 a hA j u hu⟩
  ·
   cases xs with
   | nil => rfl
   | cons x xs =>
    obtain ⟨b, off, vs, h', _⟩ := h 0 x rfl
    rw [hA] at h'
    cases h'
  ·
   cases xs with
   | nil => exact absurd rfl hne
   | cons x xs =>
    obtain ⟨b, off, vs, h', hb, _⟩ := h 0 x rfl
    rw [hA] at h'
    cases h'
    exact hb
 intro ys
 induction ys with
 | nil => exact fun m _ => ⟨[], rfl, fun a _ j u hu => by simp at hu⟩
 | cons y ys ih =>
  intro m hm
  obtain ⟨vs, h1, h2⟩ := ih (m + 1) fun i x hx => by
   have := hm (i + 1) x (by simpa using hx)
   rwa [show m + (i + 1) = m + 1 + i from by omega] at this
  obtain ⟨b, off, us, hA', hb, hl, hcs, hcl⟩ := h m y (by simpa using hm 0 y rfl)
  refine ⟨us ++ vs, ⟨us, vs, rfl, hl, hcl, h1⟩, fun a hA j u hu => ?_⟩
  rw [hA'] at hA
  cases hA
  rw [addr_add]
  by_cases hj : j < us.length
  ·
   rw [List.getElem?_append_left hj] at hu
   rw [← Nat.add_assoc]
   exact hcs j u hu
  ·
   rw [List.getElem?_append_right (by omega)] at hu
   have := h2 _ hA' (j - us.length) u hu
   rw [addr_add] at this
   rw [show off + (m * sz + j) = off + ((m + 1) * sz + (j - us.length)) from by rw [Nat.add_mul, Nat.one_mul, hl]; omega]
   exact this
end

def Obj.arr {α : Type} (v : Value) (E : Nat) (k : α → List C) (sz : Nat) (xs : List α) : Obj where
 rep w F G := (∃ vs, w.ownsRow 0 E sz v xs.length vs ∧ Flat w F k sz xs vs) ∧ ∀ b, G b ↔ v.ownBlock = some b
 mono := by
  rintro w w' F F' G ⟨⟨vs, ⟨hl, ho⟩, hf⟩, hG⟩ m g
  refine ⟨⟨vs, ⟨hl, ?_⟩, hf.mono m⟩, hG⟩
  rcases ho with ho | ⟨b, cap, cur, rfl, h0, hb, r⟩
  ·
   exact .inl ho
  ·
   exact .inr ⟨b, cap, cur, rfl, h0, (g b ((hG b).2 rfl)).trans hb, r⟩

section
variable {P : Program} {w : World}

theorem run_append_arr (t ty e : TypeId) (i : TypeInfo) (z : Value) (size : Nat) (ht : P.underlying t = some (.slice e)) (hi : P.info? e = some i) (hz : i.zero = some z) (hsize : i.size = size) (hzs : z.cells.size = size)
  (v : Value) (n : Nat) (xs : List Value) (hown : w.ownsRow 0 e size v n xs) (A : Option Addr) (m c : Nat) (news : List Value) (hA : A = none → m = 0) (hl : news.length = m * size)
  (hnews : ∀ a, A = some a → ∀ j u, news[j]? = some u → w.cell? (a.add j) = some u) (h1 : ∀ u ∈ news, u.oneCell' = true) (h63 : n + m ≤ maxLen) (hbytes : (n + m) * i.bytes ≤ 140737488355328) :
  ∃ v' w', (Builtin.append_ #[t, t] ty #[v, .slice A m c]).run P w = .ok v' w' ∧ w'.ownsRow 0 e size v' (n + m) (xs ++ news) ∧ w.grownBy w' v.ownBlock ∧
   (v'.ownBlock = v.ownBlock ∨ v'.ownBlock = some w.heap.size ∧ w.heap.size < w'.heap.size) ∧ w.drawn ≤ w'.drawn := by
 subst hsize
 have hsame : w.grownBy w v.ownBlock := ⟨rfl, rfl, rfl, Nat.le_refl _, fun _ _ _ => rfl⟩
 cases A with
 | none =>
  obtain rfl := hA rfl
  have hn : news = [] := List.eq_nil_of_length_eq_zero (by simpa using hl)
  subst hn
  refine ⟨v, w, ?_, by simpa using hown, hsame, .inl rfl, Nat.le_refl _⟩
  rcases hown.2 with ⟨rfl, rfl⟩ | ⟨g, cap, cur, rfl, _, _, hnc, _⟩
  ·
   simp [Builtin.append_, run_underlying ht, sizeOf, typeInfo, hi, Builtin.lenOf, Builtin.firstCells]
  ·
   simp [Builtin.append_, run_underlying ht, sizeOf, typeInfo, hi, Builtin.lenOf, Builtin.firstCells, hnc, storeCells]
 | some ad =>
  have hnews' := hnews ad rfl
  have hlen : (xs ++ news).length = (n + m) * i.size := by rw [List.length_append, hown.1, hl, Nat.add_mul]
  have grown : ∀ (old : Nat), old < n + m → ∀ (row : Option Nat),
    (w.drew.alloc (.cells (xs.toArray ++ news.toArray ++ Builtin.zeroCells z.cells (grownCap w (n + m) old e - (n + m))) e)).ownsRow 0 e i.size
     (.slice (some ⟨w.heap.size, 0, none⟩) (n + m) (grownCap w (n + m) old e)) (n + m) (xs ++ news) ∧
    w.grownBy (w.drew.alloc (.cells (xs.toArray ++ news.toArray ++ Builtin.zeroCells z.cells (grownCap w (n + m) old e - (n + m))) e)) row := by
   intro old ho row
   have hge := grownCap_ge w (n + m) old e
   have hcm : grownCap w (n + m) old e ≤ maxLen := grownCap_le_maxLen w (n + m) old e h63
   refine ⟨⟨hlen, .inr ⟨w.heap.size, _, _, rfl, Nat.zero_le _, heap_alloc_new w.drew _, hge, hcm, ?_, ?_⟩⟩, ⟨rfl, rfl, rfl, by simp, fun k hk _ => heap_alloc_old w.drew _ hk⟩⟩
   ·
    simp only [Array.size_append, List.size_toArray, size_zeroCells, hzs, hown.1, hl, ← Nat.add_mul]
    congr 1
    omega
   ·
    simp only [Array.toList_append, List.append_assoc]
    rw [← List.append_assoc, ← hlen]
    exact List.take_left
  have hsmall : n + m ≤ 9223372036854775807 := by simp only [maxLen] at h63; omega
  rcases hown.2 with ⟨rfl, rfl⟩ | ⟨g, cap, cur, rfl, hbg, hg, hnc, hcm, hcs, htake⟩
  ·
   have hx : xs = [] := List.eq_nil_of_length_eq_zero (by simpa using hown.1)
   subst hx
   by_cases hm : m = 0
   ·
    subst hm
    have hn : news = [] := List.eq_nil_of_length_eq_zero (by simpa using hl)
    subst hn
    refine ⟨.slice none 0 0, w, ?_, World.ownsRow_nil w 0 e i.size, hsame, .inl rfl, Nat.le_refl _⟩
    simp [Builtin.append_, run_underlying ht, sizeOf, typeInfo, hi, Builtin.lenOf, Builtin.firstCells, loadCells, loadCellsFrom]
   ·
    have hr := run_append_nil (P := P) w t ty e i z ht hi hz ad m c news hl hnews' (by omega) (by omega) (by have hb := hbytes; simp only [Nat.zero_add] at hb; omega)
    have hgr := grown 0 (by omega) (Value.ownBlock (.slice none 0 0))
    simp only [Nat.zero_add, List.nil_append, Array.empty_append] at hgr ⊢
    exact ⟨_, _, hr, hgr.1, hgr.2, .inr ⟨rfl, by simp⟩, (by first | exact Nat.le_refl _ | exact Nat.le_succ _)⟩
  ·
   by_cases hroom : n + m ≤ cap
   ·
    have hfit : n * i.size + news.length ≤ cur.size := by rw [hl, hcs, ← Nat.add_mul]; exact Nat.mul_le_mul_right _ hroom
    have hr := run_append_room (P := P) w t ty e i ht hi g n cap cur hg ad m c news hl hnews' h1 hroom hfit
    refine ⟨_, _, hr, ⟨hlen, .inr ⟨g, cap, _, rfl, hbg, setRow_heap w g cur _ e _ hg, hroom, hcm, ?_, ?_⟩⟩, ⟨rfl, rfl, rfl, by simp, fun k _ hk => setRow_other w g k _ (fun e => hk (by simp [Value.ownBlock, e]))⟩, .inl rfl, (by first | exact Nat.le_refl _ | exact Nat.le_succ _)⟩
    ·
     simp only [List.size_toArray, List.length_append, List.length_take, List.length_drop, Array.length_toList]
     omega
    ·
     rw [htake, ← hlen]
     exact List.take_left
   ·
    have holds : ∀ j u, xs[j]? = some u → w.cell? ((⟨g, 0, none⟩ : Addr).add j) = some u := hown.cells (g := g) rfl
    have hr := run_append_grow (P := P) w t ty e i z ht hi hz ⟨g, 0, none⟩ n cap xs hown.1 holds ad m c news hl hnews' (by omega) (by omega) (growslice_fits (by omega) hbytes)
    have hgr := grown cap (by omega) (Value.ownBlock (.slice (some ⟨g, 0, none⟩) n cap))
    exact ⟨_, _, hr, hgr.1, hgr.2, .inr ⟨rfl, by simp⟩, (by first | exact Nat.le_refl _ | exact Nat.le_succ _)⟩
end

def arInfo (P : Program) (T : Nat) : Option (Nat × Nat × Nat) :=
 match P.underlying T with
 | some (.slice e) => match P.info? e with
  | some i => match i.zero with
   | some z => if z.cells.size = i.size ∧ 0 < i.size then some (e, i.size, i.bytes) else none
   | none => none
  | none => none
 | _ => none

theorem arInfo_under {P : Program} {T E sz by' : Nat} (h : arInfo P T = some (E, sz, by')) : P.underlying T = some (.slice E) ∧ ∃ i z, P.info? E = some i ∧ i.size = sz ∧ i.bytes = by' ∧ i.zero = some z ∧ z.cells.size = sz ∧ 0 < sz := by
 unfold arInfo at h
 split at h
 ·
  rename_i e hu
  split at h
  ·
   rename_i i hi
   split at h
   ·
    rename_i z hz
    split at h
    ·
     rename_i hc
     cases h
     exact ⟨hu, i, z, hi, rfl, rfl, hz, hc.1, hc.2⟩
    ·
     cases h
   ·
    cases h
  ·
   cases h
 ·
  cases h

section
variable {P : Program} {n : Nat} {X : Ctx} {a : Act} {w : World} {F G : BSet} {es : Env} {ps : List Obj} {α : Type} {k : α → List C} {sz : Nat}
variable {d ty : Nat} {pos : String} {af : Array Edge} {gd : Option (Nat × Bool)}

theorem Own.of_one {o : Obj} {G1 : BSet} (h : o.rep w F G1) : Own w F [o] G1 := ⟨G1, fun _ => False, fun _ => by simp, fun _ _ h => h, h, fun _ h => h⟩

theorem Ghost.nil {e : Env} {o : List Obj} (E : Nat) (k : α → List C) (sz : Nat) : Ghost n X ⟨e, o⟩ ⟨e, .arr (.slice none 0 0) E k sz [] :: o⟩ := by
 rintro a w ⟨F, G, h⟩
 exact ⟨F, G, ⟨h.env, ⟨fun _ => False, G, fun b => by simp, fun b hb => hb.elim, ⟨⟨[], World.ownsRow_nil w 0 E sz, rfl⟩, fun b => by simp [Value.ownBlock]⟩, h.own⟩, h.fin, h.gin, h.sub, h.chg, h.size, h.defs⟩⟩

theorem append_turn {T E by' : Nat} {v : Value} {xs ys : List α} {A : Option Addr} {c : Nat} {G1 : BSet} (hT : arInfo P T = some (E, sz, by')) (hft : Fit w F G1) (ho : (Obj.arr v E k sz xs).rep w F G1)
  {news : List Value} (hA : A = none → ys = []) (hf : Flat w F k sz ys news) (hnews : ∀ a, A = some a → ∀ j u, news[j]? = some u → w.cell? (a.add j) = some u) (hb : (xs.length + ys.length) * by' ≤ 140737488355328) (h63 : xs.length + ys.length ≤ 9223372036854775807) (ty : TypeId) :
  ∃ v' w' G1', (Builtin.append_ #[T, T] ty #[v, .slice A ys.length c]).run P w = .ok v' w' ∧ Turn w F G1 w' F G1' [.arr v' E k sz (xs ++ ys)] := by
 obtain ⟨hu, i, z, hi, hsz, hby, hz, hzs, hpos⟩ := arInfo_under hT
 obtain ⟨⟨vs, hrow, hfl⟩, hG⟩ := ho
 subst hby
 obtain ⟨v', w', hr, h2, h3, h4, hdr⟩ := run_append_arr (P := P) T ty E i z sz hu hi hz hsz hzs v xs.length vs hrow A ys.length c news (fun h => by rw [hA h]; rfl) hf.length hnews hf.one (by simp only [maxLen]; omega) hb
 have hFsame : ∀ b, F b → F b ∧ w'.heap[b]? = w.heap[b]? := fun b hb => ⟨hb, h3.block b (hft.fin b hb) fun e => (hft.gin b ((hG b).2 e.symm)).2 hb⟩
 refine ⟨v', w', fun b => v'.ownBlock = some b, hr, ⟨Own.of_one ⟨⟨vs ++ news, by rw [List.length_append]; exact h2, (hfl.append hf).mono hFsame⟩, fun b => Iff.rfl⟩, fun _ h => h, fun b hb => ⟨Nat.lt_of_lt_of_le (hft.fin b hb) h3.size, .inl hb⟩, fun b hb => ?_, ⟨h3.os, h3.tape, h3.output, h3.size, hdr, fun b hb hn => h3.block b hb fun e => hn ((hG b).2 e.symm)⟩⟩⟩
 rcases h4 with h4 | ⟨h4, h5⟩
 ·
  have hg1 := (hG b).2 (h4 ▸ hb)
  have hg := hft.gin b hg1
  exact ⟨Nat.lt_of_lt_of_le hg.1 h3.size, hg.2, .inl hg1⟩
 ·
  rw [h4] at hb
  cases hb
  exact ⟨h5, fun hf => by have := hft.fin _ hf; omega, .inr (Nat.le_refl _)⟩

theorem op_append_im {T E by' : Nat} {x y : Operand} {v : Value} {xs ys : List α} (hT : arInfo P T = some (E, sz, by')) (hx : ev es x = some (.val v)) (hy : ev es y = some (.im k sz ys))
  (hb : (xs.length + ys.length) * by' ≤ 140737488355328) (h63 : xs.length + ys.length ≤ 9223372036854775807) (hn : Nat.blt d n = true) :
  HOp P n ⟨some d, .call ⟨.builtin .append, #[x, y], #[T, T]⟩, ty, pos, af, gd⟩ es [.arr v E k sz xs] (fun e' qs => ∃ v', e' = (d, .val v') :: es ∧ qs = [.arr v' E k sz (xs ++ ys)]) :=
 HOp.of rfl hn fun a w F G1 hs ho hft => by
  obtain ⟨A, cap, news, hv, _, hf, hA, _, hnews⟩ := im_flat (hs.ev hy)
  obtain ⟨v', w', G1', hr, ht⟩ := append_turn hT hft ho.only hA hf hnews hb h63 ty (c := cap)
  refine ⟨v', w', F, G1', .val v', _, ?_, rfl, ht, v', rfl, rfl⟩
  simp [execOp, resolve, invoke, builtin, hs.val hx, hv, hr]

theorem op_append {T E by' : Nat} {x y : Operand} {v u : Value} {xs ys : List α} (hT : arInfo P T = some (E, sz, by')) (hx : ev es x = some (.val v)) (hy : ev es y = some (.val u))
  (hb : (xs.length + ys.length) * by' ≤ 140737488355328) (h63 : xs.length + ys.length ≤ 9223372036854775807) (hn : Nat.blt d n = true) :
  HOp P n ⟨some d, .call ⟨.builtin .append, #[x, y], #[T, T]⟩, ty, pos, af, gd⟩ es [.arr v E k sz xs, .arr u E k sz ys] (fun e' qs => ∃ v', e' = (d, .val v') :: es ∧ qs = [.arr v' E k sz (xs ++ ys)]) :=
 HOp.of rfl hn fun a w F G1 hs ho hft => by
  obtain ⟨G3, G4, hi, hd, h1, h2⟩ := ho
  obtain ⟨⟨us, hrow, hf⟩, hG3⟩ := h2.only
  have hu : ∃ A c, u = .slice A ys.length c ∧ (A = none → ys = []) ∧ ∀ a, A = some a → ∀ j v, us[j]? = some v → w.cell? (a.add j) = some v := by
   rcases hrow.2 with ⟨rfl, h0⟩ | ⟨g, cap, cur, rfl, _, _⟩
   ·
    refine ⟨none, 0, (by rw [h0]), (fun _ => List.eq_nil_of_length_eq_zero h0), (fun a h => by cases h)⟩
   ·
    exact ⟨some ⟨g, 0, none⟩, cap, rfl, (fun h => by cases h), (fun a ha => by cases ha; exact hrow.cells rfl)⟩
  obtain ⟨A, c, rfl, hA, hnews⟩ := hu
  have hft' : Fit w F G3 := ⟨hft.fin, fun b hb => hft.gin b ((hi b).2 (.inl hb))⟩
  obtain ⟨v', w', G1', hr, ht⟩ := append_turn (c := c) hT hft' h1 hA hf hnews hb h63 ty
  refine ⟨v', w', F, G1', .val v', _, ?_, rfl, ⟨ht.own, ht.sub, fun b hb => ⟨(ht.fin b hb).1, ?_⟩, fun b hb => ⟨(ht.gin b hb).1, (ht.gin b hb).2.1, ?_⟩, ⟨ht.chg.os, ht.chg.tape, ht.chg.output, ht.chg.size, ht.chg.drawn, fun b hb hn => ht.chg.block b hb fun h => hn ((hi b).2 (.inl h))⟩⟩, v', rfl, rfl⟩
  ·
   simp [execOp, resolve, invoke, builtin, hs.val hx, hs.val hy, hr]
  ·
   exact (ht.fin b hb).2.imp id fun h => h.imp (fun h => (hi b).2 (.inl h)) id
  ·
   exact (ht.gin b hb).2.2.imp (fun h => (hi b).2 (.inl h)) id

theorem Ghost.freeze {e : Env} {o r : List Obj} {p E t : Nat} {v : Value} {xs : List α} (hp : picks [p] o = some ([.arr v E k sz xs], r)) (ht : get e t = some (.val v)) : Ghost n X ⟨e, o⟩ ⟨(t, .im k sz xs) :: e, r⟩ := by
 rintro a w ⟨F, G, h⟩
 obtain ⟨G1, G2, hi, hd, h1, h2⟩ := Own.append.1 (h.own.perm (picks_perm hp))
 obtain ⟨⟨vs, hrow, hf⟩, hG⟩ := h1.only
 have hmono : ∀ b, F b → (F b ∨ G1 b) ∧ w.heap[b]? = w.heap[b]? := fun b hb => ⟨.inl hb, rfl⟩
 refine ⟨fun b => F b ∨ G1 b, G2, ⟨fun i c hc => ?_, h2.mono hmono fun _ _ => rfl, fun b hb => ?_, fun b hb => ?_, fun b hb => .inl (h.sub b hb), h.chg, h.size, h.defs⟩⟩
 ·
  by_cases hit : t = i
  ·
   subst hit
   rw [get_cons_same] at hc
   cases hc
   rw [show a.tmps.getD t undef = v from h.env t _ ht]
   rcases hrow.2 with ⟨rfl, h0⟩ | ⟨g, cap, cur, rfl, _, hg, hnc, _⟩
   ·
    have : xs = [] := List.eq_nil_of_length_eq_zero h0
    subst this
    exact ⟨none, 0, rfl, Nat.le_refl _, fun i x hx => by simp at hx⟩
   ·
    refine ⟨_, cap, rfl, hnc, fun i x hx => ?_⟩
    obtain ⟨us, hl, hcl, hus⟩ := hf.get hx
    refine ⟨g, 0, us, rfl, .inr ((hG g).2 rfl), hl, fun j u hu => ?_, hcl.mono hmono⟩
    have := hrow.cells (g := g) rfl _ u (hus j u hu)
    rwa [addr_add, ← Nat.add_assoc] at this
  ·
   rw [get_cons_ne _ _ hit] at hc
   exact C.mono _ (h.env i c hc) hmono
 ·
  rcases hb with hb | hb
  ·
   exact h.fin b hb
  ·
   have := h.gin b ((hi b).2 (.inl hb))
   exact ⟨this.1, this.2.2.elim (fun h => .inr (.inl h)) fun h => .inr (.inr h)⟩
 ·
  have := h.gin b ((hi b).2 (.inr hb))
  exact ⟨this.1, fun hf => hf.elim this.2.1 fun hg => hd b hg hb, this.2.2⟩
end
end Go.Abs
