/- Sorts: slices.SortFunc under a comparator that may lay blocks (what it has captured is lent), slices.Sort of integers. -/
import Derived.Test.YtnndihmamfomcaaGreatCW
import Derived.Shelf.SlSortCmp.InsertionK
import Derived.Sort.OwnSortedInts
set_option autoImplicit false
set_option linter.unusedVariables false
set_option linter.unusedSimpArgs false
namespace Go.Abs
open Go


def ltc {α : Type} (cf : α → α → Option Int) (x y : α) : Bool := decide ((cf x y).getD 0 < 0)

def SortOk {α : Type} (cf : α → α → Option Int) (xs : List α) : Prop :=
 (∀ x ∈ xs, ∀ y ∈ xs, (cf x y).isSome = true) ∧ (∀ x ∈ xs, ltc cf x x = false) ∧ (∀ x ∈ xs, ∀ y ∈ xs, ∀ z ∈ xs, ltc cf x y = true → ltc cf y z = true → ltc cf x z = true) ∧
  (xs.Pairwise fun x y => ltc cf x y = !ltc cf y x) ∧ xs.length < 4611686018427387904

instance {α : Type} (cf : α → α → Option Int) (xs : List α) : Decidable (SortOk cf xs) := by unfold SortOk; infer_instance

def sortF {α : Type} (cf : α → α → Option Int) (xs : List α) : Option (List α) := if SortOk cf xs then some (xs.mergeSort fun x y => !ltc cf y x) else none


section
variable {α : Type} {w w' : World} {F F' : BSet} {k : α → List C} {sz : Nat}

theorem Flat.slice : ∀ {xs : List α} {vs : List Value} {i : Nat} {x : α}, Flat w F k sz xs vs → xs[i]? = some x → Cells w F (k x) ((vs.drop (i * sz)).take sz)
 | [], _, _, _, _, hi => by simp at hi
 | _ :: _, _, 0, _, ⟨a, r, e, hl, h1, _⟩, hi => by
  simp at hi; subst hi; subst e
  rw [Nat.zero_mul, List.drop_zero, List.take_left' hl]
  exact h1
 | _ :: _, _, i + 1, _, ⟨a, r, e, hl, _, h2⟩, hi => by
  subst e
  have := h2.slice (i := i) (by simpa using hi)
  rw [show (i + 1) * sz = a.length + i * sz by rw [hl, Nat.add_mul, Nat.one_mul, Nat.add_comm], List.drop_length_add_append]
  exact this

theorem Flat.of_slices : ∀ {xs : List α} {vs : List Value}, vs.length = xs.length * sz → (∀ i x, xs[i]? = some x → Cells w F (k x) ((vs.drop (i * sz)).take sz)) → Flat w F k sz xs vs
 | [], vs, hl, _ => List.eq_nil_of_length_eq_zero (by simpa using hl)
 | x :: xs, vs, hl, h => by
  rw [List.length_cons, Nat.add_mul, Nat.one_mul] at hl
  refine ⟨vs.take sz, vs.drop sz, (List.take_append_drop _ _).symm, by simp; omega, by simpa using h 0 x rfl, Flat.of_slices (by simp; omega) fun i y hy => ?_⟩
  have := h (i + 1) y (by simpa using hy)
  rw [List.drop_drop]
  rwa [Nat.add_mul, Nat.one_mul, Nat.add_comm] at this

theorem drop_take_get {vs : List Value} {n : Nat} (hvs : vs.length = n * sz) {i j : Nat} (hi : i < n) (hj : j < sz) : ((vs.drop (i * sz)).take sz)[j]? = vs[i * sz + j]? := by
 rw [List.getElem?_take_of_lt hj, List.getElem?_drop]

theorem drop_take_len {vs : List Value} {n : Nat} (hvs : vs.length = n * sz) {i : Nat} (hi : i < n) : ((vs.drop (i * sz)).take sz).length = sz := by
 have : (i + 1) * sz ≤ n * sz := Nat.mul_le_mul_right _ hi
 rw [Nat.add_mul, Nat.one_mul] at this
 simp; omega
end

theorem chg_grow {w w' : World} (h : Chg (fun _ => False) w w') : ∃ q os', w' = Sort.grow (w.drewN q) os' := by
 refine ⟨w'.drawn - w.drawn, w'.heap.extract w.heap.size w'.heap.size, ?_⟩
 have h1 := h.os; have h2 := h.tape; have h3 := h.output; have h4 := h.drawn; have h5 := h.size; have h6 := h.block
 have hh : w'.heap = w.heap ++ w'.heap.extract w.heap.size w'.heap.size := by
  apply Array.ext_getElem?
  intro i
  rw [Array.getElem?_append]
  split
  ·
   exact h6 i ‹_› fun h => h
  ·
   rw [Array.getElem?_extract]
   by_cases hi : i < w'.heap.size
   ·
    rw [if_pos (by omega)]
    congr 1
    omega
   ·
    rw [Array.getElem?_eq_none (by omega)]
    split
    ·
     rw [Array.getElem?_eq_none (by omega)]
    ·
     rfl
 obtain ⟨hp', tp', dr', os', ou'⟩ := w'
 obtain ⟨hp, tp, dr, os, ou⟩ := w
 simp only at h1 h2 h3 h4 h5 h6 hh
 subst h1 h2 h3
 simp only [Sort.grow, World.drewN, World.mk.injEq, true_and, and_true]
 exact ⟨hh, by omega⟩

section
variable {β : Type} [Inhabited β] (enc : β → List Value) (sz : Nat) (w : World) (blk m : Nat) (d : Array β) (os : Array Go.Obj)

theorem sortW_size : w.heap.size ≤ (Proofs.sortWorldK enc sz w blk 0 m d os).heap.size := by
 unfold Proofs.sortWorldK Sort.putRowK
 simp [Sort.ahead]

theorem sortW_other {b : Nat} (hb : b < w.heap.size) (hne : b ≠ blk) : (Proofs.sortWorldK enc sz w blk 0 m d os).heap[b]? = w.heap[b]? := by
 unfold Proofs.sortWorldK Sort.putRowK
 rw [Sort.heap_grow_old _ _ (by simpa [Sort.ahead] using hb)]
 simp [Sort.putRow, Sort.mapBlock, Sort.ahead, Array.getElem?_modify, Ne.symm hne]

theorem sortW_blk {cur : Array Value} {e : TypeId} {fr : Nat × Nat} (hb : w.heap[blk]? = some (.cells cur e fr)) : (Proofs.sortWorldK enc sz w blk 0 m d os).heap[blk]? = some (.cells (Sort.putCells id 0 (Sort.flatK enc sz d) cur) e fr) := by
 have hg : blk < w.heap.size := (Array.getElem?_eq_some_iff.1 hb).1
 unfold Proofs.sortWorldK Sort.putRowK
 rw [Sort.heap_grow_old _ _ (by simpa [Sort.ahead] using hg)]
 simp [Sort.putRow, Sort.mapBlock, Sort.ahead, Array.getElem?_modify, hb, Sort.onCells]

theorem sortW_chg {G : BSet} (hG : G blk) : Chg G w (Proofs.sortWorldK enc sz w blk 0 m d os) :=
 ⟨rfl, rfl, rfl, sortW_size enc sz w blk m d os, Nat.le_add_right _ _, fun b hb hn => sortW_other enc sz w blk m d os hb fun e => hn (e ▸ hG)⟩
end

theorem take_putCellsV (cur ts : Array Value) (h : ts.size ≤ cur.size) : (Sort.putCells id 0 ts cur).toList.take ts.size = ts.toList := by
 apply List.ext_getElem?
 intro j
 by_cases hj : j < ts.size
 ·
  rw [List.getElem?_take_of_lt hj, Array.getElem?_toList]
  simp [Sort.putCells, hj, show j < cur.size by omega]
 ·
  rw [List.getElem?_take_eq_none (by omega), List.getElem?_eq_none (by simp; omega)]


structure Sorter (P : Program) (f sz : Nat) : Prop where
 enters : Enters P f
 ofNone : ∀ (p : Option Addr) (cap : Nat) (fv : Value) (w : World), Calls P f #[.slice p 0 cap, fv] w fun e w' => e = .returned (.tuple #[]) ∧ w' = w
 ofSome : ∀ {β : Type} [Inhabited β] (enc : β → List Value), (∀ x, (enc x).length = sz) → (∀ x, ∀ v ∈ enc x, v.oneCell' = true) → ∀ (cf : β → β → Int), Sort.SWO (Proofs.ltOf cf) → ∀ (g : Nat) (cb : Array Value) (blk cap : Nat) (d : Array β) (w : World),
  Enters P g → Proofs.CmpLays P g cb enc sz cf blk 0 d.size w → Sort.HoldsK enc sz w blk 0 d → blk < w.heap.size → d.size < 4611686018427387904 → (∀ x y, Proofs.ltOf cf x y = false → Proofs.ltOf cf y x = false → x = y) →
  Calls P f #[.slice (some ⟨blk, 0, none⟩) d.size cap, .func (.func g) #[] cb] w fun e w' => e = .returned (.tuple #[]) ∧ ∃ n os, w' = Proofs.sortWorldK enc sz w blk 0 n (d.toList.mergeSort fun x y => !(Proofs.ltOf cf) y x).toArray os

def CloOp (es : Env) (y : Operand) (g : Nat) (cc : List C) : Prop := ∀ {w : World} {F : BSet} {a : Act}, EnvRep w F es a → ∃ vals : List Value, a.eval y = .func (.func g) #[] vals.toArray ∧ Reps w F cc vals

theorem CloOp.clo {es : Env} {y : Operand} {g : Nat} {cc : List C} (hy : ev es y = some (.clo g cc)) : CloOp es y g cc := fun hs => hs.ev hy
theorem CloOp.val {es : Env} {y : Operand} {g : Nat} (hy : ev es y = some (.val (.func (.func g) #[] #[]))) : CloOp es y g [] := fun hs => ⟨[], hs.val hy, rfl⟩

section
variable {P : Program} {n : Nat} {a : Act} {w : World} {F G : BSet} {es : Env} {ps : List Obj} {α : Type} {k : α → List C} {sz : Nat}
variable {d ty : Nat} {pos : String} {af : Array Edge} {gd : Option (Nat × Bool)}

theorem Zem {f g E : Nat} {v : Value} {xs r : List α} {cc cc' : List C} {cap : List Value} {cf : α → α → Option Int} {Ga Gb : BSet} (hS : Sorter P f sz) (hsz : 0 < sz) (hcap : Reps w F cc cap) (hf : FrzT cc ps cc')
  (hcmp : ∀ x y r, cf x y = some r → Ok P g ([.agg (k x), .agg (k y)] ++ cc') [] fun c qs => c = .int r ∧ qs = []) (h : sortF cf xs = some r)
  (hfit : Fit w F Ga) (hfitb : Fit w F Gb) (hd : ∀ b, Ga b → ¬ Gb b) (h1 : (Obj.arr v E k sz xs).rep w F Ga) (h2 : Own w F ps Gb) :
  Calls P f #[v, .func (.func g) #[] cap.toArray] w fun e w' => e = .returned (.tuple #[]) ∧ Turn w F Ga w' F Ga [.arr v E k sz r] := by
 obtain ⟨⟨vs, hrow, hfl⟩, hG⟩ := h1
 have hdone : r = xs → ∀ e w', (e = Ending.returned (.tuple #[]) ∧ w' = w) → e = .returned (.tuple #[]) ∧ Turn w F Ga w' F Ga [.arr v E k sz r] := by
  rintro rfl e w' ⟨h3, rfl⟩
  exact ⟨h3, Own.of_one ⟨⟨vs, hrow, hfl⟩, hG⟩, fun _ h => h, fun b hb => ⟨hfit.fin b hb, .inl hb⟩, fun b hb => ⟨(hfit.gin b hb).1, (hfit.gin b hb).2, .inl hb⟩, Chg.refl _ _⟩
 have hnil : xs = [] → r = xs := fun e => by
  subst e
  unfold sortF at h
  split at h
  ·
   cases h; simp
  ·
   cases h
 rcases hrow.2 with ⟨rfl, h0⟩ | ⟨blk, cp, cur, rfl, _, hb, hnc, hcm, hcs, htake⟩
 ·
  exact (hS.ofNone none 0 _ w).mono (hdone (hnil (List.eq_nil_of_length_eq_zero h0)))
 by_cases hne : xs = []
 ·
  have hl0 : xs.length = 0 := by rw [hne]; rfl
  have := (hS.ofNone (some ⟨blk, 0, none⟩) cp (.func (.func g) #[] cap.toArray) w).mono (hdone (hnil hne))
  rw [hl0]
  rwa [hl0] at this
 have hvl : vs.length = xs.length * sz := hrow.1
 have hblk : blk < w.heap.size := (Array.getElem?_eq_some_iff.1 hb).1
 have hpos : 0 < xs.length := List.length_pos_iff.2 hne
 letI : Inhabited (_root_.Fin xs.length) := ⟨⟨0, hpos⟩⟩
 obtain ⟨hok, hr⟩ : SortOk cf xs ∧ r = xs.mergeSort fun x y => !ltc cf y x := by
  unfold sortF at h
  split at h
  ·
   cases h; exact ⟨‹_›, rfl⟩
  ·
   cases h
 obtain ⟨ho1, ho2, ho3, ho4, ho5⟩ := hok
 have hGb : Ga blk := (hG blk).2 rfl
 -- the elements' places
 let enc : _root_.Fin xs.length → List Value := fun i => (vs.drop (i.1 * sz)).take sz
 let cf' : _root_.Fin xs.length → _root_.Fin xs.length → Int := fun i j => (cf xs[i] xs[j]).getD 0
 have hlt : ∀ i j, Proofs.ltOf cf' i j = ltc cf xs[i] xs[j] := fun _ _ => rfl
 have hmem : ∀ i : _root_.Fin xs.length, xs[i] ∈ xs := fun i => List.getElem_mem _
 have htot : ∀ i j : _root_.Fin xs.length, i ≠ j → ltc cf xs[i] xs[j] = !ltc cf xs[j] xs[i] := by
  intro i j hij
  rcases Nat.lt_or_gt_of_ne (fun e => hij (Fin.ext e)) with hl | hl
  ·
   exact List.pairwise_iff_getElem.1 ho4 i.1 j.1 i.2 j.2 hl
  ·
   have := List.pairwise_iff_getElem.1 ho4 j.1 i.1 j.2 i.2 hl
   show ltc cf xs[i.1] xs[j.1] = !ltc cf xs[j.1] xs[i.1]
   rw [this, Bool.not_not]
 have hswo : Sort.SWO (Proofs.ltOf cf') := by
  refine ⟨fun i => ho2 _ (hmem i), fun i j l h1 h2 => ho3 _ (hmem i) _ (hmem j) _ (hmem l) h1 h2, fun i j l h1 h2 => ?_⟩
  rw [hlt] at h1 h2 ⊢
  by_cases hij : i = j
  ·
   subst hij; exact h2
  by_cases hjl : j = l
  ·
   subst hjl; exact h1
  have h3 := htot i j hij; have h4 := htot j l hjl
  rw [h1] at h3; rw [h2] at h4
  have h5 : ltc cf xs[j] xs[i] = true := by cases hq : ltc cf xs[j] xs[i] <;> simp_all
  have h6 : ltc cf xs[l] xs[j] = true := by cases hq : ltc cf xs[l] xs[j] <;> simp_all
  have h7 := ho3 _ (hmem l) _ (hmem j) _ (hmem i) h6 h5
  cases hq : ltc cf xs[i] xs[l] with
  | false => rfl
  | true =>
   have h8 := ho3 _ (hmem i) _ (hmem l) _ (hmem i) hq h7
   have h9 := ho2 _ (hmem i)
   simp only [Fin.getElem_fin] at h8 h9
   rw [h9] at h8; cases h8
 have hT : ∀ i j, Proofs.ltOf cf' i j = false → Proofs.ltOf cf' j i = false → i = j := fun i j h1 h2 => by
  by_cases hij : i = j
  ·
   exact hij
  ·
   have h3 := htot i j hij
   rw [hlt] at h1 h2
   rw [h1, h2] at h3; cases h3
 have hencl : ∀ i, (enc i).length = sz := fun i => drop_take_len hvl i.2
 have hone : ∀ i, ∀ v ∈ enc i, v.oneCell' = true := fun i v hv => hfl.one v (List.mem_of_mem_drop (List.mem_of_mem_take hv))
 have hcell : ∀ i : _root_.Fin xs.length, Cells w F (k xs[i]) (enc i) := fun i => hfl.slice (List.getElem?_eq_getElem i.2)
 have hFne : ∀ b, F b ∨ Gb b → b ≠ blk := fun b hb e => by
  rcases hb with hb | hb
  ·
   exact (hfit.gin blk hGb).2 (e ▸ hb)
  ·
   exact hd blk hGb (e ▸ hb)
 have hent : Enters P g := by
  have hx := ho1 _ (hmem ⟨0, hpos⟩) _ (hmem ⟨0, hpos⟩)
  obtain ⟨r0, hr0⟩ := Option.isSome_iff_exists.1 hx
  exact (hcmp _ _ _ hr0).1
 have hds : (List.finRange xs.length).toArray.size = xs.length := by simp
 have hcl : Proofs.CmpLays P g cap.toArray enc sz cf' blk 0 (List.finRange xs.length).toArray.size w := by
  intro m os dk hdk i j
  obtain ⟨r0, hr0⟩ := Option.isSome_iff_exists.1 (ho1 _ (hmem i) _ (hmem j))
  have hsame : ∀ b, F b ∨ Gb b → (F b ∨ Gb b) ∧ (Proofs.sortWorldK enc sz w blk 0 m dk os).heap[b]? = w.heap[b]? := fun b hb =>
   ⟨hb, sortW_other enc sz w blk m dk os (hb.elim (hfit.fin b) fun hb => (hfitb.gin b hb).1) (hFne b hb)⟩
  have hc2 : Reps (Proofs.sortWorldK enc sz w blk 0 m dk os) (fun b => F b ∨ Gb b) cc' cap := (hf w F Gb (fun b => F b ∨ Gb b) cap hcap h2 (fun _ h => .inl h) fun _ h => .inr h).mono hsame
  have hreps : Reps (Proofs.sortWorldK enc sz w blk 0 m dk os) (fun b => F b ∨ Gb b) ([.agg (k xs[i]), .agg (k xs[j])] ++ cc') ([.agg (enc i).toArray, .agg (enc j).toArray] ++ cap) :=
   ⟨_, _, rfl, ⟨_, rfl, (hcell i).mono fun b hb => hsame b (.inl hb)⟩, _, _, rfl, ⟨_, rfl, (hcell j).mono fun b hb => hsame b (.inl hb)⟩, hc2⟩
  have hz := sortW_size enc sz w blk m dk os
  have := (hcmp _ _ _ hr0).2 _ (fun b => F b ∨ Gb b) (fun _ => False) _ hreps (fun _ h => h) ⟨fun b hb => Nat.lt_of_lt_of_le (hb.elim (hfit.fin b) fun hb => (hfitb.gin b hb).1) hz, fun _ h => h.elim⟩
  have e1 : ([Value.agg (enc i).toArray, .agg (enc j).toArray] ++ cap).toArray = #[.agg (enc i).toArray, .agg (enc j).toArray] ++ cap.toArray := by simp
  rw [e1] at this
  refine this.mono fun e w' ⟨v, c, qs, F', G', he, ⟨hc, hq⟩, hv, ht⟩ => ?_
  subst hc
  rw [show v = .int .i64 r0 from hv] at he
  refine ⟨?_, chg_grow ht.chg⟩
  rw [he]
  show _ = Ending.returned (.int .i64 ((cf xs[i] xs[j]).getD 0))
  rw [hr0]; rfl
 have hholds : Sort.HoldsK enc sz w blk 0 (List.finRange xs.length).toArray := by
  intro t ht
  rw [Sort.size_flatK, hds] at ht
  have hq : t / sz < xs.length := Nat.div_lt_of_lt_mul (by rwa [Nat.mul_comm])
  have hm := Nat.mod_lt t hsz
  refine ⟨?_, by simp [World.frozen?, hb]⟩
  rw [id, Sort.get_flatK _ _ _ _ (by rwa [hds])]
  have e0 : (List.finRange xs.length).toArray[t / sz]! = ⟨t / sz, hq⟩ := by simp [hq]
  rw [e0]
  have e1 : (enc ⟨t / sz, hq⟩)[t % sz]? = vs[t]? := by
   have := drop_take_get (sz := sz) hvl hq hm
   rwa [Nat.div_add_mod'] at this
  have e2 : cur[t]? = vs[t]? := by
   rw [← htake, List.getElem?_take_of_lt ht, Array.getElem?_toList]
  have ht2 : t < vs.length := by rw [hvl]; exact ht
  simp only [World.cell?, hb, Nat.zero_add, Option.isSome_none, Bool.false_eq_true, if_false]
  rw [e2, getElem!_def, e1, List.getElem?_eq_getElem ht2]
 have hsmall : (List.finRange xs.length).toArray.size < 4611686018427387904 := by
  rw [hds]; exact ho5
 have hcall := hS.ofSome enc hencl hone cf' hswo g cap.toArray blk cp (List.finRange xs.length).toArray w hent hcl hholds hblk hsmall hT
 rw [hds] at hcall
 refine hcall.mono fun e w' ⟨he, m, os, hw⟩ => ⟨he, ?_⟩
 rw [List.toList_toArray] at hw
 have hperm := List.mergeSort_perm (List.finRange xs.length) fun x y => !(Proofs.ltOf cf') y x
 generalize hD : (List.finRange xs.length).mergeSort (fun x y => !(Proofs.ltOf cf') y x) = D at hw hperm
 have hDl : D.length = xs.length := by rw [hperm.length_eq]; simp
 have hrD : r = D.map fun i => xs[i] := by
  have hm := List.map_mergeSort (r := fun x y => !(Proofs.ltOf cf') y x) (s := fun x y => !ltc cf y x) (f := fun i : _root_.Fin xs.length => xs[i]) (l := List.finRange xs.length) (fun a _ b _ => by rw [hlt])
  have hm2 : (xs.mergeSort fun x y => !ltc cf y x) = ((List.finRange xs.length).mergeSort fun x y => !(Proofs.ltOf cf') y x).map fun i => xs[i] := by
   rw [hm]
   congr 1
   exact List.ext_getElem (by simp) fun i h1 h2 => by simp
  exact hr.trans (hm2.trans (congrArg (List.map fun i : _root_.Fin xs.length => xs[i]) hD))
 have hrl : r.length = xs.length := by rw [hrD]; simp [hDl]
 subst hw
 have hzz := sortW_size enc sz w blk m D.toArray os
 refine ⟨Own.of_one ⟨⟨(Sort.flatK enc sz D.toArray).toList, ?_, ?_⟩, ?_⟩, fun _ h => h, fun b hb => ⟨Nat.lt_of_lt_of_le (hfit.fin b hb) hzz, .inl hb⟩, fun b hb => ⟨Nat.lt_of_lt_of_le (hfit.gin b hb).1 hzz, (hfit.gin b hb).2, .inl hb⟩, sortW_chg enc sz w blk m D.toArray os hGb⟩
 ·
  rw [hrl]
  refine ⟨by simp [hDl], .inr ⟨blk, cp, _, rfl, Nat.zero_le _, sortW_blk enc sz w blk m D.toArray os hb, hnc, hcm, by simp [Sort.putCells, hcs], ?_⟩⟩
  have hs : (Sort.flatK enc sz D.toArray).size = xs.length * sz := by simp [hDl]
  rw [← hs]
  refine take_putCellsV _ _ ?_
  rw [hs, hcs]
  exact Nat.mul_le_mul_right _ hnc
 ·
  refine Flat.of_slices (by simp [hDl, hrl]) fun t x hx => ?_
  rw [hrD, List.getElem?_map] at hx
  have htD : t < D.length := by
   rcases Nat.lt_or_ge t D.length with h | h
   ·
    exact h
   ·
    rw [List.getElem?_eq_none h] at hx; cases hx
  rw [List.getElem?_eq_getElem htD] at hx
  simp only [Option.map_some, Option.some.injEq] at hx
  subst hx
  have hFs : ∀ b, F b → F b ∧ (Proofs.sortWorldK enc sz w blk 0 m D.toArray os).heap[b]? = w.heap[b]? := fun b hb => ⟨hb, sortW_other enc sz w blk m D.toArray os (hfit.fin b hb) (hFne b (.inl hb))⟩
  have e1 : (((Sort.flatK enc sz D.toArray).toList.drop (t * sz)).take sz) = enc D[t] := by
   apply List.ext_getElem?
   intro j
   by_cases hj : j < sz
   ·
    have hlt2 : t * sz + j < D.length * sz := by
     have : (t + 1) * sz ≤ D.length * sz := Nat.mul_le_mul_right _ htD
     rw [Nat.add_mul, Nat.one_mul] at this; omega
    rw [List.getElem?_take_of_lt hj, List.getElem?_drop, Array.getElem?_toList]
    have hg := Sort.get_flatK enc sz D.toArray (t * sz + j) (by simpa using hlt2)
    rw [Array.getElem?_eq_getElem (by simpa using hlt2)]
    rw [getElem!_pos _ _ (by simpa using hlt2)] at hg
    rw [hg, show (t * sz + j) / sz = t by rw [Nat.mul_comm, Nat.mul_add_div hsz, Nat.div_eq_of_lt hj, Nat.add_zero], show (t * sz + j) % sz = j by rw [Nat.mul_comm, Nat.mul_add_mod, Nat.mod_eq_of_lt hj]]
    have e3 : D.toArray[t]! = D[t] := by simp [htD]
    have hj2 : j < (enc D[t]).length := by rw [hencl]; exact hj
    rw [e3, getElem!_pos (enc D[t]) j hj2, List.getElem?_eq_getElem hj2]
   ·
    rw [List.getElem?_take_eq_none (by omega), List.getElem?_eq_none (by rw [hencl]; omega)]
  rw [e1]
  exact (hcell _).mono hFs
 ·
  exact hG

theorem op_sortFunc {f g E : Nat} {x y : Operand} {ts : Array TypeId} {v : Value} {xs r : List α} {cc cc' : List C} {cf : α → α → Option Int} (hS : Sorter P f sz) (hsz : Nat.blt 0 sz = true) (hx : ev es x = some (.val v)) (hy : CloOp es y g cc) (hf : FrzT cc ps cc')
  (hcmp : ∀ x y r, cf x y = some r → Ok P g ([.agg (k x), .agg (k y)] ++ cc') [] fun c qs => c = .int r ∧ qs = []) (h : sortF cf xs = some r) (hn : Nat.blt d n = true) :
  HOp P n ⟨some d, .call ⟨.value (.func f), #[x, y], ts⟩, ty, pos, af, gd⟩ es (.arr v E k sz xs :: ps) (fun e' qs => e' = (d, .tup []) :: es ∧ qs = .arr v E k sz r :: ps) := by
 intro a w F G1 hs ho hft hasz Kc Q hK
 obtain ⟨Ga, Gb, hi, hd, h1, h2⟩ := ho
 obtain ⟨cap, hclo, hcap⟩ := hy hs
 have hfa : Fit w F Ga := ⟨hft.fin, fun b hb => hft.gin b ((hi b).2 (.inl hb))⟩
 have hfb : Fit w F Gb := ⟨hft.fin, fun b hb => hft.gin b ((hi b).2 (.inr hb))⟩
 have hcall := Zem hS (blt_lt hsz) hcap hf hcmp h hfa hfb hd h1 h2
 have hrun : (execOp a.eval ⟨some d, .call ⟨.value (.func f), #[x, y], ts⟩, ty, pos, af, gd⟩).run P w = .ok (.enter f #[v, .func (.func g) #[] cap.toArray]) w := by
  have e0 : a.eval (.func f) = .func (.func f) #[] #[] := rfl
  simp [execOp, resolve, e0, Deferred.ofValue, invoke, hS.enters _ w, hs.val hx, hclo]
 unfold Oper.wp
 rw [hrun]
 refine hcall.mono fun e w' ⟨he, ht⟩ => ?_
 subst he
 have ht' := ht.frame hi hd h2 hft
 exact hK (.tuple #[]) w' _ _ F _ ht' ⟨rfl, rfl⟩ (EnvRep.put (hs.mono (ht'.same hft)) (hasz ▸ blt_lt hn) ⟨[], rfl, rfl⟩)


structure SorterI (P : Program) (f : Nat) : Prop where
 enters : Enters P f
 ofNone : ∀ (p : Option Addr) (cap : Nat) (w : World), Calls P f #[.slice p 0 cap] w fun e w' => e = .returned (.tuple #[]) ∧ w' = w
 ofSome : ∀ (blk cap : Nat) (zs : List Int) (w : World), Sort.Holds (Value.int .i64) w blk 0 zs.toArray → blk < w.heap.size → zs.length < 4611686018427387904 →
  Calls P f #[.slice (some ⟨blk, 0, none⟩) zs.length cap] w fun e w' => e = .returned (.tuple #[]) ∧ ∃ n os, w' = Sort.grow (Sort.putRow (Value.int .i64) (Sort.ahead w n) blk 0 (zs.mergeSort fun x y => decide (x ≤ y)).toArray) os

theorem Flat.ints {ki : Int → List C} (hk : ∀ x, ki x = [.int x]) : ∀ {xs : List Int} {vs : List Value}, Flat w F ki 1 xs vs ↔ vs = xs.map (.int .i64)
 | [], _ => Iff.rfl
 | x :: xs, vs => by
  constructor
  ·
   rintro ⟨a, r, rfl, hl, h1, h2⟩
   rw [hk] at h1
   obtain ⟨v, r', rfl, hv, _, hr'⟩ := h1
   rw [show r' = [] from hr', show v = .int .i64 x from hv, (Flat.ints hk).1 h2]
   rfl
  ·
   rintro rfl
   refine ⟨[.int .i64 x], xs.map (.int .i64), rfl, rfl, ?_, (Flat.ints hk).2 rfl⟩
   rw [hk]
   exact ⟨_, _, rfl, rfl, rfl, rfl⟩

theorem op_sortI {f E : Nat} {x : Operand} {ts : Array TypeId} {v : Value} {ki : Int → List C} {xs : List Int} (hS : SorterI P f) (hk : ∀ x, ki x = [.int x]) (hlen : xs.length < 4611686018427387904) (hx : ev es x = some (.val v)) (hn : Nat.blt d n = true) :
  HOp P n ⟨some d, .call ⟨.value (.func f), #[x], ts⟩, ty, pos, af, gd⟩ es [.arr v E ki 1 xs] (fun e' qs => e' = (d, .tup []) :: es ∧ qs = [.arr v E ki 1 (xs.mergeSort fun x y => decide (x ≤ y))]) := by
 intro a w F G1 hs ho hft hasz Kc Q hK
 obtain ⟨⟨vs, hrow, hfl⟩, hG⟩ := ho.only
 have hrun : (execOp a.eval ⟨some d, .call ⟨.value (.func f), #[x], ts⟩, ty, pos, af, gd⟩).run P w = .ok (.enter f #[v]) w := by
  have e0 : a.eval (.func f) = .func (.func f) #[] #[] := rfl
  simp [execOp, resolve, e0, Deferred.ofValue, invoke, hS.enters _ w, hs.val hx]
 unfold Oper.wp
 rw [hrun]
 have hdone : xs = [] → ∀ e w', (e = Ending.returned (.tuple #[]) ∧ w' = w) → e = .returned (.tuple #[]) ∧ Turn w F G1 w' F G1 [.arr v E ki 1 (xs.mergeSort fun x y => decide (x ≤ y))] := by
  rintro rfl e w' ⟨h3, rfl⟩
  rw [show ([] : List Int).mergeSort (fun x y => decide (x ≤ y)) = [] by simp]
  exact ⟨h3, Own.of_one ⟨⟨vs, hrow, hfl⟩, hG⟩, fun _ h => h, fun b hb => ⟨hft.fin b hb, .inl hb⟩, fun b hb => ⟨(hft.gin b hb).1, (hft.gin b hb).2, .inl hb⟩, Chg.refl _ _⟩
 suffices hc : Calls P f #[v] w fun e w' => e = .returned (.tuple #[]) ∧ Turn w F G1 w' F G1 [.arr v E ki 1 (xs.mergeSort fun x y => decide (x ≤ y))] by
  refine hc.mono fun e w' ⟨he, ht⟩ => ?_
  subst he
  exact hK (.tuple #[]) w' _ _ F _ ht ⟨rfl, rfl⟩ (EnvRep.put (hs.mono (ht.same hft)) (hasz ▸ blt_lt hn) ⟨[], rfl, rfl⟩)
 rcases hrow.2 with ⟨rfl, h0⟩ | ⟨blk, cp, cur, rfl, _, hb, hnc, hcm, hcs, htake⟩
 ·
  exact (hS.ofNone none 0 w).mono (hdone (List.eq_nil_of_length_eq_zero h0))
 by_cases hne : xs = []
 ·
  have hl0 : xs.length = 0 := by rw [hne]; rfl
  have := (hS.ofNone (some ⟨blk, 0, none⟩) cp w).mono (hdone hne)
  rw [hl0]
  rwa [hl0] at this
 have hblk : blk < w.heap.size := (Array.getElem?_eq_some_iff.1 hb).1
 have hvs := (Flat.ints hk).1 hfl
 have hGb : G1 blk := (hG blk).2 rfl
 have hholds : Sort.Holds (Value.int .i64) w blk 0 xs.toArray := holds_of_blockI hb (by rw [Nat.mul_one] at htake; rw [htake, hvs])
 refine (hS.ofSome blk cp xs w hholds hblk hlen).mono fun e w' ⟨he, m, os, hw⟩ => ⟨he, ?_⟩
 have hg := grownBy_sortedI (w := w) (g := blk) (n := m) (os := os) (xs.mergeSort fun x y => decide (x ≤ y)).toArray
 have hbl := heap_sortedI (n := m) (os := os) (xs.mergeSort fun x y => decide (x ≤ y)).toArray hb
 have hl : (xs.mergeSort fun x y => decide (x ≤ y)).length = xs.length := List.length_mergeSort _
 have hdr : w.drawn ≤ w'.drawn := by rw [hw]; exact Nat.le_add_right _ _
 rw [← hw] at hg hbl
 refine ⟨Own.of_one ⟨⟨_, ?_, (Flat.ints hk).2 rfl⟩, hG⟩, fun _ h => h, fun b hb => ⟨Nat.lt_of_lt_of_le (hft.fin b hb) hg.size, .inl hb⟩, fun b hb => ⟨Nat.lt_of_lt_of_le (hft.gin b hb).1 hg.size, (hft.gin b hb).2, .inl hb⟩, ⟨hg.os, hg.tape, hg.output, hg.size, hdr, fun b hb hn => hg.block b hb fun e => hn (by cases e; exact hGb)⟩⟩
 rw [hl]
 refine ⟨by simp [hl], .inr ⟨blk, cp, _, rfl, Nat.zero_le _, hbl, hnc, hcm, by simp [Sort.putCells, hcs], ?_⟩⟩
 rw [Nat.mul_one, ← hl]
 exact take_putCellsI cur _ (by rw [hl, hcs, Nat.mul_one]; exact hnc)
end


def C.imap {β : Type} (kd : IntKind) (kc : β → C) (m : List (Int × β)) : C where
 rep w F v := ∃ (b : Nat) (es : Array MapEntry) (clock : Nat), v = .map (some b) ∧ F b ∧ w.heap[b]? = some (.map es clock) ∧ Ents w F kd kc m es.toList ∧ Stamps m es.toList clock
 mono := by
  rintro w w' F F' v ⟨b, es, c, rfl, hb, h1, h2, h3⟩ k
  exact ⟨b, es, c, rfl, (k b hb).1, ((k b hb).2).trans h1, h2.mono k, h3⟩
theorem One.imap {β : Type} {kd : IntKind} {kc : β → C} {m : List (Int × β)} : One (.imap kd kc m) := fun _ _ v ⟨_, _, _, e, _⟩ => by rw [e]; rfl

theorem Frz.map {β : Type} {kd : IntKind} {kc : β → C} {m : List (Int × β)} {b : Nat} : Frz (.val (.map (some b))) [.map b kd kc m] (.imap kd kc m) := fun w F G F' v hv ho hF hG => by
 obtain ⟨hg, es, c, h1, h2, h3⟩ := ho.only
 exact ⟨b, es, c, hv, hG b ((hg b).2 rfl), h1, h2.mono fun b hb => ⟨hF b hb, rfl⟩, h3⟩

theorem Frz.box {b T : Nat} {cs cs' : List C} {qs : List Obj} (h : FrzL cs qs cs') : Frz (.val (.pointer (some ⟨b, 0, none⟩))) (.box b T cs :: qs) (.ip cs') := fun w F G F' v hv ho hF hG => by
 obtain ⟨G1, G2, hi, hd, ⟨hg, vs, hb, hc⟩, h2⟩ := ho
 exact ⟨b, 0, vs, hv, hG b ((hi b).2 (.inl ((hg b).2 rfl))), cellsAt_of_block hb, h w F G2 F' vs hc h2 hF fun b hb => hG b ((hi b).2 (.inr hb))⟩

section
variable {β : Type} {P : Program} {n : Nat} {es : Env} {ps : List Obj} {kd : IntKind} {kc : β → C} {m : List (Int × β)} {d ty : Nat} {pos : String} {af : Array Edge} {gd : Option (Nat × Bool)}

theorem op_lookupI {T E : Nat} {x y : Operand} {j : Int} {zv : Value} {z0 : β} (hT : mapInfo P T = some (kd, E)) (hz : zeroVal P E = some zv) (hz0 : ∀ w F, (kc z0).rep w F zv) (hx : ev es x = some (.imap kd kc m)) (hy : ev es y = some (.val (.int kd j)))
  (hn : Nat.blt d n = true) : VOp true P n es ps ⟨some d, .lookup T x y false, ty, pos, af, gd⟩ d (kc ((mget m j).getD z0)) :=
 VOp.mk rfl hn fun a w F Gp hs ho => by
  obtain ⟨k, hu, hk⟩ := mapInfo_under hT
  obtain ⟨b, en, c, hv0, hF, h1, h2, h3⟩ := hs.ev hx
  obtain ⟨v, hv, hr⟩ := lookup_run (P := P) (p := 0) (b := b) (j := j) (F := F) hu hk hz hz0 rfl (Own.of_one (o := .map b kd kc m) (G1 := (· = b)) ⟨fun _ => Iff.rfl, en, c, h1, h2, h3⟩)
  exact ⟨v, fun w2 hw => by
   have := hr false w2 (hw rfl b (.inl hF))
   simp only [execOp, hv0, hs.val hy]
   simp [this], hv⟩

end
end Go.Abs
