/- Rows: arguments read as data, seen as frozen memory; a law that is true, whatever the input. -/
import Derived.Test.YtnndihmamfomcaaGreatCJ
import Derived.ProofKit
import Derived.Deep.Slices
set_option autoImplicit false
set_option linter.unusedVariables false
set_option linter.unusedSimpArgs false
namespace Go.Abs
open Go Go.ChangeShapes Go.WideShapes Go.RowKit

def OldF (w : World) : BSet := fun b => b < w.heap.size

structure Opens (P : Program) (t : TypeId) {α : Type} (k : α → List C) (good : α → Prop) : Prop where
 out : ∀ {H : Type} {enc : TypeId × Value → H} {w : World} {base : Nat} {spare : Nat → Bool} {held : Bool} {fuel : Nat} {cs : List Value} {x : DataW H × List MemPlace},
  DataW.trod enc P w base spare held fuel t cs = some x → ∃ a, good a ∧ Cells w (OldF w) (k a) cs

section
variable {P : Program} {t : TypeId} {α β γ : Type}

theorem Opens.int {kd : IntKind} (ht : P.underlying t = some (.int kd)) : Opens P t (fun i : Int => [C.val (.int kd i)]) (fun i => kd.min ≤ i ∧ i ≤ kd.max) := by
 constructor
 intro H enc w base spare held fuel cs x h
 obtain ⟨n, rfl, _, hw⟩ := DataW.trod_int ht h
 simp [Lit.wf] at hw
 exact ⟨n, hw, .int kd n, [], rfl, rfl, rfl, rfl⟩

theorem Opens.bool (ht : P.underlying t = some .bool) : Opens P t (fun b : Bool => [C.bool b]) (fun _ => True) := by
 constructor
 intro H enc w base spare held fuel cs x h
 obtain ⟨b, rfl, _⟩ := DataW.trod_bool ht h
 exact ⟨b, trivial, .bool b, [], rfl, rfl, rfl, rfl⟩

theorem Opens.string (ht : P.underlying t = some .string) : Opens P t (fun s : ByteArray => [C.str s]) (fun s => s.size ≤ maxLen) := by
 constructor
 intro H enc w base spare held fuel cs x h
 obtain ⟨s, rfl, _, hs⟩ := DataW.trod_string ht h
 exact ⟨s, hs, .string s, [], rfl, rfl, rfl, rfl⟩

theorem list_of {p : Nat → α → Prop} : ∀ n : Nat, (∀ i, i < n → ∃ y, p i y) → ∃ ys : List α, ys.length = n ∧ ∀ i y, ys[i]? = some y → p i y
 | 0, _ => ⟨[], rfl, fun i y h => by simp at h⟩
 | n + 1, h => by
  obtain ⟨ys, hl, hy⟩ := list_of n fun i hi => h i (Nat.lt_succ_of_lt hi)
  obtain ⟨y, hn⟩ := h n (Nat.lt_succ_self n)
  refine ⟨ys ++ [y], by simp [hl], fun i z hz => ?_⟩
  by_cases hi : i < ys.length
  ·
   rw [List.getElem?_append_left hi] at hz; exact hy i z hz
  ·
   rw [List.getElem?_append_right (by omega)] at hz
   have : i - ys.length = 0 := by
    have := (List.getElem?_eq_some_iff.1 hz).1
    simp at this; omega
   rw [this] at hz
   simp at hz
   subst hz
   rw [show i = n from by omega]
   exact hn

theorem cell_addr {w : World} {a : Addr} {u : Value} (h : w.cell? a = some u) : a = ⟨a.block, a.off, none⟩ ∧ a.block < w.heap.size := by
 unfold World.cell? at h
 split at h
 ·
  rename_i c t fr hb
  split at h
  ·
   cases h
  ·
   rename_i hs
   refine ⟨?_, ?_⟩
   ·
    cases a with
    | mk b o s => cases s with
     | none => rfl
     | some _ => simp at hs
   ·
    exact (Array.getElem?_eq_some_iff.1 hb).1
 ·
  cases h

theorem Opens.slice {e sz : Nat} {k : α → List C} {good : α → Prop} (ht : P.underlying t = some (.slice e)) (he : Opens P e k good) (hsz : P.cellsOf e = sz) (hpos : 0 < sz) :
  Opens P t (fun xs : List α => [C.im k sz xs]) (fun xs => xs.length ≤ maxLen ∧ ∀ x ∈ xs, good x) := by
 constructor
 intro H enc w base spare held fuel cs x h
 rcases Deep.open_slice ht h with ⟨rfl, _⟩ | ⟨a, len, cap, m, n, D, Pl, rfl, _, hl, hm, hmm, _, hx⟩
 ·
  exact ⟨[], ⟨Nat.zero_le _, fun _ h => by cases h⟩, .slice none 0 0, [], rfl, ⟨none, 0, rfl, Nat.le_refl _, fun i x hx => by simp at hx⟩, rfl, rfl⟩
 ·
  have hlm : len ≤ m := by rw [hmm]; split <;> omega
  obtain ⟨ys, hyl, hy⟩ := list_of (p := fun i y => good y ∧ ∃ cs', w.cells? base (a.add (i * P.cellsOf e)) (P.cellsOf e) = some cs' ∧ Cells w (OldF w) (k y) cs') len fun i hi => by
   obtain ⟨cs', h1, h2⟩ := hx i (by omega)
   obtain ⟨y, hg, hc⟩ := he.out h2
   exact ⟨y, hg, cs', h1, hc⟩
  refine ⟨ys, ⟨by omega, fun y hyy => ?_⟩, .slice (some a) len cap, [], rfl, ⟨some a, cap, by rw [hyl], by omega, fun i y hiy => ?_⟩, rfl, rfl⟩
  ·
   obtain ⟨i, hi⟩ := List.mem_iff_getElem?.1 hyy
   exact (hy i y hi).1
  ·
   have hlen : 0 < ys.length := by have := (List.getElem?_eq_some_iff.1 hiy).1; omega
   obtain ⟨_, cs0, h0, _⟩ := hy 0 _ (List.getElem?_eq_getElem hlen)
   obtain ⟨_, hl0, hc0⟩ := World.cells?_some h0
   have h00 := hc0 0 (by omega)
   rw [hsz, Nat.zero_mul] at h00
   have hcell : ∃ u, w.cell? a = some u := by
    have e1 : (a.add 0).add 0 = a := by simp [Addr.add]
    rw [e1, List.getElem?_eq_getElem (by omega)] at h00
    exact ⟨_, h00⟩
   obtain ⟨u, hu⟩ := hcell
   obtain ⟨ea, hlt⟩ := cell_addr hu
   obtain ⟨_, cs', h1, hc⟩ := hy i y hiy
   obtain ⟨_, hl1, hc1⟩ := World.cells?_some h1
   refine ⟨a.block, a.off, cs', congrArg some ea, hlt, by rw [hl1, hsz], fun j v hv => ?_, hc⟩
   have hj : j < cs'.length := (List.getElem?_eq_some_iff.1 hv).1
   have := hc1 j (by omega)
   rw [hv, ea, addr_add, addr_add, hsz] at this
   exact this

structure OpensFs (P : Program) (fs : List Field) (off m : Nat) (k : γ → List C) (good : γ → Prop) : Prop where
 out : ∀ {H : Type} {enc : TypeId × Value → H} {w : World} {base : Nat} {spare : Nat → Bool} {held : Bool} {n : Nat} {cs : List Value},
  (∀ f ∈ fs, ∃ x : DataW H × List MemPlace, DataW.trod enc P w base spare held n f.type ((cs.drop f.offset).take (P.cellsOf f.type)) = some x) → ∃ g, good g ∧ Cells w (OldF w) (k g) ((cs.drop off).take m)

theorem OpensFs.nil {off : Nat} : OpensFs P [] off 0 (fun _ : Unit => []) (fun _ => True) := ⟨fun _ => ⟨(), trivial, by simp [Cells]⟩⟩
theorem OpensFs.cons {f : Field} {fs : List Field} {off sz m : Nat} {k : α → List C} {good : α → Prop} {k' : γ → List C} {good' : γ → Prop} (ho : f.offset = off) (hs : P.cellsOf f.type = sz) (h : Opens P f.type k good) (hk : OpensFs P fs (off + sz) m k' good') :
  OpensFs P (f :: fs) off (sz + m) (fun g : α × γ => k g.1 ++ k' g.2) (fun g => good g.1 ∧ good' g.2) := by
 constructor
 intro H enc w base spare held n cs hx
 obtain ⟨x, h1⟩ := hx f (by simp)
 obtain ⟨a, ha, hc⟩ := h.out h1
 obtain ⟨g, hg, hc'⟩ := hk.out fun f' hf' => hx f' (by simp [hf'])
 refine ⟨(a, g), ⟨ha, hg⟩, ?_⟩
 rw [List.take_add, List.drop_drop]
 rw [ho, hs] at hc
 exact hc.append hc'

theorem Opens.struct {fs : Array Field} {k : γ → List C} {good : γ → Prop} {m : Nat} (ht : P.underlying t = some (.struct fs)) (h : OpensFs P fs.toList 0 m k good) (hm : P.cellsOf t = m) : Opens P t k good := by
 constructor
 intro H enc w base spare held fuel cs x hx
 obtain ⟨xs, n, _, _, hl, hxl, hf⟩ := DataW.trod_struct ht hx
 obtain ⟨g, hg, hc⟩ := h.out (H := H) (enc := enc) (w := w) (base := base) (spare := spare) (held := held) (n := n) (cs := cs) fun f hff => by
  obtain ⟨i, hi⟩ := List.mem_iff_getElem?.1 hff
  have hi' : fs[i]? = some f := by simpa using hi
  have hlt : i < xs.length := by rw [hxl]; exact (Array.getElem?_eq_some_iff.1 hi').1
  exact ⟨xs[i], by rw [hf i f hi', List.getElem?_eq_getElem hlt]⟩
 refine ⟨g, hg, ?_⟩
 rw [List.drop_zero, List.take_of_length_le (by omega)] at hc
 exact hc

theorem Opens.map {k : γ → List C} {good : γ → Prop} {k' : α → List C} {good' : α → Prop} (f : γ → α) (h : Opens P t k good) (e : ∀ g, k' (f g) = k g) (hg : ∀ g, good g → good' (f g)) : Opens P t k' good' := by
 constructor
 intro H enc w base spare held fuel cs x hx
 obtain ⟨g, h1, h2⟩ := h.out hx
 exact ⟨f g, hg g h1, by rw [e]; exact h2⟩


structure OpensAll (P : Program) (ts : List TypeId) (k : γ → List C) (good : γ → Prop) : Prop where
 out : ∀ {H : Type} {enc : TypeId × Value → H} {w : World} {r : Reach} {b0 base : Nat} {spare : Nat → Bool} {held : Bool} {vs : List Value} {ds : List (DataW H)} {ps : List MemPlace},
  (∀ (j : Nat) t v, ts[j]? = some t → vs[j]? = some v → Value.okWide P w r b0 t v) → DataW.TrodAll enc P w base spare held ts vs ds ps → ∃ g, good g ∧ Reps w (OldF w) (k g) vs

theorem OpensAll.nil : OpensAll P [] (fun _ : Unit => []) (fun _ => True) := by
 constructor
 intro H enc w r b0 base spare held vs ds ps _ h
 match vs, ds, h with
 | [], [], _ => exact ⟨(), trivial, rfl⟩

def plainType : TypeDesc → Bool
 | .bool | .int _ | .string | .slice _ => true
 | _ => false

theorem cells_of_okWide {w : World} {r : Reach} {b0 : Nat} {d : TypeDesc} {v : Value} (ht : P.underlying t = some d) (hd : plainType d = true) (h : Value.okWide P w r b0 t v) : v.cells.toList = [v] := by
 cases d <;> simp [plainType] at hd
 ·
  obtain ⟨b, rfl⟩ := okWide_bool ht h; rfl
 ·
  obtain ⟨n, rfl⟩ := okWide_int ht h; rfl
 ·
  obtain ⟨s, rfl⟩ := okWide_string ht h; rfl
 ·
  obtain ⟨a, l, c, rfl⟩ := okWide_slice ht h; rfl

theorem OpensAll.cons {ts : List TypeId} {d : TypeDesc} {c : α → C} {good : α → Prop} {k' : γ → List C} {good' : γ → Prop} (ht : P.underlying t = some d) (hd : plainType d = true) (h : Opens P t (fun a => [c a]) good) (hk : OpensAll P ts k' good') :
  OpensAll P (t :: ts) (fun g : α × γ => c g.1 :: k' g.2) (fun g => good g.1 ∧ good' g.2) := by
 constructor
 intro H enc w r b0 base spare held vs ds ps hval h0
 match vs, ds, h0 with
 | v :: vs, dd :: ds, ⟨p, q, ⟨fuel, h1⟩, h2, _⟩ =>
  rw [cells_of_okWide ht hd (hval 0 t v rfl rfl)] at h1
  obtain ⟨a, ha, u, r', e, hc, _, _⟩ := h.out h1
  cases e
  obtain ⟨g, hg, hr⟩ := hk.out (fun j t' v' hj hv => hval (j + 1) t' v' (by simpa using hj) (by simpa using hv)) h2
  exact ⟨(a, g), ⟨ha, hg⟩, v, vs, rfl, hc, hr⟩

theorem OpensAll.consA {ts : List TypeId} {fs : Array Field} {k : α → List C} {good : α → Prop} {k' : γ → List C} {good' : γ → Prop} (ht : P.underlying t = some (.struct fs)) (h : Opens P t k good) (hk : OpensAll P ts k' good') :
  OpensAll P (t :: ts) (fun g : α × γ => C.agg (k g.1) :: k' g.2) (fun g => good g.1 ∧ good' g.2) := by
 constructor
 intro H enc w r b0 base spare held vs ds ps hval h0
 match vs, ds, h0 with
 | v :: vs, dd :: ds, ⟨p, q, ⟨fuel, h1⟩, h2, _⟩ =>
  obtain ⟨cs, rfl, _⟩ := okWide_struct ht (hval 0 t v rfl rfl)
  obtain ⟨a, ha, hc⟩ := h.out h1
  obtain ⟨g, hg, hr⟩ := hk.out (fun j t' v' hj hv => hval (j + 1) t' v' (by simpa using hj) (by simpa using hv)) h2
  exact ⟨(a, g), ⟨ha, hg⟩, .agg cs, vs, rfl, ⟨cs.toList, by simp, hc⟩, hr⟩

theorem trodAll_below {H : Type} {enc : TypeId × Value → H} {W W' : World} (hl : laidOutB P = true) (hb : Below W.heap.size W W') : ∀ {ts : List TypeId} {vs : List Value} {ds : List (DataW H)} {ps : List MemPlace},
  (ts.all fun t => P.readableRec t && decide (t < P.types.size)) = true → DataW.TrodAll enc P W 0 (fun _ => true) true ts vs ds ps → (∀ x ∈ ps, x.block < W.heap.size) →
  DataW.TrodAll enc P W' 0 (fun b => decide (b < W.heap.size)) true ts vs ds ps
 | [], [], [], _, _, h, _ => h
 | t :: ts, v :: vs, d :: ds, _, hr, ⟨p, q, h1, h2, e⟩, hlt => by
  subst e
  simp only [List.all_cons, Bool.and_eq_true, decide_eq_true_eq] at hr
  exact ⟨p, q, Below.trod hl hr.1.1 hr.1.2 h1 hb fun x hx => hlt x (List.mem_append.2 (.inl hx)), trodAll_below hl hb hr.2 h2 fun x hx => hlt x (List.mem_append.2 (.inr hx)), rfl⟩
 | [], [], _ :: _, _, _, h, _ => h.elim
 | [], _ :: _, _, _, _, h, _ => h.elim
 | _ :: _, [], _, _, _, h, _ => h.elim
 | _ :: _, _ :: _, [], _, _, h, _ => h.elim

theorem Ok.calls {f : FuncId} {cs : List C} {c1 : Value} {W : World} {args : Array Value} (h : Ok P f cs [] fun c qs => c = C.val c1 ∧ qs = []) (hr : Reps W (OldF W) cs args.toList) : Calls P f args W fun e W' => e = .returned c1 ∧ Below W.heap.size W W' := by
 have := h.2 W (OldF W) (fun _ => False) args.toList hr (fun _ h => h) ⟨fun _ h => h, fun _ h => h.elim⟩
 rw [Array.toArray_toList] at this
 refine this.mono fun e W' ⟨v, c, qs, F', G', he, ⟨hc, hq⟩, hv, ht⟩ => ?_
 subst hc
 rw [show v = c1 from hv] at he
 exact ⟨he, ht.chg.os, ht.chg.tape, ht.chg.output, ht.chg.size, fun b hb => ht.chg.block b hb fun h => h⟩

theorem law_lifted {C : Checked} {os : Os} {f : FuncId} {fn : Func} {s : ChangeSpec} {conds : List PathCond} {fresh handsOn : Bool} {H : Type} {enc : TypeId × Value → H} {k : γ → List Abs.C} {good : γ → Prop} {tb : TypeId} {ts : List TypeId}
  (own : ownKnob C.prog.godebug = none) (started : os.Started) (noInit : C.prog.inits.idxOf? f = none) (hfn : C.prog.funcs[f]? = some fn)
  (witness : ∃ (w : World) (tape : Tape) (i : Input), w.os = os ∧ (w.forCall tape i).Shaped C.prog ∧ i.vars = [] ∧ Input.okWide C.prog (w.forCall tape i) .any w.heap.size f i ∧
   s.pre6 enc C.prog fn conds false (w.forCall tape i).memory i.args ∧ ({} : Assume).holds C.prog (lone (Frame.enter C.prog f i.args .normal) [] (w.forCall tape i)))
  (hl : laidOutB C.prog = true) (hts : fn.params = ts.toArray) (hrd : (ts.all fun t => C.prog.readableRec t && decide (t < C.prog.types.size)) = true) (hres : fn.resultTypes = #[tb]) (htb : C.prog.underlying tb = some .bool)
  (hvars : s.vars = []) (hspec : ∀ ds : List (DataW H), ds.length = ts.length → s.fn H ds = { results := [.lit (.bool true)], args := ds })
  (ho : OpensAll C.prog ts k good) (law : ∀ g, good g → Ok C.prog f (k g) [] fun c qs => c = Abs.C.bool true ∧ qs = []) :
  ReturnsInHanded {} C os f .any (s.pre6 enc C.prog fn conds false) (s.post enc C.prog fn false fresh handsOn false) := by
 refine returnsInHanded_of_change own started noInit hfn witness ?_
 intro W base args ds gs before hval hW _ _
 have hW' := hW
 obtain ⟨p, q, hA, hV, rfl, _, _⟩ := hW
 rw [hvars] at hV
 obtain ⟨rfl, rfl⟩ := trodVars_none hV
 have htl : fn.params.toList = ts := by rw [hts]
 rw [htl] at hA
 obtain ⟨g, hg, hr⟩ := ho.out (r := .any) (b0 := base) (fun j t v hj hv => hval j t v (by rw [hts]; simpa using hj) (by simpa using hv)) hA
 have hlt : ∀ x ∈ p ++ [], x.block < W.heap.size := hW'.lt
 have hlen : ds.length = ts.length := by
  have : ∀ {ts : List TypeId} {vs : List Value} {ds : List (DataW H)} {ps : List MemPlace}, DataW.TrodAll enc C.prog W 0 (fun _ => true) true ts vs ds ps → ds.length = ts.length := by
   intro ts
   induction ts with
   | nil => intro vs ds ps h; match vs, ds, h with | [], [], _ => rfl
   | cons t ts ih => intro vs ds ps h; match vs, ds, h with | _ :: _, _ :: _, ⟨_, _, _, h2, _⟩ => simp [ih h2]
  exact this hA
 refine (Ok.calls (law g hg) hr).mono fun e W' ⟨he, hb⟩ => ?_
 have hf := hspec ds hlen
 have hf' : s.fn H (ds ++ []) = { results := [.lit (.bool true)], args := ds } := by rw [List.append_nil]; exact hf
 refine ⟨_, he, ds, [], p ++ [], [], p ++ [], [], hW', ?_, ?_, ?_, hb.frame _, fun h => by cases h⟩
 ·
  rw [hf', hres]
  exact trodAll_mk1 (shut_bool htb _)
 ·
  rw [hf', htl]
  exact trodAll_below hl hb hrd (by simpa using hA) hlt
 ·
  rw [hf', hvars]
  exact rfl
end
end Go.Abs
