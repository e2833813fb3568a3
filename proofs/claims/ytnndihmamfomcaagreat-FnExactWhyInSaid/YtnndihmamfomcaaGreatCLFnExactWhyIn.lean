/- FnExactWhyIn: for every graph and every user the law returns true; no condition. -/
import Derived.Test.YtnndihmamfomcaaGreatCGU
import Derived.Test.YtnndihmamfomcaaGreatRows
set_option autoImplicit false
set_option linter.unusedVariables false
set_option linter.unusedSimpArgs false
namespace Go.Proofs.YtnndihmamfomcaaGreat
open Go Go.Abs

structure InEvent (x : TEvent) : Prop where
 id : IntKind.i64.min ≤ x.id ∧ x.id ≤ IntKind.i64.max
 room : IntKind.i64.min ≤ x.room ∧ x.room ≤ IntKind.i64.max
 author : IntKind.i64.min ≤ x.author ∧ x.author ≤ IntKind.i64.max
 kind : IntKind.i64.min ≤ x.kind ∧ x.kind ≤ IntKind.i64.max
 key : IntKind.i64.min ≤ x.key ∧ x.key ≤ IntKind.i64.max
 n : IntKind.i64.min ≤ x.n ∧ x.n ≤ IntKind.i64.max
 text : x.text.size ≤ maxLen
 prev : x.prev.length ≤ maxLen ∧ ∀ y ∈ x.prev, (IntKind.i64.min ≤ y ∧ y ≤ IntKind.i64.max)
 time : IntKind.i64.min ≤ x.time ∧ x.time ≤ IntKind.i64.max
structure InGraph (x : TGraph) : Prop where
 room : IntKind.i64.min ≤ x.room ∧ x.room ≤ IntKind.i64.max
 events : x.events.length ≤ maxLen ∧ ∀ y ∈ x.events, InEvent y
 parked : x.parked.length ≤ maxLen ∧ ∀ y ∈ x.parked, InEvent y


theorem in_event {e : TEvent} (h : InEvent e) : EvIn e := ⟨h.text, h.prev.1⟩
theorem in_graph {g : TGraph} (h : InGraph g) : GIn g := ⟨h.events.1, h.parked.1, fun e he => in_event (h.events.2 e he), fun e he => in_event (h.parked.2 e he)⟩

theorem currentOf_spec {g : TGraph'} {h : THistory} {w : TL06Known} (hg : Z43 g = some true) (hw : Z6s g = some w) (hb : Both g h w) (hr : Right g) : Z8n g = some (nowOf h) := by
 have hlc := hb.lc
 have hfl := hr.fits.len
 unfold Z8n
 rw [hg, Option.bind_some, cond_true, hw, Option.bind_some]
 unfold Zb6
 rw [chk_t (decide_eq_true ⟨by omega, by omega⟩), Option.bind_some, Int.toNat_natCast, loop_taken (w := w) (step := fun z : List Bool × Int => Z74 w z.1 z.2) (by omega) (fun _ _ => rfl), taken_code hb hr, Option.bind_some]
 simp only [Z9k, Option.bind_some]
 unfold Zb5
 have hr' : Right h.graph := hb.graph ▸ hr
 have e1 := c_ends_spec hr'
 rw [hb.graph] at e1
 obtain ⟨n1, n2⟩ := now_spec hb hr (step := fun z : List (List TEntry) × Int => Z6w g w (endsI h) z.1 z.2) (fun _ _ => rfl)
 rw [e1, Option.bind_some, n1, Option.bind_some]
 simp only [Z98]
 rw [n2]; rfl

theorem whyIn_same {g : TGraph'} (hg : Fine g) (u : Int) : ∃ r, Z8q g u = some r ∧ Z7e g u = some r := by
 obtain ⟨b, b1, b2, b3⟩ := right_both hg
 unfold Z8q Z7e
 rw [b1, b2, Option.bind_some, Option.bind_some, c_l02User, c_isUser, Option.bind_some, Option.bind_some]
 have hno : ∀ x : Bool, x = true → Z47 g u x = some 0 := fun x hx => by subst hx; rfl
 have hno2 : ∀ x : Bool, x = true → Z3a g u x = some 0 := fun x hx => by subst hx; rfl
 cases b with
 | false => exact ⟨0, hno _ rfl, hno2 _ rfl⟩
 | true =>
  simp only [cond_true]
  by_cases hu : 1 ≤ u ∧ u ≤ 6
  ·
   rw [decide_eq_true hu]
   have hr := (b3.1 rfl).right
   obtain ⟨h, w, h1, h2, hb⟩ := history_both hr
   obtain ⟨n1, n2⟩ := now_impl hb hr
   have hsl := (hr.sts n2).sl
   simp only [Bool.not_true, Z47, Z3a, cond_false]
   rw [currentOf_spec b1 h2 hb hr, h1, Option.bind_some, Option.bind_some, n1, Option.bind_some, c_l04At _ _ _ (by omega), c_idAt _ _ n2.up (by omega)]
   exact ⟨_, rfl, rfl⟩
  ·
   rw [decide_eq_false hu]
   exact ⟨0, hno _ rfl, hno2 _ rfl⟩

theorem whyIn_true (g : TGraph) (u : Int) (hg : InGraph g) (_ : IntKind.i64.min ≤ u ∧ u ≤ IntKind.i64.max) : Z9y g u = some true := by
 unfold Z9y
 obtain ⟨z, z1, z2⟩ := c_szGraph g 1048576 (in_graph hg) (by omega) (by omega)
 rw [z1, Option.bind_some]
 rcases z2 with ⟨z2, _, he, hp⟩ | rfl
 ·
  rw [decide_eq_false (by omega), cond_false]
  obtain ⟨r, s1, i1⟩ := whyIn_same (toG_fine he hp) u
  simp only [c_toGraph g he hp, s1, i1, c_eqGraph (toG g) he hp, bned, Option.bind_some, cond_true, cond_false, decide_true, Bool.not_true]
 ·
  rfl
theorem opens_112 : Opens Tryz.prog 112 kEvent InEvent :=
 Opens.map (fun g => TEvent.mk g.1 g.2.1 g.2.2.1 g.2.2.2.1 g.2.2.2.2.1 g.2.2.2.2.2.1 g.2.2.2.2.2.2.1 g.2.2.2.2.2.2.2.1 g.2.2.2.2.2.2.2.2.1) (Opens.struct (t := 112) (fs := #[_, _, _, _, _, _, _, _, _]) (by kernel_rfl) (OpensFs.cons (f := Field.mk "Id" 2 0 false "" "" 0) (off := 0) (sz := 1) rfl (by kernel_rfl) (Opens.int (t := 2) (kd := .i64) (by kernel_rfl))
  (OpensFs.cons (f := Field.mk "Room" 2 1 false "" "" 8) (off := 1) (sz := 1) rfl (by kernel_rfl) (Opens.int (t := 2) (kd := .i64) (by kernel_rfl))
  (OpensFs.cons (f := Field.mk "Author" 2 2 false "" "" 16) (off := 2) (sz := 1) rfl (by kernel_rfl) (Opens.int (t := 2) (kd := .i64) (by kernel_rfl))
  (OpensFs.cons (f := Field.mk "Kind" 2 3 false "" "" 24) (off := 3) (sz := 1) rfl (by kernel_rfl) (Opens.int (t := 2) (kd := .i64) (by kernel_rfl))
  (OpensFs.cons (f := Field.mk "Key" 2 4 false "" "" 32) (off := 4) (sz := 1) rfl (by kernel_rfl) (Opens.int (t := 2) (kd := .i64) (by kernel_rfl))
  (OpensFs.cons (f := Field.mk "N" 2 5 false "" "" 40) (off := 5) (sz := 1) rfl (by kernel_rfl) (Opens.int (t := 2) (kd := .i64) (by kernel_rfl))
  (OpensFs.cons (f := Field.mk "Text" 9 6 false "" "" 48) (off := 6) (sz := 1) rfl (by kernel_rfl) (Opens.string (t := 9) (by kernel_rfl))
  (OpensFs.cons (f := Field.mk "Prev" 26 7 false "" "" 64) (off := 7) (sz := 1) rfl (by kernel_rfl) (Opens.slice (t := 26) (sz := 1) (k := kI64) (by kernel_rfl) (Opens.int (t := 2) (kd := .i64) (by kernel_rfl)) (by kernel_rfl) (by decide))
  (OpensFs.cons (f := Field.mk "Time" 2 8 false "" "" 88) (off := 8) (sz := 1) rfl (by kernel_rfl) (Opens.int (t := 2) (kd := .i64) (by kernel_rfl)) OpensFs.nil))))))))) (by kernel_rfl)) (fun _ => rfl) (fun g h => ⟨h.1, h.2.1, h.2.2.1, h.2.2.2.1, h.2.2.2.2.1, h.2.2.2.2.2.1, h.2.2.2.2.2.2.1, h.2.2.2.2.2.2.2.1, h.2.2.2.2.2.2.2.2.1⟩)
def kGraph (x : TGraph) : List C := [C.int x.room, C.im kEvent 9 x.events, C.im kEvent 9 x.parked]
theorem opens_24 : Opens Tryz.prog 24 kGraph InGraph :=
 Opens.map (fun g => TGraph.mk g.1 g.2.1 g.2.2.1) (Opens.struct (t := 24) (fs := #[_, _, _]) (by kernel_rfl) (OpensFs.cons (f := Field.mk "Room" 2 0 false "" "" 0) (off := 0) (sz := 1) rfl (by kernel_rfl) (Opens.int (t := 2) (kd := .i64) (by kernel_rfl))
  (OpensFs.cons (f := Field.mk "Events" 22 1 false "" "" 8) (off := 1) (sz := 1) rfl (by kernel_rfl) (Opens.slice (t := 22) (sz := 9) (k := kEvent) (by kernel_rfl) opens_112 (by kernel_rfl) (by decide))
  (OpensFs.cons (f := Field.mk "Parked" 22 2 false "" "" 32) (off := 2) (sz := 1) rfl (by kernel_rfl) (Opens.slice (t := 22) (sz := 9) (k := kEvent) (by kernel_rfl) opens_112 (by kernel_rfl) (by decide)) OpensFs.nil))) (by kernel_rfl)) (fun _ => rfl) (fun g h => ⟨h.1, h.2.1, h.2.2.1⟩)

set_option maxRecDepth 100000 in
theorem fnExactWhyIn_lifted (os : Os) (started : os.Started) (H : Type) (enc : TypeId × Value → H) :
  ReturnsInHanded {} Tryz.checked os 6 .any (Rows.fnExactWhyInSpec.pre6 enc Tryz.prog Tryz.f6 Rows.fnExactWhyInRow.domain false) (Rows.fnExactWhyInSpec.post enc Tryz.prog Tryz.f6 false true false false) :=
 law_lifted (C := Tryz.checked) (ts := [24, 2]) (tb := 4) (by kernel_rfl) started (by kernel_rfl) Tryz.func6
  (ChangeSpec.witness6 (enc := enc) (C := Tryz.checked) false ⟨#[], #[.agg #[.int .i64 0, .slice none 0 0, .slice none 0 0], .int .i64 0], []⟩ 8 (by kernel_rfl) (by kernel_rfl) (by kernel_rfl) (by kernel_rfl))
  (by kernel_rfl) rfl (by kernel_rfl) rfl (by kernel_rfl) rfl (fun ds h => match ds, h with | [_, _], _ => rfl)
  (OpensAll.consA (t := 24) (fs := #[Field.mk "Room" 2 0 false "" "" 0, Field.mk "Events" 22 1 false "" "" 8, Field.mk "Parked" 22 2 false "" "" 32]) (by kernel_rfl) opens_24 (OpensAll.cons (t := 2) (d := .int .i64) (by kernel_rfl) rfl (Opens.int (t := 2) (kd := .i64) (by kernel_rfl)) OpensAll.nil))
  (fun g hg => Zd8 g.1 g.2.1 true (whyIn_true g.1 g.2.1 hg.1 hg.2.1))

theorem fnExactWhyIn_holds : Rows.FnExactWhyInSaid :=
 OpenClaim.holds_of_wide 6 Tryz.f6 rfl rfl rfl rfl rfl rfl rfl ⟨rfl, rfl, rfl, rfl, rfl⟩ rfl rfl rfl rfl rfl (by kernel_rfl) Tryz.func6 (by kernel_rfl)
  (of_decide_eq_true (by kernel_rfl)) (by unfold Func.isWrapper; first | (rw [if_pos (by decide +kernel)]; kernel_rfl) | (rw [if_neg (by decide +kernel)]; exact ⟨rfl, rfl⟩))
  (fun os started H enc _ => fnExactWhyIn_lifted os started H enc)

end Go.Proofs.YtnndihmamfomcaaGreat
