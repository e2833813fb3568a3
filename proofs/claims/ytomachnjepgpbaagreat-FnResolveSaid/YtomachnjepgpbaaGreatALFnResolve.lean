/- FnResolve: the law returns true for all arguments; no condition. -/
import Derived.Test.YtomachnjepgpbaaGreatADK
import Derived.Test.YtomachnjepgpbaaGreatRows
import Derived.Test.YtomachnjepgpbaaGreatARS
set_option autoImplicit false
set_option linter.unusedVariables false
set_option linter.unusedSimpArgs false
namespace Go.Proofs.YtomachnjepgpbaaGreat
open Go Go.Abs




theorem Ymf (s : List Y9m) (hl : s.length < 1000000) : Zhr s s = some true := by
 unfold Zhr
 rw [bned, Wt rfl, Bool.not_true, Wv, Ydb (l := s) (fun _ => true) (.inl false) (.inr ()) (by omega) (fun i hi => by
  simp only [Zhq]
  rw [dlt hi, Wu, Ycv hi, Wb, Wb, Ycw hi (by omega)]
  simp) (by simp only [Zhq]; rw [dnlt, Wv])]
 rw [List.all_eq_true.2 fun _ _ => rfl]; rfl
theorem Ymg (s : List Int) (hl : s.length < 1000000) : Zjp s s = some true := by
 unfold Zjp
 rw [bned, Wt rfl, Bool.not_true, Wv, Ydb (l := s) (fun _ => true) (.inl false) (.inr ()) (by omega) (fun i hi => by
  simp only [Zjo]
  rw [dlt hi, Wu, Ycv hi, Wb, Wb, Ycw hi (by omega)]
  simp) (by simp only [Zjo]; rw [dnlt, Wv])]
 rw [List.all_eq_true.2 fun _ _ => rfl]; rfl

/-- The states in the other order, each twice. -/
theorem Ymh (r : Y9k × List (List Y9m)) (hl : r.2.length ≤ 4) : ∃ y, iter (fun z136 : List (List Y9m) × Int => Zk1 r z136.1 z136.2) big ([], IntKind.i64.wrap ((r.2.length : Int) - 1)) = some y ∧ y.length ≤ 8 ∧ ∀ s, s ∈ y ↔ s ∈ r.2 := by
 rw [Y4y (n := (r.2.length : Int) - 1) (by omega) (by omega)]
 exact Y51 (step := fun z136 : List (List Y9m) × Int => Zk1 r z136.1 z136.2) (p := fun y => y.length ≤ 8 ∧ ∀ s, s ∈ y ↔ s ∈ r.2)
  (fun n (z : List (List Y9m) × Int) => n ≤ r.2.length ∧ z.2 = (n : Int) - 1 ∧ z.1.length + 2 * n ≤ 8 ∧ ∀ s, s ∈ z.1 ↔ s ∈ r.2.drop n) (by
  rintro n ⟨y, i⟩ ⟨h1, h2, h3, h4⟩
  simp only at h2 h3 h4
  subst h2
  simp only [Zk1]
  by_cases h0 : n = 0
  ·
   subst h0
   left
   rw [Wf (by omega), Wv]
   exact ⟨_, rfl, by omega, by simpa using h4⟩
  ·
   right
   obtain ⟨m, rfl⟩ : ∃ m, n = m + 1 := ⟨n - 1, by omega⟩
   rw [Wt (by omega), Wu, show ((m + 1 : Nat) : Int) - 1 = (m : Int) by omega, Ycv (by omega : m < r.2.length), Wb, Ygl (by simp; omega), Wb, Y4y (n := (m : Int) - 1) (by omega) (by omega)]
   refine ⟨_, m, rfl, by omega, by omega, rfl, by simp; omega, fun s => ?_⟩
   rw [List.drop_eq_getElem_cons (by omega : m < r.2.length)]
   simp only [List.mem_append, List.mem_cons, List.not_mem_nil, or_false, h4, or_self]
   exact or_comm) big r.2.length ([], (r.2.length : Int) - 1) ⟨Nat.le_refl _, rfl, by simp; omega, by simp⟩ (Ycq (by omega))

theorem Ymi {α : Type} {l : List α} (h : 1 ≤ l.length) : ∃ a, getI l 0 = some a ∧ Y2d l 0 1 = some [a] ∧ a ∈ l := by
 cases l with
 | nil => simp at h
 | cons a r => exact ⟨a, rfl, by simp [Y2d]; omega, by simp⟩

theorem Ymj {r : Y9k × List (List Y9m)} (hr : Ymc r) {x : List Y9m} (hx : Zgy r.1 r.2 = some x) {y : List (List Y9m)} (hy : y.length ≤ 8) (hm : ∀ s, s ∈ y ↔ s ∈ r.2) (b : Bool) : Zjz r x y b = some true := by
 obtain ⟨h1, h2, h3⟩ := hr
 have hf := h1.fine
 cases b with
 | true => rfl
 | false =>
  simp only [Zjz, Wv]
  have he : Zgy r.1 y = some x := by
   rcases Ym6 hf (ls := r.2) (by omega) (fun s hs => by have := h3 s hs; omega) with ⟨a1, _, a3⟩ | ⟨a1, _, a3⟩ <;>
   rcases Ym6 hf (ls := y) (by omega) (fun s hs => by have := h3 s ((hm s).1 hs); omega) with ⟨b1, _, b3⟩ | ⟨b1, _, b3⟩
   ·
    rw [b3, ← hx, a3, Ylg b1.mrg a1.mrg hm]
   ·
    exact absurd ⟨a1.right, by omega, fun s hs => a1.ok s ((hm s).1 hs)⟩ b1
   ·
    exact absurd ⟨b1.right, by omega, fun s hs => b1.ok s ((hm s).2 hs)⟩ a1
   ·
    rw [b3, ← hx, a3]
  have hxl : x.length < 1000000 := by
   rcases Ym6 hf (ls := r.2) (by omega) (fun s hs => by have := h3 s hs; omega) with ⟨a1, _, a3⟩ | ⟨a1, _, a3⟩
   ·
    rw [hx] at a3
    obtain rfl := Wj a3
    obtain ⟨_, h5, hb⟩ := Ykh a1.right.right
    have hgr := hb.graph
    have hm' : Mrg (hiG r.1).graph r.2 := by rw [hgr]; exact a1.mrg
    have := (Yj1 hm' hb.depth).2.2
    rw [hgr] at this
    have h6 := this.len
    have h7 := a1.right.fits.len
    omega
   ·
    rw [hx] at a3
    obtain rfl := Wj a3
    simp
  rw [he, Wb, Ymf _ hxl, Wb, Wu]
  by_cases h0 : r.2.length = 0
  ·
   rw [beqd, Wt (by omega)]; rfl
  ·
   rw [beqd, Wf (by omega), Wv]
   obtain ⟨a, a1, a2, a3⟩ := Ymi (l := r.2) (by omega)
   rw [a2, a1]
   simp only [Wb]
   have ha := h3 a a3
   have one : ∀ w : List Y9m, Zhn r.1 [a] = some w → Zgy r.1 [a] = some w → (w = [] ∨ w = a) → w.length < 1000000 → ((Zhn r.1 [a]).bind fun r121 => (Zgy r.1 [a]).bind fun r125 => (Zhr r125 r121).bind fun r127 => cond r127 (cond ((r121.length : Int) == 0) (Zjy true) ((Zhr r121 a).bind fun r133 => Zjy r133)) (Zjy false)) = some true := by
    intro w w1 w2 w3 w4
    rw [w1, w2, Wb, Wb, Ymf w w4, Wb, Wu]
    rcases w3 with rfl | rfl
    ·
     rfl
    ·
     rw [Ymf w w4]
     cases (w.length : Int) == 0 <;> rfl
   rcases Ym6 hf (ls := [a]) (by simp) (fun s hs => by simp at hs; subst hs; omega) with ⟨c1, c2, c3⟩ | ⟨c1, c2, c3⟩
   ·
    have := Ylh c1.mrg
    rw [this] at c2 c3
    exact one a c2 c3 (.inr rfl) (by omega)
   ·
    exact one [] c2 c3 (.inl rfl) (by simp)

theorem Ymk (p q : List Int) {P Q : Prop} (_ : P) (_ : Q) : Zk6 p q = some true := by
 have over : ∀ b : Bool, (b = false → p.length ≤ 1048576 ∧ q.length ≤ 1048576) → Zk5 p q b = some true := by
  intro b hb
  cases b with
  | true => rfl
  | false =>
   obtain ⟨hp, hq⟩ := hb rfl
   simp only [Zk5, Wv]
   obtain ⟨r, r1, r2⟩ := Yme hp
   obtain ⟨h, h1, h2⟩ := Ylb hq
   obtain ⟨c, c1, c2⟩ := Ylc hq
   obtain ⟨now, n1, n2, n3⟩ := Ylr c2.fine
   obtain ⟨en, e1, e2, e3⟩ := Yls c2.fine
   have hres : ∃ x, Zhn r.1 r.2 = some x ∧ Zgy r.1 r.2 = some x ∧ x.length < 1000000 := by
    rcases Ym6 r2.1.fine (ls := r.2) (by have := r2.2.1; omega) (fun s hs => by have := r2.2.2 s hs; omega) with ⟨a1, a2, a3⟩ | ⟨a1, a2, a3⟩
    ·
     refine ⟨_, a2, a3, ?_⟩
     obtain ⟨_, h5, hb⟩ := Ykh a1.right.right
     have hgr := hb.graph
     have hm' : Mrg (hiG r.1).graph r.2 := by rw [hgr]; exact a1.mrg
     have := (Yj1 hm' hb.depth).2.2
     rw [hgr] at this
     have h6 := this.len
     have h7 := a1.right.fits.len
     omega
    ·
     exact ⟨_, a2, a3, by simp⟩
   obtain ⟨x, x1, x2, x3⟩ := hres
   obtain ⟨y, y1, y2, y3⟩ := Ymh r r2.2.1
   have last : ∀ b, b = false → Zk2 r x b = some true := fun b hb => by
    subst hb
    simp only [Zk2, Wv]
    rw [y1, Wb]
    simp only [Zk0, Zjw]
    obtain ⟨gb, g1, _⟩ := Ygg r2.1.fine
    rw [g1, Wb]
    cases gb with
    | false => exact Ymj r2 x2 y2 y3 true
    | true =>
     simp only [Wu, Zjv, Wb]
     cases decide ((r.1.events.length : Int) ≤ 30) with
     | false => exact Ymj r2 x2 y2 y3 true
     | true => exact Ymj r2 x2 y2 y3 _
   have c1' : Zh2 q = some h := by unfold Zh2; rw [h1]; rfl
   rw [r1, Wb, x2, Wb, c1', Wb]
   rcases Ylt h2.fine h.2 with ⟨_, a1, a2, a3, a4, a5, a6⟩ | ⟨e, he, hk, hid, a1, a2, a3, a4, cd, a5, a6, a7⟩
   ·
    rw [a1, a2, a3, a4, a5, a6]
    simp only [Wb]
    rw [c1, Wb, x1, Wb, Ymf _ x3, Ymf [] (by simp)]
    simp only [Wb, Wu]
    rw [n1, n2]
    simp only [Wb]
    rw [Ymf _ (by omega), e1, e2]
    simp only [Wb, Wu]
    rw [Ymg _ (by omega)]
    simp only [Wb, bned, decide_true, Bool.not_true, Wv, Zk4]
    rw [Wf (by omega), Wv]
    simp only [Zk3, Wv]
    have he : ∃ w, Zjr h.1 h.2 = some w := by
     obtain ⟨gb, g1, _, g3⟩ := Ygg h2.fine
     unfold Zjr
     rw [g1, Wb]
     cases gb with
     | false => exact ⟨_, rfl⟩
     | true =>
      have hr := (g3.1 rfl).right
      rw [Wu]
      unfold Z7e
      rw [Yds _ _ (by have := hr.fits.len; omega), Wb, Ydu]
      cases hh : hasE h.1.events h.2 with
      | false => exact ⟨_, rfl⟩
      | true =>
       obtain ⟨e, he, hid⟩ := Ydy.1 hh
       have hev : evAt h.1.events h.2 = some e := by rw [← hid]; exact hr.fits.up.evAt_mem he
       simp only [Bool.not_true, Wv]
       rw [(Yh4 hev).1, Wb, Yj6 _ (by have := (hr.ev e he).prev.1; omega)]
       exact ⟨_, rfl⟩
    obtain ⟨w, hw⟩ := he
    rw [hw, Wb, beqd, Wf (by omega), Wv]
    exact last _ rfl
   ·
    have hr := hk.right
    have hel := hr.fits.len
    have hP := (Ykm hr he).1
    have hA := Ykn hr he
    have lP := hP.len
    have lA := hA.len
    rw [hid] at hA lA
    rw [a1, a2, a3, a4, a5, a6]
    simp only [Wb]
    rw [c1, Wb, x1, Wb, Ymf _ x3, Ymf (stP h.1 e) (by omega), Ymf (stA h.1 h.2) (by omega)]
    simp only [Wb, Wu]
    rw [n1, n2]
    simp only [Wb]
    rw [Ymf _ (by omega), e1, e2]
    simp only [Wb, Wu]
    rw [Ymg _ (by omega)]
    simp only [Wb, bned, decide_true, Bool.not_true, Wv, Zk4]
    have hev : evAt h.1.events h.2 = some e := by rw [← hid]; exact hr.fits.up.evAt_mem he
    have hE : Zjr h.1 h.2 = some e := by
     obtain ⟨gb, g1, _, g3⟩ := Ygg h2.fine
     unfold Zjr
     rw [g1, g3.2 hk, Wb, Wu, Yj7 (by omega) hev (by have := (hr.ev e he).prev.1; omega)]; rfl
    have k6 : Zk3 r x h (stA h.1 h.2) cd false = some true := by
     simp only [Zk3, Wv]
     rw [hE, Wb, beqd]
     by_cases c0 : cd = 0
     ·
      rw [Wt c0, Wu]
      by_cases k6 : e.kind ≤ 6
      ·
       rw [Wt k6, Wu]
       have hok := a7.1 c0
       rw [← hid] at hok
       have top := (Yli hr he k6 hok).1
       rw [hid] at top
       unfold Zjt
       have hsr : Ylw (stA h.1 h.2) = true := by
        have := Ym8 hr he
        rw [hid] at this
        unfold stB at this
        rw [Bool.and_eq_true] at this
        exact this.1
       rw [(Ym0 _ (by omega)).2, hsr, Wb, Wu, Ygx _ _ hA.up (by omega), Wb, Wb, top, bned, Wt rfl]
       exact last _ rfl
      ·
       rw [Wf k6, Wv]
       exact last _ rfl
     ·
      rw [Wf c0, Wv]
      exact last _ rfl
    by_cases c0 : cd > 0
    ·
     rw [Wt c0, Wu]
     have hno : okB h.1 h.2 = false := by
      rw [Bool.eq_false_iff]
      intro hh
      have := a7.2 hh
      omega
     rw [← hid] at hno
     have := Ylj hr he hno
     rw [hid] at this
     rw [this, Ymf _ (by omega), Wb]
     rw [this] at k6
     exact k6
    ·
     rw [Wf c0, Wv]
     exact k6
 unfold Zk6
 by_cases hp : p.length ≤ 1048576
 ·
  rw [Wf (by omega), Wv]
  exact over _ fun hb => ⟨hp, by have := of_decide_eq_false hb; omega⟩
 ·
  rw [Wt (by omega), Wu]
  exact over true (by simp)


set_option maxRecDepth 100000 in
theorem Yml (os : Os) (started : os.Started) (H : Type) (enc : TypeId × Value → H) :
  ReturnsInHanded {} Tryz.checked os 3 .any (Rows.fnResolveSpec.pre6 enc Tryz.prog Tryz.f3 Rows.fnResolveRow.domain false) (Rows.fnResolveSpec.post enc Tryz.prog Tryz.f3 false true false false) :=
 Y4x (C := Tryz.checked) (ts := [22, 22]) (tb := 4) rowA started rowB Tryz.func3
  (rowW os H enc)
  rowC rfl rowD rfl rowE rfl (fun ds h => match ds, h with | [_, _], _ => rfl)
  (Y4r.cons (t := 22) (d := .slice 5) (by kernel_rfl) rfl (Y4n.slice (t := 22) (sz := 1) (k := kU8) (by kernel_rfl) (Y4n.int (t := 5) (kd := .u8) (by kernel_rfl)) (by kernel_rfl) (by decide)) (Y4r.cons (t := 22) (d := .slice 5) (by kernel_rfl) rfl (Y4n.slice (t := 22) (sz := 1) (k := kU8) (by kernel_rfl) (Y4n.int (t := 5) (kd := .u8) (by kernel_rfl)) (by kernel_rfl) (by decide)) Y4r.nil))
  (fun g hg => (Zk7 g.1 g.2.1).h true (Ymk g.1 g.2.1 hg.1 hg.2.1)) (fun _ _ _ h => h.elim)
theorem fnResolve_holds : Rows.FnResolveSaid :=
 rowS fun os started H enc => Yml os started H enc

end Go.Proofs.YtomachnjepgpbaaGreat
