/- FnBlame: the law returns true for all arguments; no condition. -/
import Derived.Test.YtomachnjepgpbaaGreatENB
import Derived.Test.YtomachnjepgpbaaGreatRows
import Derived.Test.YtomachnjepgpbaaGreatERS
set_option autoImplicit false
set_option linter.unusedVariables false
set_option linter.unusedSimpArgs false
namespace Go.Proofs.YtomachnjepgpbaaGreat
open Go Go.Abs




/-- What was done is not refused, by others, to the one. -/
theorem Ymm {r : Y9k × Int} (hf : Fine r.1) {l : List Int} (hl : l.length ≤ 60) (h : ∀ a ∈ l, GOk r.1 ∧ ∃ e ∈ r.1.events, e.id = a ∧ Ykq r.2 e = true ∧ okB r.1 a = true) : iter (Zjk r l) big 0 = some (.inr ()) := by
 rw [Ydc (l := l) (fun _ => true) (.inl false) (.inr ()) (by omega) (fun i hi => by
  obtain ⟨hk, e, he, hid, hA, hO⟩ := h _ (Wm hi)
  have hE := Ykx hk hf he
  rw [hid] at hE
  unfold Ykq at hA
  simp only [Bool.and_eq_true, Bool.not_eq_true', decide_eq_true_eq, decide_eq_false_iff_not] at hA
  simp only [Zjk]
  rw [dlt hi, Wu, Ycw hi, Wb, hE, Wb]
  simp only [Zjj]
  rw [beqd, Wf hA.1, Wv, bned, Wt hA.2.2, Bool.not_true, Wv, Ycw hi, Wb]
  rcases Ykh hf l[i] with ⟨hn, _⟩ | ⟨_, _, _, _, _, _, c, c1, c2⟩
  ·
   exact absurd ⟨hk, Ydz.2 ⟨e, he, hid⟩⟩ hn
  ·
   rw [c1, Wb, c2.2 hO]
   simp only [Zji, bne_self_eq_false, Wv]
   rw [Ycx hi (by omega)]; rfl) (by simp only [Zjk]; rw [dnlt, Wv])]
 rw [List.all_eq_true.2 fun _ _ => rfl]; rfl

/-- What would take back what gave one might. -/
theorem Ymn {r : Y9k × Int} (hf : Fine r.1) {x : Y9o} (hx : x.code = 0 → GOk r.1 ∧ ∃ e ∈ r.1.events, e.id = r.2 ∧ x.event.kind = e.kind ∧ x.event.key = e.key ∧ (e.kind = 2 ∨ (e.kind = 3 ∧ x.event.n = lvl r.1.events (stP r.1 e) e.key))) :
  Zjg r x.event.room x.event.author x.event.kind x.event.key x.event.n x.event.text x.event.time x.code false = some true := by
 simp only [Zjg, Wv]
 by_cases h0 : x.code = 0
 ·
  rw [bned, Wt h0, Bool.not_true, Wv]
  obtain ⟨hk, e, he, hid, hkd, hky, hn⟩ := hx h0
  obtain ⟨y, y1, y2⟩ := Ym7 hf ⟨1000000, x.event.room, x.event.author, x.event.kind, x.event.key, x.event.n, x.event.text, [r.2], x.event.time⟩
  rw [y1, Wb]
  by_cases c0 : y.code = 0
  ·
   rw [bned, Wt c0, Bool.not_true, Wv]
   obtain ⟨_, hev, _, hy, hko⟩ := y2 c0
   generalize hE : (⟨1000000, x.event.room, x.event.author, x.event.kind, x.event.key, x.event.n, x.event.text, [r.2], x.event.time⟩ : Y9j) = ev at hev hy
   have i1 : ev.id = 1000000 := by rw [← hE]
   have i2 : ev.kind = x.event.kind := by rw [← hE]
   have i3 : ev.key = x.event.key := by rw [← hE]
   have i4 : ev.n = x.event.n := by rw [← hE]
   have hgf : Fine y.graph := hko.smG.fine
   rcases Ykh hgf 1000000 with ⟨_, _, _, c1⟩ | ⟨f, hfm, _, hfi, _, b1, c, c1, c2⟩
   ·
    rw [c1, Wb]; rfl
   ·
    rw [c1, Wb]
    by_cases z0 : c = 0
    ·
     rw [bned, Wt z0, Bool.not_true]
     simp only [Zjf, Wv]
     rw [b1, Wb]
     have hok := c2.1 z0
     have hrr := hko.right
     have hm : ev ∈ y.graph.events := by
      rw [hy] at c0 ⊢
      refine Ymj c0 ?_
      rw [← hy, i1]
      exact Ydz.2 ⟨f, hfm, hfi⟩
     rw [← i1] at hok
     have hSA := Yju hrr hm
     have hSB := Ykj hrr hm
     rw [i1] at hSA hSB
     have hu := hev.user (by rcases hn with h | h; exact .inl (by rw [i2, hkd, h]); exact .inr (by rw [i2, hkd, h.1]))
     rw [i3] at hu
     rcases hn with h2 | ⟨h3, h4⟩
     ·
      rw [beqd, Wt (by rw [hkd, h2]), Wu, Ymk hko hgf hSA hSB hu, Wb]
      have := Yk0 hrr hm (by rw [i2, hkd, h2]) hok
      rw [i1, i3, i4] at this
      rw [this, beq_self_eq_true]
     ·
      rw [beqd, Wf (by rw [hkd, h3]; omega), Wv, Yml hko hgf hSA hSB hu, Wb]
      have := Yk1 hrr hm (by rw [i2, hkd, h3]) hok
      rw [i1, i3, i4] at this
      rcases Ykh hf r.2 with ⟨hno, _⟩ | ⟨f2, hf2, _, hfi2, a1, _⟩
      ·
       exact absurd ⟨hk, Ydz.2 ⟨e, he, hid⟩⟩ hno
      ·
       have hr := hk.right
       have hfe : f2 = e := by
        have q1 := hr.fits.up.evAt_mem hf2
        have q2 := hr.fits.up.evAt_mem he
        rw [hfi2] at q1
        rw [hid] at q2
        rw [q1] at q2
        exact Wj q2
       subst hfe
       rw [a1, Wb, Yml hk hf (Yjt hr hf2).1 (Ykk hr hf2) hu, Wb, this, h4, hky, beq_self_eq_true]
    ·
     rw [bned, Wf z0]; rfl
  ·
   rw [bned, Wf c0]; rfl
 ·
  rw [bned, Wf h0]; rfl

theorem Ymo (p q : List Int) {P Q : Prop} (_ : P) (_ : Q) : Zjo p q = some true := by
 have over : ∀ b : Bool, (b = false → p.length ≤ 1048576 ∧ q.length ≤ 1048576) → Zjn p q b = some true := by
  intro b hb
  cases b with
  | true => rfl
  | false =>
   obtain ⟨hp, hq⟩ := hb rfl
   simp only [Zjn, Wv]
   obtain ⟨r, r1, r2, _⟩ := Ymg hp
   obtain ⟨h, h1, h2⟩ := Ymh hq
   obtain ⟨acts, a1, a2, a3, a4⟩ := Ykr r2.fine r.2
   obtain ⟨why, w1, w2, w3⟩ := Ykv r2.fine r.2
   obtain ⟨lad, l1, l2, l3⟩ := Yks r2.fine r.2
   obtain ⟨x, x1, x2, x3, x4⟩ := Ykt h2.fine h.2
   rw [r1, Wb, a2, Wb, w2, Wb, h1, Wb, x2, x1, Wb, Wb]
   simp only [Zjm]
   rw [a1, Wb, Ykw _ (by omega), Wb, Wu, w1, Wb, bned, Wt rfl, Bool.not_true, Wv, l2, l1, Wb, Wb, Ykw _ (by omega), Wb, Wu, bned, Wt rfl, Bool.not_true, Wv]
   have hle := Yky x.event (by rw [x3]; simp)
   have he : (⟨x.event.id, x.event.room, x.event.author, x.event.kind, x.event.key, x.event.n, x.event.text, x.event.prev, x.event.time⟩ : Y9j) = x.event := rfl
   rw [he, hle, Wb]
   simp only [Zjl, Bool.not_true, Wv]
   rw [Ymm r2.fine a3 a4, Wb]
   show Zjh _ _ _ _ _ _ _ _ _ _ _ = _
   simp only [Zjh]
   have fin := Ymn h2.fine x4
   by_cases hw : why = 0
   ·
    rw [bned, Wt hw, Bool.not_true, Wv]
    exact fin
   ·
    rw [bned, Wf hw, Bool.not_false, Wu]
    obtain ⟨hk, e, he, hid, k2, ku⟩ := w3 hw
    have hE := Ykx hk r2.fine he
    rw [hid] at hE
    rw [hE]
    simp only [Wb]
    rw [bned, Wt k2, Bool.not_true, Wv, bned, Wt ku]
    exact fin
 unfold Zjo
 by_cases hp : p.length ≤ 1048576
 ·
  rw [Wf (by omega), Wv]
  exact over _ fun hb => ⟨hp, by have := of_decide_eq_false hb; omega⟩
 ·
  rw [Wt (by omega), Wu]
  exact over true (by simp)


set_option maxRecDepth 100000 in
theorem Ymp (os : Os) (started : os.Started) (H : Type) (enc : TypeId × Value → H) :
  ReturnsInHanded {} Tryz.checked os 4 .any (Rows.fnBlameSpec.pre6 enc Tryz.prog Tryz.f4 Rows.fnBlameRow.domain false) (Rows.fnBlameSpec.post enc Tryz.prog Tryz.f4 false true false false) :=
 Y4x (C := Tryz.checked) (ts := [22, 22]) (tb := 4) rowA started rowB Tryz.func4
  (rowW os H enc)
  rowC rfl rowD rfl rowE rfl (fun ds h => match ds, h with | [_, _], _ => rfl)
  (Y4r.cons (t := 22) (d := .slice 5) (by kernel_rfl) rfl (Y4n.slice (t := 22) (sz := 1) (k := kU8) (by kernel_rfl) (Y4n.int (t := 5) (kd := .u8) (by kernel_rfl)) (by kernel_rfl) (by decide)) (Y4r.cons (t := 22) (d := .slice 5) (by kernel_rfl) rfl (Y4n.slice (t := 22) (sz := 1) (k := kU8) (by kernel_rfl) (Y4n.int (t := 5) (kd := .u8) (by kernel_rfl)) (by kernel_rfl) (by decide)) Y4r.nil))
  (fun g hg => (Zjp g.1 g.2.1).h true (Ymo g.1 g.2.1 hg.1 hg.2.1)) (fun _ _ _ h => h.elim)
theorem fnBlame_holds : Rows.FnBlameSaid :=
 rowS fun os started H enc => Ymp os started H enc

end Go.Proofs.YtomachnjepgpbaaGreat
