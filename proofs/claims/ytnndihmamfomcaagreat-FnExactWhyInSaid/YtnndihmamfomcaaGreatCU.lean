/- Parts of owned slices: x[l:], x[:h]; their length, elements, clear, append. -/
import Derived.Test.YtnndihmamfomcaaGreatCS
set_option autoImplicit false
set_option linter.unusedVariables false
set_option linter.unusedSimpArgs false
namespace Go.Abs
open Go

def dropV (v : Value) (sz l : Nat) : Value :=
 match v with
 | .slice A n cap => .slice (if cap = l then A else A.map (·.add (l * sz))) (n - l) (cap - l)
 | _ => undef
def takeV (v : Value) (h : Nat) : Value :=
 match v with
 | .slice A _ cap => .slice A h cap
 | _ => undef

section
variable {P : Program} {n : Nat} {X : Ctx} {a : Act} {w : World} {F G : BSet} {es : Env} {ps : List Obj} {α : Type} {k : α → List C} {sz : Nat}
variable {d ty : Nat} {pos : String} {af : Array Edge} {gd : Option (Nat × Bool)}

theorem arr_val {E : Nat} {v : Value} {xs : List α} {G1 : BSet} (h : (Obj.arr v E k sz xs).rep w F G1) : ∃ A cap, v = .slice A xs.length cap ∧ xs.length ≤ cap ∧ (A = none → xs = []) := by
 obtain ⟨⟨vs, hrow, _⟩, _⟩ := h
 rcases hrow.2 with ⟨rfl, h0⟩ | ⟨g, cap, cur, rfl, _, _, hnc, _⟩
 ·
  have : xs = [] := List.eq_nil_of_length_eq_zero h0
  subst this
  exact ⟨none, 0, rfl, Nat.le_refl _, fun _ => rfl⟩
 ·
  exact ⟨_, cap, rfl, hnc, fun h => by cases h⟩

theorem op_slice_arr_l {T E E' by' p l : Nat} {x y : Operand} {q : IntKind} {v : Value} {xs : List α} {li : Int} (hT : slInfo P T = some (E', sz, by')) (hx : ev es x = some (.val v)) (hp : pick p ps = some (.arr v E k sz xs)) (hy : ev es y = some (.val (.int q li))) (h0 : 0 ≤ li ∧ li ≤ xs.length) (hl : l = li.toNat) (hn : Nat.blt d n = true) :
  VOp false P n es ps ⟨some d, .slice T x (some y) none none, ty, pos, af, gd⟩ d (.val (dropV v sz l)) :=
 VOp.mk rfl hn fun a w F Gp hs ho => by
  obtain ⟨G1, hrep, _⟩ := ho.pick hp
  obtain ⟨A, cap, rfl, hc, _⟩ := arr_val hrep
  obtain ⟨m, rfl⟩ := Int.eq_ofNat_of_zero_le h0.1
  rw [Int.toNat_natCast] at hl
  subst hl
  refine ⟨_, fun w2 _ => ?_, rfl⟩
  have hr := run_slice (P := P) (w := w2) (A := A) (len := xs.length) (cap := cap) hT (lo := some (.int q l)) (hi := none) (l := l) (h := xs.length) (.inr ⟨q, rfl⟩) (.inl ⟨rfl, rfl⟩) (by omega) (Nat.le_refl _) hc
  simp only [execOp, hs.val hx, Option.map_some, hs.val hy, Option.map_none, dropV]
  simp [hr]

theorem op_slice_arr_h {T E E' by' p l : Nat} {x y : Operand} {q : IntKind} {v : Value} {xs : List α} {li : Int} (hT : slInfo P T = some (E', sz, by')) (hx : ev es x = some (.val v)) (hp : pick p ps = some (.arr v E k sz xs)) (hy : ev es y = some (.val (.int q li))) (h0 : 0 ≤ li ∧ li ≤ xs.length) (hl : l = li.toNat) (hn : Nat.blt d n = true) :
  VOp false P n es ps ⟨some d, .slice T x none (some y) none, ty, pos, af, gd⟩ d (.val (takeV v l)) :=
 VOp.mk rfl hn fun a w F Gp hs ho => by
  obtain ⟨G1, hrep, _⟩ := ho.pick hp
  obtain ⟨A, cap, rfl, hc, hA⟩ := arr_val hrep
  obtain ⟨m, rfl⟩ := Int.eq_ofNat_of_zero_le h0.1
  rw [Int.toNat_natCast] at hl
  subst hl
  refine ⟨takeV (.slice A xs.length cap) l, fun w2 _ => ?_, rfl⟩
  simp only [execOp, hs.val hx, Option.map_some, hs.val hy, Option.map_none, takeV]
  have hr := run_slice (P := P) (w := w2) (A := A) (len := xs.length) (cap := cap) hT (lo := none) (hi := some (.int q l)) (l := 0) (h := l) (.inl ⟨rfl, rfl⟩) (.inr ⟨q, rfl⟩) (Nat.zero_le _) (by omega) hc
  have e : (if cap = 0 then A else A.map (·.add (0 * sz))) = A := by
   split
   ·
    rfl
   ·
    cases A <;> simp [Addr.add]
  rw [e] at hr
  simp only [Nat.sub_zero] at hr
  simp [hr]

theorem op_len_dropV {T E E' sz' by' p l : Nat} {x : Operand} {v : Value} {xs : List α} (hT : slInfo P T = some (E', sz', by')) (hx : ev es x = some (.val (dropV v sz l))) (hp : pick p ps = some (.arr v E k sz xs)) (hl : l ≤ xs.length) (hn : Nat.blt d n = true) :
  VOp false P n es ps ⟨some d, .call ⟨.builtin .len, #[x], #[T]⟩, ty, pos, af, gd⟩ d (.int ((xs.drop l).length : Nat)) :=
 VOp.mk rfl hn fun a w F Gp hs ho => by
  obtain ⟨G1, hrep, _⟩ := ho.pick hp
  obtain ⟨A, cap, rfl, hc, hA⟩ := arr_val hrep
  refine ⟨_, fun w2 _ => ?_, rfl⟩
  simp [execOp, resolve, invoke, builtin, hs.val hx, dropV, Builtin.len_, run_underlying (slInfo_under hT).1, goInt]

theorem op_indexAddr_dropV {T E E' by' p l : Nat} {x y : Operand} {v : Value} {xs : List α} {e : α} {i : Int} {q : IntKind} (hT : slInfo P T = some (E, sz, by')) (hx : ev es x = some (.val (dropV v sz l))) (hp : pick p ps = some (.arr v E' k sz xs)) (hy : ev es y = some (.val (.int q i)))
  (hi : getI (xs.drop l) i = some e) (hn : Nat.blt d n = true) :
  VOp false P n es ps ⟨some d, .indexAddr T x y, ty, pos, af, gd⟩ d (.val (elemPtr v (l + i.toNat) sz 0)) :=
 VOp.mk rfl hn fun a w F Gp hs ho => by
  obtain ⟨h0, h1, h2⟩ := getI_lt hi
  rw [List.length_drop] at h1
  obtain ⟨G1, hrep, _⟩ := ho.pick hp
  obtain ⟨b, cap, rfl⟩ := arr_form hrep (fun e => by rw [e] at h2; simp at h2)
  obtain ⟨A, cap', e, hc, _⟩ := arr_val hrep
  cases e
  obtain ⟨hu, inf, hinf, hsz, _⟩ := slInfo_under hT
  have hne : ¬ cap = l := by omega
  refine ⟨_, fun w2 _ => ?_, rfl⟩
  simp only [execOp, hs.val hx, hs.val hy, elemPtr_eq, dropV, if_neg hne, Option.map_some]
  have hlt : i.toNat < xs.length - l := by omega
  simp [Instr.indexAt, asIntOf, run_underlying hu, h0, show i < ((xs.length - l : Nat) : Int) by omega, run_sizeOf' hinf, hsz, addr_add, Nat.add_mul]

theorem drop_get {xs : List α} {l : Nat} {i : Int} {e : α} (h : getI (xs.drop l) i = some e) : xs[l + i.toNat]? = some e := by
 have := (getI_lt h).2.2
 rwa [List.getElem?_drop] at this

theorem Int.le_toNat_len {i : Int} {xs : List α} {u : Unit} (h : chk (decide (0 ≤ i ∧ i ≤ (xs.length : Int))) = some u) : i.toNat ≤ xs.length := by
 have := of_decide_eq_true (chk_some h)
 omega

theorem Ghost.prefix {e : Env} {o r : List Obj} {p E h : Nat} {v : Value} {xs : List α} (hp : picks [p] o = some ([.arr v E k sz xs], r)) (hh : h ≤ xs.length) : Ghost n X ⟨e, o⟩ ⟨e, .arr (takeV v h) E k sz (xs.take h) :: r⟩ := by
 rintro a w ⟨F, G, hs⟩
 obtain ⟨G1, G2, hi, hd, h1, h2⟩ := Own.append.1 (hs.own.perm (picks_perm hp))
 refine ⟨F, G, ⟨hs.env, (Own.append (os := [_]).2 ⟨G1, G2, fun _ => Iff.rfl, hd, Own.of_one ?_, h2⟩ : Own w F _ _).congr fun b => (hi b).symm, hs.fin, hs.gin, hs.sub, hs.chg, hs.size, hs.defs⟩⟩
 obtain ⟨⟨vs, ⟨hl, hrow⟩, hf⟩, hG⟩ := h1.only
 have hft : Flat w F k sz (xs.take h) (vs.take (h * sz)) := by
  have := (FlatO.of_flat hf).take h
  rw [← List.map_take] at this
  exact this.flat
 have htl : (xs.take h).length = h := by simp; omega
 rcases hrow with ⟨rfl, h0⟩ | ⟨g, cap, cur, rfl, hbg, hb, hnc, hcm, hcs, htake⟩
 ·
  obtain rfl : xs = [] := List.eq_nil_of_length_eq_zero h0
  obtain rfl : h = 0 := by simpa using hh
  exact ⟨⟨[], World.ownsRow_nil w 0 E sz, by simp [Flat]⟩, fun b => by rw [hG b]; rfl⟩
 ·
  refine ⟨⟨vs.take (h * sz), ⟨by rw [hft.length], .inr ⟨g, cap, cur, by rw [htl]; rfl, hbg, hb, by omega, hcm, hcs, ?_⟩⟩, hft⟩, fun b => by rw [hG b]; rfl⟩
  rw [htl, ← htake, List.take_take, Nat.min_eq_left (Nat.mul_le_mul_right _ hh)]

theorem HOp.ofN {o : Oper} {T : Env → List Obj → Prop} (hd : o.dst = none)
  (H : ∀ a w F G1, EnvRep w F es a → Own w F ps G1 → Fit w F G1 → ∃ v w' F' G1' qs, (execOp a.eval o).run P w = .ok (.value v) w' ∧ Turn w F G1 w' F' G1' qs ∧ T es qs) : HOp P n o es ps T := by
 intro a w F G1 hs ho hf hsz Kc Q hK
 obtain ⟨v, w', F', G1', qs, hr, ht, hT⟩ := H a w F G1 hs ho hf
 unfold Oper.wp
 rw [hr]
 show Kc (a.put o.dst v) w'
 refine hK v w' _ qs F' G1' ht hT ?_
 rw [hd]
 exact hs.mono (ht.same hf)

theorem own_raw {b E cap : Nat} {xs : List α} {G1 : BSet} (h : Own w F [.arr (.slice (some ⟨b, 0, none⟩) xs.length cap) E k sz xs] G1) : Own w F [.raw b E k sz (xs.map some ++ List.replicate (cap - xs.length) none)] G1 := by
 refine Own.of_one ?_
 obtain ⟨⟨vs, ⟨hl, hrow⟩, hf⟩, hG⟩ := h.only
 rcases hrow with ⟨hv, _⟩ | ⟨g, cap', cur, hv, _, hb, hnc, hcm, hcs, htake⟩
 ·
  cases hv
 ·
  cases hv
  refine ⟨fun b' => by rw [hG b']; simp [Value.ownBlock]; exact eq_comm, cur.toList, by simpa using hb, ?_⟩
  rw [← List.take_append_drop (xs.length * sz) cur.toList, htake]
  refine (FlatO.of_flat hf).append (FlatO.none ?_)
  rw [List.length_drop, Array.length_toList, hcs, Nat.sub_mul]

theorem own_arr {b E m : Nat} {ys : List (Option α)} {xs : List α} {G1 : BSet} (h : Own w F [.raw b E k sz ys] G1) (hx : ys.take m = xs.map some) (hm : m ≤ ys.length) (hmax : ys.length ≤ maxLen) : Own w F [.arr (.slice (some ⟨b, 0, none⟩) m ys.length) E k sz xs] G1 := by
 refine Own.of_one ?_
 obtain ⟨hG, vs, hb, hf⟩ := h.only
 have hxl : xs.length = m := by
  have := congrArg List.length hx
  simp at this; omega
 subst hxl
 have hfl : Flat w F k sz xs (vs.take (xs.length * sz)) := FlatO.flat (hx ▸ hf.take xs.length)
 exact ⟨⟨vs.take (xs.length * sz), ⟨hfl.length, .inr ⟨b, ys.length, vs.toArray, rfl, Nat.zero_le _, hb, hm, hmax, by simpa using hf.length, rfl⟩⟩, hfl⟩, fun b' => by rw [hG b']; simp [Value.ownBlock]; exact eq_comm⟩

theorem op_clear_raw {T E by' b o len cap E' : Nat} {x : Operand} {ys : List (Option α)} {z : α} {zs : List Value} (hT : arInfo P T = some (E, sz, by')) (hz : zeroOf P E = some zs) (hk : ∀ w F, Cells w F (k z) zs) (hx : ev es x = some (.val (vw b o sz len cap))) (hlen : 0 < len) (hfit : o + len ≤ ys.length) :
  HOp P n ⟨none, .call ⟨.builtin .clear, #[x], #[T]⟩, ty, pos, af, gd⟩ es [.raw b E' k sz ys] (fun e' qs => e' = es ∧ qs = [.raw b E' k sz (ys.take o ++ (List.replicate len z).map some ++ ys.drop (o + len))]) :=
 HOp.ofN rfl fun a w F G1 hs ho hft => by
  obtain ⟨hu, i, zv, hi, hsz, _, hzv, hzs, hpos⟩ := arInfo_under hT
  have hzc : zv.cells.toList = zs := by
   unfold zeroOf at hz
   rw [hi] at hz
   simpa [hzv] using hz
  have hzl : zs.length = sz := by rw [← hzc]; simpa using hzs
  obtain ⟨hG, vs, hb, hf⟩ := ho.only
  have hzf := zeroCells_flat (w := w) (F := F) (k := k) (x := z) (z := zs) hzl hpos (hk w F) len
  have hzv2 : zv.cells = zs.toArray := by rw [← hzc]
  have hfl := hf.length
  have hzlen := hzf.length
  rw [List.length_replicate] at hzlen
  have hst := run_storeCells_row (P := P) (off := o * sz) (vs := (Builtin.zeroCells zs.toArray len).toList) hb (by rw [hzlen, hfl, ← Nat.add_mul]; exact Nat.mul_le_mul_right _ hfit) hzf.one
  have hsp := hf.splice (o := o) hzf
  rw [List.length_replicate] at hsp
  refine ⟨.tuple #[], _, F, G1, _, ?_, Turn.setRaw hft hG hb hsp, rfl, rfl⟩
  obtain ⟨len, rfl⟩ : ∃ m, len = m + 1 := ⟨len - 1, by omega⟩
  simp only [execOp, resolve, invoke, builtin, hs.val hx, vw, Sem.run_bind, List.map_toArray, List.map_cons, List.map_nil]
  simp [hs.val hx, vw, invoke, builtin, Builtin.clear_, run_underlying hu, zeroValue, typeInfo, hi, hzv, hzv2, hst]

theorem op_clear_dropV {T E by' l : Nat} {x : Operand} {v : Value} {xs : List α} {z : α} {zs : List Value} (hT : arInfo P T = some (E, sz, by')) (hz : zeroOf P E = some zs) (hk : ∀ w F, Cells w F (k z) zs) (hx : ev es x = some (.val (dropV v sz l))) (hl : l ≤ xs.length) :
  HOp P n ⟨none, .call ⟨.builtin .clear, #[x], #[T]⟩, ty, pos, af, gd⟩ es [.arr v E k sz xs] (fun e' qs => e' = es ∧ qs = [.arr v E k sz (xs.take l ++ List.replicate (xs.length - l) z)]) :=
 HOp.pre fun w F G hown => by
  refine ⟨_, hown, ?_⟩
  obtain ⟨A, cap, hv, hc, hA⟩ := arr_val hown.only
  by_cases hlt : l = xs.length
  ·
   subst hlt
   refine HOp.ofN rfl fun a w F G1 hs ho hft => ⟨.tuple #[], w, F, G1, _, ?_, ⟨?_, fun _ h => h, fun b hb => ⟨hft.fin b hb, .inl hb⟩, fun b hb => ⟨(hft.gin b hb).1, (hft.gin b hb).2, .inl hb⟩, Chg.refl _ _⟩, rfl, rfl⟩
   ·
    obtain ⟨hu, _⟩ := arInfo_under hT
    have hx' := hs.val hx
    subst hv
    unfold dropV at hx'
    simp only [Nat.sub_self] at hx'
    simp only [execOp, resolve, invoke, builtin, hx', Sem.run_bind, List.map_toArray, List.map_cons, List.map_nil]
    cases (if cap = xs.length then A else A.map (·.add (xs.length * sz))) <;> simp [hx', invoke, builtin, Builtin.clear_, run_underlying hu]
   ·
    rw [Nat.sub_self, List.replicate_zero, List.append_nil, List.take_length]
    exact ho
  ·
   obtain ⟨b, cap', hv'⟩ := arr_form hown.only (fun e => hlt (by rw [e] at hl ⊢; simpa using hl))
   subst hv'
   cases hv
   have hmax : cap ≤ maxLen := by
    obtain ⟨⟨vs, ⟨_, hrow⟩, _⟩, _⟩ := hown.only
    rcases hrow with ⟨hv, _⟩ | ⟨g, cap', cur, hv, _, _, _, hcm, _⟩
    ·
     cases hv
    ·
     cases hv; exact hcm
   have hx2 : ev es x = some (.val (vw b l sz (xs.length - l) (cap - l))) := by
    rw [hx]
    have hne : ¬ cap = l := by omega
    simp [dropV, vw, hne, addr_add]
   refine HOp.pre fun w F G hown2 => ⟨_, own_raw hown2, ?_⟩
   refine (op_clear_raw hT hz hk hx2 (by omega) (by simp; omega)).conv fun e' qs ⟨he, hq⟩ => ⟨_, fun w F G ho2 => ⟨G, fun _ h => h, ?_⟩, he, rfl⟩
   subst hq
   have hlen : ((xs.map some ++ List.replicate (cap - xs.length) none).take l ++ (List.replicate (xs.length - l) z).map some ++ (xs.map some ++ List.replicate (cap - xs.length) (none : Option α)).drop (l + (xs.length - l))).length = cap := by simp; omega
   have hr := own_arr (m := xs.length) (xs := xs.take l ++ List.replicate (xs.length - l) z) ho2 (by
    have e1 : (xs.map some ++ List.replicate (cap - xs.length) none).take l = (xs.take l).map some := by rw [List.take_append_of_le_length (by simp; omega), List.map_take]
    rw [e1, List.take_left' (by simp; omega), List.map_append]) (by rw [hlen]; exact hc) (by rw [hlen]; exact hmax)
   rw [hlen] at hr
   exact hr

inductive Part (v : Value) (sz : Nat) (xs : List α) : Value → List α → Prop
 | drop (l : Nat) (h : l ≤ xs.length) : Part v sz xs (dropV v sz l) (xs.drop l)
 | take (h : Nat) (hh : h ≤ xs.length) : Part v sz xs (takeV v h) (xs.take h)

theorem part_of {E : Nat} {v u : Value} {xs ys : List α} {G1 : BSet} (h : (Obj.arr v E k sz xs).rep w F G1) (hp : Part v sz xs u ys) :
  ∃ A c news, u = .slice A ys.length c ∧ (A = none → ys = []) ∧ Flat w F k sz ys news ∧ ∀ a, A = some a → ∀ j t, news[j]? = some t → w.cell? (a.add j) = some t := by
 obtain ⟨⟨vs, hrow, hf⟩, _⟩ := h
 have hrow' := hrow
 obtain ⟨hl, hrow⟩ := hrow
 cases hp with
 | drop l hle =>
  have hft : Flat w F k sz (xs.drop l) (vs.drop (l * sz)) := by
   have := (FlatO.of_flat hf).drop l
   rw [← List.map_drop] at this
   exact this.flat
  rcases hrow with ⟨rfl, h0⟩ | ⟨g, cap, cur, rfl, _, hb, hnc, _⟩
  ·
   obtain rfl : xs = [] := List.eq_nil_of_length_eq_zero h0
   obtain rfl : l = 0 := by simpa using hle
   exact ⟨none, 0, _, rfl, fun _ => rfl, hft, fun a h => by cases h⟩
  ·
   by_cases hcl : cap = l
   ·
    have hlen : l = xs.length := by omega
    refine ⟨some ⟨g, 0, none⟩, cap - l, _, by simp [dropV, hcl], (fun h => by cases h), hft, fun a ha j t ht => ?_⟩
    have := hft.length
    have h0 : (vs.drop (l * sz)).length = 0 := by rw [this]; simp [hlen]
    rw [List.getElem?_eq_none (by omega)] at ht
    cases ht
   ·
    refine ⟨some ⟨g, l * sz, none⟩, cap - l, _, by simp [dropV, hcl, addr_add], (fun h => by cases h), hft, fun a ha j t ht => ?_⟩
    cases ha
    rw [List.getElem?_drop] at ht
    have := hrow'.cells (g := g) rfl _ t ht
    rw [addr_add] at this ⊢
    rw [Nat.zero_add] at this
    exact this
 | take m hle =>
  have hft : Flat w F k sz (xs.take m) (vs.take (m * sz)) := by
   have := (FlatO.of_flat hf).take m
   rw [← List.map_take] at this
   exact this.flat
  have hml : (xs.take m).length = m := by simp; omega
  rcases hrow with ⟨rfl, h0⟩ | ⟨g, cap, cur, rfl, _, hb, hnc, _⟩
  ·
   obtain rfl : xs = [] := List.eq_nil_of_length_eq_zero h0
   exact ⟨none, 0, _, by rw [hml]; rfl, (fun _ => by simp), hft, fun a h => by cases h⟩
  ·
   refine ⟨some ⟨g, 0, none⟩, cap, _, by rw [hml]; rfl, (fun h => by cases h), hft, fun a ha j t ht => ?_⟩
   cases ha
   rw [List.getElem?_take] at ht
   split at ht
   ·
    exact hrow'.cells (g := g) rfl _ t ht
   ·
    cases ht

theorem op_append_part {T E E2 by' : Nat} {x y : Operand} {v u v2 : Value} {xs ys zs : List α} (hT : arInfo P T = some (E, sz, by')) (hx : ev es x = some (.val v)) (hy : ev es y = some (.val u)) (hpt : Part v2 sz zs u ys)
  (hb : (xs.length + ys.length) * by' ≤ 140737488355328) (h63 : xs.length + ys.length ≤ 9223372036854775807) (hn : Nat.blt d n = true) :
  HOp P n ⟨some d, .call ⟨.builtin .append, #[x, y], #[T, T]⟩, ty, pos, af, gd⟩ es [.arr v E k sz xs, .arr v2 E2 k sz zs] (fun e' qs => ∃ v', e' = (d, .val v') :: es ∧ qs = [.arr v' E k sz (xs ++ ys), .arr v2 E2 k sz zs]) :=
 HOp.of rfl hn fun a w F G1 hs ho hft => by
  obtain ⟨G3, G4, hi, hd, h1, h2⟩ := ho
  obtain ⟨A, c, news, hu, hA, hf, hnews⟩ := part_of h2.only hpt
  have hft' : Fit w F G3 := ⟨hft.fin, fun b hb => hft.gin b ((hi b).2 (.inl hb))⟩
  obtain ⟨v', w', G1', hr, ht⟩ := append_turn (c := c) hT hft' h1 hA hf hnews hb h63 ty
  refine ⟨v', w', F, _, .val v', _, ?_, rfl, Turn.frame (qs := [_]) hi hd h2 hft ht, v', rfl, rfl⟩
  have hy' := hs.val hy
  rw [hu] at hy'
  simp [execOp, resolve, invoke, builtin, hs.val hx, hy', hr]
end
end Go.Abs
