/- slices.Delete's operations. -/
import Derived.Test.YtnndihmamfomcaaGreatCU
set_option autoImplicit false
set_option linter.unusedVariables false
set_option linter.unusedSimpArgs false
namespace Go.Abs
open Go

def delI {α : Type} (xs : List α) (i j : Int) : Option (List α) := if 0 ≤ i ∧ i ≤ j ∧ j ≤ xs.length then some (xs.take i.toNat ++ xs.drop j.toNat) else none

theorem delI_some {α : Type} {xs zs : List α} {i j : Int} (h : delI xs i j = some zs) : ∃ a b : Nat, i = a ∧ j = b ∧ a ≤ b ∧ b ≤ xs.length ∧ xs.take a ++ xs.drop b = zs := by
 unfold delI at h
 split at h
 ·
  rename_i hc
  exact ⟨i.toNat, j.toNat, by omega, by omega, by omega, by omega, Option.some.inj h⟩
 ·
  cases h

section
variable {P : Program} {n : Nat} {X : Ctx} {a : Act} {w : World} {F G : BSet} {es : Env} {ps : List Obj} {α : Type} {k : α → List C} {sz : Nat}
variable {d ty : Nat} {pos : String} {af : Array Edge} {gd : Option (Nat × Bool)}

theorem op_slice_arr_3 {T E E' by' p i j : Nat} {x y z m : Operand} {q1 q2 q3 : IntKind} {v : Value} {xs : List α} (hT : slInfo P T = some (E', sz, by')) (hx : ev es x = some (.val v)) (hp : pick p ps = some (.arr v E k sz xs)) (hy : ev es y = some (.val (.int q1 i))) (hz : ev es z = some (.val (.int q2 j))) (hm : ev es m = some (.val (.int q3 (xs.length : Int))))
  (hij : i ≤ j) (hj : j ≤ xs.length) (hn : Nat.blt d n = true) : VOp false P n es ps ⟨some d, .slice T x (some y) (some z) (some m), ty, pos, af, gd⟩ d .any :=
 VOp.mk rfl hn fun a w F Gp hs ho => by
  obtain ⟨G1, hrep, _⟩ := ho.pick hp
  obtain ⟨A, cap, rfl, hc, _⟩ := arr_val hrep
  obtain ⟨hu, inf, hinf, hsz, _⟩ := slInfo_under hT
  have hb : ∀ (q : IntKind) (i y : Nat) (code : BoundsCode) (w : World), i ≤ y → (Instr.sliceBound (.int q i) y code).run P w = .ok i w := fun q i y code w hle => by
   simp [Instr.sliceBound, asIntOf, hle]
  refine ⟨.slice (if xs.length = i then A else A.map (·.add (i * sz))) (j - i) (xs.length - i), fun w2 _ => ?_, trivial⟩
  simp only [execOp, hs.val hx, Option.map_some, hs.val hy, hs.val hz, hs.val hm]
  simp [Instr.sliceAt, Instr.slice, run_underlying hu, Instr.sliceBounds, run_sizeOf' hinf, hsz, hb _ i j _ _ hij, hb _ j _ _ _ hj, hb _ xs.length cap _ _ hc]

theorem op_append_self {T E by' i j : Nat} {x y : Operand} {v : Value} {xs : List α} (hT : arInfo P T = some (E, sz, by')) (hx : ev es x = some (.val (takeV v i))) (hy : ev es y = some (.val (dropV v sz j))) (hij : i ≤ j) (hj : j ≤ xs.length) (hn : Nat.blt d n = true) :
  HOp P n ⟨some d, .call ⟨.builtin .append, #[x, y], #[T, T]⟩, ty, pos, af, gd⟩ es [.arr v E k sz xs] (fun e' qs => e' = (d, .val (takeV v (i + (xs.length - j)))) :: es ∧ qs = [.arr v E k sz (xs.take i ++ xs.drop j ++ xs.drop (i + (xs.length - j)))]) :=
 HOp.of rfl hn fun a w F G1 hs ho hft => by
  obtain ⟨hu, inf, zv, hi, hsz, hby, hzv, hzs, hpos⟩ := arInfo_under hT
  have hrep := ho.only
  obtain ⟨A, c, news, hu2, hA, hf, hnews⟩ := part_of hrep (Part.drop j hj)
  have hrep' := hrep
  obtain ⟨⟨vs, ⟨hvl, hrow⟩, hff⟩, hG⟩ := hrep'
  have hx' := hs.val hx
  have hy' := hs.val hy
  rw [hu2] at hy'
  rcases hrow with ⟨rfl, h0⟩ | ⟨g, cap, cur, rfl, hbg, hb, hnc, hcm, hcs, htake⟩
  ·
   obtain rfl : xs = [] := List.eq_nil_of_length_eq_zero h0
   obtain rfl : j = 0 := by simpa using hj
   obtain rfl : i = 0 := by omega
   refine ⟨.slice none 0 0, w, F, G1, _, _, ?_, rfl, ⟨?_, fun _ h => h, fun b hb => ⟨hft.fin b hb, .inl hb⟩, fun b hb => ⟨(hft.gin b hb).1, (hft.gin b hb).2, .inl hb⟩, Chg.refl _ _⟩, rfl, rfl⟩
   ·
    have e1 : takeV (.slice none 0 0) 0 = .slice none 0 0 := rfl
    have e2 : dropV (.slice none 0 0) sz 0 = .slice none 0 0 := rfl
    rw [e1] at hx'
    have hy2 := hs.val hy
    rw [e2] at hy2
    simp [execOp, resolve, invoke, builtin, hx', hy2, Builtin.append_, run_underlying hu, sizeOf, typeInfo, hi, Builtin.lenOf, Builtin.firstCells]
   ·
    simpa using ho
  ·
   have hAne : ∃ ad, A = some ad := by
    cases A with
    | none =>
     exfalso
     by_cases hcj : cap = j
     ·
      simp [dropV, hcj] at hu2
     ·
      simp [dropV, hcj] at hu2
    | some ad => exact ⟨ad, rfl⟩
   obtain ⟨ad, rfl⟩ := hAne
   have hnl := hf.length
   have hdl : (xs.drop j).length = xs.length - j := List.length_drop
   have hroom : i + (xs.drop j).length ≤ cap := by omega
   have hfit : i * sz + news.length ≤ cur.size := by rw [hnl, hcs, ← Nat.add_mul]; exact Nat.mul_le_mul_right _ hroom
   have hr := run_append_room (P := P) w T ty E inf hu hi g i cap cur hb ad (xs.drop j).length c news (by rw [hnl, hsz]) (hnews ad rfl) hf.one hroom (by rw [hsz]; exact hfit)
   rw [hsz] at hr
   have hraw := (own_raw (k := k) (cap := cap) ho).only
   obtain ⟨hGr, ws, hbw, hfw⟩ := hraw
   have hws : ws = cur.toList := by
    rw [hb] at hbw
    cases hbw
    simp
   subst hws
   have hsp := hfw.splice (o := i) hf
   have hturn := Turn.setRaw (T := E) hft hGr hbw hsp
   have hcapl : (xs.map some ++ List.replicate (cap - xs.length) (none : Option α)).length = cap := by simp; omega
   have hlen : ((xs.map some ++ List.replicate (cap - xs.length) none).take i ++ (xs.drop j).map some ++ (xs.map some ++ List.replicate (cap - xs.length) (none : Option α)).drop (i + (xs.drop j).length)).length = cap := by
    simp; omega
   rw [hdl] at hr hy'
   refine ⟨.slice (some ⟨g, 0, none⟩) (i + (xs.length - j)) cap, _, F, G1, .val (takeV (.slice (some ⟨g, 0, none⟩) xs.length cap) (i + (xs.length - j))), _, ?_, rfl, ⟨?_, hturn.sub, hturn.fin, hturn.gin, hturn.chg⟩, rfl, rfl⟩
   ·
    have hx2 : a.eval x = .slice (some ⟨g, 0, none⟩) i cap := hx'
    simp only [execOp, resolve, invoke, builtin, hx2, hy', Sem.run_bind, List.map_toArray, List.map_cons, List.map_nil]
    simp [hx2, hy', invoke, builtin, hr]
   ·
    have hr2 := own_arr (m := xs.length) (xs := xs.take i ++ xs.drop j ++ xs.drop (i + (xs.length - j))) hturn.own (by
     have e1 : (xs.map some ++ List.replicate (cap - xs.length) none).take i = (xs.take i).map some := by rw [List.take_append_of_le_length (by simp; omega), List.map_take]
     have e2 : (xs.map some ++ List.replicate (cap - xs.length) none).drop (i + (xs.drop j).length) = (xs.drop (i + (xs.length - j))).map some ++ List.replicate (cap - xs.length) none := by rw [List.drop_append_of_le_length (by simp; omega), List.map_drop, hdl]
     rw [e1, e2, ← List.append_assoc, List.take_left' (by simp; omega)]
     simp) (by rw [hlen]; exact hnc) (by rw [hlen]; exact hcm)
    rw [hlen] at hr2
    exact hr2

theorem op_slice_takeV {T E E' by' p l h : Nat} {x y z : Operand} {q q' : IntKind} {v : Value} {xs : List α} (hT : slInfo P T = some (E', sz, by')) (hx : ev es x = some (.val (takeV v l))) (hp : pick p ps = some (.arr v E k sz xs)) (hy : ev es y = some (.val (.int q l))) (hz : ev es z = some (.val (.int q' h))) (hl : l ≤ h) (hh : h = xs.length) (hn : Nat.blt d n = true) :
  VOp false P n es ps ⟨some d, .slice T x (some y) (some z) none, ty, pos, af, gd⟩ d (.val (dropV v sz l)) :=
 VOp.mk rfl hn fun a w F Gp hs ho => by
  subst hh
  obtain ⟨G1, hrep, _⟩ := ho.pick hp
  obtain ⟨A, cap, rfl, hc, _⟩ := arr_val hrep
  obtain ⟨hu, inf, hinf, hsz, _⟩ := slInfo_under hT
  have hb : ∀ (q : IntKind) (i y : Nat) (code : BoundsCode) (w : World), i ≤ y → (Instr.sliceBound (.int q i) y code).run P w = .ok i w := fun q i y code w hle => by
   simp [Instr.sliceBound, asIntOf, hle]
  refine ⟨_, fun w2 _ => ?_, rfl⟩
  simp only [execOp, hs.val hx, Option.map_some, hs.val hy, hs.val hz, Option.map_none, takeV, dropV]
  simp [Instr.sliceAt, Instr.slice, run_underlying hu, Instr.sliceBounds, run_sizeOf' hinf, hsz, hb _ l xs.length _ _ hl, hb _ xs.length cap _ _ hc]

theorem op_slice_val_l {T E' by' m cap l : Nat} {A : Option Addr} {x y : Operand} {q : IntKind} (hT : slInfo P T = some (E', sz, by')) (hx : ev es x = some (.val (.slice A m cap))) (hy : ev es y = some (.val (.int q l))) (h1 : l ≤ m) (h2 : m ≤ cap) (hn : Nat.blt d n = true) :
  VOp false P n es ps ⟨some d, .slice T x (some y) none none, ty, pos, af, gd⟩ d (.val (dropV (.slice A m cap) sz l)) := op_slice_any_l hT hx hy h1 h2 hn
theorem op_slice_val_h {T E' by' m cap l : Nat} {A : Option Addr} {x y : Operand} {q : IntKind} (hT : slInfo P T = some (E', sz, by')) (hx : ev es x = some (.val (.slice A m cap))) (hy : ev es y = some (.val (.int q l))) (h1 : l ≤ m) (h2 : m ≤ cap) (hn : Nat.blt d n = true) :
  VOp false P n es ps ⟨some d, .slice T x none (some y) none, ty, pos, af, gd⟩ d (.val (takeV (.slice A m cap) l)) :=
 VOp.mk rfl hn fun a w F Gp hs ho => by
  refine ⟨takeV (.slice A m cap) l, fun w2 _ => ?_, rfl⟩
  have hr := run_slice (P := P) (w := w2) (A := A) (len := m) (cap := cap) hT (lo := none) (hi := some (.int q l)) (l := 0) (h := l) (.inl ⟨rfl, rfl⟩) (.inr ⟨q, rfl⟩) (Nat.zero_le _) h1 h2
  have e : (if cap = 0 then A else A.map (·.add (0 * sz))) = A := by
   split
   ·
    rfl
   ·
    cases A <;> simp [Addr.add]
  rw [e] at hr
  simp only [Nat.sub_zero] at hr
  simp only [execOp, hs.val hx, Option.map_some, hs.val hy, Option.map_none, takeV]
  simp [hr]

theorem del_take {xs : List α} {i j : Nat} {z : α} (hij : i ≤ j) (hj : j ≤ xs.length) :
  ((xs.take i ++ xs.drop j ++ xs.drop (i + (xs.length - j))).take (i + (xs.length - j)) ++ List.replicate ((xs.take i ++ xs.drop j ++ xs.drop (i + (xs.length - j))).length - (i + (xs.length - j))) z).take (i + (xs.length - j)) = xs.take i ++ xs.drop j := by
 have e1 : (xs.take i ++ xs.drop j ++ xs.drop (i + (xs.length - j))).take (i + (xs.length - j)) = xs.take i ++ xs.drop j := List.take_left' (by simp; omega)
 rw [e1, List.take_left' (by simp; omega)]
end
end Go.Abs
