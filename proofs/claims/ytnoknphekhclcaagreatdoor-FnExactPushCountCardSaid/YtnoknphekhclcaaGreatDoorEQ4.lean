/- Printed by gen.py: plain functions for Go functions, and that the walks keep to them. -/
import Derived.Test.YtnoknphekhclcaaGreatDoorEQ3
set_option autoImplicit false
set_option linter.unusedVariables false
set_option linter.unusedSimpArgs false
set_option maxHeartbeats 8000000
set_option maxRecDepth 100000
namespace Go.Proofs.YtnoknphekhclcaaGreatDoor
open Go Go.Abs
attribute [local irreducible] AW Ops OpsD Y3z VoK HoK GhF UsC Go.Abs.Fin PkK LenT LenL Y9f BldK FzK FzLK
def Zf6 (p0 : List Ya0) (p1 : Int) (p2 : Int) : Option (List Ya0) := delI p0 p1 p2
theorem Zf7 {w1 : Value} (p0 : List Ya0) (p1 : Int) (p2 : Int) (r : List Ya0) (h : Zf6 p0 p1 p2 = some r) : Ok Tryz.prog 202 [cV w1, cI p1, cI p2] [oA w1 194 Yaf 3 p0] (fun c qs => ∃ (v : Value), c = cV v ∧ qs = [oA v 194 Yaf 3 r]) := by
 obtain ⟨a, b, rfl, rfl, hij, hj, rfl⟩ := Y7r h
 refine Ok.of_body (rs := [.tmp 6]) Tryz.func202 rfl rfl rfl rfl rfl fun X => ?_
 refine AW.learn (Sim.arr_cap (p := 0) rfl) fun hw => ?_
 obtain ⟨A, cap, rfl, hc, _, _⟩ := hw
 refine zw ?_
 refine Ops.v rfl (Y7s (p := 0) Ydb.h rfl rfl rfl rfl rfl hij hj rfl) ?_
 refine zw ?_
 refine tf' (((a : Nat) : Int) == ((b : Nat) : Int)) (fun hq => ?_) (fun hq => ?_)
 ·
  refine AW.cond rfl (fun _ => ?_) (fun hn => absurd (hq.symm.trans hn) (by decide))
  refine zw ?_
  refine AW.ret ?_
  obtain rfl : a = b := by have := eq_of_beq hq; omega
  rw [List.take_append_drop]
  exact finI ⟨[cV (.slice A p0.length cap)], _, Y25.refl _, .cons (.tmp rfl) .nil, [0], _, _, rfl, ⟨_, rfl, rfl⟩⟩
 refine AW.cond rfl (fun hn => absurd (hq.symm.trans hn) (by decide)) (fun _ => ?_)
 refine zw ?_
 refine rD [] [] [] [0,4,8,12,16,20,26,28] ?_
 refine zw ?_
 refine OpsD.v rfl rfl (Y7w Ydb.h rfl rfl (by omega) hc rfl) ?_
 refine zw ?_
 refine OpsD.v rfl rfl (Y7v Ydb.h rfl rfl hj hc rfl) ?_
 refine OpsD.one ?_
 refine Y3z.h (ns := [0]) rfl rfl rfl (Y7t (v := .slice A p0.length cap) Ydh rfl rfl hij hj rfl) ?_
 rintro _ _ ⟨rfl, rfl⟩
 refine zw ?_
 refine Ops.v rfl (Y2j Ydb.h rfl rfl) ?_
 refine zw ?_
 refine Ops.v rfl (Y7u (p := 0) (h := p0.length) (v := .slice A p0.length cap) (l := a + (p0.length - b)) Ydb.h rfl rfl rfl rfl (by omega) (by simp; omega) rfl) ?_
 refine Ops.h (ns := [0]) rfl rfl (Y7o (v := .slice A p0.length cap) (l := a + (p0.length - b)) (z := (Ya0.mk 0 0 0)) Ydh Ydo (Y4e rfl rfl) rfl (by simp <;> omega)) ?_
 rintro _ _ ⟨rfl, rfl⟩
 refine zw ?_
 refine AW.ret ?_
 exact finI ⟨[cV (Y7e (.slice A p0.length cap) (a + (p0.length - b)))], _, Y25.prefix (p := 0) (h := a + (p0.length - b)) rfl (by simp; omega), .cons (.tmp rfl) .nil, [0], _, _, rfl, ⟨_, rfl, by rw [Y7x hij hj]⟩⟩
instance Zf8 (p0 : List Ya0) (p1 : Int) (p2 : Int) : SpO Tryz.prog 202 (Zf6 p0 p1 p2) (.x fun (w1 : Value) => .d [cV w1, cI p1, cI p2] [oA w1 194 Yaf 3 p0] fun r => .x fun (v : Value) => .d (cV v) [oA v 194 Yaf 3 r]) := ⟨fun w1 r h => Zf7 p0 p1 p2 r h⟩

def Zf9 (p0 : List Ya0) (p1 : Int) (p2 : List Ya0) : Option (List Ya0) := insI 24 p0 p1 p2
theorem Zfa {w1 w2 : Value} (p0 : List Ya0) (p1 : Int) (p2 : List Ya0) (r : List Ya0) (h : Zf9 p0 p1 p2 = some r) : Ok Tryz.prog 203 [cV w1, cI p1, cV w2] [oA w1 194 Yaf 3 p0, oA w2 194 Yaf 3 p2] (fun c qs => ∃ (v : Value), c = cV v ∧ qs = [oA v 194 Yaf 3 r]) := by
 obtain ⟨i, rfl, hi, hm, hb, rfl⟩ := Y5i h
 refine Ok.of_body (rs := [.tmp 6]) Tryz.func203 rfl rfl rfl rfl rfl fun X => ?_
 refine AW.learn (Sim.arr_cap (p := 0) rfl) fun hw => ?_
 obtain ⟨A, cap, rfl, hc, hmax, hA⟩ := hw
 have hmax0 := hmax
 simp only [maxLen] at hmax
 refine zw ?_
 refine Ops.v rfl (Y5g Ydb.h rfl rfl hi hc rfl) ?_
 refine zw ?_
 refine AW.cond rfl (fun hn => absurd ((beq_false_of_ne (by omega)).symm.trans hn) (by decide)) (fun _ => ?_)
 refine zw ?_
 refine tf' (((i : Nat) : Int) == (p0.length : Int)) (fun hq => ?_) (fun hq => ?_)
 ·
  refine AW.cond rfl (fun _ => ?_) (fun hn => absurd (hq.symm.trans hn) (by decide))
  refine zw ?_
  refine Ops.h (ns := [0, 0]) rfl rfl (Y34 Ydh rfl rfl hb (by omega) rfl) ?_
  rintro _ _ ⟨v, rfl, rfl⟩
  refine zw ?_
  refine AW.ret ?_
  obtain rfl : i = p0.length := by have := eq_of_beq hq; omega
  rw [List.take_of_length_le (Nat.le_refl _), List.drop_of_length_le (Nat.le_refl _), List.append_nil]
  exact finI ⟨[cV v], _, Y25.refl _, .cons (.tmp rfl) .nil, [0], _, _, rfl, ⟨v, rfl, rfl⟩⟩
 have hlt : i < p0.length := by have := ne_of_beq_false hq; omega
 obtain ⟨b, rfl⟩ := hA.resolve_left (fun e => by rw [e.1] at hlt; exact absurd hlt (Nat.not_lt_zero _))
 refine AW.ghost (Y25.raw (p := 0) rfl) ?_
 rw [← Y5f b 3 p0.length cap]
 refine AW.cond rfl (fun hn => absurd (hq.symm.trans hn) (by decide)) (fun _ => ?_)
 refine AW.skip ?_
 refine AW.seq ?_
 refine AW.seq ?_
 refine AW.region ?_
 refine Ops.v rfl (Yr rfl rfl) ?_
 refine Ops.v rfl (Yr rfl rfl) ?_
 refine Ops.v rfl (Yx (r := .int .i64 ((p0.length + p2.length : Nat) : Int)) rfl rfl (Y5n (by omega) (by omega)) rfl) ?_
 refine zw ?_
 refine Ops.v rfl (Y56 Ydb.h rfl rfl) ?_
 refine zw ?_
 refine tf' (decide (((p0.length + p2.length : Nat) : Int) > (cap : Int))) (fun hg => ?_) (fun hg => ?_)
 ·
  have hg1 := Wo hg
  refine AW.cond rfl (fun _ => ?_) (fun hn => absurd (hg.symm.trans hn) (by decide))
  refine zw ?_
  refine Ops.v rfl (Y55 Ydb.h rfl rfl (by omega) (by omega) rfl) ?_
  refine Ops.v rfl (Yr rfl rfl) ?_
  refine Ops.v rfl (Yr rfl rfl) ?_
  refine Ops.v rfl (Yx (r := .int .i64 ((p0.length + p2.length : Nat) : Int)) rfl rfl (Y5n (by omega) (by omega)) rfl) ?_
  refine Ops.v rfl (Yr rfl rfl) ?_
  refine Ops.v rfl (Yx (r := .int .i64 ((p0.length + p2.length - i : Nat) : Int)) rfl rfl (Y5o (by omega) (by omega)) rfl) ?_
  refine Ops.h (ns := [0]) rfl rfl (Y5m (N := p0.length + p2.length) (k := Yaf) (z0 := (Ya0.mk 0 0 0)) Ydh un_3 Ydo (Y4e rfl rfl) rfl rfl (xs := p0.take i) (by rw [List.drop_zero, List.take_append_of_le_length (by simp; omega), List.map_take]) (by simp; omega) (by omega) (by omega) (by omega) hb (by decide) rfl) ?_
  rintro _ _ ⟨b2, c2, hc2, hm2, rfl, rfl⟩
  refine zw ?_
  refine Ops.v rfl (Y5l (o' := i) (l' := p0.length + p2.length - i) (c' := c2 - i) Ydb.h rfl rfl (by omega) (by omega) (by omega) (by omega) (by omega) (by omega) rfl) ?_
  refine zw ?_
  refine Ops.h (ns := [0, 1]) rfl rfl (Y5a (xs := p2) Ydb.h rfl rfl (by rw [List.take_of_length_le (by omega)]) (by simp; omega) rfl) ?_
  rintro _ _ ⟨rfl, rfl⟩
  refine zw ?_
  refine rD [] [] [] [0,4,8,12,16,20,24,28,34] ?_
  refine OpsD.v rfl rfl (Yr rfl rfl) ?_
  refine OpsD.v rfl rfl (Yr rfl rfl) ?_
  refine OpsD.v rfl rfl (Yr rfl rfl) ?_
  refine OpsD.v rfl rfl (Yx (r := .int .i64 ((i + p2.length : Nat) : Int)) rfl rfl (Y5n (by omega) (by omega)) rfl) ?_
  refine OpsD.v rfl rfl (Y5l (o' := i + p2.length) (l' := p0.length - i) (c' := c2 - (i + p2.length)) Ydb.h rfl rfl (by omega) (by omega) (by omega) (by omega) (by omega) (by omega) rfl) ?_
  refine zw ?_
  refine OpsD.v rfl rfl (Y5l (o' := i) (l' := p0.length - i) (c' := cap - i) Ydb.h rfl rfl (by omega) (by omega) (by omega) (by omega) (by omega) (by omega) rfl) ?_
  refine OpsD.one ?_
  refine Y3z.h (ns := [0, 1]) rfl rfl rfl (Y5h (xs := p0.drop i) Ydb.h rfl rfl (by rw [Y5p, List.drop_append_of_le_length (by simp; omega), List.take_append_of_le_length (by simp), List.take_of_length_le (by simp), List.map_drop]) (by rw [Y5p]; simp) (by simp; omega) rfl) ?_
  rintro _ _ ⟨rfl, rfl⟩
  refine zw ?_
  refine AW.ret ?_
  obtain ⟨q1, q2, q3, q4⟩ := Y5k (xs := p0) (ys := p2) (z := (Ya0.mk 0 0 0)) (m := p2.length) hlt hc2 rfl _ _ rfl rfl
  exact finI ⟨[cV _], _, Y25.arr2 (p := 0) (m := p0.length + p2.length) rfl q1 (by omega) q2 (by omega) (Y5f _ _ _ _), .cons (.tmp rfl) .nil, [0], _, _, rfl, ⟨_, rfl, rfl⟩⟩
 have hg1 := of_decide_eq_false hg
 refine AW.cond rfl (fun hn => absurd (hg.symm.trans hn) (by decide)) (fun _ => ?_)
 refine AW.skip ?_
 refine AW.seq ?_
 refine AW.region ?_
 refine Ops.v rfl (Yr rfl rfl) ?_
 refine Ops.v rfl (Yr rfl rfl) ?_
 refine Ops.v rfl (Yr rfl rfl) ?_
 refine Ops.v rfl (Yx (r := .int .i64 ((p0.length + p2.length : Nat) : Int)) rfl rfl (Y5n (by omega) (by omega)) rfl) ?_
 refine Ops.v rfl (Y55 Ydb.h rfl rfl (by omega) (by omega) rfl) ?_
 refine Ops.v rfl (Ys rfl rfl) ?_
 refine Ops.nil ?_
 refine AW.seq ?_
 refine AW.seq ?_
 refine AW.region ?_
 refine Ops.v rfl (Yr rfl rfl) ?_
 refine Ops.v rfl (Yr rfl rfl) ?_
 refine Ops.v rfl (Yr rfl rfl) ?_
 refine Ops.v rfl (Yr rfl rfl) ?_
 refine Ops.v rfl (Yx (r := .int .i64 ((i + p2.length : Nat) : Int)) rfl rfl (Y5n (by omega) (by omega)) rfl) ?_
 refine Ops.v rfl (Y5l (o' := i + p2.length) (l' := p0.length - i) (c' := cap - (i + p2.length)) Ydb.h rfl rfl (by omega) (by omega) (by omega) (by omega) (by omega) (by omega) rfl) ?_
 refine Ops.h (ns := [0, 0]) rfl rfl (Y5b (tR := 4) (k := Yaf) (zs := p2) (ys := p0.map some ++ List.replicate (cap - p0.length) none) Ydh Tryz.func227 rfl rfl (by kernel_rfl) (by kernel_rfl) rfl rfl (by intro e; rw [e] at hm; exact absurd hm (by decide)) (by intro e; have := congrArg List.length e; simp at this; omega) rfl) ?_
 rintro _ _ ⟨rfl, rfl⟩
 refine zw ?_
 refine AW.cond rfl (fun _ => ?_) (fun hn => absurd hn (by decide))
 refine zw ?_
 refine rD [] [] [] [0,4,8,12,16,20,24,28,34] ?_
 refine OpsD.v rfl rfl (Yr rfl rfl) ?_
 refine OpsD.v rfl rfl (Yr rfl rfl) ?_
 refine OpsD.v rfl rfl (Yr rfl rfl) ?_
 refine OpsD.v rfl rfl (Yx (r := .int .i64 ((i + p2.length : Nat) : Int)) rfl rfl (Y5n (by omega) (by omega)) rfl) ?_
 refine OpsD.v rfl rfl (Y5l (o' := i + p2.length) (l' := p0.length - i) (c' := cap - (i + p2.length)) Ydb.h rfl rfl (by omega) (by omega) (by omega) (by omega) (by omega) (by omega) rfl) ?_
 refine zw ?_
 refine OpsD.v rfl rfl (Y5l (o' := i) (l' := p0.length + p2.length - i) (c' := cap - i) Ydb.h rfl rfl (by omega) (by omega) (by omega) (by omega) (by omega) (by omega) rfl) ?_
 refine OpsD.one ?_
 refine Y3z.h (ns := [0]) rfl rfl rfl (Y59 (xs := p0.drop i) Ydb.h rfl rfl (by rw [Y5q (by omega), List.drop_append_of_le_length (by simp; omega), List.take_append_of_le_length (by simp), List.take_of_length_le (by simp), List.map_drop]) (by rw [Y5q (by omega)]; simp) (by simp; omega) rfl) ?_
 rintro _ _ ⟨rfl, rfl⟩
 refine zw ?_
 refine Ops.v rfl (Y5l (o' := i) (l' := p0.length + p2.length - i) (c' := cap - i) Ydb.h rfl rfl (by omega) (by omega) (by omega) (by omega) (by omega) (by omega) rfl) ?_
 refine zw ?_
 refine Ops.h (ns := [0, 0]) rfl rfl (Y5a (xs := p2) Ydb.h rfl rfl (by rw [List.take_of_length_le (by omega)]) (by simp; omega) rfl) ?_
 rintro _ _ ⟨rfl, rfl⟩
 refine zw ?_
 refine AW.ret ?_
 obtain ⟨q1, q2, q3, q4⟩ := Y5j (xs := p0) (ys := p2) (m := p2.length) (c := cap) hlt (by omega) rfl _ _ rfl rfl
 exact finI ⟨[cV _], _, Y25.arr2 (p := 0) (m := p0.length + p2.length) (c := cap) rfl q1 (by omega) q2 hmax0 (Y5f _ _ _ _), .cons (.tmp rfl) .nil, [0], _, _, rfl, ⟨_, rfl, rfl⟩⟩
instance Zfb (p0 : List Ya0) (p1 : Int) (p2 : List Ya0) : SpO Tryz.prog 203 (Zf9 p0 p1 p2) (.x fun (w1 : Value) => .x fun (w2 : Value) => .d [cV w1, cI p1, cV w2] [oA w1 194 Yaf 3 p0, oA w2 194 Yaf 3 p2] fun r => .x fun (v : Value) => .d (cV v) [oA v 194 Yaf 3 r]) := ⟨fun w1 w2 r h => Zfa p0 p1 p2 r h⟩

def Zfc (p1 : Ya0) (r2 : List Ya0) (r5 : Int × Bool) (x8 : Bool) : Option (List Ya0) := cond x8 ((Zf6 r2 r5.1 (IntKind.i64.wrap (r5.1 + 1))).bind fun r10 => some r10) (cond (p1.id == 0) (some r2) (cond r5.2 ((getI r2 r5.1).bind fun e15 => some (List.set r2 (Int.toNat r5.1) p1)) ((Zf9 r2 r5.1 [p1]).bind fun r18 => some r18)))
def Zfd (p0 : List Ya0) (p1 : Ya0) : Option (List Ya0) := (Zf3 p0).bind fun r2 => (Ze9 r2 p1).bind fun r5 => cond (p1.id == 0) (Zfc p1 r2 r5 r5.2) (Zfc p1 r2 r5 false)
instance Zfe (p0 : List Ya0) (p1 : Ya0) : SpO Tryz.prog 155 (Zfd p0 p1) (.d [cM Yaf 3 p0, C.agg [cI p1.kind, cI p1.key, cI p1.id]] [] fun r => .x fun (v21 : Value) => .d (cV v21) [oA v21 194 Yaf 3 r]) := ⟨so Tryz.func155 rfl rfl fun r X h => gh (.k (.q 2 (.c1 (fun x8 => .d [(16, C.bool x8)] []) [3,5,6,7] [1,0] .z (.b (.k .z) (.b .z (.b .z (.k .z)))))))⟩
instance Zfe' (p0 : List Ya0) (p1 : Ya0) : Sp Tryz.prog 155 [cM Yaf 3 p0, C.agg [cI p1.kind, cI p1.key, cI p1.id]] (Zfd p0 p1) (fun r => cM Yaf 3 r) := ⟨fun r h => Ok.freeze ((Zfe p0 p1).h r h) (by rintro c qs ⟨v21, rfl, rfl⟩; exact Frz.arr)⟩

def Zff (p0 : List Ya0) (q0 : Ya0) : Option Bool := (Zdt p0 q0).bind fun r1 => some (!r1)
instance Zfg (p0 : List Ya0) (q0 : Ya0) : SpO Tryz.prog 190 (Zff p0 q0) (.x fun (b00 : Nat) => .d [cM Yaf 3 p0, pt b00] [oB b00 194 [cI q0.kind, cI q0.key, cI q0.id]] fun r => .d (C.bool r) [oB b00 194 [cI q0.kind, cI q0.key, cI q0.id]]) := ⟨fun b00 => so Tryz.func190 rfl rfl fun r X h => gh .z⟩

def Zfh : Option Int := some (-1)
def Zfi (p0 : List (List Ya0)) (p1_0 : Ya0) (x7 : Int) : Option (Int ⊕ (Int ⊕ Unit)) := cond (decide (x7 < (p0.length : Int))) ((getI p0 x7).bind fun e9 => (Zff e9 p1_0).bind fun r11 => cond r11 (some (.inr (.inl x7))) (some (.inl (IntKind.i64.wrap (x7 + 1))))) (some (.inr (.inr ())))
def Zfj (p0 : List (List Ya0)) (p1_0 : Ya0) : Option Int := (iter (Zfi p0 p1_0) big 0).bind (fun z15 => match z15 with | .inl y14 => some y14 | .inr () => Zfh)
instance Zfk (p0 : List (List Ya0)) (p1_0 : Ya0) : SpO Tryz.prog 221 (Zfj p0 p1_0) (.x fun (b00 : Nat) => .d [cM Yag 1 p0, C.clo 190 [pt b00]] [oB b00 194 [cI p1_0.kind, cI p1_0.key, cI p1_0.id]] fun r => .d (cI r) [oB b00 194 [cI p1_0.kind, cI p1_0.key, cI p1_0.id]]) := ⟨fun b00 => so Tryz.func221 rfl rfl fun r X h => gh (.q 1 (.c0 (.d [] []) [] [0] (.l1 (fun x7 => .d [(8, cI x7)] []) [0,1,7] [0] .z) .z))⟩

def Zfl (p0 : List (List Ya0)) (p1_0 : Ya0) : Option Bool := (Zfj p0 p1_0).bind fun r1 => some (decide (r1 ≥ 0))
instance Zfm (p0 : List (List Ya0)) (p1_0 : Ya0) : SpO Tryz.prog 189 (Zfl p0 p1_0) (.x fun (b00 : Nat) => .d [cM Yag 1 p0, C.clo 190 [pt b00]] [oB b00 194 [cI p1_0.kind, cI p1_0.key, cI p1_0.id]] fun r => .d (C.bool r) [oB b00 194 [cI p1_0.kind, cI p1_0.key, cI p1_0.id]]) := ⟨fun b00 => so Tryz.func189 rfl rfl fun r X h => gh .z⟩

def Zfn (p0 : Y9t) (p1 : Y9t) (q0 : Ya4) : Option Int := (Zdw p0).bind fun r3 => (Zdw p1).bind fun r5 => cond (r3 == r5) ((Zam (Option.getD (mget q0.depth p0.id) 0) (Option.getD (mget q0.depth p1.id) 0)).bind fun r11 => (Zam p0.time p1.time).bind fun r13 => (Zam p0.id p1.id).bind fun r15 => (Ze0 [r11, r13, r15]).bind fun r18 => some r18) ((Zdw p0).bind fun r8 => cond r8 (some (-1)) (some 1))
instance Zfo (p0 : Y9t) (p1 : Y9t) (q0 : Ya4) : Sp Tryz.prog 193 [C.agg [cI p0.id, cI p0.room, cI p0.author, cI p0.kind, cI p0.key, cI p0.n, C.str p0.text, cM kI64 1 p0.prev, cI p0.time], C.agg [cI p1.id, cI p1.room, cI p1.author, cI p1.kind, cI p1.key, cI p1.n, C.str p1.text, cM kI64 1 p1.prev, cI p1.time], C.ip [C.ip [cI q0.graph.room, cM Ya6 9 q0.graph.events, cM Ya6 9 q0.graph.parked, C.imap .i64 Yal q0.depth, C.imap .i64 Yam q0.before, C.imap .i64 Yam q0.after, C.imap .i64 Yal q0.refused]]] (Zfn p0 p1 q0) (fun r => cI r) := Sp.of (so Tryz.func193 rfl rfl fun r X h => gh (.r [0,0] [0,2] [] [1,9,6,14,16] (.b (.r [0,0] [0,3,5,6,7,10,12,13,16,18,21,23] [] [1,4,8,13,16,21,25,29,32,36,41,44,49,53,60,65,68,73,80,85,88,93,58,78,98,102,106,108] .z) .z)))

def Zfp (l205 : List Ya0) : Option (List Ya0) := some l205
def Zfq (x194 : Int) (l204 : List Ya0) : Option ((List Ya0 × Int) ⊕ ((List Ya0))) := some (.inl (l204, (IntKind.i64.wrap (x194 + 1))))
def Zfr (p0 : Ya4) (r176 : List Y9t) (l193 : List Ya0) (x194 : Int) : Option ((List Ya0 × Int) ⊕ ((List Ya0))) := cond (decide (x194 < (r176.length : Int))) ((getI r176 x194).bind fun e196 => (Zf1 p0.graph l193 e196).bind fun r199 => cond (r199 == 0) ((Zfd l193 (Ya0.mk e196.kind e196.key e196.id)).bind fun r202 => Zfq x194 r202) (Zfq x194 l193)) (some (.inr l193))
def Zfs (p0 : Ya4) (l37 : List Ya0) (l175 : List Y9t) : Option (List Ya0) := (Y87 (fun z1 z2 => Zfn z1 z2 p0) l175).bind fun r176 => (iter (fun z206 => Zfr p0 r176 z206.1 z206.2) big (l37, 0)).bind fun y207 => Zfp y207
def Zft (x113 : Int) (l172 : List Y9t) (m173 : List (Int × Bool)) : Option ((List Y9t × (List (Int × Bool)) × Int) ⊕ ((List Y9t))) := some (.inl (l172, m173, (IntKind.i64.wrap (x113 + 1))))
def Zfu (x145 : Int) (l169 : List Y9t) (m170 : List (Int × Bool)) : Option ((List Y9t × (List (Int × Bool)) × Int) ⊕ ((List Y9t × (List (Int × Bool))))) := some (.inl (l169, m170, (IntKind.i64.wrap (x145 + 1))))
def Zfv (l143 : List Y9t) (m144 : List (Int × Bool)) (x145 : Int) (e147 : Ya0) (x155 : Int) (x156 : Int) (x157 : Int) (x158 : Int) (x159 : Int) (x160 : Int) (x161 : ByteArray) (l162 : List Int) (x163 : Int) : Option ((List Y9t × (List (Int × Bool)) × Int) ⊕ ((List Y9t × (List (Int × Bool))))) := (chk (decide ((l143.length + [(Y9t.mk x155 x156 x157 x158 x159 x160 x161 l162 x163)].length) * 96 ≤ 140737488355328))).bind fun u166 => Zfu x145 (l143 ++ [(Y9t.mk x155 x156 x157 x158 x159 x160 x161 l162 x163)]) (mset m144 e147.id true)
def Zfw (p0 : Ya4) (e115 : List Ya0) (l143 : List Y9t) (m144 : List (Int × Bool)) (x145 : Int) : Option ((List Y9t × (List (Int × Bool)) × Int) ⊕ ((List Y9t × (List (Int × Bool))))) := cond (decide (x145 < (e115.length : Int))) ((getI e115 x145).bind fun e147 => cond (Option.getD (mget m144 e147.id) false) (Zfu x145 l143 m144) ((Zdj p0.graph e147.id).bind fun r151 => Zfv l143 m144 x145 e147 r151.1.id r151.1.room r151.1.author r151.1.kind r151.1.key r151.1.n r151.1.text r151.1.prev r151.1.time)) (some (.inr (l143, m144)))
def Zfx (p0 : Ya4) (p1 : List (List Ya0)) (l111 : List Y9t) (m112 : List (Int × Bool)) (x113 : Int) : Option ((List Y9t × (List (Int × Bool)) × Int) ⊕ ((List Y9t))) := cond (decide (x113 < (p1.length : Int))) ((getI p1 x113).bind fun e115 => (iter (fun z208 => Zfw p0 e115 z208.1 z208.2.1 z208.2.2) big (l111, m112, 0)).bind fun (y209, y210) => Zft x113 y209 y210) (some (.inr l111))
def Zfy (p0 : Ya4) (p1 : List (List Ya0)) (l37 : List Ya0) (m49 : List (Int × Bool)) : Option (List Ya0) := (iter (fun z211 => Zfx p0 p1 z211.1 z211.2.1 z211.2.2) big (([] : List Y9t), m49, 0)).bind fun y212 => Zfs p0 l37 y212
def Zfz (l37 : List Ya0) (m43 : List (Int × Bool)) (x44 : Int) : Option (((List (Int × Bool)) × Int) ⊕ ((List (Int × Bool)))) := cond (decide (x44 < (l37.length : Int))) ((getI l37 x44).bind fun e46 => some (.inl ((mset m43 e46.id true), (IntKind.i64.wrap (x44 + 1))))) (some (.inr m43))
def Zg0 (p0 : Ya4) (p1 : List (List Ya0)) (l37 : List Ya0) : Option (List Ya0) := (iter (fun z213 => Zfz l37 z213.1 z213.2) big (([] : List (Int × Bool)), 0)).bind fun y214 => Zfy p0 p1 l37 y214
def Zg1 (x22 : Int) (l35 : List Ya0) : Option ((List Ya0 × Int) ⊕ ((List Ya0))) := some (.inl (l35, (IntKind.i64.wrap (x22 + 1))))
def Zg2 (p1 : List (List Ya0)) (e5 : List Ya0) (l21 : List Ya0) (x22 : Int) : Option ((List Ya0 × Int) ⊕ ((List Ya0))) := cond (decide (x22 < (e5.length : Int))) ((getI e5 x22).bind fun e24 => (Zfl p1 e24).bind fun r27 => cond r27 (Zg1 x22 l21) ((chk (decide ((l21.length + [e24].length) * 24 ≤ 140737488355328))).bind fun u32 => Zg1 x22 (l21 ++ [e24]))) (some (.inr l21))
def Zg3 (p0 : Ya4) (p1 : List (List Ya0)) : Option (List Ya0) := cond (decide ((p1.length : Int) > 0)) ((getI p1 0).bind fun e5 => (iter (fun z215 => Zg2 p1 e5 z215.1 z215.2) big (([] : List Ya0), 0)).bind fun y216 => Zg0 p0 p1 y216) (Zg0 p0 p1 ([] : List Ya0))
instance Zg4 (p0 : Ya4) (p1 : List (List Ya0)) : SpO Tryz.prog 151 (Zg3 p0 p1) (.x fun (b00 : Nat) => .x fun (b01 : Nat) => .x fun (b02 : Nat) => .x fun (b03 : Nat) => .x fun (b04 : Nat) => .d [pt b00, cM Yag 1 p1] [oB b00 136 [cI p0.graph.room, cM Ya6 9 p0.graph.events, cM Ya6 9 p0.graph.parked, mt b01, mt b02, mt b03, mt b04], Abs.Obj.map b01 .i64 Yal p0.depth, Abs.Obj.map b02 .i64 Yam p0.before, Abs.Obj.map b03 .i64 Yam p0.after, Abs.Obj.map b04 .i64 Yal p0.refused] fun r => .d (cM Yaf 3 r) [oB b00 136 [cI p0.graph.room, cM Ya6 9 p0.graph.events, cM Ya6 9 p0.graph.parked, mt b01, mt b02, mt b03, mt b04], Abs.Obj.map b01 .i64 Yal p0.depth, Abs.Obj.map b02 .i64 Yam p0.before, Abs.Obj.map b03 .i64 Yam p0.after, Abs.Obj.map b04 .i64 Yal p0.refused]) := ⟨fun b00 b01 b02 b03 b04 => so Tryz.func151 rfl rfl fun r X h => gh (.q 2 (.c1 (fun l37 => .x fun v36 => .d [(5, cV v36)] [oA v36 194 Yaf 3 l37]) [1,2,6] [2,3,4,5,6,7,0] (.b (.l2 (fun l21 x22 => .x fun v20 => .d [(5, cV v20), (29, cI x22)] [oA v20 194 Yaf 3 l21]) [1,2,6,27,28] [2,3,4,5,6,7,0] (.b (.c1 (fun l35 => .x fun v34 => .d [(5, cV v34)] [oA v34 194 Yaf 3 l35]) [1,2,6,27,28,29] [1,2,3,4,5,6,7] .z .z) .z)) .z) (.q 1 (.o 0 fun b38 => .c1 (fun m49 => .d [] [Abs.Obj.map b38 .i64 Yan m49]) [1,2,5,6,9] [2,3,4,5,6,7,1,8] (.O 0 fun b38 => .l2 (fun m43 x44 => .d [(45, cI x44)] [Abs.Obj.map b38 .i64 Yan m43]) [1,2,5,6,9,43,44] [2,3,4,5,6,7,1,8] .z) (.c1 (fun l175 => .x fun v174 => .d [(6, cV v174)] [oA v174 82 Ya6 9 l175]) [2,5] [1,2,3,4,5,6,7] (.O 0 fun b38 => .l3 (fun l111 m112 x113 => .x fun v110 => .d [(6, cV v110), (55, cI x113)] [oA v110 82 Ya6 9 l111, Abs.Obj.map b38 .i64 Yan m112]) [2,5,9,53,54] [1,2,3,4,5,6,7] (.b (.o 1 fun b38 => .c2 (fun l172 m173 => .x fun v171 => .d [(6, cV v171)] [oA v171 82 Ya6 9 l172, Abs.Obj.map b38 .i64 Yan m173]) [2,5,9,53,54,55] [2,3,4,5,6,7,8] (.O 1 fun b38 => .l3 (fun l143 m144 x145 => .x fun v142 => .d [(6, cV v142), (61, cI x145)] [oA v142 82 Ya6 9 l143, Abs.Obj.map b38 .i64 Yan m144]) [2,5,9,53,54,55,59,60] [2,3,4,5,6,7,8] (.b (.o 1 fun b38 => .c2 (fun l169 m170 => .x fun v168 => .d [(6, cV v168)] [oA v168 82 Ya6 9 l169, Abs.Obj.map b38 .i64 Yan m170]) [2,5,9,53,54,55,59,60,61] [2,3,4,5,6,7,8] (.b .z (.q 1 (.c9 (fun x155 x156 x157 x158 x159 x160 x161 l162 x163 => .x fun b154 => .d [(16, pt b154)] [oB b154 82 [cI x155, cI x156, cI x157, cI x158, cI x159, cI x160, C.str x161, cM kI64 1 l162, cI x163]]) [2,5,6,9,53,54,55,59,60,61] [3,4,5,6,7,8,9,2,0] (.R [0,0,0,0,0,0,0,0,0,0] [0,3,5] [11] (.light 0 true (.light 1 false (.light 2 false (.light 3 true (.light 4 false (.light 5 true (.two 6 10 (.light 7 false (.light 8 false (.light 9 false (.one 10 (.late 11 (.light 12 false .done)))))) (.one 6 (.light 7 false (.light 8 false (.light 9 false (.late 11 (.light 12 false .done))))))))))))) (.H 81 .z)) .z))) .z) .z)) .z) .z)) (.q 1 (.c1 (fun l205 => .d [(5, cM Yaf 3 l205)] []) [] [2,3,4,5,6] (.l2 (fun l193 x194 => .d [(5, cM Yaf 3 l193), (94, cI x194)] []) [2,92,93] [1,2,3,4,5,6,0] (.b (.c1 (fun l204 => .d [(5, cM Yaf 3 l204)] []) [2,92,93,94] [0,1,2,3,4,5,6] (.r [0,0,0,0,0,0,0,0] [0,3,5] [] [1,4,8,13,16,21,26,28] .z) .z) .z)) .z)))))))⟩

def Zg5 (p0 : List Int) : Option (List Int) := (chk (decide (p0.length * 8 ≤ 140737488355328))).bind fun _ => some p0
theorem Zg6 (p0 : List Int) (r : List Int) (h : Zg5 p0 = some r) : Ok Tryz.prog 161 [cM kI64 1 p0] [] (fun c qs => ∃ (v : Value), c = cV v ∧ qs = [oA v 2 kI64 1 r]) := by
 refine ob' h fun u hc h => ?_
 obtain rfl := Wj h
 have hc := Wo (Y45 hc)
 refine Ok.of_body (rs := [.tmp 2]) Tryz.func161 rfl rfl rfl rfl rfl fun X => ?_
 refine zw ?_
 refine Ops.h (ns := []) rfl rfl (Y61 Yav.h rfl rfl) ?_
 rintro _ _ ⟨b, hb, rfl, rfl⟩
 refine zw ?_
 refine tf' b (fun hq => ?_) (fun hq => ?_)
 ·
  refine AW.cond rfl (fun _ => ?_) (fun hn => absurd (hq.symm.trans hn) (by decide))
  refine zw ?_
  refine AW.ret ?_
  obtain rfl := hb hq
  exact finI ⟨[cV s0], _, Y25.nil 2 kI64 1, .cons (.tmp rfl) .nil, [0], _, _, rfl, ⟨_, rfl, rfl⟩⟩
 refine AW.cond rfl (fun hn => absurd (hq.symm.trans hn) (by decide)) (fun _ => ?_)
 refine zw ?_
 refine Ops.h (ns := []) rfl rfl (Y3l (k := kI64) (ys := ([] : List Int)) Ybf .nil rfl rfl rfl) ?_
 rintro _ _ ⟨b1, rfl, rfl⟩
 refine zw ?_
 refine Ops.h (ns := [0]) rfl rfl (Y33 Ybf rfl rfl (by simpa using hc) (by simp; omega) rfl) ?_
 rintro _ _ ⟨v, rfl, rfl⟩
 refine zw ?_
 refine AW.ret ?_
 exact finI ⟨[cV v], _, Y25.refl _, .cons (.tmp rfl) .nil, [0], _, _, rfl, ⟨v, rfl, rfl⟩⟩
instance Zg6' (p0 : List Int) : Sp Tryz.prog 161 [cM kI64 1 p0] (Zg5 p0) (fun r => cM kI64 1 r) := ⟨fun r h => Ok.freeze (Zg6 p0 r h) (by rintro c qs ⟨v, rfl, rfl⟩; exact Frz.arr)⟩
instance Zg7 (p0 : List Int) : SpO Tryz.prog 161 (Zg5 p0) (.d [cM kI64 1 p0] [] fun r => .x fun (v : Value) => .d (cV v) [oA v 2 kI64 1 r]) := ⟨fun r h => Zg6 p0 r h⟩

def Zg8 : Option Bool := some false
def Zg9 (x24 : Int) (m36 : List (Int × Bool)) (l38 : List Int) : Option (((List (Int × Bool)) × List Int × Int) ⊕ (Bool ⊕ Unit)) := some (.inl (m36, l38, (IntKind.i64.wrap (x24 + 1))))
def Zga (p0 : Y9y) (p1 : Int) (m21 : List (Int × Bool)) (l23 : List Int) (x24 : Int) : Option (((List (Int × Bool)) × List Int × Int) ⊕ (Bool ⊕ Unit)) := cond (decide (x24 < (l23.length : Int))) ((getI l23 x24).bind fun e26 => cond (e26 == p1) (some (.inr (.inl true))) (cond (Option.getD (mget m21 e26) false) (Zg9 x24 m21 l23) ((Zdj p0 e26).bind fun r30 => (chk (decide ((l23.length + r30.1.prev.length) * 8 ≤ 140737488355328))).bind fun u34 => Zg9 x24 (mset m21 e26 true) (l23 ++ r30.1.prev)))) (some (.inr (.inr ())))
def Zgb (p0 : Y9y) (p1 : Int) (p2 : Y9t) : Option Bool := (Zg5 p2.prev).bind fun r4 => (iter (fun z39 => Zga p0 p1 z39.1 z39.2.1 z39.2.2) big (([] : List (Int × Bool)), r4, 0)).bind (fun z41 => match z41 with | .inl y40 => some y40 | .inr () => Zg8)
instance Zgc (p0 : Y9y) (p1 : Int) (p2 : Y9t) : Sp Tryz.prog 154 [C.agg [cI p0.room, cM Ya6 9 p0.events, cM Ya6 9 p0.parked], cI p1, C.agg [cI p2.id, cI p2.room, cI p2.author, cI p2.kind, cI p2.key, cI p2.n, C.str p2.text, cM kI64 1 p2.prev, cI p2.time]] (Zgb p0 p1 p2) (fun r => C.bool r) := Sp.of (so Tryz.func154 rfl rfl fun r X h => gh (.k (.c0 (.d [] []) [] [] (.O 1 fun b3 => .l3 (fun m21 l23 x24 => .x fun v22 => .d [(8, cV v22), (9, cI x24)] [Abs.Obj.map b3 .i64 Yan m21, oA v22 2 kI64 1 l23]) [1,3,7] [3] (.b (.o 0 fun b3 => .c2 (fun m36 l38 => .x fun v37 => .d [(8, cV v37)] [Abs.Obj.map b3 .i64 Yan m36, oA v37 2 kI64 1 l38]) [1,3,7,9] [2] .z .z) .z)) .z)))

def Zgd (p0 : Ya4) (p1 : Y9t) (r5 : List Ya0) (x15 : Int) (x29 : Bool) : Option ((List (Int × List Ya0)) × (List (Int × List Ya0)) × (List (Int × Int))) := cond x29 ((Zfd r5 (Ya0.mk p1.kind p1.key p1.id)).bind fun r31 => some ((mset p0.before p1.id r5), (mset (mset p0.after p1.id r5) p1.id r31), (mset p0.refused p1.id x15))) (some ((mset p0.before p1.id r5), (mset p0.after p1.id r5), (mset p0.refused p1.id x15)))
def Zge (p0 : Ya4) (p1 : Y9t) (r5 : List Ya0) (x15 : Int) : Option ((List (Int × List Ya0)) × (List (Int × List Ya0)) × (List (Int × Int))) := cond (x15 == 0) (Zgd p0 p1 r5 x15 (decide (p1.kind ≤ 6))) (Zgd p0 p1 r5 x15 false)
def Zgf (p0 : Ya4) (p1 : Y9t) (r5 : List Ya0) (r7 : Int) (x13 : Bool) : Option ((List (Int × List Ya0)) × (List (Int × List Ya0)) × (List (Int × Int))) := cond x13 (Zge p0 p1 r5 6) (Zge p0 p1 r5 r7)
def Zgg (p0 : Ya4) (p1 : Y9t) : Option ((List (Int × List Ya0)) × (List (Int × List Ya0)) × (List (Int × Int))) := (Zdn p0 p1.prev).bind fun r2 => (Zg3 p0 r2).bind fun r5 => (Zf1 p0.graph r5 p1).bind fun r7 => cond (r7 == 0) (cond (p1.kind == 8) ((Zgb p0.graph p1.key p1).bind fun r11 => Zgf p0 p1 r5 r7 (!r11)) (Zgf p0 p1 r5 r7 false)) (Zgf p0 p1 r5 r7 false)
instance Zgh (p0 : Ya4) (p1 : Y9t) : SpO Tryz.prog 120 (Zgg p0 p1) (.x fun (b00 : Nat) => .x fun (b01 : Nat) => .x fun (b02 : Nat) => .x fun (b03 : Nat) => .x fun (b04 : Nat) => .d [pt b00, C.agg [cI p1.id, cI p1.room, cI p1.author, cI p1.kind, cI p1.key, cI p1.n, C.str p1.text, cM kI64 1 p1.prev, cI p1.time]] [oB b00 136 [cI p0.graph.room, cM Ya6 9 p0.graph.events, cM Ya6 9 p0.graph.parked, mt b01, mt b02, mt b03, mt b04], Abs.Obj.map b01 .i64 Yal p0.depth, Abs.Obj.map b02 .i64 Yam p0.before, Abs.Obj.map b03 .i64 Yam p0.after, Abs.Obj.map b04 .i64 Yal p0.refused] fun r => .d (C.tup []) [oB b00 136 [cI p0.graph.room, cM Ya6 9 p0.graph.events, cM Ya6 9 p0.graph.parked, mt b01, mt b02, mt b03, mt b04], Abs.Obj.map b01 .i64 Yal p0.depth, Abs.Obj.map b02 .i64 Yam r.1, Abs.Obj.map b03 .i64 Yam r.2.1, Abs.Obj.map b04 .i64 Yal r.2.2]) := ⟨fun b00 b01 b02 b03 b04 => so Tryz.func120 rfl rfl fun r X h => gh (.f 10 [] (.r [0,0,0,0,0,0] [3,5] [] [0,4,8,13,16,21,26,28] (.c1 (fun x15 => .d [(5, cI x15)] []) [0,3,4] [0,1,2,3,4,5] (.c1 (fun x13 => .d [(36, C.bool x13)] []) [0,3,4,5] [0,1,2,3,4,5] (.r [0,0,0,0,0,0] [4,11,13,14] [] [0,4,8,12,17,20,24,28,32,36,40,45,48,53,57,62,64,68] .z) .z) (.r [0,0,3] [3,5,9,11,15,17] [29] [0,4,8,13,16,21,24,28,32,37,40,45,48,52,56,61,64,69,72,76,80,86,88,94,98,100,106,110,112,119] (.c1 (fun x29 => .d [(70, C.bool x29)] []) [0,3,4] [1,2,5,4,0,3] .z (.b (.r [0,0,0,0,0,0] [3,5,8,10,12] [15] [0,4,8,13,16,21,24,28,33,36,41,44,49,52,58,63] .z) .z))))))⟩

def Zgi (p0 : Y9y) (m23 : List (Int × Int)) (m46 : List (Int × List Ya0)) (m47 : List (Int × List Ya0)) (m48 : List (Int × Int)) : Option Ya4 := some (Ya4.mk p0 m23 m46 m47 m48)
def Zgj (p0 : Y9y) (m23 : List (Int × Int)) (r24 : List Int) (m34 : List (Int × List Ya0)) (m35 : List (Int × List Ya0)) (m36 : List (Int × Int)) (x37 : Int) : Option (((List (Int × List Ya0)) × (List (Int × List Ya0)) × (List (Int × Int)) × Int) ⊕ (((List (Int × List Ya0)) × (List (Int × List Ya0)) × (List (Int × Int))))) := cond (decide (x37 < (r24.length : Int))) ((getI r24 x37).bind fun e39 => (Zdj p0 e39).bind fun r41 => (Zgg (Ya4.mk p0 m23 m34 m35 m36) r41.1).bind fun r44 => some (.inl (r44.1, r44.2.1, r44.2.2, (IntKind.i64.wrap (x37 + 1))))) (some (.inr (m34, m35, m36)))
def Zgk (p0 : Y9y) (m23 : List (Int × Int)) : Option Ya4 := (Zdh p0).bind fun r24 => (iter (fun z54 => Zgj p0 m23 r24 z54.1 z54.2.1 z54.2.2.1 z54.2.2.2) big (([] : List (Int × List Ya0)), ([] : List (Int × List Ya0)), ([] : List (Int × Int)), 0)).bind fun (y55, y56, y57) => Zgi p0 m23 y55 y56 y57
def Zgl (p0 : Y9y) (r7 : List Int × Bool) (m15 : List (Int × Int)) (x16 : Int) : Option (((List (Int × Int)) × Int) ⊕ ((List (Int × Int)))) := cond (decide (x16 < (p0.events.length : Int))) ((getI p0.events x16).bind fun e18 => (getI r7.1 x16).bind fun e21 => some (.inl ((mset m15 e18.id e21), (IntKind.i64.wrap (x16 + 1))))) (some (.inr m15))
def Zgm (p0 : Y9y) : Option Ya4 := (Zbg p0).bind fun r7 => (iter (fun z58 => Zgl p0 r7 z58.1 z58.2) big (([] : List (Int × Int)), 0)).bind fun y59 => Zgk p0 y59
instance Zgn (p0 : Y9y) : SpO Tryz.prog 78 (Zgm p0) (.d [C.agg [cI p0.room, cM Ya6 9 p0.events, cM Ya6 9 p0.parked]] [] fun r => .x fun (b49 : Nat) => .x fun (b50 : Nat) => .x fun (b51 : Nat) => .x fun (b52 : Nat) => .x fun (b53 : Nat) => .d (pt b49) [oB b49 136 [cI r.graph.room, cM Ya6 9 r.graph.events, cM Ya6 9 r.graph.parked, mt b50, mt b51, mt b52, mt b53], Abs.Obj.map b50 .i64 Yal r.depth, Abs.Obj.map b51 .i64 Yam r.before, Abs.Obj.map b52 .i64 Yam r.after, Abs.Obj.map b53 .i64 Yal r.refused]) := ⟨so Tryz.func78 rfl rfl fun r X h => gh (.q 3 (.o 4 fun b2 => .c1 (fun m23 => .d [] [Abs.Obj.map b2 .i64 Yal m23]) [1,3] [5,0,3,2,1] (.O 4 fun b2 => .l2 (fun m15 x16 => .d [(27, cI x16)] [Abs.Obj.map b2 .i64 Yal m15]) [1,3,4,25,26] [5,0,3,2,1] (.b (.r [0,0,0,0,0,0,0] [3,5,9] [10] [0,4,8,13,16,21,24,28,32,37,43] .z) .z)) (.o 3 fun b3 => .o 4 fun b4 => .o 5 fun b5 => .c3 (fun m46 m47 m48 => .d [] [Abs.Obj.map b3 .i64 Yam m46, Abs.Obj.map b4 .i64 Yam m47, Abs.Obj.map b5 .i64 Yal m48]) [3] [2,0] (.O 3 fun b3 => .O 4 fun b4 => .O 5 fun b5 => .l4 (fun m34 m35 m36 x37 => .d [(46, cI x37)] [Abs.Obj.map b3 .i64 Yam m34, Abs.Obj.map b4 .i64 Yam m35, Abs.Obj.map b5 .i64 Yal m36]) [1,3,44,45] [1,2,0] .z) .z)))⟩
instance Zgn' (p0 : Y9y) : Sp Tryz.prog 78 [C.agg [cI p0.room, cM Ya6 9 p0.events, cM Ya6 9 p0.parked]] (Zgm p0) (fun r => C.ip [cI r.graph.room, cM Ya6 9 r.graph.events, cM Ya6 9 r.graph.parked, C.imap .i64 Yal r.depth, C.imap .i64 Yam r.before, C.imap .i64 Yam r.after, C.imap .i64 Yal r.refused]) := ⟨fun r h => Ok.freeze ((Zgn p0).h r h) (by rintro c qs ⟨b49, b50, b51, b52, b53, rfl, rfl⟩; exact Frz.box (fS (fS (fS (FrzL.cons (os := [_]) (Frz.map) (FrzL.cons (os := [_]) (Frz.map) (FrzL.cons (os := [_]) (Frz.map) (FrzL.cons (os := [_]) (Frz.map) (FrzL.nil)))))))))⟩

def Zgo (l28 : List Int) : Option (List Int) := some l28
def Zgp (x15 : Int) (l26 : List Int) : Option ((List Int × Int) ⊕ ((List Int))) := some (.inl (l26, (IntKind.i64.wrap (x15 + 1))))
def Zgq (p0 : Ya4) (l14 : List Int) (x15 : Int) : Option ((List Int × Int) ⊕ ((List Int))) := cond (decide (x15 < (p0.graph.events.length : Int))) ((getI p0.graph.events x15).bind fun e17 => cond ((Option.getD (mget p0.refused e17.id) 0) == 0) ((chk (decide ((l14.length + [e17.id].length) * 8 ≤ 140737488355328))).bind fun u23 => Zgp x15 (l14 ++ [e17.id])) (Zgp x15 l14)) (some (.inr l14))
def Zgr (p0 : Ya4) : Option (List Int) := (iter (fun z30 => Zgq p0 z30.1 z30.2) big (([] : List Int), 0)).bind fun y31 => Zgo y31
instance Zgs (p0 : Ya4) : SpO Tryz.prog 79 (Zgr p0) (.d [C.ip [cI p0.graph.room, cM Ya6 9 p0.graph.events, cM Ya6 9 p0.graph.parked, C.imap .i64 Yal p0.depth, C.imap .i64 Yam p0.before, C.imap .i64 Yam p0.after, C.imap .i64 Yal p0.refused]] [] fun r => .x fun (v29 : Value) => .d (cV v29) [oA v29 2 kI64 1 r]) := ⟨so Tryz.func79 rfl rfl fun r X h => gh (.q 2 (.c1 (fun l28 => .x fun v27 => .d [(3, cV v27)] [oA v27 2 kI64 1 l28]) [] [] (.l2 (fun l14 x15 => .x fun v13 => .d [(3, cV v13), (13, cI x15)] [oA v13 2 kI64 1 l14]) [0,11,12] [] (.b (.c1 (fun l26 => .x fun v25 => .d [(3, cV v25)] [oA v25 2 kI64 1 l26]) [0,11,12,13] [] (.r [0,0] [3,5,6] [] [0,4,8,13,16,21,25,28] .z) .z) .z)) .z))⟩
instance Zgs' (p0 : Ya4) : Sp Tryz.prog 79 [C.ip [cI p0.graph.room, cM Ya6 9 p0.graph.events, cM Ya6 9 p0.graph.parked, C.imap .i64 Yal p0.depth, C.imap .i64 Yam p0.before, C.imap .i64 Yam p0.after, C.imap .i64 Yal p0.refused]] (Zgr p0) (fun r => cM kI64 1 r) := ⟨fun r h => Ok.freeze ((Zgs p0).h r h) (by rintro c qs ⟨v29, rfl, rfl⟩; exact Frz.arr)⟩

def Zgt (p0 : Ya5) (p1 : Int) : Option Ya4 := (getI p0.rooms (IntKind.i64.wrap (p1 - 1))).bind fun e1 => some e1
instance Zgu (p0 : Ya5) (p1 : Int) : SpO Tryz.prog 80 (Zgt p0 p1) (.x fun (b00 : Nat) => .x fun (w01 : Value) => .d [pt b00, cI p1] [oB b00 126 [cM Yac 3 p0.hub.rooms, cM Ya8 2 p0.hub.stream, cV w01], oA w01 127 Yap 1 p0.rooms] fun r => .d (C.ip [cI r.graph.room, cM Ya6 9 r.graph.events, cM Ya6 9 r.graph.parked, C.imap .i64 Yal r.depth, C.imap .i64 Yam r.before, C.imap .i64 Yam r.after, C.imap .i64 Yal r.refused]) [oB b00 126 [cM Yac 3 p0.hub.rooms, cM Ya8 2 p0.hub.stream, cV w01], oA w01 127 Yap 1 p0.rooms]) := ⟨fun b00 w01 => so Tryz.func80 rfl rfl fun r X h => gh .z⟩

def Zgv (x2 : Bool) : Option Bool := some x2
def Zgw (p0 : Int) (q0 : Ya4) (q1 : List ((Int × Int) × Bool)) (q2 : Y9v) : Option Bool := cond ((Option.getD (mget q0.refused p0) 0) == 0) (Zgv (!(Option.getD (pget q1 (q2.room, p0)) false))) (Zgv false)
instance Zgx (p0 : Int) (q0 : Ya4) (q1 : List ((Int × Int) × Bool)) (q2 : Y9v) : SpO Tryz.prog 83 (Zgw p0 q0 q1 q2) (.x fun (b00 : Nat) => .x fun (b01 : Nat) => .x fun (b02 : Nat) => .x fun (b03 : Nat) => .d [cI p0, pt b00, pt b01, pt b03] [oB b00 127 [C.ip [cI q0.graph.room, cM Ya6 9 q0.graph.events, cM Ya6 9 q0.graph.parked, C.imap .i64 Yal q0.depth, C.imap .i64 Yam q0.before, C.imap .i64 Yam q0.after, C.imap .i64 Yal q0.refused]], oB b01 130 [mt b02], Abs.Obj.pmap b02 Yan q1, oB b03 40 [cI q2.room, cI q2.id]] fun r => .d (C.bool r) [oB b00 127 [C.ip [cI q0.graph.room, cM Ya6 9 q0.graph.events, cM Ya6 9 q0.graph.parked, C.imap .i64 Yal q0.depth, C.imap .i64 Yam q0.before, C.imap .i64 Yam q0.after, C.imap .i64 Yal q0.refused]], oB b01 130 [mt b02], Abs.Obj.pmap b02 Yan q1, oB b03 40 [cI q2.room, cI q2.id]]) := ⟨fun b00 b01 b02 b03 => so Tryz.func83 rfl rfl fun r X h => gh (.q 1 (.c1 (fun x2 => .d [(5, C.bool x2)] []) [] [0,1,2,3] .z .z))⟩

def Zgy : Option Int := some (-1)
def Zgz (p0 : List Int) (p1_0 : Ya4) (p1_1 : List ((Int × Int) × Bool)) (p1_2 : Y9v) (x7 : Int) : Option (Int ⊕ (Int ⊕ Unit)) := cond (decide (x7 < (p0.length : Int))) ((getI p0 x7).bind fun e9 => (Zgw e9 p1_0 p1_1 p1_2).bind fun r11 => cond r11 (some (.inr (.inl x7))) (some (.inl (IntKind.i64.wrap (x7 + 1))))) (some (.inr (.inr ())))
def Zh0 (p0 : List Int) (p1_0 : Ya4) (p1_1 : List ((Int × Int) × Bool)) (p1_2 : Y9v) : Option Int := (iter (Zgz p0 p1_0 p1_1 p1_2) big 0).bind (fun z15 => match z15 with | .inl y14 => some y14 | .inr () => Zgy)
instance Zh1 (p0 : List Int) (p1_0 : Ya4) (p1_1 : List ((Int × Int) × Bool)) (p1_2 : Y9v) : SpO Tryz.prog 122 (Zh0 p0 p1_0 p1_1 p1_2) (.x fun (b00 : Nat) => .x fun (b01 : Nat) => .x fun (b02 : Nat) => .x fun (b03 : Nat) => .d [cM kI64 1 p0, C.clo 83 [pt b00, pt b01, pt b03]] [oB b00 127 [C.ip [cI p1_0.graph.room, cM Ya6 9 p1_0.graph.events, cM Ya6 9 p1_0.graph.parked, C.imap .i64 Yal p1_0.depth, C.imap .i64 Yam p1_0.before, C.imap .i64 Yam p1_0.after, C.imap .i64 Yal p1_0.refused]], oB b01 130 [mt b02], Abs.Obj.pmap b02 Yan p1_1, oB b03 40 [cI p1_2.room, cI p1_2.id]] fun r => .d (cI r) [oB b00 127 [C.ip [cI p1_0.graph.room, cM Ya6 9 p1_0.graph.events, cM Ya6 9 p1_0.graph.parked, C.imap .i64 Yal p1_0.depth, C.imap .i64 Yam p1_0.before, C.imap .i64 Yam p1_0.after, C.imap .i64 Yal p1_0.refused]], oB b01 130 [mt b02], Abs.Obj.pmap b02 Yan p1_1, oB b03 40 [cI p1_2.room, cI p1_2.id]]) := ⟨fun b00 b01 b02 b03 => so Tryz.func122 rfl rfl fun r X h => gh (.q 1 (.c0 (.d [] []) [] [0,1,2,3] (.l1 (fun x7 => .d [(8, cI x7)] []) [0,1,7] [0,1,2,3] .z) .z))⟩

def Zh2 (p0 : List Int) (p1_0 : Ya4) (p1_1 : List ((Int × Int) × Bool)) (p1_2 : Y9v) : Option Bool := (Zh0 p0 p1_0 p1_1 p1_2).bind fun r1 => some (decide (r1 ≥ 0))
instance Zh3 (p0 : List Int) (p1_0 : Ya4) (p1_1 : List ((Int × Int) × Bool)) (p1_2 : Y9v) : SpO Tryz.prog 82 (Zh2 p0 p1_0 p1_1 p1_2) (.x fun (b00 : Nat) => .x fun (b01 : Nat) => .x fun (b02 : Nat) => .x fun (b03 : Nat) => .d [cM kI64 1 p0, C.clo 83 [pt b00, pt b01, pt b03]] [oB b00 127 [C.ip [cI p1_0.graph.room, cM Ya6 9 p1_0.graph.events, cM Ya6 9 p1_0.graph.parked, C.imap .i64 Yal p1_0.depth, C.imap .i64 Yam p1_0.before, C.imap .i64 Yam p1_0.after, C.imap .i64 Yal p1_0.refused]], oB b01 130 [mt b02], Abs.Obj.pmap b02 Yan p1_1, oB b03 40 [cI p1_2.room, cI p1_2.id]] fun r => .d (C.bool r) [oB b00 127 [C.ip [cI p1_0.graph.room, cM Ya6 9 p1_0.graph.events, cM Ya6 9 p1_0.graph.parked, C.imap .i64 Yal p1_0.depth, C.imap .i64 Yam p1_0.before, C.imap .i64 Yam p1_0.after, C.imap .i64 Yal p1_0.refused]], oB b01 130 [mt b02], Abs.Obj.pmap b02 Yan p1_1, oB b03 40 [cI p1_2.room, cI p1_2.id]]) := ⟨fun b00 b01 b02 b03 => so Tryz.func82 rfl rfl fun r X h => gh .z⟩

def Zh4 (p0 : Y9z) (l100 : List Ya4) (x101 : Int) : Option (Ya5 × Bool) := cond (x101 == (p0.stream.length : Int)) (some ((Ya5.mk p0 l100), (x101 == (p0.stream.length : Int)))) (some ((Ya5.mk (Y9z.mk [] []) []), (x101 == (p0.stream.length : Int))))
def Zh5 (m178 : List ((Int × Int) × Bool)) (x179 : Int) (e181 : Y9v) (x252 : Bool) : Option (((List ((Int × Int) × Bool)) × Int) ⊕ ((Ya5 × Bool) ⊕ Unit)) := cond x252 (some (.inr (.inl ((Ya5.mk (Y9z.mk [] []) []), false)))) (some (.inl ((pset m178 (e181.room, e181.id) true), (IntKind.i64.wrap (x179 + 1)))))
def Zh6 (m178 : List ((Int × Int) × Bool)) (x179 : Int) (e181 : Y9v) (r189 : Ya4) (x196 : Int) (x197 : Int) (x198 : Int) (x199 : Int) (x200 : Int) (x201 : Int) (x202 : ByteArray) (l203 : List Int) (x204 : Int) (x205 : Bool) : Option (((List ((Int × Int) × Bool)) × Int) ⊕ ((Ya5 × Bool) ⊕ Unit)) := cond x205 (cond ((Option.getD (mget r189.refused e181.id) 0) != 0) (Zh5 m178 x179 e181 true) ((Zh2 l203 r189 m178 e181).bind fun r244 => Zh5 m178 x179 e181 r244)) (Zh5 m178 x179 e181 true)
def Zh7 (p0 : Y9z) (l100 : List Ya4) (m178 : List ((Int × Int) × Bool)) (x179 : Int) (e181 : Y9v) (x187 : Bool) : Option (((List ((Int × Int) × Bool)) × Int) ⊕ ((Ya5 × Bool) ⊕ Unit)) := cond x187 (some (.inr (.inl ((Ya5.mk (Y9z.mk [] []) []), false)))) ((Zgt (Ya5.mk p0 l100) e181.room).bind fun r189 => (Zdj r189.graph e181.id).bind fun r192 => Zh6 m178 x179 e181 r189 r192.1.id r192.1.room r192.1.author r192.1.kind r192.1.key r192.1.n r192.1.text r192.1.prev r192.1.time r192.2)
def Zh8 (p0 : Y9z) (l100 : List Ya4) (m178 : List ((Int × Int) × Bool)) (x179 : Int) : Option (((List ((Int × Int) × Bool)) × Int) ⊕ ((Ya5 × Bool) ⊕ Unit)) := cond (decide (x179 < (p0.stream.length : Int))) ((getI p0.stream x179).bind fun e181 => (Z9g e181.room).bind fun r184 => cond r184 (Zh7 p0 l100 m178 x179 e181 (Option.getD (pget m178 (e181.room, e181.id)) false)) (Zh7 p0 l100 m178 x179 e181 true)) (some (.inr (.inr ())))
def Zh9 (p0 : Y9z) (l100 : List Ya4) (x101 : Int) : Option (Ya5 × Bool) := (iter (fun z255 => Zh8 p0 l100 z255.1 z255.2) big (([] : List ((Int × Int) × Bool)), 0)).bind (fun z257 => match z257 with | .inl y256 => some y256 | .inr () => Zh4 p0 l100 x101)
def Zha (l57 : List Ya4) (x58 : Int) (x59 : Int) (e61 : Y9y) (x67 : Bool) : Option ((List Ya4 × Int × Int) ⊕ ((Ya5 × Bool) ⊕ (List Ya4 × Int))) := cond x67 (some (.inr (.inl ((Ya5.mk (Y9z.mk [] []) []), false)))) ((Zgm e61).bind fun r83 => (chk (decide ((l57.length + [r83].length) * 8 ≤ 140737488355328))).bind fun u92 => (getI (l57 ++ [r83]) x59).bind fun e95 => (Zgr e95).bind fun r97 => some (.inl ((l57 ++ [r83]), (IntKind.i64.wrap (x58 + (r97.length : Int))), (IntKind.i64.wrap (x59 + 1)))))
def Zhb (p0 : Y9z) (l57 : List Ya4) (x58 : Int) (x59 : Int) : Option ((List Ya4 × Int × Int) ⊕ ((Ya5 × Bool) ⊕ (List Ya4 × Int))) := cond (decide (x59 < (p0.rooms.length : Int))) ((getI p0.rooms x59).bind fun e61 => (Zc0 e61).bind fun r64 => cond r64 (Zha l57 x58 x59 e61 (e61.room != (IntKind.i64.wrap (x59 + 1)))) (Zha l57 x58 x59 e61 true)) (some (.inr (.inr (l57, x58))))
def Zhc (p0 : Y9z) (x3 : Bool) : Option (Ya5 × Bool) := cond x3 (some ((Ya5.mk (Y9z.mk [] []) []), false)) ((iter (fun z258 => Zhb p0 z258.1 z258.2.1 z258.2.2) big ([], 0, 0)).bind (fun z262 => match z262 with | .inl y259 => some y259 | .inr (y260, y261) => Zh9 p0 y260 y261))
def Zhd (p0 : Y9z) : Option (Ya5 × Bool) := cond ((p0.rooms.length : Int) != 3) (Zhc p0 true) (Zhc p0 (decide ((p0.stream.length : Int) > 120)))
instance Zhe (p0 : Y9z) : SpO Tryz.prog 40 (Zhd p0) (.d [C.agg [cM Yac 3 p0.rooms, cM Ya8 2 p0.stream]] [] fun r => .b r.2 (.d (C.tup [C.ip [cM Yac 3 r.1.hub.rooms, cM Ya8 2 r.1.hub.stream, cM Yap 1 r.1.rooms], C.bool r.2]) []) (.d (C.tup [C.any, C.bool r.2]) [])) := ⟨so Tryz.func40 rfl rfl fun r X h => gh (.q 2 (.c1 (fun x3 => .d [(23, C.bool x3)] []) [1] [0] .z (.b .z (.q 1 (.o 0 fun b5 => .c2 (fun l100 x101 => .x fun v99 => .d [(5, cI x101)] [oB b5 126 [cM Yac 3 p0.rooms, cM Ya8 2 p0.stream, cV v99], oA v99 127 Yap 1 l100]) [1,4] [1] (.O 0 fun b5 => .l3 (fun l57 x58 x59 => .x fun v56 => .d [(5, cI x58), (30, cI x59)] [oB b5 126 [cM Yac 3 p0.rooms, cM Ya8 2 p0.stream, cV v56], oA v56 127 Yap 1 l57]) [1,4,28,29] [1] (.b (.q 3 (.c1 (fun x67 => .d [(44, C.bool x67)] []) [1,4,5,6,7,28,29,30] [3,1,2,0] .z (.b .z (.r [0,0,1] [4,5] [11] [0,4,8,12,17,21,26,30,34,36,40,47] (.k (.f 51 [] .z)))))) .z)) (.q 1 (.c0 (.d [] []) [1,4,5] [4,2,3] (.O 1 fun b102 => .l2 (fun m178 x179 => .d [(72, cI x179)] [Abs.Obj.pmap b102 Yan m178]) [1,4,5,8,70,71] [4,2,3,0] (.b (.q 3 (.c1 (fun x187 => .d [(84, C.bool x187)] []) [1,4,5,8,10,70,71,72] [2,3,4,5,1,0] .z (.b .z (.q 1 (.c10 (fun x196 x197 x198 x199 x200 x201 x202 l203 x204 x205 => .x fun b195 => .d [(12, pt b195), (13, C.bool x205)] [oB b195 82 [cI x196, cI x197, cI x198, cI x199, cI x200, cI x201, C.str x202, cM kI64 1 l203, cI x204]]) [1,4,5,8,10,11,70,71,72] [3,1,2,4,5,6,0] (.R [0,0,0,0,0,0,0] [0,3,5] [11] (.light 0 true (.light 1 false (.light 2 false (.light 3 true (.light 4 false (.light 5 true (.two 6 10 (.light 7 false (.light 8 false (.light 9 false (.one 10 (.late 11 (.light 12 false .done)))))) (.one 6 (.light 7 false (.light 8 false (.light 9 false (.late 11 (.light 12 false .done))))))))))))) (.H 81 .z)) (.q 1 (.c1 (fun x252 => .d [(116, C.bool x252)] []) [1,4,5,8,10,70,71,72] [1,2,3,4,5,6] (.R [0,0,0,0] [3,6,8,9,14] [] (.light 0 false (.light 1 false (.light 2 false (.light 7 false (.two 3 8 (.light 4 false (.light 5 false (.two 6 8 (.one 8 (.one 9 (.light 10 false (.light 11 false (.light 12 false (.light 13 false (.light 15 false (.one 14 (.one 16 (.light 17 false .done)))))))))) (.one 6 (.one 9 (.light 10 false (.light 11 false (.light 12 false (.light 13 false (.light 15 false (.one 14 (.one 16 (.light 17 false .done))))))))))))) (.one 3 (.light 4 false (.light 5 false (.one 6 (.one 9 (.light 10 false (.light 11 false (.light 12 false (.light 13 false (.light 15 false (.one 14 (.one 16 (.light 17 false .done)))))))))))))))))) .z) .z))))))) .z)) (.r [0,0,0] [3] [] [0,4,8,13,16,20,24,28] .z))))))))⟩

def Zhf (p0 : Int) : Option Bool := (Z9e p0 0 120).bind fun r1 => some (!r1)
instance Zhg (p0 : Int) : Sp Tryz.prog 92 [cI p0] (Zhf p0) (fun r => C.bool r) := Sp.of (so Tryz.func92 rfl rfl fun r X h => gh .z)

def Zhh : Option Int := some (-1)
def Zhi (p0 : List Int) (x7 : Int) : Option (Int ⊕ (Int ⊕ Unit)) := cond (decide (x7 < (p0.length : Int))) ((getI p0 x7).bind fun e9 => (Zhf e9).bind fun r11 => cond r11 (some (.inr (.inl x7))) (some (.inl (IntKind.i64.wrap (x7 + 1))))) (some (.inr (.inr ())))
def Zhj (p0 : List Int) : Option Int := (iter (Zhi p0) big 0).bind (fun z15 => match z15 with | .inl y14 => some y14 | .inr () => Zhh)
instance Zhk (p0 : List Int) : Sp Tryz.prog 122 [cM kI64 1 p0, cV (.func (.func 92) #[] #[])] (Zhj p0) (fun r => cI r) := Sp.of (so Tryz.func122 rfl rfl fun r X h => gh (.q 1 (.c0 (.d [] []) [] [] (.l1 (fun x7 => .d [(8, cI x7)] []) [0,1,7] [] .z) .z)))

def Zhl (p0 : List Int) : Option Bool := (Zhj p0).bind fun r1 => some (decide (r1 ≥ 0))
instance Zhm (p0 : List Int) : Sp Tryz.prog 82 [cM kI64 1 p0, cV (.func (.func 92) #[] #[])] (Zhl p0) (fun r => C.bool r) := Sp.of (so Tryz.func82 rfl rfl fun r X h => gh .z)

def Zhn (x8 : Bool) : Option Bool := some x8
def Zho (p0 : Y9w) : Option Bool := (Z9k p0.user).bind fun r2 => cond r2 (cond ((p0.at_.length : Int) == 3) ((Zhl p0.at_).bind fun r6 => Zhn (!r6)) (Zhn false)) (Zhn false)
instance Zhp (p0 : Y9w) : Sp Tryz.prog 55 [C.agg [cI p0.user, cM kI64 1 p0.at_]] (Zho p0) (fun r => C.bool r) := Sp.of (so Tryz.func55 rfl rfl fun r X h => gh (.q 1 (.c1 (fun x8 => .d [(2, C.bool x8)] []) [] [] .z .z)))

def Zhq (p0 : Int) : Option Bool := (Z9e p0 0 2).bind fun r1 => some r1
instance Zhr (p0 : Int) : Sp Tryz.prog 68 [cI p0] (Zhq p0) (fun r => C.bool r) := Sp.of (so Tryz.func68 rfl rfl fun r X h => gh .z)

def Zhs (x20 : Bool) : Option Bool := some x20
def Zht (p0 : Y9x) (x11 : Bool) (x12 : Bool) : Option Bool := (Z9e p0.kind 1 5).bind fun r13 => cond r13 ((Zhq p0.loud).bind fun r16 => cond r16 (cond x11 (Zhs x12) (Zhs false)) (Zhs false)) (Zhs false)
def Zhu (p0 : Y9x) : Option Bool := cond (p0.kind == 1) ((Z9e (p0.text.size : Int) 1 10).bind fun r3 => Zht p0 (p0.n == 0) r3) (cond (p0.kind == 2) ((Z9k p0.n).bind fun r6 => Zht p0 r6 (p0.text.toList == ByteArray.empty.toList)) (cond (p0.kind == 3) ((Z9g p0.n).bind fun r9 => Zht p0 r9 (p0.text.toList == ByteArray.empty.toList)) (Zht p0 (p0.n == 0) (p0.text.toList == ByteArray.empty.toList))))
instance Zhv (p0 : Y9x) : Sp Tryz.prog 42 [C.agg [cI p0.kind, cI p0.n, C.str p0.text, cI p0.loud]] (Zhu p0) (fun r => C.bool r) := Sp.of (so Tryz.func42 rfl rfl fun r X h => gh (.r [0] [1,4] [] [0,5,8,12,17,20,24,28] (.c2 (fun x11 x12 => .d [(3, C.bool x11), (4, C.bool x12)] []) [1] [0] .z (.c1 (fun x20 => .d [(2, C.bool x20)] []) [] [] .z .z))))

def Zhw (p0 : Y9x) : Option Bool := (Zhu p0).bind fun r2 => some (!r2)
instance Zhx (p0 : Y9x) : Sp Tryz.prog 101 [C.agg [cI p0.kind, cI p0.n, C.str p0.text, cI p0.loud]] (Zhw p0) (fun r => C.bool r) := Sp.of (so Tryz.func101 rfl rfl fun r X h => gh .z)

def Zhy : Option Int := some (-1)
def Zhz (p0 : List Y9x) (x7 : Int) : Option (Int ⊕ (Int ⊕ Unit)) := cond (decide (x7 < (p0.length : Int))) ((getI p0 x7).bind fun e9 => (Zhw e9).bind fun r11 => cond r11 (some (.inr (.inl x7))) (some (.inl (IntKind.i64.wrap (x7 + 1))))) (some (.inr (.inr ())))
def Zi0 (p0 : List Y9x) : Option Int := (iter (Zhz p0) big 0).bind (fun z15 => match z15 with | .inl y14 => some y14 | .inr () => Zhy)
instance Zi1 (p0 : List Y9x) : Sp Tryz.prog 134 [cM Ya9 4 p0, cV (.func (.func 101) #[] #[])] (Zi0 p0) (fun r => cI r) := Sp.of (so Tryz.func134 rfl rfl fun r X h => gh (.q 1 (.c0 (.d [] []) [] [] (.l1 (fun x7 => .d [(8, cI x7)] []) [0,1,7] [] .z) .z)))

def Zi2 (p0 : List Y9x) : Option Bool := (Zi0 p0).bind fun r1 => some (decide (r1 ≥ 0))
instance Zi3 (p0 : List Y9x) : Sp Tryz.prog 100 [cM Ya9 4 p0, cV (.func (.func 101) #[] #[])] (Zi2 p0) (fun r => C.bool r) := Sp.of (so Tryz.func100 rfl rfl fun r X h => gh .z)

def Zi4 (x4 : Bool) : Option Bool := some x4
def Zi5 (p0 : List Y9x) : Option Bool := cond (decide ((p0.length : Int) ≤ 20)) ((Zi2 p0).bind fun r2 => Zi4 (!r2)) (Zi4 false)
instance Zi6 (p0 : List Y9x) : Sp Tryz.prog 64 [cM Ya9 4 p0] (Zi5 p0) (fun r => C.bool r) := Sp.of (so Tryz.func64 rfl rfl fun r X h => gh (.q 1 (.c1 (fun x4 => .d [(2, C.bool x4)] []) [] [] .z .z)))

def Zi7 : Option Int := some (-1)
def Zi8 (p0 : List Y9v) (p1 : Y9v) (x6 : Int) : Option (Int ⊕ (Int ⊕ Unit)) := cond (decide (x6 < (p0.length : Int))) ((getI p0 x6).bind fun e8 => cond ((p1.room == e8.room) && ((p1.id == e8.id) && true)) (some (.inr (.inl x6))) (some (.inl (IntKind.i64.wrap (x6 + 1))))) (some (.inr (.inr ())))
def Zi9 (p0 : List Y9v) (p1 : Y9v) : Option Int := (iter (Zi8 p0 p1) big 0).bind (fun z12 => match z12 with | .inl y11 => some y11 | .inr () => Zi7)
instance Zia (p0 : List Y9v) (p1 : Y9v) : Sp Tryz.prog 158 [cM Ya8 2 p0, C.agg [cI p1.room, cI p1.id]] (Zi9 p0 p1) (fun r => cI r) := Sp.of (so Tryz.func158 rfl rfl fun r X h => gh (.q 1 (.c0 (.d [] []) [] [] (.l1 (fun x6 => .d [(8, cI x6)] []) [0,3,7] [0] (.b (.r [0] [0,4] [] [1,4,8,12,17,20] .z) .z)) .z)))

def Zib (p0 : Y9y) (p1 : List Ya0) : Option Int := (Zed p0 p1 6 0).bind fun r2 => cond r2.2 (some r2.1.n) (some 2)
instance Zic (p0 : Y9y) (p1 : List Ya0) : Sp Tryz.prog 125 [C.agg [cI p0.room, cM Ya6 9 p0.events, cM Ya6 9 p0.parked], cM Yaf 3 p1] (Zib p0 p1) (fun r => cI r) := Sp.of (so Tryz.func125 rfl rfl fun r X h => gh .z)

def Zid (p0 : List Int) : Option (List Int) := some p0
def Zie (l85 : List Int) (x86 : Int) : Option (Int ⊕ ((List Int) ⊕ Unit)) := (chk (decide ((0 : Int) ≤ x86 ∧ x86 ≤ (l85.length : Int)))).bind fun u88 => (chk (decide ((Int.toNat x86) ≤ l85.length))).bind fun u90 => (chk (decide ((0 : Int) ≤ x86 ∧ x86 ≤ ((List.take (Int.toNat x86) l85 ++ List.replicate (l85.length - (Int.toNat x86)) 0).length : Int)))).bind fun u92 => some (.inr (.inl (List.take (Int.toNat x86) (List.take (Int.toNat x86) l85 ++ List.replicate (l85.length - (Int.toNat x86)) 0))))
def Zif (x70 : Int) (l83 : List Int) (x84 : Int) : Option ((List Int × Int × Int) ⊕ ((List Int × Int))) := some (.inl (l83, x84, (IntKind.i64.wrap (x70 + 1))))
def Zig (x47 : Int) (l68 : List Int) (x69 : Int) (x70 : Int) : Option ((List Int × Int × Int) ⊕ ((List Int × Int))) := (chk (decide ((Int.toNat x47) ≤ l68.length))).bind fun u72 => cond (decide (x70 < ((List.drop (Int.toNat x47) l68).length : Int))) ((getI (List.drop (Int.toNat x47) l68) x70).bind fun e74 => (getI (List.drop (Int.toNat x47) l68) (IntKind.i64.wrap (x70 - 1))).bind fun e76 => cond (e74 != e76) ((getI (List.drop (Int.toNat x47) l68) x70).bind fun e79 => (getI l68 x69).bind fun e81 => Zif x70 (List.set l68 (Int.toNat x69) e79) (IntKind.i64.wrap (x69 + 1))) (Zif x70 l68 x69)) (some (.inr (l68, x69)))
def Zih (p0 : List Int) (x47 : Int) : Option (Int ⊕ ((List Int) ⊕ Unit)) := cond (decide (x47 < (p0.length : Int))) ((getI p0 x47).bind fun e49 => (getI p0 (IntKind.i64.wrap (x47 - 1))).bind fun e51 => cond (e49 == e51) ((chk (decide ((0 : Int) ≤ x47 ∧ x47 ≤ (p0.length : Int)))).bind fun u55 => (iter (fun z94 => Zig x47 z94.1 z94.2.1 z94.2.2) big (p0, x47, 1)).bind fun (y95, y96) => Zie y95 y96) (some (.inl (IntKind.i64.wrap (x47 + 1))))) (some (.inr (.inr ())))
def Zii (p0 : List Int) : Option (List Int) := cond (decide ((p0.length : Int) < 2)) (some p0) ((iter (Zih p0) big 1).bind (fun z98 => match z98 with | .inl y97 => some y97 | .inr () => Zid p0))
theorem Zij {w00 : Value} (p0 : List Int) (r : List Int) (h : Zii p0 = some r) : Ok Tryz.prog 255 [cV w00] [oA w00 2 kI64 1 p0] (fun c qs => ∃ (v93 : Value), c = cV v93 ∧ qs = [oA v93 2 kI64 1 r]) := by
 refine Ok.of_body (rs := [.tmp 2]) Tryz.func255 rfl rfl rfl rfl rfl fun X => ?_
 unfold Zii at h
 refine zw ?_
 refine cnd h (fun hb1 h => ?_) fun hb1 h => ?_
 ·
  refine AW.ct hb1 rfl ?_
  refine zw ?_
  refine AW.ret ?_
  rw [← Wj h]
  exact finI ⟨[cV w00], _, Y25.refl _, (.cons (.tmp rfl) .nil), [0], _, _, rfl, ⟨w00, rfl, rfl⟩⟩
 refine AW.cf hb1 rfl ?_
 refine AW.skip ?_
 refine AW.seq ?_
 refine AW.cut (τ := Unit) (fun (_ : Unit) => ⟨[(0, cV w00)], [oA w00 2 kI64 1 p0]⟩) (fun (_ : Unit) => Zid p0 = some r) ?_ ?_
 ·
  refine zw ?_
  refine ob' h fun o99 g100 q101 => ?_
  refine AW.loop (τ := Int) (x := 1) (fun x47 => ⟨[(0, cV w00), (3, cI x47)], [oA w00 2 kI64 1 p0]⟩) (fun k x47 => iter (Zih p0) k x47 = some o99) g100 (Y25.both (ns := [0]) rfl rfl) ?_
  intro k x47 i103
  refine Y4d (show iter (Zih p0) k x47 = some o99 from i103) fun k102 y104 hlt_k102 h h105 => ?_
  replace h : Zih p0 x47 = some y104 := h
  unfold Zih at h
  refine zw ?_
  refine cnd h (fun hb48 h => ?_) fun hb48 h => ?_
  ·
   refine AW.ct hb48 rfl ?_
   refine zw ?_
   refine rD [0] [3,8] [] [0,4,8,13,16,20,24,28,33,36] ?_
   refine zw ?_
   refine di h fun e49 g50 h => ?_
   refine zw ?_
   refine di h fun e51 g52 h => ?_
   refine zw ?_
   refine cnd h (fun hb53 h => ?_) fun hb53 h => ?_
   ·
    refine AW.ct hb53 rfl ?_
    refine zw ?_
    refine ob' h fun u55 c54 h => ?_
    refine Ops.v rfl (Y7g (p := 0) (l := (Int.toNat x47)) Yav.h rfl rfl rfl (Wo (Y45 c54)) rfl rfl) ?_
    refine Ops.v rfl (Ys rfl rfl) ?_
    refine Ops.nil ?_
    refine AW.seq ?_
    refine AW.cut (τ := List Int × Int) (fun (l85, x86) => ⟨[(0, cV w00), (3, cI x86)], [oA w00 2 kI64 1 l85]⟩) (fun (l85, x86) => Zie l85 x86 = some y104) ?_ ?_
    ·
     refine zw ?_
     refine ob' h fun o106 g107 q108 => ?_
     refine AW.loop (τ := List Int × Int × Int) (x := (p0, x47, 1)) (fun (l68, x69, x70) => ⟨[(0, cV w00), (3, cI x69), (4, cV (Y7d w00 1 (Int.toNat x47))), (5, cI x70)], [oA w00 2 kI64 1 l68]⟩) (fun k (l68, x69, x70) => iter (fun z94 => Zig x47 z94.1 z94.2.1 z94.2.2) k (l68, x69, x70) = some o106) g107 (Y25.both (ns := [0]) rfl rfl) ?_
     rintro k ⟨l68, x69, x70⟩ i110
     refine Y4d (show iter (fun z94 => Zig x47 z94.1 z94.2.1 z94.2.2) k (l68, x69, x70) = some o106 from i110) fun k109 y111 hlt_k109 h h112 => ?_
     replace h : Zig x47 l68 x69 x70 = some y111 := h
     unfold Zig at h
     refine zw ?_
     refine ob' h fun u72 c71 h => ?_
     refine Ops.v rfl (Y7i (p := 0) Yav.h rfl rfl (Wo (Y45 c71)) rfl) ?_
     refine zw ?_
     refine cnd h (fun hb73 h => ?_) fun hb73 h => ?_
     ·
      refine AW.ct hb73 rfl ?_
      refine AW.skip ?_
      refine AW.seq ?_
      refine AW.cut (τ := List Int × Int) (fun (l83, x84) => ⟨[(0, cV w00), (3, cI x84), (4, cV (Y7d w00 1 (Int.toNat x47))), (5, cI x70)], [oA w00 2 kI64 1 l83]⟩) (fun (l83, x84) => Zif x70 l83 x84 = some y111) ?_ ?_
      ·
       refine zw ?_
       refine rD [0] [3,8] [] [0,4,8,13,16,20,24,28,33,36] ?_
       refine zw ?_
       refine ob' h fun e74 g75 h => ?_
       refine OpsD.v rfl rfl (Y7j (p := 0) Yav.h rfl rfl rfl g75 rfl) ?_
       refine OpsD.v rfl rfl (Y3c (p := 0) ld_2.h rfl rfl (Y7k g75) rfl rfl) ?_
       refine zw ?_
       refine ob' h fun e76 g77 h => ?_
       refine OpsD.v rfl rfl (Y7j (p := 0) Yav.h rfl rfl rfl g77 rfl) ?_
       refine OpsD.v rfl rfl (Y3c (p := 0) ld_2.h rfl rfl (Y7k g77) rfl rfl) ?_
       refine zw ?_
       refine cnd h (fun hb78 h => ?_) fun hb78 h => ?_
       ·
        refine AW.ct hb78 rfl ?_
        refine zw ?_
        refine ob' h fun e79 g80 h => ?_
        refine Ops.v rfl (Y7j (p := 0) Yav.h rfl rfl rfl g80 rfl) ?_
        refine Ops.v rfl (Y3c (p := 0) ld_2.h rfl rfl (Y7k g80) rfl rfl) ?_
        refine oi h fun e81 g82 h => ?_
        refine Ops.hd (ns := [0]) rfl rfl (Y3f (e' := e79) ld_2.h rfl rfl (One.val rfl) (Y2f g82).2.2 rfl rfl) ?_
        refine zw ?_
        exact ⟨((List.set l68 (Int.toNat x69) e79), (IntKind.i64.wrap (x69 + 1))), h, Y25.both (ns := [0]) rfl rfl⟩
       refine AW.cf hb78 rfl ?_
       refine zw ?_
       exact ⟨(l68, x69), h, Y25.both (ns := [0]) rfl rfl⟩
      rintro ⟨l83, x84⟩ h
      replace h : Zif x70 l83 x84 = some y111 := h
      unfold Zif at h
      refine zw ?_
      obtain rfl := Wj h
      exact ⟨k109, (l83, x84, (IntKind.i64.wrap (x70 + 1))), hlt_k109, h112, Y25.both (ns := [0]) rfl rfl⟩
     refine AW.cf hb73 rfl ?_
     refine AW.exit ?_
     obtain rfl := Wj h
     obtain rfl := Wj h112
     replace h := q108
     exact ⟨(l68, x69), h, Y25.both (ns := [0]) rfl rfl⟩
    rintro ⟨l85, x86⟩ h
    replace h : Zie l85 x86 = some y104 := h
    unfold Zie at h
    refine zw ?_
    refine ob' h fun u88 c87 h => ?_
    refine Ops.v rfl (Y7g (p := 0) (l := (Int.toNat x86)) Yav.h rfl rfl rfl (Wo (Y45 c87)) rfl rfl) ?_
    refine ob' h fun u90 c89 h => ?_
    refine Ops.hd (ns := [0]) rfl rfl (Y7o (z := 0) Ybf ze_2 (Y4e rfl rfl) rfl (Wo (Y45 c89))) ?_
    refine zw ?_
    refine ob' h fun u92 c91 h => ?_
    refine Ops.v rfl (Y7h (p := 0) (l := (Int.toNat x86)) Yav.h rfl rfl rfl (Wo (Y45 c91)) rfl rfl) ?_
    refine zw ?_
    refine AW.ret ?_
    obtain rfl := Wj h
    obtain rfl := Wj h105
    replace h := q101
    rw [← Wj h]
    exact finI ⟨[cV (Y7e w00 (Int.toNat x86))], _, Y25.prefix (p := 0) (h := (Int.toNat x86)) rfl (Int.le_toNat_len c91), (.cons (.tmp rfl) .nil), [0], _, _, rfl, ⟨(Y7e w00 (Int.toNat x86)), rfl, rfl⟩⟩
   refine AW.cf hb53 rfl ?_
   refine zw ?_
   obtain rfl := Wj h
   exact ⟨k102, (IntKind.i64.wrap (x47 + 1)), hlt_k102, h105, Y25.both (ns := [0]) rfl rfl⟩
  refine AW.cf hb48 rfl ?_
  refine AW.exit ?_
  obtain rfl := Wj h
  obtain rfl := Wj h105
  replace h := q101
  exact ⟨(), h, Y25.both (ns := [0]) rfl rfl⟩
 rintro ⟨⟩ h
 replace h : Zid p0 = some r := h
 unfold Zid at h
 refine zw ?_
 refine AW.ret ?_
 rw [← Wj h]
 exact finI ⟨[cV w00], _, Y25.refl _, (.cons (.tmp rfl) .nil), [0], _, _, rfl, ⟨w00, rfl, rfl⟩⟩
instance Zik (p0 : List Int) : SpO Tryz.prog 255 (Zii p0) (.x fun (w00 : Value) => .d [cV w00] [oA w00 2 kI64 1 p0] fun r => .x fun (v93 : Value) => .d (cV v93) [oA v93 2 kI64 1 r]) := ⟨fun w00 r h => Zij p0 r h⟩

def Zil (p0 : List Int) : Option (List Int) := (chk (decide (p0.length < 4611686018427387904))).bind fun u2 => (Zii (List.mergeSort p0 (fun x y => decide (x ≤ y)))).bind fun r3 => some r3
instance Zim (p0 : List Int) : SpO Tryz.prog 244 (Zil p0) (.x fun (w00 : Value) => .d [cV w00] [oA w00 2 kI64 1 p0] fun r => .x fun (v6 : Value) => .d (cV v6) [oA v6 2 kI64 1 r]) := ⟨fun w00 => so Tryz.func244 rfl rfl fun r X h => gh (.k .z)⟩
def Zin (p0 : Int) (q0 : Y9t) : Option Bool := (Z9x q0.prev p0).bind fun r1 => some r1
instance Zio (p0 : Int) (q0 : Y9t) : SpO Tryz.prog 246 (Zin p0 q0) (.x fun (b00 : Nat) => .d [cI p0, pt b00] [oB b00 82 [cI q0.id, cI q0.room, cI q0.author, cI q0.kind, cI q0.key, cI q0.n, C.str q0.text, cM kI64 1 q0.prev, cI q0.time]] fun r => .d (C.bool r) [oB b00 82 [cI q0.id, cI q0.room, cI q0.author, cI q0.kind, cI q0.key, cI q0.n, C.str q0.text, cM kI64 1 q0.prev, cI q0.time]]) := ⟨fun b00 => so Tryz.func246 rfl rfl fun r X h => gh .z⟩

def Zip : Option Int := some (-1)
def Ziq (p0 : List Int) (p1_0 : Y9t) (x7 : Int) : Option (Int ⊕ (Int ⊕ Unit)) := cond (decide (x7 < (p0.length : Int))) ((getI p0 x7).bind fun e9 => (Zin e9 p1_0).bind fun r11 => cond r11 (some (.inr (.inl x7))) (some (.inl (IntKind.i64.wrap (x7 + 1))))) (some (.inr (.inr ())))
def Zir (p0 : List Int) (p1_0 : Y9t) : Option Int := (iter (Ziq p0 p1_0) big 0).bind (fun z15 => match z15 with | .inl y14 => some y14 | .inr () => Zip)
instance Zis (p0 : List Int) (p1_0 : Y9t) : SpO Tryz.prog 122 (Zir p0 p1_0) (.x fun (w00 : Value) => .x fun (b01 : Nat) => .d [cV w00, C.clo 246 [pt b01]] [oA w00 2 kI64 1 p0, oB b01 82 [cI p1_0.id, cI p1_0.room, cI p1_0.author, cI p1_0.kind, cI p1_0.key, cI p1_0.n, C.str p1_0.text, cM kI64 1 p1_0.prev, cI p1_0.time]] fun r => .d (cI r) [oA w00 2 kI64 1 p0, oB b01 82 [cI p1_0.id, cI p1_0.room, cI p1_0.author, cI p1_0.kind, cI p1_0.key, cI p1_0.n, C.str p1_0.text, cM kI64 1 p1_0.prev, cI p1_0.time]]) := ⟨fun w00 b01 => so Tryz.func122 rfl rfl fun r X h => gh (.q 1 (.c0 (.d [] []) [] [0,1] (.l1 (fun x7 => .d [(8, cI x7)] []) [0,1,7] [0,1] .z) .z))⟩

end Go.Proofs.YtnoknphekhclcaaGreatDoor
