/- Printed by gen.py: plain functions for Go functions, and that the walks keep to them. -/
import Derived.Test.YtnoknphekhclcaaGreatBQ3
set_option autoImplicit false
set_option linter.unusedVariables false
set_option linter.unusedSimpArgs false
set_option maxHeartbeats 8000000
set_option maxRecDepth 100000
namespace Go.Proofs.YtnoknphekhclcaaGreat
open Go Go.Abs
attribute [local irreducible] AW Ops OpsD Y3z VoK HoK GhF UsC Go.Abs.Fin PkK LenT LenL Y9q BldK FzK FzLK
def Zfh (p0 : List Yai) (p1 : Int) (p2 : List Yai) : Option (List Yai) := insI 24 p0 p1 p2
theorem Zfi {w1 w2 : Value} (p0 : List Yai) (p1 : Int) (p2 : List Yai) (r : List Yai) (h : Zfh p0 p1 p2 = some r) : Ok Tryz.prog 275 [cV w1, cI p1, cV w2] [oA w1 235 Yb1 3 p0, oA w2 235 Yb1 3 p2] (fun c qs => ∃ (v : Value), c = cV v ∧ qs = [oA v 235 Yb1 3 r]) := by
 obtain ⟨i, rfl, hi, hm, hb, rfl⟩ := Y5k h
 refine Ok.of_body (rs := [.tmp 6]) Tryz.func275 rfl rfl rfl rfl rfl fun X => ?_
 refine AW.learn (Sim.arr_cap (p := 0) rfl) fun hw => ?_
 obtain ⟨A, cap, rfl, hc, hmax, hA⟩ := hw
 have hmax0 := hmax
 simp only [maxLen] at hmax
 refine zw ?_
 refine Ops.v rfl (Y5i Yee.h rfl rfl hi hc rfl) ?_
 refine zw ?_
 refine AW.cond rfl (fun hn => absurd ((beq_false_of_ne (by omega)).symm.trans hn) (by decide)) (fun _ => ?_)
 refine zw ?_
 refine tf' (((i : Nat) : Int) == (p0.length : Int)) (fun hq => ?_) (fun hq => ?_)
 ·
  refine AW.cond rfl (fun _ => ?_) (fun hn => absurd (hq.symm.trans hn) (by decide))
  refine zw ?_
  refine Ops.h (ns := [0, 0]) rfl rfl (Y34 Yek rfl rfl hb (by omega) rfl) ?_
  rintro _ _ ⟨v, rfl, rfl⟩
  refine zw ?_
  refine AW.ret ?_
  obtain rfl : i = p0.length := by have := eq_of_beq hq; omega
  rw [List.take_of_length_le (Nat.le_refl _), List.drop_of_length_le (Nat.le_refl _), List.append_nil]
  exact finI ⟨[cV v], _, Y25.refl _, .cons (.tmp rfl) .nil, [0], _, _, rfl, ⟨v, rfl, rfl⟩⟩
 have hlt : i < p0.length := by have := ne_of_beq_false hq; omega
 obtain ⟨b, rfl⟩ := hA.resolve_left (fun e => by rw [e.1] at hlt; exact absurd hlt (Nat.not_lt_zero _))
 refine AW.ghost (Y25.raw (p := 0) rfl) ?_
 rw [← Y5h b 3 p0.length cap]
 refine AW.cond rfl (fun hn => absurd (hq.symm.trans hn) (by decide)) (fun _ => ?_)
 refine AW.skip ?_
 refine AW.seq ?_
 refine AW.seq ?_
 refine AW.region ?_
 refine Ops.v rfl (Yr rfl rfl) ?_
 refine Ops.v rfl (Yr rfl rfl) ?_
 refine Ops.v rfl (Yx (r := .int .i64 ((p0.length + p2.length : Nat) : Int)) rfl rfl (Y5p (by omega) (by omega)) rfl) ?_
 refine zw ?_
 refine Ops.v rfl (Y58 Yee.h rfl rfl) ?_
 refine zw ?_
 refine tf' (decide (((p0.length + p2.length : Nat) : Int) > (cap : Int))) (fun hg => ?_) (fun hg => ?_)
 ·
  have hg1 := Wo hg
  refine AW.cond rfl (fun _ => ?_) (fun hn => absurd (hg.symm.trans hn) (by decide))
  refine zw ?_
  refine Ops.v rfl (Y57 Yee.h rfl rfl (by omega) (by omega) rfl) ?_
  refine Ops.v rfl (Yr rfl rfl) ?_
  refine Ops.v rfl (Yr rfl rfl) ?_
  refine Ops.v rfl (Yx (r := .int .i64 ((p0.length + p2.length : Nat) : Int)) rfl rfl (Y5p (by omega) (by omega)) rfl) ?_
  refine Ops.v rfl (Yr rfl rfl) ?_
  refine Ops.v rfl (Yx (r := .int .i64 ((p0.length + p2.length - i : Nat) : Int)) rfl rfl (Y5q (by omega) (by omega)) rfl) ?_
  refine Ops.h (ns := [0]) rfl rfl (Y5o (N := p0.length + p2.length) (k := Yb1) (z0 := (Yai.mk 0 0 0)) Yek un_3 Yer (Y4g rfl rfl) rfl rfl (xs := p0.take i) (by rw [List.drop_zero, List.take_append_of_le_length (by simp; omega), List.map_take]) (by simp; omega) (by omega) (by omega) (by omega) hb (by decide) rfl) ?_
  rintro _ _ ⟨b2, c2, hc2, hm2, rfl, rfl⟩
  refine zw ?_
  refine Ops.v rfl (Y5n (o' := i) (l' := p0.length + p2.length - i) (c' := c2 - i) Yee.h rfl rfl (by omega) (by omega) (by omega) (by omega) (by omega) (by omega) rfl) ?_
  refine zw ?_
  refine Ops.h (ns := [0, 1]) rfl rfl (Y5c (xs := p2) Yee.h rfl rfl (by rw [List.take_of_length_le (by omega)]) (by simp; omega) rfl) ?_
  rintro _ _ ⟨rfl, rfl⟩
  refine zw ?_
  refine rD [] [] [] [0,4,8,12,16,20,24,28,34] ?_
  refine OpsD.v rfl rfl (Yr rfl rfl) ?_
  refine OpsD.v rfl rfl (Yr rfl rfl) ?_
  refine OpsD.v rfl rfl (Yr rfl rfl) ?_
  refine OpsD.v rfl rfl (Yx (r := .int .i64 ((i + p2.length : Nat) : Int)) rfl rfl (Y5p (by omega) (by omega)) rfl) ?_
  refine OpsD.v rfl rfl (Y5n (o' := i + p2.length) (l' := p0.length - i) (c' := c2 - (i + p2.length)) Yee.h rfl rfl (by omega) (by omega) (by omega) (by omega) (by omega) (by omega) rfl) ?_
  refine zw ?_
  refine OpsD.v rfl rfl (Y5n (o' := i) (l' := p0.length - i) (c' := cap - i) Yee.h rfl rfl (by omega) (by omega) (by omega) (by omega) (by omega) (by omega) rfl) ?_
  refine OpsD.one ?_
  refine Y3z.h (ns := [0, 1]) rfl rfl rfl (Y5j (xs := p0.drop i) Yee.h rfl rfl (by rw [Y5r, List.drop_append_of_le_length (by simp; omega), List.take_append_of_le_length (by simp), List.take_of_length_le (by simp), List.map_drop]) (by rw [Y5r]; simp) (by simp; omega) rfl) ?_
  rintro _ _ ⟨rfl, rfl⟩
  refine zw ?_
  refine AW.ret ?_
  obtain ⟨q1, q2, q3, q4⟩ := Y5m (xs := p0) (ys := p2) (z := (Yai.mk 0 0 0)) (m := p2.length) hlt hc2 rfl _ _ rfl rfl
  exact finI ⟨[cV _], _, Y25.arr2 (p := 0) (m := p0.length + p2.length) rfl q1 (by omega) q2 (by omega) (Y5h _ _ _ _), .cons (.tmp rfl) .nil, [0], _, _, rfl, ⟨_, rfl, rfl⟩⟩
 have hg1 := of_decide_eq_false hg
 refine AW.cond rfl (fun hn => absurd (hg.symm.trans hn) (by decide)) (fun _ => ?_)
 refine AW.skip ?_
 refine AW.seq ?_
 refine AW.region ?_
 refine Ops.v rfl (Yr rfl rfl) ?_
 refine Ops.v rfl (Yr rfl rfl) ?_
 refine Ops.v rfl (Yr rfl rfl) ?_
 refine Ops.v rfl (Yx (r := .int .i64 ((p0.length + p2.length : Nat) : Int)) rfl rfl (Y5p (by omega) (by omega)) rfl) ?_
 refine Ops.v rfl (Y57 Yee.h rfl rfl (by omega) (by omega) rfl) ?_
 refine Ops.v rfl (Ys rfl rfl) ?_
 refine Ops.nil ?_
 refine AW.seq ?_
 refine AW.seq ?_
 refine AW.region ?_
 refine Ops.v rfl (Yr rfl rfl) ?_
 refine Ops.v rfl (Yr rfl rfl) ?_
 refine Ops.v rfl (Yr rfl rfl) ?_
 refine Ops.v rfl (Yr rfl rfl) ?_
 refine Ops.v rfl (Yx (r := .int .i64 ((i + p2.length : Nat) : Int)) rfl rfl (Y5p (by omega) (by omega)) rfl) ?_
 refine Ops.v rfl (Y5n (o' := i + p2.length) (l' := p0.length - i) (c' := cap - (i + p2.length)) Yee.h rfl rfl (by omega) (by omega) (by omega) (by omega) (by omega) (by omega) rfl) ?_
 refine Ops.h (ns := [0, 0]) rfl rfl (Y5d (tR := 4) (k := Yb1) (zs := p2) (ys := p0.map some ++ List.replicate (cap - p0.length) none) Yek Tryz.func301 rfl rfl (by kernel_rfl) (by kernel_rfl) rfl rfl (by intro e; rw [e] at hm; exact absurd hm (by decide)) (by intro e; have := congrArg List.length e; simp at this; omega) rfl) ?_
 rintro _ _ ⟨rfl, rfl⟩
 refine zw ?_
 refine AW.cond rfl (fun _ => ?_) (fun hn => absurd hn (by decide))
 refine zw ?_
 refine rD [] [] [] [0,4,8,12,16,20,24,28,34] ?_
 refine OpsD.v rfl rfl (Yr rfl rfl) ?_
 refine OpsD.v rfl rfl (Yr rfl rfl) ?_
 refine OpsD.v rfl rfl (Yr rfl rfl) ?_
 refine OpsD.v rfl rfl (Yx (r := .int .i64 ((i + p2.length : Nat) : Int)) rfl rfl (Y5p (by omega) (by omega)) rfl) ?_
 refine OpsD.v rfl rfl (Y5n (o' := i + p2.length) (l' := p0.length - i) (c' := cap - (i + p2.length)) Yee.h rfl rfl (by omega) (by omega) (by omega) (by omega) (by omega) (by omega) rfl) ?_
 refine zw ?_
 refine OpsD.v rfl rfl (Y5n (o' := i) (l' := p0.length + p2.length - i) (c' := cap - i) Yee.h rfl rfl (by omega) (by omega) (by omega) (by omega) (by omega) (by omega) rfl) ?_
 refine OpsD.one ?_
 refine Y3z.h (ns := [0]) rfl rfl rfl (Y5b (xs := p0.drop i) Yee.h rfl rfl (by rw [Y5s (by omega), List.drop_append_of_le_length (by simp; omega), List.take_append_of_le_length (by simp), List.take_of_length_le (by simp), List.map_drop]) (by rw [Y5s (by omega)]; simp) (by simp; omega) rfl) ?_
 rintro _ _ ⟨rfl, rfl⟩
 refine zw ?_
 refine Ops.v rfl (Y5n (o' := i) (l' := p0.length + p2.length - i) (c' := cap - i) Yee.h rfl rfl (by omega) (by omega) (by omega) (by omega) (by omega) (by omega) rfl) ?_
 refine zw ?_
 refine Ops.h (ns := [0, 0]) rfl rfl (Y5c (xs := p2) Yee.h rfl rfl (by rw [List.take_of_length_le (by omega)]) (by simp; omega) rfl) ?_
 rintro _ _ ⟨rfl, rfl⟩
 refine zw ?_
 refine AW.ret ?_
 obtain ⟨q1, q2, q3, q4⟩ := Y5l (xs := p0) (ys := p2) (m := p2.length) (c := cap) hlt (by omega) rfl _ _ rfl rfl
 exact finI ⟨[cV _], _, Y25.arr2 (p := 0) (m := p0.length + p2.length) (c := cap) rfl q1 (by omega) q2 hmax0 (Y5h _ _ _ _), .cons (.tmp rfl) .nil, [0], _, _, rfl, ⟨_, rfl, rfl⟩⟩
instance Zfj (p0 : List Yai) (p1 : Int) (p2 : List Yai) : SpO Tryz.prog 275 (Zfh p0 p1 p2) (.x fun (w1 : Value) => .x fun (w2 : Value) => .d [cV w1, cI p1, cV w2] [oA w1 235 Yb1 3 p0, oA w2 235 Yb1 3 p2] fun r => .x fun (v : Value) => .d (cV v) [oA v 235 Yb1 3 r]) := ⟨fun w1 w2 r h => Zfi p0 p1 p2 r h⟩

def Zfk (p1 : Yai) (r2 : List Yai) (r5 : Int × Bool) (x8 : Bool) : Option (List Yai) := cond x8 ((Zfe r2 r5.1 (IntKind.i64.wrap (r5.1 + 1))).bind fun r10 => some r10) (cond (p1.id == 0) (some r2) (cond r5.2 ((getI r2 r5.1).bind fun e15 => some (List.set r2 (Int.toNat r5.1) p1)) ((Zfh r2 r5.1 [p1]).bind fun r18 => some r18)))
def Zfl (p0 : List Yai) (p1 : Yai) : Option (List Yai) := (Zfb p0).bind fun r2 => (Zeh r2 p1).bind fun r5 => cond (p1.id == 0) (Zfk p1 r2 r5 r5.2) (Zfk p1 r2 r5 false)
instance Zfm (p0 : List Yai) (p1 : Yai) : SpO Tryz.prog 254 (Zfl p0 p1) (.d [cM Yb1 3 p0, C.agg [cI p1.kind, cI p1.key, cI p1.id]] [] fun r => .x fun (v21 : Value) => .d (cV v21) [oA v21 235 Yb1 3 r]) := ⟨so Tryz.func254 rfl rfl fun r X h => gh (.k (.q 2 (.c1 (fun x8 => .d [(16, C.bool x8)] []) [3,5,6,7] [1,0] .z (.b (.k .z) (.b .z (.b .z (.k .z)))))))⟩
instance Zfm' (p0 : List Yai) (p1 : Yai) : Sp Tryz.prog 254 [cM Yb1 3 p0, C.agg [cI p1.kind, cI p1.key, cI p1.id]] (Zfl p0 p1) (fun r => cM Yb1 3 r) := ⟨fun r h => Ok.freeze ((Zfm p0 p1).h r h) (by rintro c qs ⟨v21, rfl, rfl⟩; exact Frz.arr)⟩

def Zfn (p0 : List Yai) (q0 : Yai) : Option Bool := (Ze1 p0 q0).bind fun r1 => some (!r1)
instance Zfo (p0 : List Yai) (q0 : Yai) : SpO Tryz.prog 248 (Zfn p0 q0) (.x fun (b00 : Nat) => .d [cM Yb1 3 p0, pt b00] [oB b00 235 [cI q0.kind, cI q0.key, cI q0.id]] fun r => .d (C.bool r) [oB b00 235 [cI q0.kind, cI q0.key, cI q0.id]]) := ⟨fun b00 => so Tryz.func248 rfl rfl fun r X h => gh .z⟩

def Zfp : Option Int := some (-1)
def Zfq (p0 : List (List Yai)) (p1_0 : Yai) (x7 : Int) : Option (Int ⊕ (Int ⊕ Unit)) := cond (decide (x7 < (p0.length : Int))) ((getI p0 x7).bind fun e9 => (Zfn e9 p1_0).bind fun r11 => cond r11 (some (.inr (.inl x7))) (some (.inl (IntKind.i64.wrap (x7 + 1))))) (some (.inr (.inr ())))
def Zfr (p0 : List (List Yai)) (p1_0 : Yai) : Option Int := (iter (Zfq p0 p1_0) big 0).bind (fun z15 => match z15 with | .inl y14 => some y14 | .inr () => Zfp)
instance Zfs (p0 : List (List Yai)) (p1_0 : Yai) : SpO Tryz.prog 269 (Zfr p0 p1_0) (.x fun (b00 : Nat) => .d [cM Yb2 1 p0, C.clo 248 [pt b00]] [oB b00 235 [cI p1_0.kind, cI p1_0.key, cI p1_0.id]] fun r => .d (cI r) [oB b00 235 [cI p1_0.kind, cI p1_0.key, cI p1_0.id]]) := ⟨fun b00 => so Tryz.func269 rfl rfl fun r X h => gh (.q 1 (.c0 (.d [] []) [] [0] (.l1 (fun x7 => .d [(8, cI x7)] []) [0,1,7] [0] .z) .z))⟩

def Zft (p0 : List (List Yai)) (p1_0 : Yai) : Option Bool := (Zfr p0 p1_0).bind fun r1 => some (decide (r1 ≥ 0))
instance Zfu (p0 : List (List Yai)) (p1_0 : Yai) : SpO Tryz.prog 247 (Zft p0 p1_0) (.x fun (b00 : Nat) => .d [cM Yb2 1 p0, C.clo 248 [pt b00]] [oB b00 235 [cI p1_0.kind, cI p1_0.key, cI p1_0.id]] fun r => .d (C.bool r) [oB b00 235 [cI p1_0.kind, cI p1_0.key, cI p1_0.id]]) := ⟨fun b00 => so Tryz.func247 rfl rfl fun r X h => gh .z⟩

def Zfv (p0 : Yaa) (p1 : Yaa) (q0 : Yan) : Option Int := (Ze4 p0).bind fun r3 => (Ze4 p1).bind fun r5 => cond (r3 == r5) ((Zau (Option.getD (mget q0.depth p0.id) 0) (Option.getD (mget q0.depth p1.id) 0)).bind fun r11 => (Zau p0.time p1.time).bind fun r13 => (Zau p0.id p1.id).bind fun r15 => (Ze8 [r11, r13, r15]).bind fun r18 => some r18) ((Ze4 p0).bind fun r8 => cond r8 (some (-1)) (some 1))
instance Zfw (p0 : Yaa) (p1 : Yaa) (q0 : Yan) : Sp Tryz.prog 251 [C.agg [cI p0.id, cI p0.room, cI p0.author, cI p0.kind, cI p0.key, cI p0.n, C.str p0.text, cM kI64 1 p0.prev, cI p0.time], C.agg [cI p1.id, cI p1.room, cI p1.author, cI p1.kind, cI p1.key, cI p1.n, C.str p1.text, cM kI64 1 p1.prev, cI p1.time], C.ip [C.ip [cI q0.graph.room, cM Yap 9 q0.graph.events, cM Yap 9 q0.graph.parked, C.imap .i64 Yb8 q0.depth, C.imap .i64 Yb9 q0.before, C.imap .i64 Yb9 q0.after, C.imap .i64 Yb8 q0.refused]]] (Zfv p0 p1 q0) (fun r => cI r) := Sp.of (so Tryz.func251 rfl rfl fun r X h => gh (.r [0,0] [0,2] [] [1,9,6,14,16] (.b (.r [0,0] [0,3,5,6,7,10,12,13,16,18,21,23] [] [1,4,8,13,16,21,25,29,32,36,41,44,49,53,60,65,68,73,80,85,88,93,58,78,98,102,106,108] .z) .z)))

def Zfx (l205 : List Yai) : Option (List Yai) := some l205
def Zfy (x194 : Int) (l204 : List Yai) : Option ((List Yai × Int) ⊕ ((List Yai))) := some (.inl (l204, (IntKind.i64.wrap (x194 + 1))))
def Zfz (p0 : Yan) (r176 : List Yaa) (l193 : List Yai) (x194 : Int) : Option ((List Yai × Int) ⊕ ((List Yai))) := cond (decide (x194 < (r176.length : Int))) ((getI r176 x194).bind fun e196 => (Zf9 p0.graph l193 e196).bind fun r199 => cond (r199 == 0) ((Zfl l193 (Yai.mk e196.kind e196.key e196.id)).bind fun r202 => Zfy x194 r202) (Zfy x194 l193)) (some (.inr l193))
def Zg0 (p0 : Yan) (l37 : List Yai) (l175 : List Yaa) : Option (List Yai) := (Y8f (fun z1 z2 => Zfv z1 z2 p0) l175).bind fun r176 => (iter (fun z206 => Zfz p0 r176 z206.1 z206.2) big (l37, 0)).bind fun y207 => Zfx y207
def Zg1 (x113 : Int) (l172 : List Yaa) (m173 : List (Int × Bool)) : Option ((List Yaa × (List (Int × Bool)) × Int) ⊕ ((List Yaa))) := some (.inl (l172, m173, (IntKind.i64.wrap (x113 + 1))))
def Zg2 (x145 : Int) (l169 : List Yaa) (m170 : List (Int × Bool)) : Option ((List Yaa × (List (Int × Bool)) × Int) ⊕ ((List Yaa × (List (Int × Bool))))) := some (.inl (l169, m170, (IntKind.i64.wrap (x145 + 1))))
def Zg3 (l143 : List Yaa) (m144 : List (Int × Bool)) (x145 : Int) (e147 : Yai) (x155 : Int) (x156 : Int) (x157 : Int) (x158 : Int) (x159 : Int) (x160 : Int) (x161 : ByteArray) (l162 : List Int) (x163 : Int) : Option ((List Yaa × (List (Int × Bool)) × Int) ⊕ ((List Yaa × (List (Int × Bool))))) := (chk (decide ((l143.length + [(Yaa.mk x155 x156 x157 x158 x159 x160 x161 l162 x163)].length) * 96 ≤ 140737488355328))).bind fun u166 => Zg2 x145 (l143 ++ [(Yaa.mk x155 x156 x157 x158 x159 x160 x161 l162 x163)]) (mset m144 e147.id true)
def Zg4 (p0 : Yan) (e115 : List Yai) (l143 : List Yaa) (m144 : List (Int × Bool)) (x145 : Int) : Option ((List Yaa × (List (Int × Bool)) × Int) ⊕ ((List Yaa × (List (Int × Bool))))) := cond (decide (x145 < (e115.length : Int))) ((getI e115 x145).bind fun e147 => cond (Option.getD (mget m144 e147.id) false) (Zg2 x145 l143 m144) ((Zdr p0.graph e147.id).bind fun r151 => Zg3 l143 m144 x145 e147 r151.1.id r151.1.room r151.1.author r151.1.kind r151.1.key r151.1.n r151.1.text r151.1.prev r151.1.time)) (some (.inr (l143, m144)))
def Zg5 (p0 : Yan) (p1 : List (List Yai)) (l111 : List Yaa) (m112 : List (Int × Bool)) (x113 : Int) : Option ((List Yaa × (List (Int × Bool)) × Int) ⊕ ((List Yaa))) := cond (decide (x113 < (p1.length : Int))) ((getI p1 x113).bind fun e115 => (iter (fun z208 => Zg4 p0 e115 z208.1 z208.2.1 z208.2.2) big (l111, m112, 0)).bind fun (y209, y210) => Zg1 x113 y209 y210) (some (.inr l111))
def Zg6 (p0 : Yan) (p1 : List (List Yai)) (l37 : List Yai) (m49 : List (Int × Bool)) : Option (List Yai) := (iter (fun z211 => Zg5 p0 p1 z211.1 z211.2.1 z211.2.2) big (([] : List Yaa), m49, 0)).bind fun y212 => Zg0 p0 l37 y212
def Zg7 (l37 : List Yai) (m43 : List (Int × Bool)) (x44 : Int) : Option (((List (Int × Bool)) × Int) ⊕ ((List (Int × Bool)))) := cond (decide (x44 < (l37.length : Int))) ((getI l37 x44).bind fun e46 => some (.inl ((mset m43 e46.id true), (IntKind.i64.wrap (x44 + 1))))) (some (.inr m43))
def Zg8 (p0 : Yan) (p1 : List (List Yai)) (l37 : List Yai) : Option (List Yai) := (iter (fun z213 => Zg7 l37 z213.1 z213.2) big (([] : List (Int × Bool)), 0)).bind fun y214 => Zg6 p0 p1 l37 y214
def Zg9 (x22 : Int) (l35 : List Yai) : Option ((List Yai × Int) ⊕ ((List Yai))) := some (.inl (l35, (IntKind.i64.wrap (x22 + 1))))
def Zga (p1 : List (List Yai)) (e5 : List Yai) (l21 : List Yai) (x22 : Int) : Option ((List Yai × Int) ⊕ ((List Yai))) := cond (decide (x22 < (e5.length : Int))) ((getI e5 x22).bind fun e24 => (Zft p1 e24).bind fun r27 => cond r27 (Zg9 x22 l21) ((chk (decide ((l21.length + [e24].length) * 24 ≤ 140737488355328))).bind fun u32 => Zg9 x22 (l21 ++ [e24]))) (some (.inr l21))
def Zgb (p0 : Yan) (p1 : List (List Yai)) : Option (List Yai) := cond (decide ((p1.length : Int) > 0)) ((getI p1 0).bind fun e5 => (iter (fun z215 => Zga p1 e5 z215.1 z215.2) big (([] : List Yai), 0)).bind fun y216 => Zg8 p0 p1 y216) (Zg8 p0 p1 ([] : List Yai))
instance Zgc (p0 : Yan) (p1 : List (List Yai)) : SpO Tryz.prog 187 (Zgb p0 p1) (.x fun (b00 : Nat) => .x fun (b01 : Nat) => .x fun (b02 : Nat) => .x fun (b03 : Nat) => .x fun (b04 : Nat) => .d [pt b00, cM Yb2 1 p1] [oB b00 128 [cI p0.graph.room, cM Yap 9 p0.graph.events, cM Yap 9 p0.graph.parked, mt b01, mt b02, mt b03, mt b04], Abs.Obj.map b01 .i64 Yb8 p0.depth, Abs.Obj.map b02 .i64 Yb9 p0.before, Abs.Obj.map b03 .i64 Yb9 p0.after, Abs.Obj.map b04 .i64 Yb8 p0.refused] fun r => .d (cM Yb1 3 r) [oB b00 128 [cI p0.graph.room, cM Yap 9 p0.graph.events, cM Yap 9 p0.graph.parked, mt b01, mt b02, mt b03, mt b04], Abs.Obj.map b01 .i64 Yb8 p0.depth, Abs.Obj.map b02 .i64 Yb9 p0.before, Abs.Obj.map b03 .i64 Yb9 p0.after, Abs.Obj.map b04 .i64 Yb8 p0.refused]) := ⟨fun b00 b01 b02 b03 b04 => so Tryz.func187 rfl rfl fun r X h => gh (.q 2 (.c1 (fun l37 => .x fun v36 => .d [(5, cV v36)] [oA v36 235 Yb1 3 l37]) [1,2,6] [2,3,4,5,6,7,0] (.b (.l2 (fun l21 x22 => .x fun v20 => .d [(5, cV v20), (29, cI x22)] [oA v20 235 Yb1 3 l21]) [1,2,6,27,28] [2,3,4,5,6,7,0] (.b (.c1 (fun l35 => .x fun v34 => .d [(5, cV v34)] [oA v34 235 Yb1 3 l35]) [1,2,6,27,28,29] [1,2,3,4,5,6,7] .z .z) .z)) .z) (.q 1 (.o 0 fun b38 => .c1 (fun m49 => .d [] [Abs.Obj.map b38 .i64 Yba m49]) [1,2,5,6,9] [2,3,4,5,6,7,1,8] (.O 0 fun b38 => .l2 (fun m43 x44 => .d [(45, cI x44)] [Abs.Obj.map b38 .i64 Yba m43]) [1,2,5,6,9,43,44] [2,3,4,5,6,7,1,8] .z) (.c1 (fun l175 => .x fun v174 => .d [(6, cV v174)] [oA v174 47 Yap 9 l175]) [2,5] [1,2,3,4,5,6,7] (.O 0 fun b38 => .l3 (fun l111 m112 x113 => .x fun v110 => .d [(6, cV v110), (55, cI x113)] [oA v110 47 Yap 9 l111, Abs.Obj.map b38 .i64 Yba m112]) [2,5,9,53,54] [1,2,3,4,5,6,7] (.b (.o 1 fun b38 => .c2 (fun l172 m173 => .x fun v171 => .d [(6, cV v171)] [oA v171 47 Yap 9 l172, Abs.Obj.map b38 .i64 Yba m173]) [2,5,9,53,54,55] [2,3,4,5,6,7,8] (.O 1 fun b38 => .l3 (fun l143 m144 x145 => .x fun v142 => .d [(6, cV v142), (61, cI x145)] [oA v142 47 Yap 9 l143, Abs.Obj.map b38 .i64 Yba m144]) [2,5,9,53,54,55,59,60] [2,3,4,5,6,7,8] (.b (.o 1 fun b38 => .c2 (fun l169 m170 => .x fun v168 => .d [(6, cV v168)] [oA v168 47 Yap 9 l169, Abs.Obj.map b38 .i64 Yba m170]) [2,5,9,53,54,55,59,60,61] [2,3,4,5,6,7,8] (.b .z (.q 1 (.c9 (fun x155 x156 x157 x158 x159 x160 x161 l162 x163 => .x fun b154 => .d [(16, pt b154)] [oB b154 47 [cI x155, cI x156, cI x157, cI x158, cI x159, cI x160, C.str x161, cM kI64 1 l162, cI x163]]) [2,5,6,9,53,54,55,59,60,61] [3,4,5,6,7,8,9,2,0] (.R [0,0,0,0,0,0,0,0,0,0] [0,3,5] [11] (.light 0 true (.light 1 false (.light 2 false (.light 3 true (.light 4 false (.light 5 true (.two 6 10 (.light 7 false (.light 8 false (.light 9 false (.one 10 (.late 11 (.light 12 false .done)))))) (.one 6 (.light 7 false (.light 8 false (.light 9 false (.late 11 (.light 12 false .done))))))))))))) (.H 120 .z)) .z))) .z) .z)) .z) .z)) (.q 1 (.c1 (fun l205 => .d [(5, cM Yb1 3 l205)] []) [] [2,3,4,5,6] (.l2 (fun l193 x194 => .d [(5, cM Yb1 3 l193), (94, cI x194)] []) [2,92,93] [1,2,3,4,5,6,0] (.b (.c1 (fun l204 => .d [(5, cM Yb1 3 l204)] []) [2,92,93,94] [0,1,2,3,4,5,6] (.r [0,0,0,0,0,0,0,0] [0,3,5] [] [1,4,8,13,16,21,26,28] .z) .z) .z)) .z)))))))⟩

def Zgd (p0 : List Int) : Option (List Int) := (chk (decide (p0.length * 8 ≤ 140737488355328))).bind fun _ => some p0
theorem Zge (p0 : List Int) (r : List Int) (h : Zgd p0 = some r) : Ok Tryz.prog 229 [cM kI64 1 p0] [] (fun c qs => ∃ (v : Value), c = cV v ∧ qs = [oA v 2 kI64 1 r]) := by
 refine ob' h fun u hc h => ?_
 obtain rfl := Wj h
 have hc := Wo (Y45 hc)
 refine Ok.of_body (rs := [.tmp 2]) Tryz.func229 rfl rfl rfl rfl rfl fun X => ?_
 refine zw ?_
 refine Ops.h (ns := []) rfl rfl (Y63 Ybk.h rfl rfl) ?_
 rintro _ _ ⟨b, hb, rfl, rfl⟩
 refine zw ?_
 refine tf' b (fun hq => ?_) (fun hq => ?_)
 ·
  refine AW.cond rfl (fun _ => ?_) (fun hn => absurd (hq.symm.trans hn) (by decide))
  refine zw ?_
  refine AW.ret ?_
  obtain rfl := hb hq
  exact finI ⟨[cV s0], _, Y25.nil 2 kI64 1, .cons (.tmp rfl) .nil, [0], _, _, rfl, ⟨_, rfl, rfl⟩⟩
 refine AW.cond rfl (fun hn => absurd (hq.symm.trans hn) (by decide)) (fun _ => ?_)
 refine zw ?_
 refine Ops.h (ns := []) rfl rfl (Y3l (k := kI64) (ys := ([] : List Int)) Yc9 .nil rfl rfl rfl) ?_
 rintro _ _ ⟨b1, rfl, rfl⟩
 refine zw ?_
 refine Ops.h (ns := [0]) rfl rfl (Y33 Yc9 rfl rfl (by simpa using hc) (by simp; omega) rfl) ?_
 rintro _ _ ⟨v, rfl, rfl⟩
 refine zw ?_
 refine AW.ret ?_
 exact finI ⟨[cV v], _, Y25.refl _, .cons (.tmp rfl) .nil, [0], _, _, rfl, ⟨v, rfl, rfl⟩⟩
instance Zge' (p0 : List Int) : Sp Tryz.prog 229 [cM kI64 1 p0] (Zgd p0) (fun r => cM kI64 1 r) := ⟨fun r h => Ok.freeze (Zge p0 r h) (by rintro c qs ⟨v, rfl, rfl⟩; exact Frz.arr)⟩
instance Zgf (p0 : List Int) : SpO Tryz.prog 229 (Zgd p0) (.d [cM kI64 1 p0] [] fun r => .x fun (v : Value) => .d (cV v) [oA v 2 kI64 1 r]) := ⟨fun r h => Zge p0 r h⟩

def Zgg : Option Bool := some false
def Zgh (x24 : Int) (m36 : List (Int × Bool)) (l38 : List Int) : Option (((List (Int × Bool)) × List Int × Int) ⊕ (Bool ⊕ Unit)) := some (.inl (m36, l38, (IntKind.i64.wrap (x24 + 1))))
def Zgi (p0 : Yaf) (p1 : Int) (m21 : List (Int × Bool)) (l23 : List Int) (x24 : Int) : Option (((List (Int × Bool)) × List Int × Int) ⊕ (Bool ⊕ Unit)) := cond (decide (x24 < (l23.length : Int))) ((getI l23 x24).bind fun e26 => cond (e26 == p1) (some (.inr (.inl true))) (cond (Option.getD (mget m21 e26) false) (Zgh x24 m21 l23) ((Zdr p0 e26).bind fun r30 => (chk (decide ((l23.length + r30.1.prev.length) * 8 ≤ 140737488355328))).bind fun u34 => Zgh x24 (mset m21 e26 true) (l23 ++ r30.1.prev)))) (some (.inr (.inr ())))
def Zgj (p0 : Yaf) (p1 : Int) (p2 : Yaa) : Option Bool := (Zgd p2.prev).bind fun r4 => (iter (fun z39 => Zgi p0 p1 z39.1 z39.2.1 z39.2.2) big (([] : List (Int × Bool)), r4, 0)).bind (fun z41 => match z41 with | .inl y40 => some y40 | .inr () => Zgg)
instance Zgk (p0 : Yaf) (p1 : Int) (p2 : Yaa) : Sp Tryz.prog 189 [C.agg [cI p0.room, cM Yap 9 p0.events, cM Yap 9 p0.parked], cI p1, C.agg [cI p2.id, cI p2.room, cI p2.author, cI p2.kind, cI p2.key, cI p2.n, C.str p2.text, cM kI64 1 p2.prev, cI p2.time]] (Zgj p0 p1 p2) (fun r => C.bool r) := Sp.of (so Tryz.func189 rfl rfl fun r X h => gh (.k (.c0 (.d [] []) [] [] (.O 1 fun b3 => .l3 (fun m21 l23 x24 => .x fun v22 => .d [(8, cV v22), (9, cI x24)] [Abs.Obj.map b3 .i64 Yba m21, oA v22 2 kI64 1 l23]) [1,3,7] [3] (.b (.o 0 fun b3 => .c2 (fun m36 l38 => .x fun v37 => .d [(8, cV v37)] [Abs.Obj.map b3 .i64 Yba m36, oA v37 2 kI64 1 l38]) [1,3,7,9] [2] .z .z) .z)) .z)))

def Zgl (p0 : Yan) (p1 : Yaa) (r5 : List Yai) (x15 : Int) (x29 : Bool) : Option ((List (Int × List Yai)) × (List (Int × List Yai)) × (List (Int × Int))) := cond x29 ((Zfl r5 (Yai.mk p1.kind p1.key p1.id)).bind fun r31 => some ((mset p0.before p1.id r5), (mset (mset p0.after p1.id r5) p1.id r31), (mset p0.refused p1.id x15))) (some ((mset p0.before p1.id r5), (mset p0.after p1.id r5), (mset p0.refused p1.id x15)))
def Zgm (p0 : Yan) (p1 : Yaa) (r5 : List Yai) (x15 : Int) : Option ((List (Int × List Yai)) × (List (Int × List Yai)) × (List (Int × Int))) := cond (x15 == 0) (Zgl p0 p1 r5 x15 (decide (p1.kind ≤ 6))) (Zgl p0 p1 r5 x15 false)
def Zgn (p0 : Yan) (p1 : Yaa) (r5 : List Yai) (r7 : Int) (x13 : Bool) : Option ((List (Int × List Yai)) × (List (Int × List Yai)) × (List (Int × Int))) := cond x13 (Zgm p0 p1 r5 6) (Zgm p0 p1 r5 r7)
def Zgo (p0 : Yan) (p1 : Yaa) : Option ((List (Int × List Yai)) × (List (Int × List Yai)) × (List (Int × Int))) := (Zdv p0 p1.prev).bind fun r2 => (Zgb p0 r2).bind fun r5 => (Zf9 p0.graph r5 p1).bind fun r7 => cond (r7 == 0) (cond (p1.kind == 8) ((Zgj p0.graph p1.key p1).bind fun r11 => Zgn p0 p1 r5 r7 (!r11)) (Zgn p0 p1 r5 r7 false)) (Zgn p0 p1 r5 r7 false)
instance Zgp (p0 : Yan) (p1 : Yaa) : SpO Tryz.prog 202 (Zgo p0 p1) (.x fun (b00 : Nat) => .x fun (b01 : Nat) => .x fun (b02 : Nat) => .x fun (b03 : Nat) => .x fun (b04 : Nat) => .d [pt b00, C.agg [cI p1.id, cI p1.room, cI p1.author, cI p1.kind, cI p1.key, cI p1.n, C.str p1.text, cM kI64 1 p1.prev, cI p1.time]] [oB b00 128 [cI p0.graph.room, cM Yap 9 p0.graph.events, cM Yap 9 p0.graph.parked, mt b01, mt b02, mt b03, mt b04], Abs.Obj.map b01 .i64 Yb8 p0.depth, Abs.Obj.map b02 .i64 Yb9 p0.before, Abs.Obj.map b03 .i64 Yb9 p0.after, Abs.Obj.map b04 .i64 Yb8 p0.refused] fun r => .d (C.tup []) [oB b00 128 [cI p0.graph.room, cM Yap 9 p0.graph.events, cM Yap 9 p0.graph.parked, mt b01, mt b02, mt b03, mt b04], Abs.Obj.map b01 .i64 Yb8 p0.depth, Abs.Obj.map b02 .i64 Yb9 r.1, Abs.Obj.map b03 .i64 Yb9 r.2.1, Abs.Obj.map b04 .i64 Yb8 r.2.2]) := ⟨fun b00 b01 b02 b03 b04 => so Tryz.func202 rfl rfl fun r X h => gh (.f 10 [] (.r [0,0,0,0,0,0] [3,5] [] [0,4,8,13,16,21,26,28] (.c1 (fun x15 => .d [(5, cI x15)] []) [0,3,4] [0,1,2,3,4,5] (.c1 (fun x13 => .d [(36, C.bool x13)] []) [0,3,4,5] [0,1,2,3,4,5] (.r [0,0,0,0,0,0] [4,11,13,14] [] [0,4,8,12,17,20,24,28,32,36,40,45,48,53,57,62,64,68] .z) .z) (.r [0,0,3] [3,5,9,11,15,17] [29] [0,4,8,13,16,21,24,28,32,37,40,45,48,52,56,61,64,69,72,76,80,86,88,94,98,100,106,110,112,119] (.c1 (fun x29 => .d [(70, C.bool x29)] []) [0,3,4] [1,2,5,4,0,3] .z (.b (.r [0,0,0,0,0,0] [3,5,8,10,12] [15] [0,4,8,13,16,21,24,28,33,36,41,44,49,52,58,63] .z) .z))))))⟩

def Zgq (p0 : Yaf) (m23 : List (Int × Int)) (m46 : List (Int × List Yai)) (m47 : List (Int × List Yai)) (m48 : List (Int × Int)) : Option Yan := some (Yan.mk p0 m23 m46 m47 m48)
def Zgr (p0 : Yaf) (m23 : List (Int × Int)) (r24 : List Int) (m34 : List (Int × List Yai)) (m35 : List (Int × List Yai)) (m36 : List (Int × Int)) (x37 : Int) : Option (((List (Int × List Yai)) × (List (Int × List Yai)) × (List (Int × Int)) × Int) ⊕ (((List (Int × List Yai)) × (List (Int × List Yai)) × (List (Int × Int))))) := cond (decide (x37 < (r24.length : Int))) ((getI r24 x37).bind fun e39 => (Zdr p0 e39).bind fun r41 => (Zgo (Yan.mk p0 m23 m34 m35 m36) r41.1).bind fun r44 => some (.inl (r44.1, r44.2.1, r44.2.2, (IntKind.i64.wrap (x37 + 1))))) (some (.inr (m34, m35, m36)))
def Zgs (p0 : Yaf) (m23 : List (Int × Int)) : Option Yan := (Zdp p0).bind fun r24 => (iter (fun z54 => Zgr p0 m23 r24 z54.1 z54.2.1 z54.2.2.1 z54.2.2.2) big (([] : List (Int × List Yai)), ([] : List (Int × List Yai)), ([] : List (Int × Int)), 0)).bind fun (y55, y56, y57) => Zgq p0 m23 y55 y56 y57
def Zgt (p0 : Yaf) (r7 : List Int × Bool) (m15 : List (Int × Int)) (x16 : Int) : Option (((List (Int × Int)) × Int) ⊕ ((List (Int × Int)))) := cond (decide (x16 < (p0.events.length : Int))) ((getI p0.events x16).bind fun e18 => (getI r7.1 x16).bind fun e21 => some (.inl ((mset m15 e18.id e21), (IntKind.i64.wrap (x16 + 1))))) (some (.inr m15))
def Zgu (p0 : Yaf) : Option Yan := (Zbo p0).bind fun r7 => (iter (fun z58 => Zgt p0 r7 z58.1 z58.2) big (([] : List (Int × Int)), 0)).bind fun y59 => Zgs p0 y59
instance Zgv (p0 : Yaf) : SpO Tryz.prog 118 (Zgu p0) (.d [C.agg [cI p0.room, cM Yap 9 p0.events, cM Yap 9 p0.parked]] [] fun r => .x fun (b49 : Nat) => .x fun (b50 : Nat) => .x fun (b51 : Nat) => .x fun (b52 : Nat) => .x fun (b53 : Nat) => .d (pt b49) [oB b49 128 [cI r.graph.room, cM Yap 9 r.graph.events, cM Yap 9 r.graph.parked, mt b50, mt b51, mt b52, mt b53], Abs.Obj.map b50 .i64 Yb8 r.depth, Abs.Obj.map b51 .i64 Yb9 r.before, Abs.Obj.map b52 .i64 Yb9 r.after, Abs.Obj.map b53 .i64 Yb8 r.refused]) := ⟨so Tryz.func118 rfl rfl fun r X h => gh (.q 3 (.o 4 fun b2 => .c1 (fun m23 => .d [] [Abs.Obj.map b2 .i64 Yb8 m23]) [1,3] [5,0,3,2,1] (.O 4 fun b2 => .l2 (fun m15 x16 => .d [(27, cI x16)] [Abs.Obj.map b2 .i64 Yb8 m15]) [1,3,4,25,26] [5,0,3,2,1] (.b (.r [0,0,0,0,0,0,0] [3,5,9] [10] [0,4,8,13,16,21,24,28,32,37,43] .z) .z)) (.o 3 fun b3 => .o 4 fun b4 => .o 5 fun b5 => .c3 (fun m46 m47 m48 => .d [] [Abs.Obj.map b3 .i64 Yb9 m46, Abs.Obj.map b4 .i64 Yb9 m47, Abs.Obj.map b5 .i64 Yb8 m48]) [3] [2,0] (.O 3 fun b3 => .O 4 fun b4 => .O 5 fun b5 => .l4 (fun m34 m35 m36 x37 => .d [(46, cI x37)] [Abs.Obj.map b3 .i64 Yb9 m34, Abs.Obj.map b4 .i64 Yb9 m35, Abs.Obj.map b5 .i64 Yb8 m36]) [1,3,44,45] [1,2,0] .z) .z)))⟩
instance Zgv' (p0 : Yaf) : Sp Tryz.prog 118 [C.agg [cI p0.room, cM Yap 9 p0.events, cM Yap 9 p0.parked]] (Zgu p0) (fun r => C.ip [cI r.graph.room, cM Yap 9 r.graph.events, cM Yap 9 r.graph.parked, C.imap .i64 Yb8 r.depth, C.imap .i64 Yb9 r.before, C.imap .i64 Yb9 r.after, C.imap .i64 Yb8 r.refused]) := ⟨fun r h => Ok.freeze ((Zgv p0).h r h) (by rintro c qs ⟨b49, b50, b51, b52, b53, rfl, rfl⟩; exact Frz.box (fS (fS (fS (FrzL.cons (os := [_]) (Frz.map) (FrzL.cons (os := [_]) (Frz.map) (FrzL.cons (os := [_]) (Frz.map) (FrzL.cons (os := [_]) (Frz.map) (FrzL.nil)))))))))⟩

def Zgw (l28 : List Int) : Option (List Int) := some l28
def Zgx (x15 : Int) (l26 : List Int) : Option ((List Int × Int) ⊕ ((List Int))) := some (.inl (l26, (IntKind.i64.wrap (x15 + 1))))
def Zgy (p0 : Yan) (l14 : List Int) (x15 : Int) : Option ((List Int × Int) ⊕ ((List Int))) := cond (decide (x15 < (p0.graph.events.length : Int))) ((getI p0.graph.events x15).bind fun e17 => cond ((Option.getD (mget p0.refused e17.id) 0) == 0) ((chk (decide ((l14.length + [e17.id].length) * 8 ≤ 140737488355328))).bind fun u23 => Zgx x15 (l14 ++ [e17.id])) (Zgx x15 l14)) (some (.inr l14))
def Zgz (p0 : Yan) : Option (List Int) := (iter (fun z30 => Zgy p0 z30.1 z30.2) big (([] : List Int), 0)).bind fun y31 => Zgw y31
instance Zh0 (p0 : Yan) : SpO Tryz.prog 119 (Zgz p0) (.d [C.ip [cI p0.graph.room, cM Yap 9 p0.graph.events, cM Yap 9 p0.graph.parked, C.imap .i64 Yb8 p0.depth, C.imap .i64 Yb9 p0.before, C.imap .i64 Yb9 p0.after, C.imap .i64 Yb8 p0.refused]] [] fun r => .x fun (v29 : Value) => .d (cV v29) [oA v29 2 kI64 1 r]) := ⟨so Tryz.func119 rfl rfl fun r X h => gh (.q 2 (.c1 (fun l28 => .x fun v27 => .d [(3, cV v27)] [oA v27 2 kI64 1 l28]) [] [] (.l2 (fun l14 x15 => .x fun v13 => .d [(3, cV v13), (13, cI x15)] [oA v13 2 kI64 1 l14]) [0,11,12] [] (.b (.c1 (fun l26 => .x fun v25 => .d [(3, cV v25)] [oA v25 2 kI64 1 l26]) [0,11,12,13] [] (.r [0,0] [3,5,6] [] [0,4,8,13,16,21,25,28] .z) .z) .z)) .z))⟩
instance Zh0' (p0 : Yan) : Sp Tryz.prog 119 [C.ip [cI p0.graph.room, cM Yap 9 p0.graph.events, cM Yap 9 p0.graph.parked, C.imap .i64 Yb8 p0.depth, C.imap .i64 Yb9 p0.before, C.imap .i64 Yb9 p0.after, C.imap .i64 Yb8 p0.refused]] (Zgz p0) (fun r => cM kI64 1 r) := ⟨fun r h => Ok.freeze ((Zh0 p0).h r h) (by rintro c qs ⟨v29, rfl, rfl⟩; exact Frz.arr)⟩

def Zh1 (p0 : Yao) (p1 : Int) : Option Yan := (getI p0.rooms (IntKind.i64.wrap (p1 - 1))).bind fun e1 => some e1
instance Zh2 (p0 : Yao) (p1 : Int) : SpO Tryz.prog 72 (Zh1 p0 p1) (.x fun (b00 : Nat) => .x fun (w01 : Value) => .d [pt b00, cI p1] [oB b00 131 [cM Yav 3 p0.hub.rooms, cM Yar 2 p0.hub.stream, cV w01], oA w01 122 Ybc 1 p0.rooms] fun r => .d (C.ip [cI r.graph.room, cM Yap 9 r.graph.events, cM Yap 9 r.graph.parked, C.imap .i64 Yb8 r.depth, C.imap .i64 Yb9 r.before, C.imap .i64 Yb9 r.after, C.imap .i64 Yb8 r.refused]) [oB b00 131 [cM Yav 3 p0.hub.rooms, cM Yar 2 p0.hub.stream, cV w01], oA w01 122 Ybc 1 p0.rooms]) := ⟨fun b00 w01 => so Tryz.func72 rfl rfl fun r X h => gh .z⟩

def Zh3 (x2 : Bool) : Option Bool := some x2
def Zh4 (p0 : Int) (q0 : Yan) (q1 : List ((Int × Int) × Bool)) (q2 : Yac) : Option Bool := cond ((Option.getD (mget q0.refused p0) 0) == 0) (Zh3 (!(Option.getD (pget q1 (q2.room, p0)) false))) (Zh3 false)
instance Zh5 (p0 : Int) (q0 : Yan) (q1 : List ((Int × Int) × Bool)) (q2 : Yac) : SpO Tryz.prog 122 (Zh4 p0 q0 q1 q2) (.x fun (b00 : Nat) => .x fun (b01 : Nat) => .x fun (b02 : Nat) => .x fun (b03 : Nat) => .d [cI p0, pt b00, pt b01, pt b03] [oB b00 122 [C.ip [cI q0.graph.room, cM Yap 9 q0.graph.events, cM Yap 9 q0.graph.parked, C.imap .i64 Yb8 q0.depth, C.imap .i64 Yb9 q0.before, C.imap .i64 Yb9 q0.after, C.imap .i64 Yb8 q0.refused]], oB b01 189 [mt b02], Abs.Obj.pmap b02 Yba q1, oB b03 191 [cI q2.room, cI q2.id]] fun r => .d (C.bool r) [oB b00 122 [C.ip [cI q0.graph.room, cM Yap 9 q0.graph.events, cM Yap 9 q0.graph.parked, C.imap .i64 Yb8 q0.depth, C.imap .i64 Yb9 q0.before, C.imap .i64 Yb9 q0.after, C.imap .i64 Yb8 q0.refused]], oB b01 189 [mt b02], Abs.Obj.pmap b02 Yba q1, oB b03 191 [cI q2.room, cI q2.id]]) := ⟨fun b00 b01 b02 b03 => so Tryz.func122 rfl rfl fun r X h => gh (.q 1 (.c1 (fun x2 => .d [(5, C.bool x2)] []) [] [0,1,2,3] .z .z))⟩

def Zh6 : Option Int := some (-1)
def Zh7 (p0 : List Int) (p1_0 : Yan) (p1_1 : List ((Int × Int) × Bool)) (p1_2 : Yac) (x7 : Int) : Option (Int ⊕ (Int ⊕ Unit)) := cond (decide (x7 < (p0.length : Int))) ((getI p0 x7).bind fun e9 => (Zh4 e9 p1_0 p1_1 p1_2).bind fun r11 => cond r11 (some (.inr (.inl x7))) (some (.inl (IntKind.i64.wrap (x7 + 1))))) (some (.inr (.inr ())))
def Zh8 (p0 : List Int) (p1_0 : Yan) (p1_1 : List ((Int × Int) × Bool)) (p1_2 : Yac) : Option Int := (iter (Zh7 p0 p1_0 p1_1 p1_2) big 0).bind (fun z15 => match z15 with | .inl y14 => some y14 | .inr () => Zh6)
instance Zh9 (p0 : List Int) (p1_0 : Yan) (p1_1 : List ((Int × Int) × Bool)) (p1_2 : Yac) : SpO Tryz.prog 204 (Zh8 p0 p1_0 p1_1 p1_2) (.x fun (b00 : Nat) => .x fun (b01 : Nat) => .x fun (b02 : Nat) => .x fun (b03 : Nat) => .d [cM kI64 1 p0, C.clo 122 [pt b00, pt b01, pt b03]] [oB b00 122 [C.ip [cI p1_0.graph.room, cM Yap 9 p1_0.graph.events, cM Yap 9 p1_0.graph.parked, C.imap .i64 Yb8 p1_0.depth, C.imap .i64 Yb9 p1_0.before, C.imap .i64 Yb9 p1_0.after, C.imap .i64 Yb8 p1_0.refused]], oB b01 189 [mt b02], Abs.Obj.pmap b02 Yba p1_1, oB b03 191 [cI p1_2.room, cI p1_2.id]] fun r => .d (cI r) [oB b00 122 [C.ip [cI p1_0.graph.room, cM Yap 9 p1_0.graph.events, cM Yap 9 p1_0.graph.parked, C.imap .i64 Yb8 p1_0.depth, C.imap .i64 Yb9 p1_0.before, C.imap .i64 Yb9 p1_0.after, C.imap .i64 Yb8 p1_0.refused]], oB b01 189 [mt b02], Abs.Obj.pmap b02 Yba p1_1, oB b03 191 [cI p1_2.room, cI p1_2.id]]) := ⟨fun b00 b01 b02 b03 => so Tryz.func204 rfl rfl fun r X h => gh (.q 1 (.c0 (.d [] []) [] [0,1,2,3] (.l1 (fun x7 => .d [(8, cI x7)] []) [0,1,7] [0,1,2,3] .z) .z))⟩

def Zha (p0 : List Int) (p1_0 : Yan) (p1_1 : List ((Int × Int) × Bool)) (p1_2 : Yac) : Option Bool := (Zh8 p0 p1_0 p1_1 p1_2).bind fun r1 => some (decide (r1 ≥ 0))
instance Zhb (p0 : List Int) (p1_0 : Yan) (p1_1 : List ((Int × Int) × Bool)) (p1_2 : Yac) : SpO Tryz.prog 121 (Zha p0 p1_0 p1_1 p1_2) (.x fun (b00 : Nat) => .x fun (b01 : Nat) => .x fun (b02 : Nat) => .x fun (b03 : Nat) => .d [cM kI64 1 p0, C.clo 122 [pt b00, pt b01, pt b03]] [oB b00 122 [C.ip [cI p1_0.graph.room, cM Yap 9 p1_0.graph.events, cM Yap 9 p1_0.graph.parked, C.imap .i64 Yb8 p1_0.depth, C.imap .i64 Yb9 p1_0.before, C.imap .i64 Yb9 p1_0.after, C.imap .i64 Yb8 p1_0.refused]], oB b01 189 [mt b02], Abs.Obj.pmap b02 Yba p1_1, oB b03 191 [cI p1_2.room, cI p1_2.id]] fun r => .d (C.bool r) [oB b00 122 [C.ip [cI p1_0.graph.room, cM Yap 9 p1_0.graph.events, cM Yap 9 p1_0.graph.parked, C.imap .i64 Yb8 p1_0.depth, C.imap .i64 Yb9 p1_0.before, C.imap .i64 Yb9 p1_0.after, C.imap .i64 Yb8 p1_0.refused]], oB b01 189 [mt b02], Abs.Obj.pmap b02 Yba p1_1, oB b03 191 [cI p1_2.room, cI p1_2.id]]) := ⟨fun b00 b01 b02 b03 => so Tryz.func121 rfl rfl fun r X h => gh .z⟩

def Zhc (p0 : Yag) (l100 : List Yan) (x101 : Int) : Option (Yao × Bool) := cond (x101 == (p0.stream.length : Int)) (some ((Yao.mk p0 l100), (x101 == (p0.stream.length : Int)))) (some ((Yao.mk (Yag.mk [] []) []), (x101 == (p0.stream.length : Int))))
def Zhd (m178 : List ((Int × Int) × Bool)) (x179 : Int) (e181 : Yac) (x252 : Bool) : Option (((List ((Int × Int) × Bool)) × Int) ⊕ ((Yao × Bool) ⊕ Unit)) := cond x252 (some (.inr (.inl ((Yao.mk (Yag.mk [] []) []), false)))) (some (.inl ((pset m178 (e181.room, e181.id) true), (IntKind.i64.wrap (x179 + 1)))))
def Zhe (m178 : List ((Int × Int) × Bool)) (x179 : Int) (e181 : Yac) (r189 : Yan) (x196 : Int) (x197 : Int) (x198 : Int) (x199 : Int) (x200 : Int) (x201 : Int) (x202 : ByteArray) (l203 : List Int) (x204 : Int) (x205 : Bool) : Option (((List ((Int × Int) × Bool)) × Int) ⊕ ((Yao × Bool) ⊕ Unit)) := cond x205 (cond ((Option.getD (mget r189.refused e181.id) 0) != 0) (Zhd m178 x179 e181 true) ((Zha l203 r189 m178 e181).bind fun r244 => Zhd m178 x179 e181 r244)) (Zhd m178 x179 e181 true)
def Zhf (p0 : Yag) (l100 : List Yan) (m178 : List ((Int × Int) × Bool)) (x179 : Int) (e181 : Yac) (x187 : Bool) : Option (((List ((Int × Int) × Bool)) × Int) ⊕ ((Yao × Bool) ⊕ Unit)) := cond x187 (some (.inr (.inl ((Yao.mk (Yag.mk [] []) []), false)))) ((Zh1 (Yao.mk p0 l100) e181.room).bind fun r189 => (Zdr r189.graph e181.id).bind fun r192 => Zhe m178 x179 e181 r189 r192.1.id r192.1.room r192.1.author r192.1.kind r192.1.key r192.1.n r192.1.text r192.1.prev r192.1.time r192.2)
def Zhg (p0 : Yag) (l100 : List Yan) (m178 : List ((Int × Int) × Bool)) (x179 : Int) : Option (((List ((Int × Int) × Bool)) × Int) ⊕ ((Yao × Bool) ⊕ Unit)) := cond (decide (x179 < (p0.stream.length : Int))) ((getI p0.stream x179).bind fun e181 => (Z9o e181.room).bind fun r184 => cond r184 (Zhf p0 l100 m178 x179 e181 (Option.getD (pget m178 (e181.room, e181.id)) false)) (Zhf p0 l100 m178 x179 e181 true)) (some (.inr (.inr ())))
def Zhh (p0 : Yag) (l100 : List Yan) (x101 : Int) : Option (Yao × Bool) := (iter (fun z255 => Zhg p0 l100 z255.1 z255.2) big (([] : List ((Int × Int) × Bool)), 0)).bind (fun z257 => match z257 with | .inl y256 => some y256 | .inr () => Zhc p0 l100 x101)
def Zhi (l57 : List Yan) (x58 : Int) (x59 : Int) (e61 : Yaf) (x67 : Bool) : Option ((List Yan × Int × Int) ⊕ ((Yao × Bool) ⊕ (List Yan × Int))) := cond x67 (some (.inr (.inl ((Yao.mk (Yag.mk [] []) []), false)))) ((Zgu e61).bind fun r83 => (chk (decide ((l57.length + [r83].length) * 8 ≤ 140737488355328))).bind fun u92 => (getI (l57 ++ [r83]) x59).bind fun e95 => (Zgz e95).bind fun r97 => some (.inl ((l57 ++ [r83]), (IntKind.i64.wrap (x58 + (r97.length : Int))), (IntKind.i64.wrap (x59 + 1)))))
def Zhj (p0 : Yag) (l57 : List Yan) (x58 : Int) (x59 : Int) : Option ((List Yan × Int × Int) ⊕ ((Yao × Bool) ⊕ (List Yan × Int))) := cond (decide (x59 < (p0.rooms.length : Int))) ((getI p0.rooms x59).bind fun e61 => (Zc8 e61).bind fun r64 => cond r64 (Zhi l57 x58 x59 e61 (e61.room != (IntKind.i64.wrap (x59 + 1)))) (Zhi l57 x58 x59 e61 true)) (some (.inr (.inr (l57, x58))))
def Zhk (p0 : Yag) (x3 : Bool) : Option (Yao × Bool) := cond x3 (some ((Yao.mk (Yag.mk [] []) []), false)) ((iter (fun z258 => Zhj p0 z258.1 z258.2.1 z258.2.2) big ([], 0, 0)).bind (fun z262 => match z262 with | .inl y259 => some y259 | .inr (y260, y261) => Zhh p0 y260 y261))
def Zhl (p0 : Yag) : Option (Yao × Bool) := cond ((p0.rooms.length : Int) != 3) (Zhk p0 true) (Zhk p0 (decide ((p0.stream.length : Int) > 120)))
instance Zhm (p0 : Yag) : SpO Tryz.prog 67 (Zhl p0) (.d [C.agg [cM Yav 3 p0.rooms, cM Yar 2 p0.stream]] [] fun r => .b r.2 (.d (C.tup [C.ip [cM Yav 3 r.1.hub.rooms, cM Yar 2 r.1.hub.stream, cM Ybc 1 r.1.rooms], C.bool r.2]) []) (.d (C.tup [C.any, C.bool r.2]) [])) := ⟨so Tryz.func67 rfl rfl fun r X h => gh (.q 2 (.c1 (fun x3 => .d [(23, C.bool x3)] []) [1] [0] .z (.b .z (.q 1 (.o 0 fun b5 => .c2 (fun l100 x101 => .x fun v99 => .d [(5, cI x101)] [oB b5 131 [cM Yav 3 p0.rooms, cM Yar 2 p0.stream, cV v99], oA v99 122 Ybc 1 l100]) [1,4] [1] (.O 0 fun b5 => .l3 (fun l57 x58 x59 => .x fun v56 => .d [(5, cI x58), (30, cI x59)] [oB b5 131 [cM Yav 3 p0.rooms, cM Yar 2 p0.stream, cV v56], oA v56 122 Ybc 1 l57]) [1,4,28,29] [1] (.b (.q 3 (.c1 (fun x67 => .d [(44, C.bool x67)] []) [1,4,5,6,7,28,29,30] [3,1,2,0] .z (.b .z (.r [0,0,1] [4,5] [11] [0,4,8,12,17,21,26,30,34,36,40,47] (.k (.f 51 [] .z)))))) .z)) (.q 1 (.c0 (.d [] []) [1,4,5] [4,2,3] (.O 1 fun b102 => .l2 (fun m178 x179 => .d [(72, cI x179)] [Abs.Obj.pmap b102 Yba m178]) [1,4,5,8,70,71] [4,2,3,0] (.b (.q 3 (.c1 (fun x187 => .d [(84, C.bool x187)] []) [1,4,5,8,10,70,71,72] [2,3,4,5,1,0] .z (.b .z (.q 1 (.c10 (fun x196 x197 x198 x199 x200 x201 x202 l203 x204 x205 => .x fun b195 => .d [(12, pt b195), (13, C.bool x205)] [oB b195 47 [cI x196, cI x197, cI x198, cI x199, cI x200, cI x201, C.str x202, cM kI64 1 l203, cI x204]]) [1,4,5,8,10,11,70,71,72] [3,1,2,4,5,6,0] (.R [0,0,0,0,0,0,0] [0,3,5] [11] (.light 0 true (.light 1 false (.light 2 false (.light 3 true (.light 4 false (.light 5 true (.two 6 10 (.light 7 false (.light 8 false (.light 9 false (.one 10 (.late 11 (.light 12 false .done)))))) (.one 6 (.light 7 false (.light 8 false (.light 9 false (.late 11 (.light 12 false .done))))))))))))) (.H 120 .z)) (.q 1 (.c1 (fun x252 => .d [(116, C.bool x252)] []) [1,4,5,8,10,70,71,72] [1,2,3,4,5,6] (.R [0,0,0,0] [3,6,8,9,14] [] (.light 0 false (.light 1 false (.light 2 false (.light 7 false (.two 3 8 (.light 4 false (.light 5 false (.two 6 8 (.one 8 (.one 9 (.light 10 false (.light 11 false (.light 12 false (.light 13 false (.light 15 false (.one 14 (.one 16 (.light 17 false .done)))))))))) (.one 6 (.one 9 (.light 10 false (.light 11 false (.light 12 false (.light 13 false (.light 15 false (.one 14 (.one 16 (.light 17 false .done))))))))))))) (.one 3 (.light 4 false (.light 5 false (.one 6 (.one 9 (.light 10 false (.light 11 false (.light 12 false (.light 13 false (.light 15 false (.one 14 (.one 16 (.light 17 false .done)))))))))))))))))) .z) .z))))))) .z)) (.r [0,0,0] [3] [] [0,4,8,13,16,20,24,28] .z))))))))⟩

def Zhn (p0 : TNet) (p1 : Int) : Option Bool := (Z9m p1 0 (IntKind.i64.wrap ((p0.servers.length : Int) - 1))).bind fun r1 => some r1
instance Zho (p0 : TNet) (p1 : Int) : SpO Tryz.prog 52 (Zhn p0 p1) (.x fun (b00 : Nat) => .x fun (w01 : Value) => .x fun (w02 : Value) => .d [pt b00, cI p1] [oB b00 94 [cV w01, cV w02], oA w01 91 Ybe 1 p0.servers, oA w02 60 Yas 5 p0.letters] fun r => .d (C.bool r) [oB b00 94 [cV w01, cV w02], oA w01 91 Ybe 1 p0.servers, oA w02 60 Yas 5 p0.letters]) := ⟨fun b00 w01 w02 => so Tryz.func52 rfl rfl fun r X h => gh .z⟩

def Zhp (x7 : Bool) : Option Bool := some x7
def Zhq (p0 : TNet) (p1 : Int) (p2 : Int) : Option Bool := (Zhn p0 p1).bind fun r1 => cond r1 ((Zhn p0 p2).bind fun r4 => cond r4 (Zhp (p1 != p2)) (Zhp false)) (Zhp false)
instance Zhr (p0 : TNet) (p1 : Int) (p2 : Int) : SpO Tryz.prog 34 (Zhq p0 p1 p2) (.x fun (b00 : Nat) => .x fun (w01 : Value) => .x fun (w02 : Value) => .d [pt b00, cI p1, cI p2] [oB b00 94 [cV w01, cV w02], oA w01 91 Ybe 1 p0.servers, oA w02 60 Yas 5 p0.letters] fun r => .d (C.bool r) [oB b00 94 [cV w01, cV w02], oA w01 91 Ybe 1 p0.servers, oA w02 60 Yas 5 p0.letters]) := ⟨fun b00 w01 w02 => so Tryz.func34 rfl rfl fun r X h => gh (.q 1 (.c1 (fun x7 => .d [(6, C.bool x7)] []) [] [0,1,2] .z .z))⟩

def Zhs (x16 : Bool) : Option Bool := some x16
def Zht (p0 : Yad) (q0 : TNet) : Option Bool := cond (p0.kind != 1) (cond (p0.kind != 2) (Zhs true) ((Zhq q0 p0.from_ p0.to_).bind fun r4 => cond r4 ((Z9o p0.room).bind fun r7 => cond r7 (Zhs (decide ((p0.text.size : Int) > 8000))) (Zhs true)) (Zhs true))) ((Zhq q0 p0.from_ p0.to_).bind fun r10 => cond r10 ((Z9o p0.room).bind fun r13 => cond r13 (Zhs (decide ((p0.text.size : Int) > 8000))) (Zhs true)) (Zhs true))
instance Zhu (p0 : Yad) (q0 : TNet) : SpO Tryz.prog 69 (Zht p0 q0) (.x fun (b00 : Nat) => .x fun (b01 : Nat) => .x fun (w02 : Value) => .x fun (w03 : Value) => .d [C.agg [cI p0.kind, cI p0.from_, cI p0.to_, cI p0.room, C.str p0.text], pt b00] [oB b00 64 [pt b01], oB b01 94 [cV w02, cV w03], oA w02 91 Ybe 1 q0.servers, oA w03 60 Yas 5 q0.letters] fun r => .d (C.bool r) [oB b00 64 [pt b01], oB b01 94 [cV w02, cV w03], oA w02 91 Ybe 1 q0.servers, oA w03 60 Yas 5 q0.letters]) := ⟨fun b00 b01 w02 w03 => so Tryz.func69 rfl rfl fun r X h => gh (.q 1 (.c1 (fun x16 => .d [(3, C.bool x16)] []) [] [1,2,3,4] .z .z))⟩

def Zhv : Option Int := some (-1)
def Zhw (p0 : List Yad) (p1_0 : TNet) (x7 : Int) : Option (Int ⊕ (Int ⊕ Unit)) := cond (decide (x7 < (p0.length : Int))) ((getI p0 x7).bind fun e9 => (Zht e9 p1_0).bind fun r11 => cond r11 (some (.inr (.inl x7))) (some (.inl (IntKind.i64.wrap (x7 + 1))))) (some (.inr (.inr ())))
def Zhx (p0 : List Yad) (p1_0 : TNet) : Option Int := (iter (Zhw p0 p1_0) big 0).bind (fun z15 => match z15 with | .inl y14 => some y14 | .inr () => Zhv)
instance Zhy (p0 : List Yad) (p1_0 : TNet) : SpO Tryz.prog 123 (Zhx p0 p1_0) (.x fun (b00 : Nat) => .x fun (b01 : Nat) => .x fun (w02 : Value) => .x fun (w03 : Value) => .d [cM Yas 5 p0, C.clo 69 [pt b00]] [oB b00 64 [pt b01], oB b01 94 [cV w02, cV w03], oA w02 91 Ybe 1 p1_0.servers, oA w03 60 Yas 5 p1_0.letters] fun r => .d (cI r) [oB b00 64 [pt b01], oB b01 94 [cV w02, cV w03], oA w02 91 Ybe 1 p1_0.servers, oA w03 60 Yas 5 p1_0.letters]) := ⟨fun b00 b01 w02 w03 => so Tryz.func123 rfl rfl fun r X h => gh (.q 1 (.c0 (.d [] []) [] [0,1,2,3] (.l1 (fun x7 => .d [(8, cI x7)] []) [0,1,7] [0,1,2,3] .z) .z))⟩

def Zhz (p0 : List Yad) (p1_0 : TNet) : Option Bool := (Zhx p0 p1_0).bind fun r1 => some (decide (r1 ≥ 0))
instance Zi0 (p0 : List Yad) (p1_0 : TNet) : SpO Tryz.prog 68 (Zhz p0 p1_0) (.x fun (b00 : Nat) => .x fun (b01 : Nat) => .x fun (w02 : Value) => .x fun (w03 : Value) => .d [cM Yas 5 p0, C.clo 69 [pt b00]] [oB b00 64 [pt b01], oB b01 94 [cV w02, cV w03], oA w02 91 Ybe 1 p1_0.servers, oA w03 60 Yas 5 p1_0.letters] fun r => .d (C.bool r) [oB b00 64 [pt b01], oB b01 94 [cV w02, cV w03], oA w02 91 Ybe 1 p1_0.servers, oA w03 60 Yas 5 p1_0.letters]) := ⟨fun b00 b01 w02 w03 => so Tryz.func68 rfl rfl fun r X h => gh .z⟩

def Zi1 (r2 : List Yad) (l54 : List Yao) (x61 : Bool) : Option (TNet × Bool) := cond x61 (some ((TNet.mk l54 r2), x61)) (some ((TNet.mk [] []), x61))
def Zi2 (p0 : Yah) (r2 : List Yad) (l54 : List Yao) : Option (TNet × Bool) := (Zhz p0.letters (TNet.mk l54 r2)).bind fun r55 => (Z9m (p0.hubs.length : Int) 1 4).bind fun r57 => cond r57 (cond (decide ((p0.letters.length : Int) ≤ 60)) (Zi1 r2 l54 (!r55)) (Zi1 r2 l54 false)) (Zi1 r2 l54 false)
def Zi3 (p0 : Yah) (l32 : List Yao) (x33 : Int) : Option ((List Yao × Int) ⊕ ((TNet × Bool) ⊕ (List Yao))) := cond (decide (x33 < (p0.hubs.length : Int))) ((getI p0.hubs x33).bind fun e35 => (Zhl e35).bind fun r38 => cond r38.2 ((chk (decide ((l32.length + [r38.1].length) * 8 ≤ 140737488355328))).bind fun u50 => some (.inl ((l32 ++ [r38.1]), (IntKind.i64.wrap (x33 + 1))))) (some (.inr (.inl ((TNet.mk [] []), false))))) (some (.inr (.inr l32)))
def Zi4 (p0 : Yah) : Option (TNet × Bool) := (Z9i p0.letters).bind fun r2 => (iter (fun z66 => Zi3 p0 z66.1 z66.2) big ([], 0)).bind (fun z69 => match z69 with | .inl y67 => some y67 | .inr y68 => Zi2 p0 r2 y68)
instance Zi5 (p0 : Yah) : SpO Tryz.prog 33 (Zi4 p0) (.d [C.agg [cM Yay 2 p0.hubs, cM Yas 5 p0.letters]] [] fun r => .b r.2 (.x fun (b63 : Nat) => .x fun (v64 : Value) => .x fun (v65 : Value) => .d (C.tup [pt b63, C.bool r.2]) [oB b63 94 [cV v64, cV v65], oA v64 91 Ybe 1 r.1.servers, oA v65 60 Yas 5 r.1.letters]) (.d (C.tup [C.any, C.bool r.2]) [])) := ⟨so Tryz.func33 rfl rfl fun r X h => gh (.k (.o 1 fun b6 => .e 12 cV fun v4 => .c1 (fun l54 => .x fun v53 => .d [] [oB b6 94 [cV v53, cV v4], oA v53 91 Ybe 1 l54]) [1,4] [3,0,2] (.O 1 fun b6 => .E 12 cV fun v4 => .l2 (fun l32 x33 => .x fun v31 => .d [(18, cI x33)] [oB b6 94 [cV v31, cV v4], oA v31 91 Ybe 1 l32]) [1,4,16,17] [3,0,2] (.b (.b (.r [0,0,1,1,1] [0,1,4] [10] [1,5,8,12,17,20,26,30,32,36,43] .z) .z) .z)) (.q 1 (.o 1 fun b6 => .c1 (fun x61 => .d [(2, pt b6), (3, C.bool x61)] []) [] [1,2,3] (.r [0,0,0,0,0] [0,2,7] [] [1,4,9,12,18,20,24,29,32,36,40,44,48,52,56,60,64] .z) .z))))⟩

def Zi6 (p0 : Yaa) : Option Yaa := (Zgd p0.prev).bind fun r3 => some (Yaa.mk p0.id p0.room p0.author p0.kind p0.key p0.n p0.text r3 p0.time)
instance Zi7 (p0 : Yaa) : SpO Tryz.prog 158 (Zi6 p0) (.d [C.agg [cI p0.id, cI p0.room, cI p0.author, cI p0.kind, cI p0.key, cI p0.n, C.str p0.text, cM kI64 1 p0.prev, cI p0.time]] [] fun r => .x fun (v7 : Value) => .d (C.agg [cI r.id, cI r.room, cI r.author, cI r.kind, cI r.key, cI r.n, C.str r.text, cV v7, cI r.time]) [oA v7 2 kI64 1 r.prev]) := ⟨so Tryz.func158 rfl rfl fun r X h => gh (.k .z)⟩
instance Zi7' (p0 : Yaa) : Sp Tryz.prog 158 [C.agg [cI p0.id, cI p0.room, cI p0.author, cI p0.kind, cI p0.key, cI p0.n, C.str p0.text, cM kI64 1 p0.prev, cI p0.time]] (Zi6 p0) (fun r => C.agg [cI r.id, cI r.room, cI r.author, cI r.kind, cI r.key, cI r.n, C.str r.text, cM kI64 1 r.prev, cI r.time]) := ⟨fun r h => Ok.freeze ((Zi7 p0).h r h) (by rintro c qs ⟨v7, rfl, rfl⟩; exact Frz.agg (fS (fS (fS (fS (fS (fS (fS (FrzL.cons (os := [_]) (Frz.arr) (fS (FrzL.nil)))))))))))⟩

def Zi8 (l28 : List Yaa) : Option (List Yaa) := some l28
def Zi9 (p0 : List Yaa) (l14 : List Yaa) (x15 : Int) : Option ((List Yaa × Int) ⊕ ((List Yaa))) := cond (decide (x15 < (p0.length : Int))) ((getI p0 x15).bind fun e17 => (Zi6 e17).bind fun r20 => (chk (decide ((l14.length + [r20].length) * 96 ≤ 140737488355328))).bind fun u25 => some (.inl ((l14 ++ [r20]), (IntKind.i64.wrap (x15 + 1))))) (some (.inr l14))
def Zia (p0 : List Yaa) : Option (List Yaa) := (iter (fun z30 => Zi9 p0 z30.1 z30.2) big (([] : List Yaa), 0)).bind fun y31 => Zi8 y31
theorem Zib (p0 : List Yaa) (r : List Yaa) (h : Zia p0 = some r) : Ok Tryz.prog 126 [cM Yap 9 p0] [] (fun c qs => ∃ (v29 : Value), c = cV v29 ∧ qs = [Obj.deep v29 47 Yat Yau 9 r]) := by
 refine Ok.of_body (rs := [.tmp 2]) Tryz.func126 rfl rfl rfl rfl rfl fun X => ?_
 unfold Zia at h
 refine zw ?_
 refine Ops.h (ns := []) rfl rfl (Y99 (k := Yat) (ob := Yau) Ycs rfl rfl rfl) ?_
 rintro _ _ ⟨b1, rfl, rfl⟩
 refine Ops.v rfl (Ys rfl rfl) ?_
 refine Ops.nil ?_
 refine AW.seq ?_
 refine AW.cut (τ := List Yaa × Value) (fun (l28, v27) => ⟨[(3, cV v27)], [Obj.deep v27 47 Yat Yau 9 l28]⟩) (fun (l28, v27) => Zi8 l28 = some r) ?_ ?_
 ·
  refine zw ?_
  refine ob' h fun o32 g33 q34 => ?_
  refine AW.loop (τ := List Yaa × Int × Value) (x := (([] : List Yaa), 0, (sv b1 0 0))) (fun (l14, x15, v13) => ⟨[(3, cV v13), (7, cM Yap 9 p0), (8, cI (p0.length : Int)), (9, cI x15)], [Obj.deep v13 47 Yat Yau 9 l14]⟩) (fun k (l14, x15, v13) => iter (fun z30 => Zi9 p0 z30.1 z30.2) k (l14, x15) = some o32) g33 (Y25.both (ns := [0]) rfl rfl) ?_
  rintro k ⟨l14, x15, v13⟩ i36
  refine Y4f (show iter (fun z30 => Zi9 p0 z30.1 z30.2) k (l14, x15) = some o32 from i36) fun k35 y37 hlt_k35 h h38 => ?_
  replace h : Zi9 p0 l14 x15 = some y37 := h
  unfold Zi9 at h
  refine zw ?_
  refine cnd h (fun hb16 h => ?_) fun hb16 h => ?_
  ·
   refine AW.ct hb16 rfl ?_
   refine zw ?_
   refine oi h fun e17 g18 h => ?_
   refine zw ?_
   refine al fun b19 => ?_
   refine zw ?_
   refine ob' h fun r20 g21 h => ?_
   refine Ops.h (ns := []) rfl rfl (Y27 ((Zi7 _).h _ g21) rfl rfl) ?_
   rintro _ _ ⟨_, ⟨v22, rfl, rfl⟩, rfl⟩
   refine Ops.h (ns := [0]) rfl rfl (Y98 (k := Yat) (ob := Yau) (e := r20) (u := v22) Ycs (.agg rfl rfl .nil) rfl rfl rfl) ?_
   rintro _ _ ⟨b23, rfl, rfl⟩
   refine ob' h fun u25 c24 h => ?_
   refine Ops.h (ns := [2, 0]) rfl rfl (Y9a Ycs rfl rfl (Wo (Y45 c24)) (Y48 (by decide) c24) rfl) ?_
   rintro _ _ ⟨v26, rfl, rfl⟩
   refine zw ?_
   obtain rfl := Wj h
   exact ⟨k35, ((l14 ++ [r20]), (IntKind.i64.wrap (x15 + 1)), v26), hlt_k35, h38, Y25.both (ns := [0]) rfl rfl⟩
  refine AW.cf hb16 rfl ?_
  refine AW.exit ?_
  obtain rfl := Wj h
  obtain rfl := Wj h38
  replace h := q34
  exact ⟨(l14, v13), h, Y25.both (ns := [0]) rfl rfl⟩
 rintro ⟨l28, v27⟩ h
 replace h : Zi8 l28 = some r := h
 unfold Zi8 at h
 refine zw ?_
 refine AW.ret ?_
 rw [← Wj h]
 exact finI ⟨[cV v27], _, Y25.refl _, (.cons (.tmp rfl) .nil), [0], _, _, rfl, ⟨v27, rfl, rfl⟩⟩
instance Zib' (p0 : List Yaa) : Sp Tryz.prog 126 [cM Yap 9 p0] (Zia p0) (fun r => cM Yap 9 r) := ⟨fun r h => Ok.freeze (Zib p0 r h) (by rintro c qs ⟨v29, rfl, rfl⟩; exact (Frz.deep Ycu))⟩
instance Zic (p0 : List Yaa) : SpO Tryz.prog 126 (Zia p0) (.d [cM Yap 9 p0] [] fun r => .x fun (v29 : Value) => .d (cV v29) [Obj.deep v29 47 Yat Yau 9 r]) := ⟨fun r h => Zib p0 r h⟩

def Zid (p0 : List Int) : Option (List Int) := some p0
def Zie (l85 : List Int) (x86 : Int) : Option (Int ⊕ ((List Int) ⊕ Unit)) := (chk (decide ((0 : Int) ≤ x86 ∧ x86 ≤ (l85.length : Int)))).bind fun u88 => (chk (decide ((Int.toNat x86) ≤ l85.length))).bind fun u90 => (chk (decide ((0 : Int) ≤ x86 ∧ x86 ≤ ((List.take (Int.toNat x86) l85 ++ List.replicate (l85.length - (Int.toNat x86)) 0).length : Int)))).bind fun u92 => some (.inr (.inl (List.take (Int.toNat x86) (List.take (Int.toNat x86) l85 ++ List.replicate (l85.length - (Int.toNat x86)) 0))))
def Zif (x70 : Int) (l83 : List Int) (x84 : Int) : Option ((List Int × Int × Int) ⊕ ((List Int × Int))) := some (.inl (l83, x84, (IntKind.i64.wrap (x70 + 1))))
def Zig (x47 : Int) (l68 : List Int) (x69 : Int) (x70 : Int) : Option ((List Int × Int × Int) ⊕ ((List Int × Int))) := (chk (decide ((Int.toNat x47) ≤ l68.length))).bind fun u72 => cond (decide (x70 < ((List.drop (Int.toNat x47) l68).length : Int))) ((getI (List.drop (Int.toNat x47) l68) x70).bind fun e74 => (getI (List.drop (Int.toNat x47) l68) (IntKind.i64.wrap (x70 - 1))).bind fun e76 => cond (e74 != e76) ((getI (List.drop (Int.toNat x47) l68) x70).bind fun e79 => (getI l68 x69).bind fun e81 => Zif x70 (List.set l68 (Int.toNat x69) e79) (IntKind.i64.wrap (x69 + 1))) (Zif x70 l68 x69)) (some (.inr (l68, x69)))
def Zih (p0 : List Int) (x47 : Int) : Option (Int ⊕ ((List Int) ⊕ Unit)) := cond (decide (x47 < (p0.length : Int))) ((getI p0 x47).bind fun e49 => (getI p0 (IntKind.i64.wrap (x47 - 1))).bind fun e51 => cond (e49 == e51) ((chk (decide ((0 : Int) ≤ x47 ∧ x47 ≤ (p0.length : Int)))).bind fun u55 => (iter (fun z94 => Zig x47 z94.1 z94.2.1 z94.2.2) big (p0, x47, 1)).bind fun (y95, y96) => Zie y95 y96) (some (.inl (IntKind.i64.wrap (x47 + 1))))) (some (.inr (.inr ())))
def Zii (p0 : List Int) : Option (List Int) := cond (decide ((p0.length : Int) < 2)) (some p0) ((iter (Zih p0) big 1).bind (fun z98 => match z98 with | .inl y97 => some y97 | .inr () => Zid p0))
theorem Zij {w00 : Value} (p0 : List Int) (r : List Int) (h : Zii p0 = some r) : Ok Tryz.prog 206 [cV w00] [oA w00 2 kI64 1 p0] (fun c qs => ∃ (v93 : Value), c = cV v93 ∧ qs = [oA v93 2 kI64 1 r]) := by
 refine Ok.of_body (rs := [.tmp 2]) Tryz.func206 rfl rfl rfl rfl rfl fun X => ?_
 unfold Zii at h
 refine zw ?_
 refine cnd h (fun hb1 h => ?_) fun hb1 h => ?_
 ·
  refine AW.ct hb1 rfl ?_
  refine zw ?_
  refine AW.ret ?_
  rw [← Wj h]
  exact finI ⟨[cV w00], _, Y25.refl _, (.cons (.tmp rfl) .nil), [0], _, _, rfl, ⟨w00, rfl, rfl⟩⟩
 refine AW.cf hb1 rfl ?_
 refine AW.skip ?_
 refine AW.seq ?_
 refine AW.cut (τ := Unit) (fun (_ : Unit) => ⟨[(0, cV w00)], [oA w00 2 kI64 1 p0]⟩) (fun (_ : Unit) => Zid p0 = some r) ?_ ?_
 ·
  refine zw ?_
  refine ob' h fun o99 g100 q101 => ?_
  refine AW.loop (τ := Int) (x := 1) (fun x47 => ⟨[(0, cV w00), (3, cI x47)], [oA w00 2 kI64 1 p0]⟩) (fun k x47 => iter (Zih p0) k x47 = some o99) g100 (Y25.both (ns := [0]) rfl rfl) ?_
  intro k x47 i103
  refine Y4f (show iter (Zih p0) k x47 = some o99 from i103) fun k102 y104 hlt_k102 h h105 => ?_
  replace h : Zih p0 x47 = some y104 := h
  unfold Zih at h
  refine zw ?_
  refine cnd h (fun hb48 h => ?_) fun hb48 h => ?_
  ·
   refine AW.ct hb48 rfl ?_
   refine zw ?_
   refine rD [0] [3,8] [] [0,4,8,13,16,20,24,28,33,36] ?_
   refine zw ?_
   refine di h fun e49 g50 h => ?_
   refine zw ?_
   refine di h fun e51 g52 h => ?_
   refine zw ?_
   refine cnd h (fun hb53 h => ?_) fun hb53 h => ?_
   ·
    refine AW.ct hb53 rfl ?_
    refine zw ?_
    refine ob' h fun u55 c54 h => ?_
    refine Ops.v rfl (Y7o (p := 0) (l := (Int.toNat x47)) Ybk.h rfl rfl rfl (Wo (Y45 c54)) rfl rfl) ?_
    refine Ops.v rfl (Ys rfl rfl) ?_
    refine Ops.nil ?_
    refine AW.seq ?_
    refine AW.cut (τ := List Int × Int) (fun (l85, x86) => ⟨[(0, cV w00), (3, cI x86)], [oA w00 2 kI64 1 l85]⟩) (fun (l85, x86) => Zie l85 x86 = some y104) ?_ ?_
    ·
     refine zw ?_
     refine ob' h fun o106 g107 q108 => ?_
     refine AW.loop (τ := List Int × Int × Int) (x := (p0, x47, 1)) (fun (l68, x69, x70) => ⟨[(0, cV w00), (3, cI x69), (4, cV (Y7l w00 1 (Int.toNat x47))), (5, cI x70)], [oA w00 2 kI64 1 l68]⟩) (fun k (l68, x69, x70) => iter (fun z94 => Zig x47 z94.1 z94.2.1 z94.2.2) k (l68, x69, x70) = some o106) g107 (Y25.both (ns := [0]) rfl rfl) ?_
     rintro k ⟨l68, x69, x70⟩ i110
     refine Y4f (show iter (fun z94 => Zig x47 z94.1 z94.2.1 z94.2.2) k (l68, x69, x70) = some o106 from i110) fun k109 y111 hlt_k109 h h112 => ?_
     replace h : Zig x47 l68 x69 x70 = some y111 := h
     unfold Zig at h
     refine zw ?_
     refine ob' h fun u72 c71 h => ?_
     refine Ops.v rfl (Y7q (p := 0) Ybk.h rfl rfl (Wo (Y45 c71)) rfl) ?_
     refine zw ?_
     refine cnd h (fun hb73 h => ?_) fun hb73 h => ?_
     ·
      refine AW.ct hb73 rfl ?_
      refine AW.skip ?_
      refine AW.seq ?_
      refine AW.cut (τ := List Int × Int) (fun (l83, x84) => ⟨[(0, cV w00), (3, cI x84), (4, cV (Y7l w00 1 (Int.toNat x47))), (5, cI x70)], [oA w00 2 kI64 1 l83]⟩) (fun (l83, x84) => Zif x70 l83 x84 = some y111) ?_ ?_
      ·
       refine zw ?_
       refine rD [0] [3,8] [] [0,4,8,13,16,20,24,28,33,36] ?_
       refine zw ?_
       refine ob' h fun e74 g75 h => ?_
       refine OpsD.v rfl rfl (Y7r (p := 0) Ybk.h rfl rfl rfl g75 rfl) ?_
       refine OpsD.v rfl rfl (Y3c (p := 0) ld_2.h rfl rfl (Y7s g75) rfl rfl) ?_
       refine zw ?_
       refine ob' h fun e76 g77 h => ?_
       refine OpsD.v rfl rfl (Y7r (p := 0) Ybk.h rfl rfl rfl g77 rfl) ?_
       refine OpsD.v rfl rfl (Y3c (p := 0) ld_2.h rfl rfl (Y7s g77) rfl rfl) ?_
       refine zw ?_
       refine cnd h (fun hb78 h => ?_) fun hb78 h => ?_
       ·
        refine AW.ct hb78 rfl ?_
        refine zw ?_
        refine ob' h fun e79 g80 h => ?_
        refine Ops.v rfl (Y7r (p := 0) Ybk.h rfl rfl rfl g80 rfl) ?_
        refine Ops.v rfl (Y3c (p := 0) ld_2.h rfl rfl (Y7s g80) rfl rfl) ?_
        refine oi h fun e81 g82 h => ?_
        refine Ops.hd (ns := [0]) rfl rfl (Y3f (e' := e79) ld_2.h rfl rfl (One.val rfl) (Y2f g82).2.2 rfl rfl) ?_
        refine zw ?_
        exact ⟨((List.set l68 (Int.toNat x69) e79), (IntKind.i64.wrap (x69 + 1))), h, Y25.both (ns := [0]) rfl rfl⟩
       refine AW.cf hb78 rfl ?_
       refine zw ?_
       exact ⟨(l68, x69), h, Y25.both (ns := [0]) rfl rfl⟩
      rintro ⟨l83, x84⟩ h
      replace h : Zif x70 l83 x84 = some y111 := h
      unfold Zif at h
      refine zw ?_
      obtain rfl := Wj h
      exact ⟨k109, (l83, x84, (IntKind.i64.wrap (x70 + 1))), hlt_k109, h112, Y25.both (ns := [0]) rfl rfl⟩
     refine AW.cf hb73 rfl ?_
     refine AW.exit ?_
     obtain rfl := Wj h
     obtain rfl := Wj h112
     replace h := q108
     exact ⟨(l68, x69), h, Y25.both (ns := [0]) rfl rfl⟩
    rintro ⟨l85, x86⟩ h
    replace h : Zie l85 x86 = some y104 := h
    unfold Zie at h
    refine zw ?_
    refine ob' h fun u88 c87 h => ?_
    refine Ops.v rfl (Y7o (p := 0) (l := (Int.toNat x86)) Ybk.h rfl rfl rfl (Wo (Y45 c87)) rfl rfl) ?_
    refine ob' h fun u90 c89 h => ?_
    refine Ops.hd (ns := [0]) rfl rfl (Y7w (z := 0) Yc9 ze_2 (Y4g rfl rfl) rfl (Wo (Y45 c89))) ?_
    refine zw ?_
    refine ob' h fun u92 c91 h => ?_
    refine Ops.v rfl (Y7p (p := 0) (l := (Int.toNat x86)) Ybk.h rfl rfl rfl (Wo (Y45 c91)) rfl rfl) ?_
    refine zw ?_
    refine AW.ret ?_
    obtain rfl := Wj h
    obtain rfl := Wj h105
    replace h := q101
    rw [← Wj h]
    exact finI ⟨[cV (Y7m w00 (Int.toNat x86))], _, Y25.prefix (p := 0) (h := (Int.toNat x86)) rfl (Int.le_toNat_len c91), (.cons (.tmp rfl) .nil), [0], _, _, rfl, ⟨(Y7m w00 (Int.toNat x86)), rfl, rfl⟩⟩
   refine AW.cf hb53 rfl ?_
   refine zw ?_
   obtain rfl := Wj h
   exact ⟨k102, (IntKind.i64.wrap (x47 + 1)), hlt_k102, h105, Y25.both (ns := [0]) rfl rfl⟩
  refine AW.cf hb48 rfl ?_
  refine AW.exit ?_
  obtain rfl := Wj h
  obtain rfl := Wj h105
  replace h := q101
  exact ⟨(), h, Y25.both (ns := [0]) rfl rfl⟩
 rintro ⟨⟩ h
 replace h : Zid p0 = some r := h
 unfold Zid at h
 refine zw ?_
 refine AW.ret ?_
 rw [← Wj h]
 exact finI ⟨[cV w00], _, Y25.refl _, (.cons (.tmp rfl) .nil), [0], _, _, rfl, ⟨w00, rfl, rfl⟩⟩
instance Zik (p0 : List Int) : SpO Tryz.prog 206 (Zii p0) (.x fun (w00 : Value) => .d [cV w00] [oA w00 2 kI64 1 p0] fun r => .x fun (v93 : Value) => .d (cV v93) [oA v93 2 kI64 1 r]) := ⟨fun w00 r h => Zij p0 r h⟩

def Zil (p0 : List Int) : Option (List Int) := (chk (decide (p0.length < 4611686018427387904))).bind fun u2 => (Zii (List.mergeSort p0 (fun x y => decide (x ≤ y)))).bind fun r3 => some r3
instance Zim (p0 : List Int) : SpO Tryz.prog 128 (Zil p0) (.x fun (w00 : Value) => .d [cV w00] [oA w00 2 kI64 1 p0] fun r => .d (cM kI64 1 r) []) := ⟨fun w00 => so Tryz.func128 rfl rfl fun r X h => gh .z⟩

def Zin (l38 : List Yam) : Option (List Yam) := some l38
def Zio (x20 : Int) (l36 : List Yam) : Option ((List Yam × Int) ⊕ ((List Yam))) := some (.inl (l36, (IntKind.i64.wrap (x20 + 1))))
def Zip (l19 : List Yam) (x20 : Int) (e22 : Int) (x27 : Bool) : Option ((List Yam × Int) ⊕ ((List Yam))) := cond x27 ((getI l19 (IntKind.i64.wrap ((l19.length : Int) - 1))).bind fun e29 => Zio x20 (List.set l19 (Int.toNat (IntKind.i64.wrap ((l19.length : Int) - 1))) (Yam.mk e29.from_ e22))) ((chk (decide ((l19.length + [(Yam.mk e22 e22)].length) * 16 ≤ 140737488355328))).bind fun u33 => Zio x20 (l19 ++ [(Yam.mk e22 e22)]))
def Ziq (p0 : List Int) (l19 : List Yam) (x20 : Int) : Option ((List Yam × Int) ⊕ ((List Yam))) := cond (decide (x20 < (p0.length : Int))) ((getI p0 x20).bind fun e22 => cond (decide ((IntKind.i64.wrap ((l19.length : Int) - 1)) ≥ 0)) ((getI l19 (IntKind.i64.wrap ((l19.length : Int) - 1))).bind fun e25 => Zip l19 x20 e22 ((IntKind.i64.wrap (e25.to_ + 1)) == e22)) (Zip l19 x20 e22 false)) (some (.inr l19))
def Zir (p0 : List Int) : Option (List Yam) := (iter (fun z40 => Ziq p0 z40.1 z40.2) big (([] : List Yam), 0)).bind fun y41 => Zin y41
instance Zis (p0 : List Int) : SpO Tryz.prog 127 (Zir p0) (.d [cM kI64 1 p0] [] fun r => .x fun (v39 : Value) => .d (cV v39) [oA v39 182 Yb7 2 r]) := ⟨so Tryz.func127 rfl rfl fun r X h => gh (.q 2 (.c1 (fun l38 => .x fun v37 => .d [(3, cV v37)] [oA v37 182 Yb7 2 l38]) [] [] (.l2 (fun l19 x20 => .x fun v18 => .d [(3, cV v18), (10, cI x20)] [oA v18 182 Yb7 2 l19]) [8,9] [] (.b (.c1 (fun l36 => .x fun v35 => .d [(3, cV v35)] [oA v35 182 Yb7 2 l36]) [8,9,10] [] (.q 2 (.c1 (fun x27 => .d [(28, C.bool x27)] []) [3,5,6,8,9,10] [0] .z .z)) .z) .z)) .z))⟩
instance Zis' (p0 : List Int) : Sp Tryz.prog 127 [cM kI64 1 p0] (Zir p0) (fun r => cM Yb7 2 r) := ⟨fun r h => Ok.freeze ((Zis p0).h r h) (by rintro c qs ⟨v39, rfl, rfl⟩; exact Frz.arr)⟩

end Go.Proofs.YtnoknphekhclcaaGreat
