/- Owned slices that may have lost their beginning: queues. -/
import Derived.Test.YtnndihmamfomcaaGreatCV
set_option autoImplicit false
set_option linter.unusedVariables false
set_option linter.unusedSimpArgs false
namespace Go.Abs
open Go

def Obj.que {α : Type} (u : Value) (E : Nat) (k : α → List C) (sz : Nat) (ys : List α) : Obj where
 rep w F G := (u = .slice none 0 0 ∧ ys = [] ∧ ∀ b, ¬ G b) ∨
  ∃ (b o cap : Nat) (zs : List (Option α)), u = .slice (some ⟨b, o * sz, none⟩) ys.length cap ∧ (Obj.raw b E k sz zs).rep w F G ∧ (zs.drop o).take ys.length = ys.map some ∧ ys.length ≤ cap ∧ o + cap ≤ zs.length ∧ zs.length ≤ maxLen
 mono := by
  rintro w w' F F' G (h | ⟨b, o, cap, zs, h1, h2, h3⟩) m g
  ·
   exact .inl h
  ·
   exact .inr ⟨b, o, cap, zs, h1, Obj.mono _ h2 m g, h3⟩

section
variable {P : Program} {n : Nat} {X : Ctx} {a : Act} {w : World} {F G : BSet} {es : Env} {ps : List Obj} {α : Type} {k : α → List C} {sz : Nat}
variable {d ty : Nat} {pos : String} {af : Array Edge} {gd : Option (Nat × Bool)}

theorem own_que {v : Value} {E : Nat} {xs : List α} {G1 : BSet} (h : Own w F [.arr v E k sz xs] G1) : Own w F [.que v E k sz xs] G1 := by
 have hrep := h.only
 obtain ⟨⟨vs, ⟨hl, hrow⟩, hf⟩, hG⟩ := hrep
 rcases hrow with ⟨rfl, h0⟩ | ⟨g, cap, cur, rfl, hbg, hb, hnc, hcm, hcs, htake⟩
 ·
  exact Own.of_one (.inl ⟨rfl, List.eq_nil_of_length_eq_zero h0, fun b hb => by have := (hG b).1 hb; cases this⟩)
 ·
  refine Own.of_one (.inr ⟨g, 0, cap, _, by rw [Nat.zero_mul], (own_raw h).only, ?_, hnc, by simp; omega, by simp; omega⟩)
  rw [List.drop_zero, List.take_left' (by simp)]

theorem Ghost.que {e : Env} {o r : List Obj} {p E : Nat} {v : Value} {xs : List α} (hp : picks [p] o = some ([.arr v E k sz xs], r)) : Ghost n X ⟨e, o⟩ ⟨e, .que v E k sz xs :: r⟩ := by
 rintro a w ⟨F, G, hs⟩
 obtain ⟨G1, G2, hi, hd, h1, h2⟩ := Own.append.1 (hs.own.perm (picks_perm hp))
 exact ⟨F, G, ⟨hs.env, ((Own.append (os := [_]) (ps := r)).2 ⟨G1, G2, fun _ => Iff.rfl, hd, own_que h1, h2⟩).congr fun b => (hi b).symm, hs.fin, hs.gin, hs.sub, hs.chg, hs.size, hs.defs⟩⟩

theorem op_len_que {T E E' sz' by' p : Nat} {x : Operand} {u : Value} {ys : List α} (hT : slInfo P T = some (E', sz', by')) (hx : ev es x = some (.val u)) (hp : pick p ps = some (.que u E k sz ys)) (hn : Nat.blt d n = true) :
  VOp false P n es ps ⟨some d, .call ⟨.builtin .len, #[x], #[T]⟩, ty, pos, af, gd⟩ d (.int ys.length) :=
 VOp.mk rfl hn fun a w F Gp hs ho => by
  obtain ⟨G1, hrep, _⟩ := ho.pick hp
  refine ⟨_, fun w2 _ => ?_, rfl⟩
  rcases hrep with ⟨rfl, rfl, _⟩ | ⟨b, o, cap, zs, rfl, _⟩
  ·
   simp [execOp, resolve, invoke, builtin, hs.val hx, Builtin.len_, run_underlying (slInfo_under hT).1, goInt]
  ·
   simp [execOp, resolve, invoke, builtin, hs.val hx, Builtin.len_, run_underlying (slInfo_under hT).1, goInt]

theorem op_indexAddr_que {T E by' p E' : Nat} {x y : Operand} {u : Value} {ys : List α} {e : α} {i : Int} {q : IntKind} (hT : slInfo P T = some (E, sz, by')) (hx : ev es x = some (.val u)) (hp : pick p ps = some (.que u E' k sz ys)) (hy : ev es y = some (.val (.int q i)))
  (hi : getI ys i = some e) (hn : Nat.blt d n = true) :
  VOp false P n es ps ⟨some d, .indexAddr T x y, ty, pos, af, gd⟩ d (.val (elemPtr u i.toNat sz 0)) :=
 VOp.mk rfl hn fun a w F Gp hs ho => by
  obtain ⟨h0, h1, h2⟩ := getI_lt hi
  obtain ⟨G1, hrep, _⟩ := ho.pick hp
  rcases hrep with ⟨_, rfl, _⟩ | ⟨b, o, cap, zs, rfl, _⟩
  ·
   simp at h2
  ·
   obtain ⟨hu, inf, hinf, hsz, _⟩ := slInfo_under hT
   refine ⟨_, fun w2 _ => ?_, rfl⟩
   simp only [execOp, hs.val hx, hs.val hy, elemPtr]
   simp [Instr.indexAt, asIntOf, run_underlying hu, h0, h1, run_sizeOf' hinf, hsz, addr_add]

theorem op_load_que {T M p E i j : Nat} {x : Operand} {u : Value} {ys : List α} {e : α} {c : C} (hl : ldInfo P T = some (false, M)) (hx : ev es x = some (.val (elemPtr u i sz j)))
  (hp : pick p ps = some (.que u E k sz ys)) (hi : ys[i]? = some e) (hc : (k e)[j]? = some c) (hn : Nat.blt d n = true) :
  VOp true P n es ps ⟨some d, .load T x, ty, pos, af, gd⟩ d (c) :=
 VOp.mk rfl hn fun a w F Gp hs ho => by
  obtain ⟨G1, hrep, hsub⟩ := ho.pick hp
  rcases hrep with ⟨_, rfl, _⟩ | ⟨b, o, cap, zs, rfl, ⟨hG, vs, hb, hf⟩, hk, _⟩
  ·
   simp at hi
  ·
   have hpart := hf.part hk
   obtain ⟨us, hul, hcl, hus⟩ := hpart.get hi
   obtain ⟨v, hv, hr, _⟩ := hcl.get hc
   refine ⟨v, fun w2 hw => ?_, hr⟩
   have hcell := part_cells (w := w) (sz := sz) (o := o) (m := ys.length * sz) hb _ v (hus j v hv)
   simp only [execOp, hs.val hx, elemPtr]
   rw [addr_add] at hcell ⊢
   have h2 : w2.cell? ⟨b, o * sz + (i * sz + j), none⟩ = some v := (World.cell?_of_block (hw rfl b (.inr (hsub b ((hG b).2 rfl))))).trans hcell
   simp [Instr.loadAt, Instr.sureAddr, run_loadVar1 hl h2]

theorem op_slice_que {T E E' by' l : Nat} {x y : Operand} {q : IntKind} {u : Value} {ys : List α} {li : Int} (hT : slInfo P T = some (E', sz, by')) (hx : ev es x = some (.val u)) (hy : ev es y = some (.val (.int q li))) (h0 : 0 ≤ li ∧ li ≤ ys.length) (hl : l = li.toNat) (hn : Nat.blt d n = true) :
  HOp P n ⟨some d, .slice T x (some y) none none, ty, pos, af, gd⟩ es [.que u E k sz ys] (fun e' qs => ∃ u', e' = (d, .val u') :: es ∧ qs = [.que u' E k sz (ys.drop l)]) :=
 HOp.of rfl hn fun a w F G1 hs ho hft => by
  obtain ⟨m, rfl⟩ := Int.eq_ofNat_of_zero_le h0.1
  rw [Int.toNat_natCast] at hl
  subst hl
  have hsame : ∀ u', (Obj.que u' E k sz (ys.drop l)).rep w F G1 → Turn w F G1 w F G1 [.que u' E k sz (ys.drop l)] := fun u' h => ⟨Own.of_one h, fun _ h => h, fun b hb => ⟨hft.fin b hb, .inl hb⟩, fun b hb => ⟨(hft.gin b hb).1, (hft.gin b hb).2, .inl hb⟩, Chg.refl _ _⟩
  rcases ho.only with ⟨rfl, rfl, hG⟩ | ⟨b, o, cap, zs, rfl, hraw, hk, hc, hoc, hmax⟩
  ·
   obtain rfl : l = 0 := by have := h0.2; simp at this; omega
   have hr := run_slice (P := P) (w := w) (A := none) (len := 0) (cap := 0) hT (lo := some (.int q (0 : Nat))) (hi := none) (l := 0) (h := 0) (.inr ⟨q, rfl⟩) (.inl ⟨rfl, rfl⟩) (Nat.le_refl _) (Nat.le_refl _) (Nat.le_refl _)
   refine ⟨.slice none 0 0, w, F, G1, .val (.slice none 0 0), _, ?_, rfl, hsame (.slice none 0 0) (.inl ⟨rfl, rfl, hG⟩), _, rfl, rfl⟩
   simp only [execOp, hs.val hx, Option.map_some, hs.val hy, Option.map_none]
   simp at hr
   simp [hr]
  ·
   have hr := run_slice (P := P) (w := w) (A := some ⟨b, o * sz, none⟩) (len := ys.length) (cap := cap) hT (lo := some (.int q l)) (hi := none) (l := l) (h := ys.length) (.inr ⟨q, rfl⟩) (.inl ⟨rfl, rfl⟩) (by omega) (Nat.le_refl _) hc
   have hdl : (ys.drop l).length = ys.length - l := List.length_drop
   have hdr : ∀ t, t ≤ ys.length → ((zs.drop (o + t)).take (ys.length - t)) = (ys.drop t).map some := fun t ht => by
    rw [← List.drop_drop, ← List.drop_take, hk, List.map_drop]
   refine ⟨_, w, F, G1, .val (.slice (if cap = l then some ⟨b, o * sz, none⟩ else (some (⟨b, o * sz, none⟩ : Addr)).map (·.add (l * sz))) (ys.length - l) (cap - l)), _, ?_, rfl, hsame _ ?_, _, rfl, rfl⟩
   ·
    simp only [execOp, hs.val hx, Option.map_some, hs.val hy, Option.map_none]
    simp at hr
    simp [hr]
   ·
    by_cases h : cap = l
    ·
     have hz : ys.length - l = 0 := by omega
     refine .inr ⟨b, o, cap - l, zs, by rw [if_pos h, hdl], hraw, ?_, by omega, by omega, hmax⟩
     rw [hdl, hz, List.take_zero]
     have : ys.drop l = [] := List.eq_nil_of_length_eq_zero (by omega)
     rw [this]; rfl
    ·
     refine .inr ⟨b, o + l, cap - l, zs, by rw [if_neg h, hdl, Option.map_some, addr_add, Nat.add_mul], hraw, ?_, by omega, by omega, hmax⟩
     rw [hdl]
     exact hdr l (by omega)

theorem run_append_at (t ty e : TypeId) (i : TypeInfo) (ht : P.underlying t = some (.slice e)) (hi : P.info? e = some i) (g off sLen sCap : Nat) (cur : Array Value) {T0 : TypeId} (hg : w.heap[g]? = some (.cells cur T0 (0, 0)))
  (a : Addr) (m c : Nat) (news : List Value) (hl : news.length = m * i.size) (hnews : ∀ j u, news[j]? = some u → w.cell? (a.add j) = some u) (h1 : ∀ u ∈ news, u.oneCell' = true) (hroom : sLen + m ≤ sCap) (hfit : off + sLen * i.size + news.length ≤ cur.size) :
  (Builtin.append_ #[t, t] ty #[.slice (some ⟨g, off, none⟩) sLen sCap, .slice (some a) m c]).run P w =
   .ok (.slice (some ⟨g, off, none⟩) (sLen + m) sCap) (w.setRow g (cur.toList.take (off + sLen * i.size) ++ news ++ cur.toList.drop (off + sLen * i.size + news.length)).toArray) := by
 have hf := run_firstCells_some (P := P) w i.size m a m c news hl hnews
 have hst := run_storeCells_at P g (off + sLen * i.size) T0 news 0 cur w hg (by simpa using hfit) h1
 simp only [Nat.add_zero] at hst
 simp [Builtin.append_, run_underlying ht, sizeOf, typeInfo, hi, Builtin.lenOf, hroom, hf, Addr.add_lit, hst]

theorem que_of_raw {b o cap E m : Nat} {zs : List (Option α)} {ys : List α} {G1 : BSet} (h : Own w F [.raw b E k sz zs] G1) (hm : m = ys.length) (hk : (zs.drop o).take m = ys.map some) (hc : m ≤ cap) (hoc : o + cap ≤ zs.length) (hmax : zs.length ≤ maxLen) : Own w F [.que (.slice (some ⟨b, o * sz, none⟩) m cap) E k sz ys] G1 := by
 subst hm
 exact Own.of_one (.inr ⟨b, o, cap, zs, rfl, h.only, hk, hc, hoc, hmax⟩)

theorem op_append_que {T E by' : Nat} {x y : Operand} {u : Value} {xs ys : List α} (hT : arInfo P T = some (E, sz, by')) (hx : ev es x = some (.val u)) (hy : ev es y = some (.im k sz ys))
  (hb : (xs.length + ys.length) * by' ≤ 140737488355328) (h63 : xs.length + ys.length ≤ 9223372036854775807) (hn : Nat.blt d n = true) :
  HOp P n ⟨some d, .call ⟨.builtin .append, #[x, y], #[T, T]⟩, ty, pos, af, gd⟩ es [.que u E k sz xs] (fun e' qs => ∃ u', e' = (d, .val u') :: es ∧ qs = [.que u' E k sz (xs ++ ys)]) :=
 HOp.pre fun w F G hown => by
  rcases hown.only with ⟨rfl, rfl, hG⟩ | ⟨b, o, cap, zs, rfl, hraw, hk, hc, hoc, hmax⟩
  ·
   refine ⟨[.arr (.slice none 0 0) E k sz []], Own.of_one ⟨⟨[], World.ownsRow_nil w 0 E sz, rfl⟩, fun b => by simp [Value.ownBlock, hG b]⟩, ?_⟩
   refine (op_append_im hT hx hy hb h63 hn).conv fun e' qs ⟨v', he, hq⟩ => ⟨_, fun w F G ho => ⟨G, fun _ h => h, ?_⟩, v', he, rfl⟩
   subst hq
   exact own_que ho
  ·
   refine ⟨[.raw b E k sz zs], Own.of_one hraw, ?_⟩
   refine HOp.of rfl hn fun a w F G1 hs ho hft => ?_
   obtain ⟨hu, inf, zv, hi, hsz, hby, hzv, hzs, hpos⟩ := arInfo_under hT
   obtain ⟨A, c, news, hv, _, hf, hA, _, hnews⟩ := im_flat (hs.ev hy)
   obtain ⟨hGb, vs, hbv, hfz⟩ := ho.only
   have hx' := hs.val hx
   have hnl := hf.length
   cases A with
   | none =>
    obtain rfl := hA rfl
    refine ⟨.slice (some ⟨b, o * sz, none⟩) xs.length cap, w, F, G1, .val (.slice (some ⟨b, o * sz, none⟩) xs.length cap), _, ?_, rfl, ⟨que_of_raw ho (by simp) (by simpa using hk) hc hoc hmax, fun _ h => h, fun b hb => ⟨hft.fin b hb, .inl hb⟩, fun b hb => ⟨(hft.gin b hb).1, (hft.gin b hb).2, .inl hb⟩, Chg.refl _ _⟩, _, rfl, rfl⟩
    simp [execOp, resolve, invoke, builtin, hx', hv, Builtin.append_, run_underlying hu, sizeOf, typeInfo, hi, Builtin.lenOf, Builtin.firstCells, hc, storeCells]
   | some ad =>
    by_cases hroom : xs.length + ys.length ≤ cap
    ·
     have hfl := hfz.length
     have hfit : o * sz + xs.length * inf.size + news.length ≤ vs.toArray.size := by
      rw [hsz, hnl, List.size_toArray, hfl, ← Nat.add_mul, ← Nat.add_mul]
      exact Nat.mul_le_mul_right _ (by omega)
     have hr := run_append_at (P := P) T ty E inf hu hi b (o * sz) xs.length cap vs.toArray hbv ad ys.length c news (by rw [hnl, hsz]) (hnews ad rfl) hf.one hroom hfit
     rw [hsz] at hr
     have hsp := hfz.splice (o := o + xs.length) hf
     rw [Nat.add_mul] at hsp
     have hturn := Turn.setRaw (T := E) hft hGb hbv hsp
     have hlen : (zs.take (o + xs.length) ++ ys.map some ++ zs.drop (o + xs.length + ys.length)).length = zs.length := by simp; omega
     refine ⟨.slice (some ⟨b, o * sz, none⟩) (xs.length + ys.length) cap, _, F, G1, .val (.slice (some ⟨b, o * sz, none⟩) (xs.length + ys.length) cap), _, ?_, rfl, ⟨que_of_raw hturn.own (by simp) ?_ hroom (by rw [hlen]; exact hoc) (by rw [hlen]; exact hmax), hturn.sub, hturn.fin, hturn.gin, hturn.chg⟩, _, rfl, rfl⟩
     ·
      simp [execOp, resolve, invoke, builtin, hx', hv, hr]
     ·
      have e1 : (zs.take (o + xs.length)).drop o = xs.map some := by rw [← hk, List.drop_take]; congr 1; omega
      rw [List.append_assoc, List.drop_append_of_le_length (by simp; omega), e1, ← List.append_assoc, List.take_left' (by simp), List.map_append]
    ·
     have hpart := hfz.part hk
     have hr := run_append_grow (P := P) (w := w) T ty E inf zv hu hi hzv ⟨b, o * sz, none⟩ xs.length cap _ (by rw [hpart.length, hsz]) (part_cells hbv) ad ys.length c news (by rw [hnl, hsz]) (hnews ad rfl) (by omega) (by omega) (by rw [hby]; exact growslice_fits (by omega) hb)
     have hge := grownCap_ge w (xs.length + ys.length) cap E
     have hcm : grownCap w (xs.length + ys.length) cap E ≤ maxLen := grownCap_le_maxLen w (xs.length + ys.length) cap E (by simp only [maxLen]; omega)
     obtain ⟨c2, hc2⟩ : ∃ c2, c2 = grownCap w (xs.length + ys.length) cap E := ⟨_, rfl⟩
     rw [← hc2] at hr hge hcm
     have hold : ∀ b, F b → F b ∧ (w.drew.alloc (.cells (((vs.drop (o * sz)).take (xs.length * sz)).toArray ++ news.toArray ++ Builtin.zeroCells zv.cells (c2 - (xs.length + ys.length))) E)).heap[b]? = w.heap[b]? := fun b hb => ⟨hb, heap_alloc_old w.drew _ (hft.fin b hb)⟩
     have hfl2 : FlatO (w.drew.alloc (.cells (((vs.drop (o * sz)).take (xs.length * sz)).toArray ++ news.toArray ++ Builtin.zeroCells zv.cells (c2 - (xs.length + ys.length))) E)) F k sz ((xs ++ ys).map some ++ List.replicate (c2 - (xs.length + ys.length)) none)
       (((vs.drop (o * sz)).take (xs.length * sz)).toArray ++ news.toArray ++ Builtin.zeroCells zv.cells (c2 - (xs.length + ys.length))).toList := by
      rw [Array.toList_append, Array.toList_append]
      refine FlatO.append (FlatO.of_flat ((hpart.mono hold).append (hf.mono hold))) (FlatO.none (by simp [size_zeroCells, hzs]))
     refine ⟨.slice (some ⟨w.heap.size, 0, none⟩) (xs.length + ys.length) c2, w.drew.alloc (.cells (((vs.drop (o * sz)).take (xs.length * sz)).toArray ++ news.toArray ++ Builtin.zeroCells zv.cells (c2 - (xs.length + ys.length))) E), F, (· = w.heap.size), .val (.slice (some ⟨w.heap.size, 0, none⟩) (xs.length + ys.length) c2), _, ?_, rfl, ⟨?_, fun _ h => h, fun b hb => ⟨by have := hft.fin b hb; simp; omega, .inl hb⟩, fun b hb => ⟨by subst hb; simp, fun hf => by have := hft.fin b hf; omega, .inr (by omega)⟩, ⟨rfl, rfl, rfl, by simp, (by first | exact Nat.le_refl _ | exact Nat.le_succ _), fun b hb _ => heap_alloc_old w.drew _ hb⟩⟩, _, rfl, rfl⟩
     ·
      simp [execOp, resolve, invoke, builtin, hx', hv, hr]
     ·
      have hl3 : ((xs ++ ys).map some ++ List.replicate (c2 - (xs.length + ys.length)) (none : Option α)).length = c2 := by simp; omega
      have := que_of_raw (w := w.drew.alloc (.cells (((vs.drop (o * sz)).take (xs.length * sz)).toArray ++ news.toArray ++ Builtin.zeroCells zv.cells (c2 - (xs.length + ys.length))) E)) (F := F) (k := k) (sz := sz) (b := w.heap.size) (o := 0) (cap := c2) (E := E) (m := xs.length + ys.length) (zs := (xs ++ ys).map some ++ List.replicate (c2 - (xs.length + ys.length)) none) (ys := xs ++ ys) (G1 := (· = w.heap.size))
       (Own.of_one ⟨fun _ => Iff.rfl, _, by rw [Array.toArray_toList]; exact heap_alloc_new w.drew _, hfl2⟩) (by simp) (by rw [List.drop_zero, List.take_left' (by simp)]) hge (by rw [hl3]; omega) (by rw [hl3]; exact hcm)
      rwa [Nat.zero_mul] at this

theorem HOp.frz {o : Oper} {t : Nat} {c c' : C} {qs : List Obj} {T : Env → List Obj → Prop} (ht : get es t = some c) (hf : Frz c qs c') (h : HOp P n o ((t, c') :: es) ps T) : HOp P n o es (qs ++ ps) T := by
 intro a w F G1 hs ho hft hsz Kc Q hK
 obtain ⟨Ga, Gb, hi, hd, h1, h2⟩ := Own.append.1 ho
 have hmono : ∀ b, F b → (F b ∨ Ga b) ∧ w.heap[b]? = w.heap[b]? := fun b hb => ⟨.inl hb, rfl⟩
 have henv : EnvRep w (fun b => F b ∨ Ga b) ((t, c') :: es) a := fun i c1 hi1 => by
  by_cases hit : t = i
  ·
   subst hit
   rw [get_cons_same] at hi1
   cases hi1
   exact hf w F Ga _ _ (hs t c ht) h1 (fun _ h => .inl h) fun _ h => .inr h
  ·
   rw [get_cons_ne _ _ hit] at hi1
   exact C.mono _ (hs i c1 hi1) hmono
 have hfit : Fit w (fun b => F b ∨ Ga b) Gb := ⟨fun b hb => hb.elim (hft.fin b) fun hb => (hft.gin b ((hi b).2 (.inl hb))).1, fun b hb => ⟨(hft.gin b ((hi b).2 (.inr hb))).1, fun hf => hf.elim (hft.gin b ((hi b).2 (.inr hb))).2 fun hg => hd b hg hb⟩⟩
 refine h a w _ Gb henv (h2.mono hmono fun _ _ => rfl) hfit hsz Kc Q fun v w' e' rs F' G1' ht' hT he => hK v w' e' rs F' G1' ⟨ht'.own, fun b hb => ht'.sub b (.inl hb), fun b hb => ⟨(ht'.fin b hb).1, ?_⟩, fun b hb => ⟨(ht'.gin b hb).1, (ht'.gin b hb).2.1, ?_⟩, ⟨ht'.chg.os, ht'.chg.tape, ht'.chg.output, ht'.chg.size, ht'.chg.drawn, fun b hb hn => ht'.chg.block b hb fun hg => hn ((hi b).2 (.inr hg))⟩⟩ hT he
 ·
  rcases (ht'.fin b hb).2 with (h | h) | h | h
  ·
   exact .inl h
  ·
   exact .inr (.inl ((hi b).2 (.inl h)))
  ·
   exact .inr (.inl ((hi b).2 (.inr h)))
  ·
   exact .inr (.inr h)
 ·
  exact (ht'.gin b hb).2.2.imp (fun h => (hi b).2 (.inr h)) id
end
end Go.Abs
