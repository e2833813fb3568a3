/- Slices of structs whose own slices are owned with them. -/
import Derived.Test.YtnndihmamfomcaaGreatCN
set_option autoImplicit false
set_option linter.unusedVariables false
set_option linter.unusedSimpArgs false
namespace Go.Abs
open Go

def Obj.deep {α γ : Type} (v : Value) (E : Nat) (k : α → γ → List C) (os : α → γ → List Obj) (sz : Nat) (xs : List α) : Obj where
 rep w F G := ∃ us : List γ, us.length = xs.length ∧ Own w F (.arr v E (fun p : α × γ => k p.1 p.2) sz (xs.zip us) :: (xs.zip us).flatMap fun p => os p.1 p.2) G
 mono := by
  rintro w w' F F' G ⟨us, hl, h⟩ m g
  exact ⟨us, hl, h.mono m g⟩

def Obj.hole {α γ : Type} (v : Value) (E : Nat) (k : α → γ → List C) (os : α → γ → List Obj) (sz : Nat) (xs : List α) (i : Nat) (u : γ) : Obj where
 rep w F G := ∃ us : List γ, us.length = xs.length ∧ us[i]? = some u ∧ Own w F (.arr v E (fun p : α × γ => k p.1 p.2) sz (xs.zip us) :: ((xs.zip us).eraseIdx i).flatMap fun p => os p.1 p.2) G
 mono := by
  rintro w w' F F' G ⟨us, hl, hu, h⟩ m g
  exact ⟨us, hl, hu, h.mono m g⟩

section
variable {P : Program} {n : Nat} {X : Ctx} {a : Act} {w : World} {F G : BSet} {es : Env} {ps : List Obj} {o : Oper} {T T' : Env → List Obj → Prop}

theorem HOp.frame (h : HOp P n o es ps T) (rs : List Obj) : HOp P n o es (ps ++ rs) (fun e' qs => ∃ q, T e' q ∧ qs = q ++ rs) := by
 intro a w F G1 hs ho hf hsz Kc Q hK
 obtain ⟨Ga, Gb, hi, hd, h1, h2⟩ := Own.append.1 ho
 refine h a w F Ga hs h1 ⟨hf.fin, fun b hb => hf.gin b ((hi b).2 (.inl hb))⟩ hsz Kc Q fun v w' e' qs F' G1' ht hT he => ?_
 exact hK v w' e' (qs ++ rs) F' _ (Turn.frame hi hd h2 hf ht) ⟨qs, hT, rfl⟩ he

theorem HOp.conv (h : HOp P n o es ps T) (k : ∀ e' qs, T e' qs → ∃ qs', (∀ w F G, Own w F qs G → ∃ G', (∀ b, G' b → G b) ∧ Own w F qs' G') ∧ T' e' qs') : HOp P n o es ps T' := by
 intro a w F G1 hs ho hf hsz Kc Q hK
 refine h a w F G1 hs ho hf hsz Kc Q fun v w' e' qs F' G1' ht hT he => ?_
 obtain ⟨qs', hc, hT'⟩ := k e' qs hT
 obtain ⟨G', hsub, ho'⟩ := hc w' F' G1' ht.own
 exact hK v w' e' qs' F' G' ⟨ho', ht.sub, ht.fin, fun b hb => ht.gin b (hsub b hb), ht.chg⟩ hT' he

theorem HOp.pre {ps' : List Obj} (k : ∀ w F G, Own w F ps' G → ∃ qs, Own w F qs G ∧ HOp P n o es qs T) : HOp P n o es ps' T := by
 intro a w F G1 hs ho hf hsz Kc Q hK
 obtain ⟨qs, h1, h2⟩ := k w F G1 ho
 exact h2 a w F G1 hs h1 hf hsz Kc Q hK

theorem VOp.pre {m : Bool} {d : Nat} {c : C} {ps' : List Obj} (hd : o.dst = some d) (hn : Nat.blt d n = true) (k : ∀ w F G, Own w F ps' G → ∃ qs, Own w F qs G ∧ VOp m P n es qs o d c) : VOp m P n es ps' o d c :=
 ⟨hd, hn, fun a w F Gp hs ho => by
  obtain ⟨qs, h1, h2⟩ := k w F Gp ho
  exact h2.run a w F Gp hs h1⟩

variable {α γ : Type} {k : α → γ → List C} {ob : α → γ → List Obj} {sz : Nat} {v : Value} {E : Nat}

theorem Own.deep_iff {xs : List α} : Own w F [.deep v E k ob sz xs] G ↔ ∃ us : List γ, us.length = xs.length ∧ Own w F (.arr v E (fun p : α × γ => k p.1 p.2) sz (xs.zip us) :: (xs.zip us).flatMap fun p => ob p.1 p.2) G :=
 ⟨fun h => h.only, fun h => Own.of_one h⟩

theorem zip_get {xs : List α} {us : List γ} {i : Nat} {x : α} (hl : us.length = xs.length) (hx : xs[i]? = some x) : ∃ u, us[i]? = some u ∧ (xs.zip us)[i]? = some (x, u) := by
 have hi := (List.getElem?_eq_some_iff.1 hx).1
 have hu : us[i]? = some us[i] := List.getElem?_eq_getElem (by omega)
 exact ⟨_, hu, by rw [List.getElem?_zip_eq_some]; exact ⟨hx, hu⟩⟩

theorem zip_set {xs : List α} {us : List γ} {i : Nat} {x : α} {u : γ} : (xs.zip us).set i (x, u) = (xs.set i x).zip (us.set i u) := by
 apply List.ext_getElem?
 intro j
 by_cases h : i = j
 ·
  subst h
  rw [List.getElem?_set]
  simp only [if_pos]
  by_cases h1 : i < xs.length
  ·
   by_cases h2 : i < us.length
   ·
    rw [if_pos (by simp; omega)]
    symm
    rw [List.getElem?_zip_eq_some]
    simp [h1, h2]
   ·
    rw [if_neg (by simp; omega)]
    symm
    rw [List.getElem?_eq_none_iff]
    simp; omega
  ·
   rw [if_neg (by simp; omega)]
   symm
   rw [List.getElem?_eq_none_iff]
   simp; omega
 ·
  rw [List.getElem?_set_ne h]
  cases hz : ((xs.set i x).zip (us.set i u))[j]? with
  | none =>
   rw [List.getElem?_eq_none_iff] at hz ⊢
   simpa using hz
  | some p =>
   obtain ⟨y, t⟩ := p
   rw [List.getElem?_zip_eq_some] at hz
   rw [List.getElem?_set_ne h, List.getElem?_set_ne h] at hz
   rw [List.getElem?_zip_eq_some]
   exact hz

theorem flatMap_erase {β : Type} {f : β → List Obj} {ps : List β} {i : Nat} {p : β} (h : ps[i]? = some p) : (ps.flatMap f).Perm (f p ++ (ps.eraseIdx i).flatMap f) := by
 induction ps generalizing i with
 | nil => simp at h
 | cons q ps ih =>
  cases i with
  | zero => simp at h; subst h; simp
  | succ i =>
   simp only [List.getElem?_cons_succ] at h
   simp only [List.flatMap_cons, List.eraseIdx_cons_succ]
   refine ((ih h).append_left (f q)).trans ?_
   rw [← List.append_assoc, ← List.append_assoc]
   exact List.perm_append_comm.append_right _

theorem erase_set {β : Type} {ps : List β} {i : Nat} {p : β} : (ps.set i p).eraseIdx i = ps.eraseIdx i := by
 induction ps generalizing i with
 | nil => simp
 | cons q ps ih => cases i <;> simp [ih]

theorem Own.weak {os os' : List Obj} (h : Own w F (os ++ os') G) : ∃ G', (∀ b, G' b → G b) ∧ Own w F os' G' := by
 obtain ⟨G1, G2, hi, _, _, h2⟩ := Own.append.1 h
 exact ⟨G2, fun b hb => (hi b).2 (.inr hb), h2⟩

variable {d ty : Nat} {pos : String} {af : Array Edge} {gd : Option (Nat × Bool)}

theorem deep_form {xs : List α} {G1 : BSet} (h : (Obj.deep v E k ob sz xs).rep w F G1) (hx : xs ≠ []) : ∃ b cap, v = .slice (some ⟨b, 0, none⟩) xs.length cap := by
 obtain ⟨us, hl, Ga, Gb, _, _, h, _⟩ := h
 have hz : (xs.zip us).length = xs.length := by simp; omega
 obtain ⟨b, cap, e⟩ := arr_form h (fun e => hx (List.eq_nil_of_length_eq_zero (by rw [← hz, e]; rfl)))
 exact ⟨b, cap, by rw [e, hz]⟩

theorem op_indexAddr_deep {Tt by' p E' : Nat} {x y : Operand} {xs : List α} {e : α} {i : Int} {q : IntKind} (hT : slInfo P Tt = some (E, sz, by')) (hx : ev es x = some (.val v)) (hp : pick p ps = some (.deep v E' k ob sz xs)) (hy : ev es y = some (.val (.int q i)))
  (hi : getI xs i = some e) (hn : Nat.blt d n = true) :
  VOp false P n es ps ⟨some d, .indexAddr Tt x y, ty, pos, af, gd⟩ d (.val (elemPtr v i.toNat sz 0)) :=
 VOp.mk rfl hn fun a w F Gp hs ho => by
  obtain ⟨h0, h1, h2⟩ := getI_lt hi
  obtain ⟨G1, hrep, _⟩ := ho.pick hp
  obtain ⟨b, cap, rfl⟩ := deep_form hrep (fun e => by rw [e] at h2; simp at h2)
  obtain ⟨hu, inf, hinf, hsz, _⟩ := slInfo_under hT
  refine ⟨_, fun w2 _ => ?_, rfl⟩
  simp only [execOp, hs.val hx, hs.val hy, elemPtr_eq]
  simp [Instr.indexAt, asIntOf, run_underlying hu, h0, h1, run_sizeOf' hinf, hsz, addr_add]

theorem op_storeA_deep {Tt M i j : Nat} {x y : Operand} {xs : List α} {e e' : α} {u' : γ} {ds : List C} (hl : ldInfo P Tt = some (true, M)) (hx : ev es x = some (.val (elemPtr v i sz 0))) (hy : ev es y = some (.agg ds)) (hdm : Nat.beq ds.length M = true)
  (hi : xs[i]? = some e) (hM : ∀ u, Nat.beq (k e u).length M = true) (he : ds = k e' u') (hj : j = 0) :
  HOp P n ⟨none, .store Tt x y, ty, pos, af, gd⟩ es (.deep v E k ob sz xs :: ob e' u') (fun f qs => f = es ∧ qs = [.deep v E k ob sz (xs.set i e')]) :=
 HOp.pre fun w F G hw => by
  obtain ⟨Ga, Gb, hG, hd, hdeep, hsub⟩ := hw
  obtain ⟨us, hul, hown⟩ := hdeep
  obtain ⟨u, hu, hz⟩ := zip_get hul hi
  have hlen : (k e u).length = M := Nat.eq_of_beq_eq_true (hM u)
  have hdl : ds.length = M := Nat.eq_of_beq_eq_true hdm
  refine ⟨.arr v E (fun p : α × γ => k p.1 p.2) sz (xs.zip us) :: ((xs.zip us).flatMap (fun p => ob p.1 p.2) ++ ob e' u'), ?_, ?_⟩
  ·
   have := Own.append.2 ⟨Ga, Gb, hG, hd, hown, hsub⟩
   simpa using this
  refine ((op_storeA_arr (k := fun p : α × γ => k p.1 p.2) (e := (e, u)) (e' := (e', u')) (j := 0) hl hx hy hdm hz (by simp only [Nat.zero_add]; rw [hdl, hlen]; exact Nat.ble_self_eq_true M) (by
   simp only [List.take_zero, List.nil_append, Nat.zero_add]
   rw [hdl, ← hlen, List.drop_length, List.append_nil, he])).frame _).conv fun f qs ⟨q, ⟨hf, hq⟩, hqs⟩ => ⟨_, fun w F G ho2 => ?_, hf, rfl⟩
  subst hq hqs
  have hp := (flatMap_erase (f := fun p : α × γ => ob p.1 p.2) hz).append_right (ob e' u')
  have hset : ((xs.zip us).set i (e', u'))[i]? = some (e', u') := by
   rw [List.getElem?_set]; simp [(List.getElem?_eq_some_iff.1 hz).1]
   have := (List.getElem?_eq_some_iff.1 hz).1
   simpa using this
  have hp2 := flatMap_erase (f := fun p : α × γ => ob p.1 p.2) hset
  rw [erase_set] at hp2
  have ho3 : Own w F (ob e u ++ (.arr v E (fun p : α × γ => k p.1 p.2) sz ((xs.zip us).set i (e', u')) :: ((xs.zip us).set i (e', u')).flatMap fun p => ob p.1 p.2)) G := by
   refine ho2.perm ?_
   refine (hp.cons _).trans ?_
   rw [List.append_assoc]
   refine List.Perm.trans (List.perm_middle.symm) ?_
   refine List.Perm.append_left _ (List.Perm.cons _ ?_)
   exact List.perm_append_comm.trans hp2.symm
  obtain ⟨G', hsub', ho4⟩ := ho3.weak
  refine ⟨G', hsub', Own.deep_iff.2 ⟨us.set i u', by simp [hul], ?_⟩⟩
  rw [← zip_set]
  exact ho4

theorem Ops.take {ops : Array Oper} {l : List Oper} {os r : List Obj} {K : St → Prop} {xs : List α} {i : Nat} {e : α} {p : Nat} (hp : picks [p] os = some ([.deep v E k ob sz xs], r)) (hi : xs[i]? = some e)
  (h : ∀ u, appK (ob e u) (.hole v E k ob sz xs i u :: r) fun os' => Ops P n X ops l es os' K) : Ops P n X ops l es os K := fun a w Q hs hQ => by
 obtain ⟨F, G, hs⟩ := hs
 obtain ⟨G1, G2, hG, hd, h1, h2⟩ := Own.append.1 (hs.own.perm (picks_perm hp))
 obtain ⟨us, hul, hown⟩ := Own.deep_iff.1 h1
 obtain ⟨u, hu, hz⟩ := zip_get hul hi
 have hperm := (flatMap_erase (f := fun p : α × γ => ob p.1 p.2) hz).cons (.arr v E (fun p : α × γ => k p.1 p.2) sz (xs.zip us))
 have ho2 : Own w F (ob e u ++ (.arr v E (fun p : α × γ => k p.1 p.2) sz (xs.zip us) :: ((xs.zip us).eraseIdx i).flatMap fun p => ob p.1 p.2)) G1 := hown.perm (hperm.trans List.perm_middle.symm)
 obtain ⟨Ga, Gb, hGi, hGd, h3, h4⟩ := Own.append.1 ho2
 have ho3 : Own w F (ob e u ++ (.hole v E k ob sz xs i u :: r)) G := by
  refine ((Own.append (os := ob e u) (ps := .hole v E k ob sz xs i u :: r)).2 ⟨Ga, fun b => Gb b ∨ G2 b, fun b => Iff.rfl, fun b hb hx => ?_, h3, ⟨Gb, G2, fun b => Iff.rfl, fun b hb hx => hd b ((hGi b).2 (.inr hb)) hx, ⟨us, hul, hu, h4⟩, h2⟩⟩ : Own w F _ (fun b => Ga b ∨ Gb b ∨ G2 b)).congr fun b => ?_
  ·
   rcases hx with hx | hx
   ·
    exact hGd b hb hx
   ·
    exact hd b ((hGi b).2 (.inl hb)) hx
  ·
   rw [hG b, hGi b, or_assoc]
 exact appK_iff.1 (h u) a w Q ⟨F, G, ⟨hs.env, ho3, hs.fin, hs.gin, hs.sub, hs.chg, hs.size, hs.defs⟩⟩ hQ

theorem Own.none_cons {o : Obj} {r : List Obj} (h : o.rep w F fun _ => False) (k : Own w F r fun _ => False) : Own w F (o :: r) fun _ => False := ⟨_, _, fun _ => by simp, fun _ h => h.elim, h, k⟩
theorem Own.none_nil : Own w F [] fun _ => False := fun _ h => h
theorem rep_nil_arr {β : Type} {kk : β → List C} {s E0 : Nat} : (Obj.arr (.slice none 0 0) E0 kk s []).rep w F fun _ => False := ⟨⟨[], World.ownsRow_nil w 0 E0 s, rfl⟩, fun b => by simp [Value.ownBlock]⟩
theorem own_replicate {β : Type} {f : β → List Obj} {p : β} (h : Own w F (f p) fun _ => False) : ∀ m : Nat, Own w F ((List.replicate m p).flatMap f) fun _ => False
 | 0 => fun _ h => h
 | m + 1 => by
  rw [List.replicate_succ, List.flatMap_cons]
  exact Own.append.2 ⟨_, _, fun _ => by simp, fun _ h => h.elim, h, own_replicate h m⟩

theorem op_makeSlice_deep {Tt E0 by' : Nat} {x y : Operand} {i : Int} {q q' : IntKind} {z : α} {u0 : γ} {zs : List Value} (hT : arInfo P Tt = some (E0, sz, by')) (hz : zeroOf P E0 = some zs) (hk : ∀ w F, Cells w F (k z u0) zs) (hob : ∀ w F, Own w F (ob z u0) fun _ => False)
  (hx : ev es x = some (.val (.int q i))) (hy : ev es y = some (.val (.int q' i))) (h0 : 0 ≤ i) (hb : i * by' ≤ 140737488355328) (h63 : i ≤ 9223372036854775807) (hn : Nat.blt d n = true) :
  HOp P n ⟨some d, .makeSlice Tt x y, ty, pos, af, gd⟩ es [] (fun e' qs => ∃ b, e' = (d, .val (.slice (some ⟨b, 0, none⟩) i.toNat i.toNat)) :: es ∧ qs = [.deep (.slice (some ⟨b, 0, none⟩) i.toNat i.toNat) E0 k ob sz (List.replicate i.toNat z)]) :=
 (op_makeSlice (k := fun p : α × γ => k p.1 p.2) (z := (z, u0)) hT hz hk hx hy h0 hb h63 hn).conv fun e' qs ⟨b, h1, h2⟩ => ⟨_, fun w F G ho => ⟨G, fun _ h => h, Own.deep_iff.2 ⟨List.replicate i.toNat u0, by simp, by
  subst h2
  rw [List.zip_replicate']
  exact ⟨G, fun _ => False, fun _ => by simp, fun _ _ h => h, ho.only, own_replicate (f := fun p : α × γ => ob p.1 p.2) (p := (z, u0)) (hob w F) _⟩⟩⟩, b, h1, rfl⟩

theorem Frz.deep {kim : α → List C} {xs : List α} (h : ∀ x u, FrzL (k x u) (ob x u) (kim x)) : Frz (.val v) [.deep v E k ob sz xs] (.im kim sz xs) := fun w F G F' u hv ho hF hG => by
 rw [show u = v from hv]
 obtain ⟨us, hul, Ga, Gb, hi, _, h1, h2⟩ := Own.deep_iff.1 ho
 obtain ⟨A, cap, e, hc, hx⟩ := arr_im h1 hF fun b hb => hG b ((hi b).2 (.inl hb))
 have hz : (xs.zip us).length = xs.length := by simp; omega
 rw [hz] at e hc
 refine ⟨A, cap, e, hc, fun i x hxi => ?_⟩
 obtain ⟨t, _, hzi⟩ := zip_get hul hxi
 obtain ⟨b, off, vs, hA, hb, hl, hcs, hcl⟩ := hx i (x, t) hzi
 refine ⟨b, off, vs, hA, hb, hl, hcs, ?_⟩
 obtain ⟨Gc, Gd, hi2, _, h3, _⟩ := Own.append.1 (h2.perm (flatMap_erase (f := fun p : α × γ => ob p.1 p.2) hzi))
 exact h x t w F' Gc F' vs hcl (h3.mono (fun b hb => ⟨hF b hb, rfl⟩) fun _ _ => rfl) (fun _ h => h) fun b hb => hG b ((hi b).2 (.inr ((hi2 b).2 (.inl hb))))

theorem PlainO.deep {xs : List α} (h : ∀ x u, PlainCs (k x u)) (ho : ∀ x u, ∀ o ∈ ob x u, PlainO o) : PlainO (.deep v E k ob sz xs) := fun w F F' G ⟨us, hl, hown⟩ => by
 refine ⟨us, hl, hown.plain fun o hmem => ?_⟩
 rcases List.mem_cons.1 hmem with rfl | hmem
 ·
  exact PlainO.arr fun p => h p.1 p.2
 ·
  obtain ⟨p, _, hp⟩ := List.mem_flatMap.1 hmem
  exact ho p.1 p.2 o hp

theorem Sim.deep_one {s : St} {p : Nat} {xs : List α} (hp : pick p s.o = some (.deep v E k ob sz xs)) (a : Act) (w : World) (h : Sim n X s a w) : v.oneCell' = true := by
 obtain ⟨F, G, h⟩ := h
 obtain ⟨G1, ⟨us, _, Ga, Gb, _, _, ⟨⟨vs, hrow, _⟩, _⟩, _⟩, _⟩ := h.own.pick hp
 rcases hrow.2 with ⟨rfl, _⟩ | ⟨_, _, _, rfl, _⟩ <;> rfl
end
end Go.Abs
