/- Maps from integers, owned. -/
import Derived.Test.YtnndihmamfomcaaGreatCP
import Derived.MapKept
set_option autoImplicit false
set_option linter.unusedVariables false
set_option linter.unusedSimpArgs false
namespace Go.Abs
open Go

def mget {β : Type} : List (Int × β) → Int → Option β
 | [], _ => none
 | (i, x) :: m, j => if j = i then some x else mget m j
def mset {β : Type} : List (Int × β) → Int → β → List (Int × β)
 | [], j, y => [(j, y)]
 | (i, x) :: m, j, y => if j = i then (i, y) :: m else (i, x) :: mset m j y

theorem mget_mset {β : Type} (m : List (Int × β)) (j : Int) (y : β) (l : Int) : mget (mset m j y) l = if l = j then some y else mget m l := by
 induction m with
 | nil => simp [mset, mget]
 | cons p m ih =>
  obtain ⟨i, x⟩ := p
  unfold mset
  by_cases h : j = i
  ·
   subst h
   rw [if_pos rfl, mget, mget]
   by_cases hl : l = j <;> simp [hl]
  ·
   rw [if_neg h, mget, mget, ih]
   by_cases hl : l = i
   ·
    subst hl
    rw [if_pos rfl, if_pos rfl, if_neg (fun e => h e.symm)]
   ·
    rw [if_neg hl, if_neg hl]

theorem mset_mset {β : Type} (m : List (Int × β)) (j : Int) (x y : β) : mset (mset m j x) j y = mset m j y := by
 induction m with
 | nil => simp [mset]
 | cons p m ih =>
  obtain ⟨i, z⟩ := p
  by_cases h : j = i
  ·
   subst h; simp [mset]
  ·
   simp [mset, h, ih]

theorem mset_same {β : Type} {m : List (Int × β)} {j : Int} {x : β} (h : mget m j = some x) : mset m j x = m := by
 induction m with
 | nil => cases h
 | cons p m ih =>
  obtain ⟨i, z⟩ := p
  unfold mget at h
  unfold mset
  by_cases hj : j = i
  ·
   rw [if_pos hj] at h ⊢; cases h; rfl
  ·
   rw [if_neg hj] at h ⊢; rw [ih h]

theorem mset_keys {β : Type} {m : List (Int × β)} {j : Int} {x : β} (h : (m.map (·.1)).Nodup) : ((mset m j x).map (·.1)).Nodup ∧ ∀ i, i ∈ (mset m j x).map (·.1) → i = j ∨ i ∈ m.map (·.1) := by
 induction m with
 | nil => simp [mset]
 | cons p m ih =>
  obtain ⟨i, z⟩ := p
  simp only [List.map_cons, List.nodup_cons] at h
  obtain ⟨h1, h2⟩ := ih h.2
  unfold mset
  by_cases hj : j = i
  ·
   rw [if_pos hj]; simp only [List.map_cons, List.nodup_cons]; exact ⟨h, fun l hl => .inr hl⟩
  ·
   rw [if_neg hj]
   simp only [List.map_cons, List.nodup_cons]
   refine ⟨⟨fun hm => ?_, h1⟩, fun l hl => ?_⟩
   ·
    rcases h2 i hm with e | e
    ·
     exact hj e.symm
    ·
     exact h.1 e
   ·
    rcases List.mem_cons.1 hl with e | e
    ·
     exact .inr (by simp [e])
    ·
     exact (h2 l e).imp id fun h => by simp [h]

def Ents {β : Type} (w : World) (F : BSet) (kd : IntKind) (kc : β → C) : List (Int × β) → List MapEntry → Prop
 | [], es => es = []
 | (i, x) :: m, es => ∃ e r, es = e :: r ∧ e.key = .int kd i ∧ (kc x).rep w F e.val ∧ Ents w F kd kc m r

section
variable {β : Type} {w w' : World} {F F' : BSet} {kd : IntKind} {kc : β → C}

theorem Ents.mono : ∀ {m : List (Int × β)} {es : List MapEntry}, Ents w F kd kc m es → (∀ b, F b → F' b ∧ w'.heap[b]? = w.heap[b]?) → Ents w' F' kd kc m es
 | [], _, h, _ => h
 | (_, _) :: _, _, ⟨e, r, h1, h2, h3, h4⟩, k => ⟨e, r, h1, h2, C.mono _ h3 k, h4.mono k⟩

theorem Ents.find : ∀ {m : List (Int × β)} {es : List MapEntry} (j : Int) (i : Nat), Ents w F kd kc m es →
  (mget m j = none ∧ Instr.findNow (.int kd) (.int kd j) es i = some none ∧ ∀ y v born, (kc y).rep w F v → Ents w F kd kc (mset m j y) (es ++ [⟨.int kd j, v, born⟩])) ∨
  ∃ x t v, mget m j = some x ∧ Instr.findNow (.int kd) (.int kd j) es i = some (some (i + t, v)) ∧ (kc x).rep w F v ∧ es[t]?.map (·.key) = some (.int kd j) ∧
   ∀ y u, (kc y).rep w F u → Ents w F kd kc (mset m j y) (es.modify t fun e => { e with key := .int kd j, val := u })
 | [], _, j, i, h => by
  rw [show _ = [] from h]
  exact .inl ⟨rfl, rfl, fun y v born hv => ⟨_, [], rfl, rfl, hv, rfl⟩⟩
 | (l, x) :: m, _, j, i, ⟨e, r, h1, h2, h3, h4⟩ => by
  subst h1
  by_cases hj : j = l
  ·
   subst hj
   refine .inr ⟨x, 0, e.val, by rw [mget, if_pos rfl], ?_, h3, by simp [h2], fun y u hu => ?_⟩
   ·
    simp [Instr.findNow, Instr.sameNow, h2]
   ·
    rw [mset, if_pos rfl]
    exact ⟨_, r, rfl, rfl, hu, h4⟩
  ·
   have hne : (j == l) = false := beq_false_of_ne hj
   rcases Ents.find j (i + 1) h4 with ⟨g1, g2, g3⟩ | ⟨x', t, v, g1, g2, g3, g4, g5⟩
   ·
    refine .inl ⟨by rw [mget, if_neg hj]; exact g1, by simp [Instr.findNow, Instr.sameNow, h2, hne, g2], fun y v born hv => ?_⟩
    rw [mset, if_neg hj]
    exact ⟨e, _, rfl, h2, h3, g3 y v born hv⟩
   ·
    refine .inr ⟨x', t + 1, v, by rw [mget, if_neg hj]; exact g1, ?_, g3, by simpa using g4, fun y u hu => ?_⟩
    ·
     simp [Instr.findNow, Instr.sameNow, h2, hne, g2]; omega
    ·
     rw [mset, if_neg hj]
     exact ⟨e, _, rfl, h2, h3, g5 y u hu⟩
end

structure Stamps {β : Type} (m : List (Int × β)) (es : List MapEntry) (clock : Nat) : Prop where
 lt : ∀ e ∈ es, e.born < clock
 one : (es.map (·.born)).Nodup
 keys : (m.map (·.1)).Nodup

theorem Stamps.push {β : Type} {m m' : List (Int × β)} {es : List MapEntry} {clock : Nat} (h : Stamps m es clock) (hm : (m'.map (·.1)).Nodup) {k v : Value} : Stamps m' (es ++ [⟨k, v, clock⟩]) (clock + 1) := by
 refine ⟨fun e he => ?_, ?_, hm⟩
 ·
  rcases List.mem_append.1 he with he | he
  ·
   have := h.lt e he; omega
  ·
   rw [List.mem_singleton.1 he]; exact Nat.lt_succ_self _
 ·
  rw [List.map_append, List.nodup_append]
  refine ⟨h.one, by simp, fun a ha b hb e => ?_⟩
  obtain ⟨x, hx, rfl⟩ := List.mem_map.1 ha
  simp at hb
  have := h.lt x hx
  omega

theorem Stamps.modify {β : Type} {m m' : List (Int × β)} {es : List MapEntry} {clock t : Nat} {f : MapEntry → MapEntry} (h : Stamps m es clock) (hm : (m'.map (·.1)).Nodup) (hf : ∀ e, (f e).born = e.born) : Stamps m' (es.modify t f) clock := by
 have hb : (es.modify t f).map (·.born) = es.map (·.born) := by
  apply List.ext_getElem?
  intro i
  simp only [List.getElem?_map, List.getElem?_modify]
  cases es[i]? with
  | none => simp
  | some e => by_cases hti : t = i <;> simp [hti, hf]
 refine ⟨fun e he => ?_, by rw [hb]; exact h.one, hm⟩
 have : e.born ∈ (es.modify t f).map (·.born) := List.mem_map.2 ⟨e, he, rfl⟩
 rw [hb] at this
 obtain ⟨x, hx, e⟩ := List.mem_map.1 this
 rw [← e]
 exact h.lt x hx

def Obj.map {β : Type} (b : Nat) (kd : IntKind) (kc : β → C) (m : List (Int × β)) : Obj where
 rep w F G := (∀ b', G b' ↔ b' = b) ∧ ∃ (es : Array MapEntry) (clock : Nat), w.heap[b]? = some (.map es clock) ∧ Ents w F kd kc m es.toList ∧ Stamps m es.toList clock
 mono := by
  rintro w w' F F' G ⟨hg, es, c, h1, h2, h3⟩ m g
  exact ⟨hg, es, c, (g b ((hg b).2 rfl)).trans h1, h2.mono m, h3⟩

def Obj.mapE {β : Type} (b : Nat) (kd : IntKind) (kc : β → C) (m : List (Int × β)) (z0 : β) (j : Int) (st : Int) : Obj where
 rep w F G := (∀ b', G b' ↔ b' = b) ∧ ∃ (es : Array MapEntry) (clock t : Nat) (e : MapEntry), w.heap[b]? = some (.map es clock) ∧ Ents w F kd kc (mset m j ((mget m j).getD z0)) es.toList ∧ Stamps (mset m j ((mget m j).getD z0)) es.toList clock ∧ es[t]? = some e ∧ e.key = .int kd j ∧ (e.born : Int) = st
 mono := by
  rintro w w' F F' G ⟨hg, es, c, t, e, h1, h2, h3⟩ m g
  exact ⟨hg, es, c, t, e, (g b ((hg b).2 rfl)).trans h1, h2.mono m, h3⟩

def mapInfo (P : Program) (T : Nat) : Option (IntKind × Nat) :=
 match P.underlying T with
 | some (.map k e) => match P.underlying k with
  | some (.int kd) => some (kd, e)
  | _ => none
 | _ => none

theorem mapInfo_under {P : Program} {T E : Nat} {kd : IntKind} (h : mapInfo P T = some (kd, E)) : ∃ k, P.underlying T = some (.map k E) ∧ P.underlying k = some (.int kd) := by
 unfold mapInfo at h
 split at h
 ·
  rename_i k e hu
  split at h
  ·
   rename_i kd' hk
   cases h
   exact ⟨k, hu, hk⟩
  ·
   cases h
 ·
  cases h

def zeroVal (P : Program) (T : Nat) : Option Value := (P.info? T).bind (·.zero)

section
variable {P : Program} {n : Nat} {a : Act} {w : World} {F G : BSet} {es : Env} {ps : List Obj} {β : Type} {kd : IntKind} {kc : β → C} {m : List (Int × β)}
variable {d ty : Nat} {pos : String} {af : Array Edge} {gd : Option (Nat × Bool)}

theorem run_checkKey' {k : Nat} (hk : P.underlying k = some (.int kd)) (e : Bool) (j : Int) (l : Nat) : (Instr.checkKey e (l + 1) k (.int kd j)).run P w = .ok () w := by
 simp [Instr.checkKey, run_underlying hk]
theorem run_checkKey {k : Nat} (hk : P.underlying k = some (.int kd)) (e : Bool) (j : Int) : (Instr.checkKey e 10000 k (.int kd j)).run P w = .ok () w := run_checkKey' hk e j 9999
theorem sameBits' (j : Int) (l : Nat) : Instr.sameBits (l + 1) (.int kd j) (.int kd j) = true := by simp [Instr.sameBits]

theorem run_findKey {k : Nat} (hk : P.underlying k = some (.int kd)) {j : Int} {es : List MapEntry} {r : Option (Nat × Value)} (h : Instr.findNow (.int kd) (.int kd j) es 0 = some r) : (Instr.findKey k (.int kd j) es).run P w = .ok r w := by
 simp [Instr.findKey, run_underlying hk, h]

theorem op_makeMap {T : Nat} (hn : Nat.blt d n = true) : HOp P n ⟨some d, .makeMap T none, ty, pos, af, gd⟩ es [] (fun e' qs => ∃ b, e' = (d, .val (.map (some b))) :: es ∧ qs = [.map b kd kc []]) :=
 HOp.of rfl hn fun a w F G1 hs h1 hf => by
  have hG1 : G1 = fun _ => False := funext fun b => eq_false (h1 b)
  subst hG1
  refine ⟨.map (some w.heap.size), w.alloc (.map #[] 0), F, _, _, _, ?_, rfl, Turn.new hf.fin (.map w.heap.size kd kc []) _ ⟨fun _ => Iff.rfl, #[], 0, heap_alloc_new w _, rfl, ⟨fun _ h => (by cases h), (by simp), (by simp)⟩⟩, _, rfl, rfl⟩
  simp [execOp, Instr.makeMap]

theorem lookup_run {T E k p b : Nat} {j : Int} {zv : Value} {z0 : β} (hu : P.underlying T = some (.map k E)) (hk : P.underlying k = some (.int kd)) (hz : zeroVal P E = some zv) (hz0 : ∀ w F, (kc z0).rep w F zv) (hp : pick p ps = some (.map b kd kc m)) (ho : Own w F ps G) :
  ∃ v, (kc ((mget m j).getD z0)).rep w F v ∧ ∀ (ok : Bool) (w2 : World), w2.heap[b]? = w.heap[b]? → (Instr.lookup T (.map (some b)) (.int kd j) ok).run P w2 = .ok (if ok then .tuple #[v, .bool (mget m j).isSome] else v) w2 := by
 obtain ⟨G1, ⟨_, en, clock, hb, he, _⟩, _⟩ := ho.pick hp
 obtain ⟨inf, hi, hzz⟩ : ∃ inf, P.info? E = some inf ∧ inf.zero = some zv := by
  unfold zeroVal at hz
  cases hi : P.info? E with
  | none => rw [hi] at hz; cases hz
  | some inf => rw [hi] at hz; exact ⟨inf, rfl, hz⟩
 rcases he.find j 0 with ⟨g1, g2, _⟩ | ⟨x, t, v, g1, g2, g3, _⟩
 ·
  refine ⟨zv, by rw [g1]; exact hz0 w F, fun ok w2 hw => ?_⟩
  rw [g1]
  have hck := run_checkKey (P := P) (w := w2) hk en.isEmpty j
  have hfk := run_findKey (P := P) (w := w2) hk g2
  have hgo := MapKept.run_getObj_map (P := P) (hw.trans hb)
  cases ok <;> simp [Instr.lookup, run_underlying hu, hgo, hck, hfk, zeroValue, typeInfo, hi, hzz]
 ·
  refine ⟨v, by rw [g1]; exact g3, fun ok w2 hw => ?_⟩
  rw [g1]
  have hck := run_checkKey (P := P) (w := w2) hk en.isEmpty j
  have hfk := run_findKey (P := P) (w := w2) hk g2
  have hgo := MapKept.run_getObj_map (P := P) (hw.trans hb)
  cases ok <;> simp [Instr.lookup, run_underlying hu, hgo, hck, hfk]

theorem op_lookup {T E p b : Nat} {x y : Operand} {j : Int} {zv : Value} {z0 : β} (hT : mapInfo P T = some (kd, E)) (hz : zeroVal P E = some zv) (hz0 : ∀ w F, (kc z0).rep w F zv) (hx : ev es x = some (.val (.map (some b)))) (hy : ev es y = some (.val (.int kd j)))
  (hp : pick p ps = some (.map b kd kc m)) (hn : Nat.blt d n = true) : VOp true P n es ps ⟨some d, .lookup T x y false, ty, pos, af, gd⟩ d (kc ((mget m j).getD z0)) :=
 VOp.mk rfl hn fun a w F Gp hs ho => by
  obtain ⟨k, hu, hk⟩ := mapInfo_under hT
  obtain ⟨v, hv, hr⟩ := lookup_run (j := j) hu hk hz hz0 hp ho
  obtain ⟨G1, ⟨hg, _⟩, hsub⟩ := ho.pick hp
  exact ⟨v, fun w2 hw => by
   have := hr false w2 (hw rfl b (.inr (hsub b ((hg b).2 rfl))))
   simp only [execOp, hs.val hx, hs.val hy]
   simp [this], hv⟩

theorem Turn.setMap {b : Nat} {es0 : Array MapEntry} {c0 : Nat} {G1 : BSet} {o : Obj} (hft : Fit w F G1) (hG : ∀ b', G1 b' ↔ b' = b) (hb : w.heap[b]? = some (.map es0 c0)) (en' : Array MapEntry) (c' : Nat)
  (ho : ∀ w' : World, (∀ c, F c → F c ∧ w'.heap[c]? = w.heap[c]?) → w'.heap[b]? = some (.map en' c') → o.rep w' F G1) : ∃ w', (setObj b (.map en' c')).run P w = .ok () w' ∧ Turn w F G1 w' F G1 [o] := by
 have hlt : b < w.heap.size := (hft.gin b ((hG b).2 rfl)).1
 have hr := MapKept.run_setObj_map (P := P) (.map en' c') hb
 have hother : ∀ c, c ≠ b → (w.heap.setIfInBounds b (.map en' c'))[c]? = w.heap[c]? := fun c hc => by rw [Array.getElem?_setIfInBounds_ne (Ne.symm hc)]
 have hsame : (w.heap.setIfInBounds b (.map en' c'))[b]? = some (.map en' c') := by simp [hlt]
 have hFb : ∀ c, F c → F c ∧ (w.heap.setIfInBounds b (.map en' c'))[c]? = w.heap[c]? := fun c hc => ⟨hc, hother c fun e => (hft.gin b ((hG b).2 rfl)).2 (e ▸ hc)⟩
 exact ⟨_, hr, ⟨Own.of_one (ho _ hFb hsame), fun _ h => h, fun c hc => ⟨by simpa using hft.fin c hc, .inl hc⟩, fun c hc => ⟨by simpa using (hft.gin c hc).1, (hft.gin c hc).2, .inl hc⟩, ⟨rfl, rfl, rfl, by simp, (by first | exact Nat.le_refl _ | exact Nat.le_succ _), fun c _ hc => hother c fun e => hc ((hG c).2 e)⟩⟩⟩

theorem op_mapUpdate {T E b : Nat} {x y z : Operand} {j : Int} {c : C} {v : β} (hT : mapInfo P T = some (kd, E)) (hx : ev es x = some (.val (.map (some b)))) (hy : ev es y = some (.val (.int kd j))) (hz : ev es z = some c) (hc : c = kc v) :
  HOp P n ⟨none, .mapUpdate T x y z, ty, pos, af, gd⟩ es [.map b kd kc m] (fun e' qs => e' = es ∧ qs = [.map b kd kc (mset m j v)]) :=
 HOp.of0 rfl fun a w F G1 hs ho hft => by
  subst hc
  obtain ⟨k, hu, hk⟩ := mapInfo_under hT
  obtain ⟨hG, en, clock, hb, he, hst⟩ := ho.only
  have hv := hs.ev hz
  have hgo := MapKept.run_getObj_map (P := P) hb
  have hms := (mset_keys (j := j) (x := v) hst.keys).1
  rcases he.find j 0 with ⟨g1, g2, g3⟩ | ⟨x0, t, v0, g1, g2, g3, g4, g5⟩
  ·
   obtain ⟨w', hr, ht⟩ := Turn.setMap (P := P) (o := .map b kd kc (mset m j v)) hft hG hb (en.push ⟨.int kd j, a.eval z, clock⟩) (clock + 1) fun w' hF hb' => ⟨hG, _, _, hb', by
    have := (g3 v (a.eval z) clock hv).mono hF
    simpa using this, by
    have := hst.push (m' := mset m j v) hms (k := .int kd j) (v := a.eval z)
    simpa using this⟩
   refine ⟨w', F, G1, _, ?_, ht, rfl, rfl⟩
   have hck := run_checkKey (P := P) (w := w) hk false j
   have hfk := run_findKey (P := P) (w := w) hk g2
   simp only [execOp, hs.val hx, hs.val hy]
   simp [Instr.mapUpdate, run_underlying hu, hgo, hck, hfk, hr]
  ·
   obtain ⟨w', hr, ht⟩ := Turn.setMap (P := P) (o := .map b kd kc (mset m j v)) hft hG hb (en.modify t fun e => { e with key := .int kd j, val := a.eval z }) clock fun w' hF hb' => ⟨hG, _, _, hb', by
    have := (g5 v (a.eval z) hv).mono hF
    simpa using this, by
    have := hst.modify (m' := mset m j v) (t := t) (f := fun e => { e with key := .int kd j, val := a.eval z }) hms fun _ => rfl
    simpa using this⟩
   refine ⟨w', F, G1, _, ?_, ht, rfl, rfl⟩
   have hck := run_checkKey (P := P) (w := w) hk false j
   have hfk := run_findKey (P := P) (w := w) hk g2
   simp only [execOp, hs.val hx, hs.val hy]
   have g4' : (en[t]?.map (·.key)).getD (.int kd j) = .int kd j := by
    have : en[t]?.map (·.key) = some (.int kd j) := by simpa using g4
    rw [this]; rfl
   have g6 : (Instr.keyThatStays (.int kd j) (.int kd j)).run P w = .ok (.int kd j) w := by
    unfold Instr.keyThatStays
    rw [if_pos]
    ·
     rfl
    ·
     exact sameBits' j 9999
   rw [Nat.zero_add] at hfk
   simp [Instr.mapUpdate, run_underlying hu, hgo, hck, hfk, g4', g6, hr]

theorem Ents.key {en : List MapEntry} {t : Nat} {e : MapEntry} {j : Int} (h : Ents w F kd kc m en) (ht : en[t]? = some e) (hk : e.key = .int kd j) : j ∈ m.map (·.1) := by
 induction m generalizing en t with
 | nil => rw [show en = [] from h] at ht; simp at ht
 | cons p m ih =>
  obtain ⟨i, x⟩ := p
  obtain ⟨e0, r, rfl, h2, _, h4⟩ := h
  cases t with
  | zero =>
   simp at ht; subst ht
   rw [h2] at hk
   cases hk
   simp
  | succ t => simp only [List.map_cons, List.mem_cons]; exact .inr (ih h4 (by simpa using ht))

theorem Ents.setAt {en : List MapEntry} {t : Nat} {e : MapEntry} {j : Int} {y : β} {u : Value} (h : Ents w F kd kc m en) (hn : (m.map (·.1)).Nodup) (ht : en[t]? = some e) (hk : e.key = .int kd j) (hu : (kc y).rep w F u) : Ents w F kd kc (mset m j y) (en.modify t fun e => { e with val := u }) := by
 induction m generalizing en t with
 | nil => rw [show en = [] from h] at ht; simp at ht
 | cons p m ih =>
  obtain ⟨i, x⟩ := p
  obtain ⟨e0, r, rfl, h2, h3, h4⟩ := h
  simp only [List.map_cons, List.nodup_cons] at hn
  cases t with
  | zero =>
   simp at ht; subst ht
   rw [h2] at hk
   cases hk
   rw [mset, if_pos rfl]
   exact ⟨_, r, rfl, h2, hu, h4⟩
  | succ t =>
   have ht' : r[t]? = some e := by simpa using ht
   have hj : j ≠ i := fun e' => hn.1 (e' ▸ h4.key ht' hk)
   rw [mset, if_neg hj]
   exact ⟨e0, _, rfl, h2, h3, ih h4 hn.2 ht'⟩

theorem findIdx_born : ∀ {l : List MapEntry} {t : Nat} {e : MapEntry}, (l.map (·.born)).Nodup → l[t]? = some e → l.findIdx? (fun x => (x.born : Int) == (e.born : Int)) = some t
 | [], _, _, _, h => by simp at h
 | x :: l, 0, e, _, h => by
  simp at h; subst h; simp [List.findIdx?_cons]
 | x :: l, t + 1, e, hn, h => by
  simp only [List.map_cons, List.nodup_cons] at hn
  have h' : l[t]? = some e := by simpa using h
  have hne : x.born ≠ e.born := fun e' => hn.1 (e' ▸ List.mem_map.2 ⟨e, List.mem_of_getElem? h', rfl⟩)
  rw [List.findIdx?_cons, if_neg (by simp; omega), findIdx_born hn.2 h']
  rfl

theorem op_mapEntry {T E b : Nat} {x y : Operand} {j : Int} {zv : Value} {z0 : β} (hT : mapInfo P T = some (kd, E)) (hz : zeroVal P E = some zv) (hz0 : ∀ w F, (kc z0).rep w F zv) (hx : ev es x = some (.val (.map (some b)))) (hy : ev es y = some (.val (.int kd j))) (hn : Nat.blt d n = true) :
  HOp P n ⟨some d, .mapEntry T x y, ty, pos, af, gd⟩ es [.map b kd kc m] (fun e' qs => ∃ st : Int, e' = (d, .tup [.any, .int st]) :: es ∧ qs = [.mapE b kd kc m z0 j st]) :=
 HOp.of rfl hn fun a w F G1 hs ho hft => by
  obtain ⟨k, hu, hk⟩ := mapInfo_under hT
  obtain ⟨hG, en, clock, hb, he, hst⟩ := ho.only
  have hgo := MapKept.run_getObj_map (P := P) hb
  have hms := (mset_keys (j := j) (x := (mget m j).getD z0) hst.keys).1
  obtain ⟨inf, hi, hzz⟩ : ∃ inf, P.info? E = some inf ∧ inf.zero = some zv := by
   unfold zeroVal at hz
   cases hi : P.info? E with
   | none => rw [hi] at hz; cases hz
   | some inf => rw [hi] at hz; exact ⟨inf, rfl, hz⟩
  rcases he.find j 0 with ⟨g1, g2, g3⟩ | ⟨x0, t, v0, g1, g2, g3, g4, g5⟩
  ·
   obtain ⟨w', hr, ht⟩ := Turn.setMap (P := P) (o := .mapE b kd kc m z0 j (clock : Int)) hft hG hb (en.push ⟨.int kd j, zv, clock⟩) (clock + 1) fun w' hF hb' => ⟨hG, _, _, en.size, ⟨.int kd j, zv, clock⟩, hb', by
    have := (g3 ((mget m j).getD z0) zv clock (by rw [g1]; exact hz0 w F)).mono hF
    simpa using this, by
    have := hst.push (m' := mset m j ((mget m j).getD z0)) hms (k := .int kd j) (v := zv)
    simpa using this, by simp, rfl, rfl⟩
   refine ⟨.tuple #[zv, goInt clock], w', F, G1, .tup [.any, .int (clock : Int)], _, ?_, ⟨[zv, goInt clock], rfl, zv, _, rfl, trivial, goInt clock, [], rfl, rfl, rfl⟩, ht, _, rfl, rfl⟩
   have hck := run_checkKey (P := P) (w := w) hk false j
   have hfk := run_findKey (P := P) (w := w) hk g2
   simp only [execOp, hs.val hx, hs.val hy]
   simp [Instr.mapEntry, run_underlying hu, hgo, hck, hfk, zeroValue, typeInfo, hi, hzz, hr]
  ·
   have hen : ∃ e0, en[t]? = some e0 ∧ e0.key = .int kd j := by
    have : (en.toList[t]?).map (·.key) = some (.int kd j) := g4
    rw [Option.map_eq_some_iff] at this
    obtain ⟨e0, h1, h2⟩ := this
    exact ⟨e0, by simpa using h1, h2⟩
   obtain ⟨e0, he0, hke⟩ := hen
   have hv0 : ∀ e1 : MapEntry, en[t]? = some e1 → v0 = v0 := fun _ _ => rfl
   obtain ⟨w', hr, ht⟩ := Turn.setMap (P := P) (o := .mapE b kd kc m z0 j (e0.born : Int)) hft hG hb (en.modify t fun e => { e with key := .int kd j }) clock fun w' hF hb' => ⟨hG, _, _, t, { e0 with key := .int kd j }, hb', by
    rw [g1, Option.getD_some, mset_same g1]
    have hsame : (en.modify t fun e => { e with key := .int kd j }) = en := by
     apply Array.ext_getElem?
     intro i
     rw [Array.getElem?_modify]
     by_cases hti : t = i
     ·
      subst hti; rw [if_pos rfl, he0]; cases e0; simp only at hke; subst hke; rfl
     ·
      rw [if_neg hti]
    rw [hsame]
    exact he.mono hF, by
    have := hst.modify (m' := mset m j ((mget m j).getD z0)) (t := t) (f := fun e => { e with key := .int kd j }) hms fun _ => rfl
    simpa using this, by rw [Array.getElem?_modify, if_pos rfl, he0]; rfl, rfl, rfl⟩
   refine ⟨.tuple #[v0, goInt e0.born], w', F, G1, .tup [.any, .int (e0.born : Int)], _, ?_, ⟨[v0, goInt e0.born], rfl, v0, _, rfl, trivial, goInt e0.born, [], rfl, rfl, rfl⟩, ht, _, rfl, rfl⟩
   have hck := run_checkKey (P := P) (w := w) hk false j
   have hfk := run_findKey (P := P) (w := w) hk g2
   have g6 : (Instr.keyThatStays (.int kd j) (.int kd j)).run P w = .ok (.int kd j) w := by
    unfold Instr.keyThatStays
    rw [if_pos]
    ·
     rfl
    ·
     exact sameBits' j 9999
   rw [Nat.zero_add] at hfk
   simp only [execOp, hs.val hx, hs.val hy]
   simp [Instr.mapEntry, run_underlying hu, hgo, hck, hfk, he0, hke, g6, hr]

theorem op_entryStore {T b : Nat} {x y z : Operand} {j st : Int} {c : C} {v z0 : β} (hx : ev es x = some (.val (.map (some b)))) (hy : ev es y = some (.int st)) (hz : ev es z = some c) (hc : c = kc v) :
  HOp P n ⟨none, .entryStore T x y z, ty, pos, af, gd⟩ es [.mapE b kd kc m z0 j st] (fun e' qs => e' = es ∧ qs = [.map b kd kc (mset m j v)]) :=
 HOp.of0 rfl fun a w F G1 hs ho hft => by
  subst hc
  obtain ⟨hG, en, clock, t, e0, hb, he, hst, he0, hke, rfl⟩ := ho.only
  have hv := hs.ev hz
  have hgo := MapKept.run_getObj_map (P := P) hb
  have hl0 : en.toList[t]? = some e0 := by simpa using he0
  have hfi : en.findIdx? (fun e => (e.born : Int) == (e0.born : Int)) = some t := by
   have := findIdx_born hst.one hl0
   cases en
   simpa using this
  obtain ⟨w', hr, ht⟩ := Turn.setMap (P := P) (o := .map b kd kc (mset m j v)) hft hG hb (en.modify t fun e => { e with val := a.eval z }) clock fun w' hF hb' => ⟨hG, _, _, hb', by
   have := (he.setAt (y := v) (u := a.eval z) hst.keys hl0 hke hv).mono hF
   rw [mset_mset] at this
   simpa using this, by
   have hk2 : ((mset m j v).map (·.1)).Nodup := by
    have := (mset_keys (j := j) (x := v) hst.keys).1
    rwa [mset_mset] at this
   have := hst.modify (m' := mset m j v) (t := t) (f := fun e => { e with val := a.eval z }) hk2 fun _ => rfl
   simpa using this⟩
  refine ⟨w', F, G1, _, ?_, ht, rfl, rfl⟩
  simp only [execOp, hs.val hx, hs.val hy]
  simp [Instr.entryStore, hgo, asInt, asIntOf, hfi, hr]
end
end Go.Abs
