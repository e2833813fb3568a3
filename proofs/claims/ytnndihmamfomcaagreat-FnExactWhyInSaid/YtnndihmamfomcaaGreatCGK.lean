/- Plain laws for the graphs: states on the program's side; what is allowed. -/
import Derived.Test.YtnndihmamfomcaaGreatCGJ
set_option autoImplicit false
set_option linter.unusedVariables false
set_option linter.unusedSimpArgs false
namespace Go.Proofs.YtnndihmamfomcaaGreat
open Go Go.Abs

theorem c_cmp_Or (l : List Int) (hl : l.length < 9223372036854775807) : Z4q l = some ((l.find? fun x => !decide (x = 0)).getD 0) := by
 unfold Z4q
 rcases loop_first (step := Z1b l) (n := l.length) (fun i => if h : i < l.length then cond (!decide (l[i] = 0)) (some (.inl l[i])) none else none) (.inr ()) hl (fun i hi => by
  simp only [Z1b, hi, dif_pos]
  rw [dlt hi, cond_true, get_of_lt hi, Option.bind_some, wrap1 hi hl, bned]
  cases decide (l[i] = 0) <;> rfl) (by simp only [Z1b]; rw [dnlt, cond_false]) with ⟨i, o, hi, ho, hb, hx⟩ | ⟨h, hx⟩
 ·
  rw [hx, Option.bind_some]
  simp only [hi, dif_pos] at ho
  cases hp : (!decide (l[i] = 0)) with
  | false => rw [hp] at ho; cases ho
  | true =>
   rw [hp] at ho; cases ho
   have : l.find? (fun x => !decide (x = 0)) = some l[i] := by
    rw [List.find?_eq_some_iff_getElem]
    refine ⟨hp, i, hi, rfl, fun j hj => ?_⟩
    have hjl : j < l.length := by omega
    have := hb j hj
    simp only [hjl, dif_pos] at this
    cases hq : (!decide (l[j] = 0)) with
    | true => rw [hq] at this; cases this
    | false => rfl
   rw [this]; rfl
 ·
  rw [hx, Option.bind_some]
  have : l.find? (fun x => !decide (x = 0)) = none := by
   rw [List.find?_eq_none]
   intro x hxm hx
   obtain ⟨i, hi, rfl⟩ := List.mem_iff_getElem.1 hxm
   have := h i hi
   simp only [hi, dif_pos, hx, cond_true] at this
   cases this
  rw [this]; rfl

def cmpE (a b : TEntry) : Int := ([cmpI a.kind b.kind, cmpI a.key b.key].find? fun x => !decide (x = 0)).getD 0
theorem c_Entry_order (a b : TEntry) : Z4r a b = some (cmpE a b) := by
 unfold Z4r
 rw [c_Compare, Option.bind_some, c_Compare, Option.bind_some, c_cmp_Or _ (by simp)]; rfl
theorem cmpI_cases (a b : Int) : (a < b ∧ cmpI a b = -1) ∨ (a = b ∧ cmpI a b = 0) ∨ (b < a ∧ cmpI a b = 1) := by
 unfold cmpI
 split
 ·
  omega
 ·
  split <;> omega
theorem or2 (x y : Int) : ([x, y].find? fun z => !decide (z = 0)).getD 0 = if x = 0 then y else x := by
 by_cases h : x = 0
 ·
  subst h
  by_cases h2 : y = 0
  ·
   subst h2; rfl
  ·
   rw [List.find?_cons_of_neg (by simp), List.find?_cons_of_pos (by simp [h2]), if_pos rfl]; rfl
 ·
  rw [List.find?_cons_of_pos (by simp [h]), if_neg h]; rfl
theorem cmpE_is (a b : TEntry) : (ltK a b ∧ cmpE a b < 0) ∨ (eqK a b ∧ cmpE a b = 0) ∨ (ltK b a ∧ cmpE a b > 0) := by
 unfold cmpE ltK eqK
 rw [or2]
 rcases cmpI_cases a.kind b.kind with ⟨h1, h2⟩ | ⟨h1, h2⟩ | ⟨h1, h2⟩
 ·
  rw [h2, if_neg (by omega)]; omega
 ·
  rw [if_pos h2]
  rcases cmpI_cases a.key b.key with ⟨h3, h4⟩ | ⟨h3, h4⟩ | ⟨h3, h4⟩ <;> omega
 ·
  rw [h2, if_neg (by omega)]; omega
theorem cmpE_lt (a b : TEntry) : decide (cmpE a b < 0) = decide (ltK a b) := by
 rcases cmpE_is a b with ⟨h1, h2⟩ | ⟨h1, h2⟩ | ⟨h1, h2⟩
 ·
  rw [decide_eq_true h1, decide_eq_true h2]
 ·
  rw [decide_eq_false (by omega), decide_eq_false (by unfold ltK; unfold eqK at h1; omega)]
 ·
  rw [decide_eq_false (by omega), decide_eq_false (by unfold ltK at *; omega)]
theorem cmpE_eq (a b : TEntry) : (cmpE a b == 0) = decide (eqK a b) := by
 rw [beqd]
 rcases cmpE_is a b with ⟨h1, h2⟩ | ⟨h1, h2⟩ | ⟨h1, h2⟩
 ·
  rw [decide_eq_false (by omega), decide_eq_false (by unfold ltK at h1; unfold eqK; omega)]
 ·
  rw [decide_eq_true h1, decide_eq_true h2]
 ·
  rw [decide_eq_false (by omega), decide_eq_false (by unfold ltK at h1; unfold eqK; omega)]

def cutS (s : List TEntry) (x : TEntry) : Nat := s.countP fun e => decide (ltK e x)
def hasK (s : List TEntry) (x : TEntry) : Bool := s.any fun e => decide (eqK e x)
theorem UpS.cut {s : List TEntry} (h : UpS s) (x : TEntry) {i : Nat} (hi : i < s.length) : ltK s[i] x ↔ i < cutS s x := by
 have := countP_mono (p := fun e : TEntry => decide (ltK e x)) (l := s) (h.imp fun {a b} hab hb => by simp at hb ⊢; unfold ltK at *; omega) i hi
 rw [decide_eq_true_eq] at this
 exact this
theorem cutS_le (s : List TEntry) (x : TEntry) : cutS s x ≤ s.length := List.countP_le_length
theorem UpS.lt {s : List TEntry} (h : UpS s) {i j : Nat} (hj : j < s.length) (hij : i < j) : ltK (s[i]'(Nat.lt_trans hij hj)) s[j] := List.pairwise_iff_getElem.1 h i j _ hj hij
theorem UpS.has_cut {s : List TEntry} (h : UpS s) (x : TEntry) : hasK s x = true ↔ ∃ hc : cutS s x < s.length, eqK s[cutS s x] x := by
 unfold hasK
 rw [List.any_eq_true]
 constructor
 ·
  rintro ⟨e, he, h1⟩
  rw [decide_eq_true_eq] at h1
  obtain ⟨k, hk, rfl⟩ := List.mem_iff_getElem.1 he
  have h3 := h.cut x hk
  have h6 : ¬ ltK s[k] x := by unfold ltK; unfold eqK at h1; omega
  have h7 : ¬ k < cutS s x := fun h8 => h6 (h3.2 h8)
  have hc : cutS s x < s.length := by omega
  refine ⟨hc, ?_⟩
  have h4 := h.cut x hc
  rcases Nat.lt_or_ge (cutS s x) k with h5 | h5
  ·
   have h8 := h.lt hk h5
   have : ltK s[cutS s x] x := by unfold ltK at h8 ⊢; unfold eqK at h1; omega
   have := h4.1 this; omega
  ·
   obtain rfl : k = cutS s x := by omega
   exact h1
 ·
  rintro ⟨hc, h1⟩
  exact ⟨_, List.getElem_mem hc, decide_eq_true h1⟩

theorem c_place {s : List TEntry} (x : TEntry) (h : UpS s) (hl : s.length < 4611686018427387904) : Z5l s x = some ((cutS s x : Int), hasK s x) := by
 unfold Z5l Za6
 rw [bsearch (n := s.length) (k := cutS s x) hl (cutS_le _ _) ?_ ?_]
 ·
  rw [Option.bind_some]
  unfold Z89 Z5r
  by_cases hk : cutS s x < s.length
  ·
   rw [dlt hk, cond_true, get_of_lt hk, Option.bind_some, c_Entry_order, Option.bind_some, cmpE_eq, Option.bind_some]
   simp only [Option.some.injEq, Prod.mk.injEq, true_and]
   by_cases hh : hasK s x = true
   ·
    rw [hh, decide_eq_true ((h.has_cut x).1 hh).2]
   ·
    rw [Bool.eq_false_iff.2 hh, decide_eq_false (fun h1 => hh ((h.has_cut x).2 ⟨hk, h1⟩))]
  ·
   have : hasK s x = false := Bool.eq_false_iff.2 fun hh => hk ((h.has_cut x).1 hh).1
   rw [decide_eq_false (by omega), cond_false, this]; rfl
 ·
  intro i j hij hj
  simp only [Z3o]
  have hm : (i + j) / 2 < s.length := by omega
  rw [dlt hij, cond_true, mid_is (by omega), get_of_lt hm, Option.bind_some, c_Entry_order, Option.bind_some, cmpE_lt, wrap1 hm (by omega)]
  have := h.cut x hm
  by_cases hlt : ltK s[(i + j) / 2] x
  ·
   rw [decide_eq_true hlt, if_pos (this.1 hlt)]; rfl
  ·
   rw [decide_eq_false hlt, if_neg (fun h1 => hlt (this.2 h1))]; rfl
 ·
  intro i hi
  simp only [Z3o]
  rw [dnlt, cond_false]

theorem c_idAt {s : List TEntry} (kind key : Int) (h : UpS s) (hl : s.length < 4611686018427387904) : Z5i s kind key = some (idS s kind key) := by
 unfold Z5i
 rw [c_place _ h hl, Option.bind_some]
 simp only
 unfold idS
 cases hh : hasK s (TEntry.mk kind key 0) with
 | false =>
  have : s.find? (fun x => decide (x.kind = kind ∧ x.key = key)) = none := by
   rw [List.find?_eq_none]
   intro x hx h1
   exact List.any_eq_false.1 hh x hx h1
  rw [this]; rfl
 | true =>
  obtain ⟨hc, h1⟩ := (h.has_cut _).1 hh
  have : s.find? (fun x => decide (x.kind = kind ∧ x.key = key)) = some s[cutS s (TEntry.mk kind key 0)] := by
   rw [List.find?_eq_some_iff_getElem]
   refine ⟨decide_eq_true h1, _, hc, rfl, fun j hj => ?_⟩
   have := h.lt hc hj
   rw [Bool.not_eq_true', decide_eq_false_iff_not]
   unfold ltK at this; unfold eqK at h1
   simp only at h1
   omega
  rw [this, cond_true, get_of_lt hc]; rfl

theorem putS_cut {x : TEntry} : ∀ {s : List TEntry}, UpS s → putS s x = if hasK s x = true then s.set (cutS s x) x else s.take (cutS s x) ++ [x] ++ s.drop (cutS s x)
 | [], _ => rfl
 | e :: r, h => by
  obtain ⟨h1, h2⟩ := List.pairwise_cons.1 h
  unfold putS
  by_cases hlt : ltK e x
  ·
   have hne : ¬ eqK e x := by unfold ltK at hlt; unfold eqK; omega
   have e1 : cutS (e :: r) x = cutS r x + 1 := by unfold cutS; rw [List.countP_cons_of_pos (by simp [hlt])]
   have e2 : hasK (e :: r) x = hasK r x := by unfold hasK; simp [hne]
   rw [if_pos hlt, putS_cut h2, e1, e2]
   split <;> simp
  ·
   have hgt : ∀ y ∈ r, ltK x y ∨ (eqK e x ∧ ltK x y) := fun y hy => by
    have := h1 y hy
    unfold ltK eqK at *; omega
   have e1 : cutS (e :: r) x = 0 := by
    unfold cutS
    rw [List.countP_eq_zero]
    intro y hy
    rw [decide_eq_true_eq]
    rcases List.mem_cons.1 hy with rfl | hy
    ·
     exact hlt
    ·
     have := hgt y hy; unfold ltK eqK at *; omega
   rw [if_neg hlt, e1]
   by_cases he : eqK e x
   ·
    have e2 : hasK (e :: r) x = true := by unfold hasK; simp [he]
    rw [if_pos he, if_pos e2]; rfl
   ·
    have e2 : hasK (e :: r) x = false := by
     unfold hasK
     rw [List.any_eq_false]
     intro y hy
     rw [decide_eq_true_eq]
     rcases List.mem_cons.1 hy with rfl | hy
     ·
      exact he
     ·
      have := hgt y hy; unfold ltK eqK at *; omega
    rw [if_neg he, e2]; rfl

theorem c_put {s : List TEntry} (hs : UpS s) (x : TEntry) (hx : x.id ≠ 0) (hl : s.length < 1000000) : Z3h s x = some (putS s x) := by
 unfold Z3h
 have : Za8 s = some s := by unfold Za8; rw [chk24 (by omega)]; rfl
 rw [this, Option.bind_some, c_place _ hs (by omega), Option.bind_some, beqd, decide_eq_false hx, cond_false]
 simp only [Z5m]
 rw [cond_false, beqd, decide_eq_false hx, cond_false, putS_cut hs]
 by_cases hh : hasK s x = true
 ·
  obtain ⟨hc, _⟩ := (hs.has_cut _).1 hh
  rw [hh, cond_true, get_of_lt hc, Option.bind_some, if_pos rfl]; rfl
 ·
  rw [Bool.eq_false_iff.2 hh, cond_false, if_neg (by simp)]
  unfold Zbj insI
  have := cutS_le s x
  rw [if_pos ⟨by omega, by omega, by simp, by simp; omega⟩]; rfl


structure StOk (l : List TEvent) (s : List TEntry) : Prop where
 up : UpS s
 ev : ∀ x ∈ s, ∃ e, evAt l x.id = some e ∧ e.kind = x.kind ∧ e.key = x.key

def Ids1 (l : List TEvent) : Prop := ∀ e ∈ l, 1 ≤ e.id
theorem GOk.ids {g : TGraph'} (h : GOk g) : Ids1 g.events := fun e he => (h.ev e he).1.id.1

theorem idS_cases (s : List TEntry) (kind key : Int) : (idS s kind key = 0 ∧ ∀ x ∈ s, ¬ (x.kind = kind ∧ x.key = key)) ∨ ∃ x ∈ s, x.kind = kind ∧ x.key = key ∧ idS s kind key = x.id := by
 unfold idS
 cases hf : s.find? (fun x => decide (x.kind = kind ∧ x.key = key)) with
 | none =>
  left
  refine ⟨rfl, fun x hx h => ?_⟩
  have := List.find?_eq_none.1 hf x hx
  simp [h] at this
 | some x =>
  right
  have h1 := List.mem_of_find?_eq_some hf
  have h2 := List.find?_some hf
  rw [decide_eq_true_eq] at h2
  exact ⟨x, h1, h2.1, h2.2, rfl⟩

def cur (l : List TEvent) (s : List TEntry) (kind key : Int) : Option TEvent := evAt l (idS s kind key)

theorem ev_has (l : List TEvent) (id : Int) : hasE l id = (evAt l id).isSome := by
 cases h : hasE l id with
 | false => rw [evAt_none h]; rfl
 | true => obtain ⟨k, hk, _, _, h3⟩ := plc_has h; rw [h3]; rfl

theorem no0 {l : List TEvent} (h : Ids1 l) {id : Int} (hi : id ≤ 0) : evAt l id = none := by
 cases he : evAt l id with
 | none => rfl
 | some e => have := evAt_some he; have := h e this.1; omega

theorem cur_iff {l : List TEvent} {s : List TEntry} (hl : Ids1 l) (hs : StOk l s) (kind key : Int) : (decide (idS s kind key > 0) = (cur l s kind key).isSome) ∧ (decide (idS s kind key = 0) = (cur l s kind key).isNone) ∧ 0 ≤ idS s kind key := by
 unfold cur
 rcases idS_cases s kind key with ⟨h0, _⟩ | ⟨x, hx, _, _, h⟩
 ·
  rw [h0, no0 hl (Int.le_refl 0)]; exact ⟨rfl, rfl, Int.le_refl 0⟩
 ·
  rw [h]
  obtain ⟨e, he, _⟩ := hs.ev x hx
  have h1 := evAt_some he
  have h2 := hl e h1.1
  rw [he, decide_eq_true (by omega), decide_eq_false (by omega)]
  exact ⟨rfl, rfl, by omega⟩

theorem c_current {g : TGraph'} {s : List TEntry} (hu : Up2 g.events) (hlen : g.events.length < 1000000) (hs : UpS s) (hsl : s.length < 1000000) (kind key : Int) : Zg g s kind key = some ((cur g.events s kind key).getD zEv, (cur g.events s kind key).isSome) := by
 unfold Zg
 rw [c_idAt _ _ hs (by omega), Option.bind_some, c_at _ _ hu (by omega), Option.bind_some, ev_has]; rfl

theorem get_plc {l : List TEvent} {id : Int} {e : TEvent} (h : evAt l id = some e) : getI l (plc l id) = some e ∧ 0 ≤ plc l id := by
 have : hasE l id = true := by rw [ev_has, h]; rfl
 obtain ⟨k, hk, h1, _, h3⟩ := plc_has this
 rw [h1, get_of_lt hk]
 rw [h] at h3
 exact ⟨h3.symm, by omega⟩

theorem c_l05Of {g : TGraph'} {s : List TEntry} (hl : Ids1 g.events) (hlen : g.events.length < 1000000) (hs : StOk g.events s) (hsl : s.length < 1000000) (kind key : Int) : Z15 g s kind key = some ((cur g.events s kind key).getD zEv) := by
 unfold Z15
 rw [c_l04At _ _ _ (by omega), Option.bind_some, beqd, (cur_iff hl hs kind key).2.1]
 cases hc : cur g.events s kind key with
 | none => rfl
 | some e =>
  simp only [Option.isNone_some, cond_false, Option.getD_some]
  unfold cur at hc
  rw [c_l03At _ _ (by omega), Option.bind_some, (get_plc hc).1]; rfl

def mbr (l : List TEvent) (s : List TEntry) (user : Int) : Int := ((cur l s 2 user).getD zEv).n
def lvl (l : List TEvent) (s : List TEntry) (user : Int) : Int := match cur l s 3 user with
 | some e => e.n
 | none => if ((cur l s 1 0).getD zEv).author = user then 100 else 0

structure Sts (g : TGraph') (s : List TEntry) : Prop where
 up : Up2 g.events
 len : g.events.length < 1000000
 ids : Ids1 g.events
 ok : StOk g.events s
 sl : s.length < 1000000

section
variable {g : TGraph'} {s : List TEntry} (h : Sts g s)
include h
theorem c_member (user : Int) : Z58 g s user = some (mbr g.events s user) := by
 unfold Z58; rw [c_current h.up h.len h.ok.up h.sl]; rfl
theorem c_l05Member (user : Int) : Z6o g s user = some (mbr g.events s user) := by
 unfold Z6o; rw [c_l05Of h.ids h.len h.ok h.sl]; rfl
theorem c_level {user : Int} (hu : user ≠ 0) : Z39 g s user = some (lvl g.events s user) := by
 unfold Z39 lvl
 rw [c_current h.up h.len h.ok.up h.sl, Option.bind_some, c_current h.up h.len h.ok.up h.sl]
 cases cur g.events s 3 user with
 | some e => rfl
 | none =>
  simp only [Option.isSome_none, cond_false, Option.bind_some, Z57]
  cases cur g.events s 1 0 with
  | none =>
   have : ¬ zEv.author = user := fun h => hu h.symm
   simp [this]
  | some e =>
   simp only [Option.isSome_some, cond_true, Option.getD_some, beqd]
   by_cases h1 : e.author = user <;> simp [h1]
theorem c_l05Level (user : Int) : Z4k g s user = some (lvl g.events s user) := by
 unfold Z4k lvl
 rw [c_l04At _ _ _ (by have := h.sl; omega), Option.bind_some, (cur_iff h.ids h.ok 3 user).1, c_l05Of h.ids h.len h.ok h.sl, c_l05Of h.ids h.len h.ok h.sl]
 cases cur g.events s 3 user with
 | some e => rfl
 | none =>
  simp only [Option.isSome_none, cond_false, Option.bind_some, beqd]
  by_cases h1 : ((cur g.events s 1 0).getD zEv).author = user <;> simp [h1]
end

theorem c_deniedIf (b : Bool) : Z1 b = some (cond b 11 0) := by cases b <;> rfl
theorem c_l05If (b : Bool) : Z0 b = some (cond b 11 0) := by cases b <;> rfl

def alw (g : TGraph') (s : List TEntry) (e : TEvent) : Int := (Z2l g s e).getD 0

theorem own_same {g : TGraph'} {s : List TEntry} (h : Sts g s) (e : TEvent) (m : Int) : ∃ r, Z93 g s e m = some r ∧ Z79 g s e m = some r := by
 unfold Z93 Z79
 simp only [Z6r, Z4z, Z6q, Z4m, Z1e, c_l05Of h.ids h.len h.ok h.sl, c_current h.up h.len h.ok.up h.sl, c_deniedIf, c_l05If, Option.bind_some, beqd, bned]
 by_cases h1 : m = 1 <;> by_cases h2 : e.n = 1 <;> by_cases h3 : m = 3 <;> by_cases h4 : m = 4 <;> by_cases h5 : e.n = 2 <;> by_cases h6 : ((cur g.events s 5 0).getD zEv).n = 1 <;> by_cases h7 : ((cur g.events s 1 0).getD zEv).author = e.author <;> simp [h1, h2, h3, h4, h5, h6, h7]

theorem other_same {g : TGraph'} {s : List TEntry} (h : Sts g s) (e : TEvent) (p : Int) (hk : e.key ≠ 0) : ∃ r, Z92 g s e p = some r ∧ Z78 g s e p = some r := by
 unfold Z92 Z78
 simp only [Z4y, Z4x, Z34, Z4w, Z4l, Z2n, Z6p, c_l05Member h, c_member h, c_l05Level h, c_level h hk, c_deniedIf, c_l05If, Option.bind_some, beqd, bned]
 generalize mbr g.events s e.key = t
 generalize lvl g.events s e.key = q
 by_cases h1 : p < 50 <;> by_cases h2 : p ≤ q <;> by_cases h3 : e.n = 4 <;> by_cases h4 : e.n = 2 <;> by_cases h5 : e.n = 3 <;> by_cases h6 : t = 1 <;> by_cases h7 : t = 3 <;> by_cases h8 : t = 0 <;> by_cases h9 : t = 2 <;> simp [h1, h2, h3, h4, h5, h6, h7, h8, h9]
end Go.Proofs.YtnndihmamfomcaaGreat
