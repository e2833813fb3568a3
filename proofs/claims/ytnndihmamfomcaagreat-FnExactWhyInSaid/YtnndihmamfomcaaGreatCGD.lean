/- Plain laws for the graphs: depths. -/
import Derived.Test.YtnndihmamfomcaaGreatCGC
set_option autoImplicit false
set_option linter.unusedVariables false
set_option linter.unusedSimpArgs false
namespace Go.Proofs.YtnndihmamfomcaaGreat
open Go Go.Abs

def Whole (l : List TEvent) : Prop := ∀ e ∈ l, ∀ p ∈ e.prev, hasE l p = true
structure Fits (l : List TEvent) : Prop where
 up : Up2 l
 whole : Whole l
 len : l.length ≤ 60
 plen : ∀ e ∈ l, e.prev.length < 9223372036854775807

def dOf (l : List TEvent) (d : List Int) (p : Int) : Int := (getI d (plc l p)).getD 0
def mx2 (a b : Int) : Int := if b > a then b else a
def own (l : List TEvent) (d : List Int) (e : TEvent) : Int := if e.prev.all (fun p => decide (dOf l d p > 0)) = true then e.prev.foldl (fun m p => mx2 m (dOf l d p)) 0 + 1 else 0
def updD (l : List TEvent) (d : List Int) (i : Nat) : List Int := if d.getD i 0 > 0 then d else if own l d (l.getD i zEv) > 0 then d.set i (own l d (l.getD i zEv)) else d
def sweep (l : List TEvent) (d : List Int) : List Int := (List.range l.length).foldl (updD l) d
def sweeps (l : List TEvent) : Nat → List Int → List Int
 | 0, d => d
 | k + 1, d => sweep l (sweeps l k d)
def depthsOf (l : List TEvent) : List Int := sweeps l l.length (List.replicate l.length 0)

structure Bd (l : List TEvent) (c : Nat) (d : List Int) : Prop where
 len : d.length = l.length
 in_ : ∀ x ∈ d, 0 ≤ x ∧ x ≤ c

theorem dOf_get {l : List TEvent} {d : List Int} (hd : d.length = l.length) {p : Int} (hp : hasE l p = true) : getI d (plc l p) = some (dOf l d p) ∧ dOf l d p ∈ d := by
 obtain ⟨k, hk, h1, _, _⟩ := plc_has hp
 unfold dOf
 rw [h1, get_of_lt (by omega : k < d.length)]
 exact ⟨rfl, List.getElem_mem _⟩

theorem fold_mx (f : Int → Int) (c : Int) : ∀ (ps : List Int) (m : Int), m ≤ c → (∀ p ∈ ps, f p ≤ c) → m ≤ ps.foldl (fun m p => mx2 m (f p)) m ∧ ps.foldl (fun m p => mx2 m (f p)) m ≤ c
 | [], m, hm, _ => ⟨Int.le_refl _, hm⟩
 | p :: ps, m, hm, h => by
  have h1 := h p (by simp)
  have h2 : mx2 m (f p) ≤ c ∧ m ≤ mx2 m (f p) := by unfold mx2; split <;> omega
  have := fold_mx f c ps (mx2 m (f p)) h2.1 fun q hq => h q (by simp [hq])
  rw [List.foldl_cons]
  omega

theorem own_bd {l : List TEvent} {d : List Int} {c : Nat} (hb : Bd l c d) {e : TEvent} (he : ∀ p ∈ e.prev, hasE l p = true) : 0 ≤ own l d e ∧ own l d e ≤ c + 1 := by
 unfold own
 split
 ·
  have := fold_mx (dOf l d) c e.prev 0 (by omega) fun p hp => (hb.in_ _ (dOf_get hb.len (he p hp)).2).2
  omega
 ·
  omega

theorem updD_bd {l : List TEvent} {d : List Int} {c i : Nat} (hw : Whole l) (hb : Bd l c d) (hi : i < l.length) : Bd l (c + 1) (updD l d i) := by
 have hge : l.getD i zEv = l[i] := by simp [hi]
 have ho := own_bd hb (hw _ (List.getElem_mem hi))
 unfold updD
 rw [hge]
 split
 ·
  exact ⟨hb.len, fun x hx => by have := hb.in_ x hx; omega⟩
 ·
  split
  ·
   refine ⟨by simp [hb.len], fun x hx => ?_⟩
   rcases List.mem_or_eq_of_mem_set hx with h | h
   ·
    have := hb.in_ x h; omega
   ·
    subst h; omega
  ·
   exact ⟨hb.len, fun x hx => by have := hb.in_ x hx; omega⟩


theorem Zeq {l : List TEvent} {d : List Int} {c i : Nat} (hf : Fits l) (hb : Bd l c d) (hc : c < 1000000) (hi : i < l.length) :
  iter (fun z : Int × Bool × Int => Z11 l d i z.1 z.2.1 z.2.2) big (0, true, 0) = some (l[i].prev.foldl (fun m p => mx2 m (dOf l d p)) 0, l[i].prev.all fun p => decide (dOf l d p > 0)) := by
 have hw := hf.whole _ (List.getElem_mem hi)
 have hp := hf.plen _ (List.getElem_mem hi)
 have := (loop_fold (l := l[i].prev) (step := fun z : Int × Bool × Int => Z11 l d i z.1 z.2.1 z.2.2) (fun (s : Int × Bool) (j : Int) => (s.1, s.2, j)) (fun s => s)
  (fun s p => (mx2 s.1 (dOf l d p), s.2 && decide (dOf l d p > 0))) (fun _ _ => True) hp (fun j s hj _ => by
   refine ⟨?_, trivial⟩
   simp only [Z11]
   rw [get_of_lt hi, Option.bind_some, dlt hj, cond_true, get_of_lt hj, Option.bind_some, c_l03At _ _ (by have := hf.len; omega), Option.bind_some, (dOf_get hb.len (hw _ (List.getElem_mem hj))).1, Option.bind_some]
   obtain ⟨m, ok⟩ := s
   simp only [Z6d, Z6c, wrap1 hj hp, mx2]
   cases ok with
   | true => by_cases h1 : dOf l d l[i].prev[j] > m <;> simp [h1]
   | false => by_cases h1 : dOf l d l[i].prev[j] > m <;> simp [h1])
  (fun s _ => by
   simp only [Z11]
   rw [get_of_lt hi, Option.bind_some, dnlt, cond_false]) (s := (0, true)) trivial).1
 simp only at this
 rw [this]
 congr 1
 generalize l[i].prev = ps
 suffices h : ∀ (ps : List Int) (m : Int) (b : Bool), ps.foldl (fun (s : Int × Bool) p => (mx2 s.1 (dOf l d p), s.2 && decide (dOf l d p > 0))) (m, b) = (ps.foldl (fun m p => mx2 m (dOf l d p)) m, b && ps.all fun p => decide (dOf l d p > 0)) by simpa using h ps 0 true
 intro ps
 induction ps with
 | nil => intro m b; simp
 | cons p ps ih => intro m b; simp only [List.foldl_cons, List.all_cons, ih, Bool.and_assoc]

theorem Zce {l : List TEvent} {d : List Int} {c : Nat} (hf : Fits l) (hb : Bd l c d) (hc : c < 900000) : iter (fun z : List Int × Int => Z12 l z.1 z.2) big (d, 0) = some (sweep l d) ∧ Bd l (c + l.length) (sweep l d) := by
 have hl := hf.len
 have := loop_fold (l := List.range l.length) (step := fun z : List Int × Int => Z12 l z.1 z.2) (fun s j => (s, j)) (fun s => s) (updD l) (fun i d => Bd l (c + i) d) (by simp; omega) (fun i s hi hI => by
  simp only [List.length_range] at hi
  simp only [List.getElem_range]
  refine ⟨?_, by have := updD_bd hf.whole hI hi; exact this⟩
  simp only [Z12]
  have his : i < s.length := by rw [hI.len]; exact hi
  rw [dlt hi, cond_true, get_of_lt his, Option.bind_some]
  simp only [Z2f, wrap1 hi (by omega)]
  unfold updD
  have e1 : s.getD i 0 = s[i] := by simp [his]
  have e2 : l.getD i zEv = l[i] := by simp [hi]
  rw [e1, e2]
  by_cases h1 : s[i] > 0
  ·
   rw [decide_eq_true h1, if_pos h1]; rfl
  ·
   rw [decide_eq_false h1, if_neg h1, cond_false, Zeq hf hI (by omega) hi, Option.bind_some]
   have ho := own_bd hI (hf.whole _ (List.getElem_mem hi))
   simp only [Z8u, Z2f, wrap1 hi (by omega : l.length < 9223372036854775807)]
   have hm := fold_mx (dOf l s) (c + i : Nat) l[i].prev 0 (by omega) fun p hp => (hI.in_ _ (dOf_get hI.len (hf.whole _ (List.getElem_mem hi) p hp)).2).2
   by_cases h2 : (l[i].prev.all fun p => decide (dOf l s p > 0)) = true
   ·
    have e3 : own l s l[i] = l[i].prev.foldl (fun m p => mx2 m (dOf l s p)) 0 + 1 := by unfold own; rw [if_pos h2]
    rw [h2, cond_true, if_pos (by omega), e3, wrap_id (by omega) (by omega)]
    simp
   ·
    have e3 : own l s l[i] = 0 := by unfold own; rw [if_neg h2]
    rw [Bool.eq_false_iff.2 h2, cond_false, if_neg (by omega)])
  (fun s _ => by
   simp only [List.length_range, Z12]
   rw [dnlt, cond_false]) (s := d) (by simpa using hb)
 simp only [List.length_range] at this
 exact this

theorem fold_const {σ : Type} (f : σ → σ) (l : List TEvent) : ∀ (r : List TEvent) (k : Nat) (s : σ) (F : Nat → σ), (∀ k, F (k + 1) = f (F k)) → s = F k → r.foldl (fun s _ => f s) s = F (k + r.length)
 | [], k, s, F, _, hs => by simpa using hs
 | _ :: r, k, s, F, h, hs => by
  rw [List.foldl_cons, fold_const f l r (k + 1) (f s) F h (by rw [h, hs])]
  congr 1
  simp; omega

theorem c_l03Depths {l : List TEvent} (hf : Fits l) : Z2e l = some (depthsOf l) ∧ Bd l (l.length * l.length) (depthsOf l) := by
 have hl := hf.len
 unfold Z2e
 rw [chk_t (decide_eq_true ⟨by omega, by omega⟩), Option.bind_some, Int.toNat_natCast]
 have hz : Bd l 0 (List.replicate l.length 0) := ⟨by simp, fun x hx => by rw [List.eq_of_mem_replicate hx]; simp⟩
 have := loop_fold (l := l) (step := fun z : List Int × Int => Z2g l z.1 z.2) (fun s j => (s, j)) (fun s => s) (fun d _ => sweep l d) (fun i d => Bd l (i * l.length) d) (by omega) (fun i s hi hI => by
  have hm : i * l.length ≤ 60 * 60 := Nat.mul_le_mul (by omega) hl
  obtain ⟨h1, h2⟩ := Zce hf hI (by omega)
  refine ⟨?_, by rw [Nat.add_mul, Nat.one_mul]; exact h2⟩
  simp only [Z2g]
  rw [dlt hi, cond_true, h1, Option.bind_some]
  simp only [Z8t, wrap1 hi (by omega : l.length < 9223372036854775807)])
  (fun s _ => by simp only [Z2g]; rw [dnlt, cond_false]) (s := List.replicate l.length 0) (by simpa using hz)
 have e : l.foldl (fun d _ => sweep l d) (List.replicate l.length 0) = depthsOf l := by
  have := fold_const (sweep l) l l 0 (List.replicate l.length 0) (fun k => sweeps l k (List.replicate l.length 0)) (fun k => rfl) rfl
  rw [this, Nat.zero_add]; rfl
 rw [e] at this
 rw [this.1]
 exact ⟨rfl, this.2⟩


def zeros (d : List Int) : Nat := d.countP fun x => decide (x = 0)

theorem updD_cases {l : List TEvent} {d : List Int} {c i : Nat} (hb : Bd l c d) (hi : i < l.length) : updD l d i = d ∨ (d.getD i 0 = 0 ∧ own l d (l.getD i zEv) > 0 ∧ updD l d i = d.set i (own l d (l.getD i zEv)) ∧ zeros (updD l d i) + 1 = zeros d) := by
 have hid : i < d.length := by rw [hb.len]; exact hi
 have e1 : d.getD i 0 = d[i] := by simp [hid]
 unfold updD
 rw [e1]
 split
 ·
  exact .inl rfl
 ·
  split
  ·
   rename_i h1 h2
   have h0 : d[i] = 0 := by have := hb.in_ _ (List.getElem_mem hid); omega
   refine .inr ⟨h0, h2, rfl, ?_⟩
   unfold zeros
   rw [List.countP_set hid]
   have : 0 < d.countP (fun x => decide (x = 0)) := List.countP_pos_iff.2 ⟨_, List.getElem_mem hid, by simp [h0]⟩
   rw [if_pos (by simp [h0]), if_neg (by simp only [decide_eq_true_eq]; omega)]
   omega
  ·
   exact .inl rfl

theorem ownI_is {l : List TEvent} {d : List Int} (hd : ∀ x ∈ d, 0 ≤ x) {c : Int} : ∀ (ps : List Int) (m : Int), (∀ p ∈ ps, dOf l d p ∈ d) →
  (if ps.all (fun p => decide (dOf l d p > 0)) = true then ps.foldl (fun m p => mx2 m (dOf l d p)) m + 1 else 0) = c →
  match ps with
  | [] => m + 1 = c
  | p :: r => if dOf l d p = 0 then c = 0 else (if r.all (fun p => decide (dOf l d p > 0)) = true then r.foldl (fun m p => mx2 m (dOf l d p)) (mx2 m (dOf l d p)) + 1 else 0) = c
 | [], m, _, h => by simpa using h
 | p :: r, m, hp, h => by
  have := hd _ (hp p (by simp))
  by_cases h0 : dOf l d p = 0
  ·
   simp [h0] at h ⊢; exact h.symm
  ·
   have : dOf l d p > 0 := by omega
   simpa [h0, this] using h

theorem Zci {g : TGraph'} {d : List Int} {c : Nat} (hf : Fits g.events) (hb : Bd g.events c d) (hc : c < 1000000) {e : TEvent} (he : e ∈ g.events) :
  iter (fun z : Int × Int => Zl g d e z.1 z.2) big (1, 0) = some (own g.events d e) := by
 have hw := hf.whole _ he
 have hp := hf.plen _ he
 have hmem : ∀ p ∈ e.prev, dOf g.events d p ∈ d := fun p hp => (dOf_get hb.len (hw p hp)).2
 have := loop_state_out (τ := Int × Int) (ω := Int) (σ := Int) (step := fun z : Int × Int => Zl g d e z.1 z.2) (n := e.prev.length) (fun s j => (s, j))
  (fun i s => 1 ≤ s ∧ s ≤ c + 1 ∧ (if (e.prev.drop i).all (fun p => decide (dOf g.events d p > 0)) = true then (e.prev.drop i).foldl (fun m p => mx2 m (dOf g.events d p)) (s - 1) + 1 else 0) = own g.events d e)
  (fun o => o = own g.events d e) hp (fun i s hi ⟨hs1, hs2, hI⟩ => by
   simp only [Zl]
   have hm : e.prev[i] ∈ e.prev := List.getElem_mem hi
   have hh := hw _ hm
   rw [dlt hi, cond_true, get_of_lt hi, Option.bind_some, c_find _ _ hf.up (by have := hf.len; omega), Option.bind_some]
   simp only
   rw [← hf.up.plc_cut hh, (dOf_get hb.len hh).1, Option.bind_some, beqd, wrap1 hi hp]
   have hx := hb.in_ _ (hmem _ hm)
   rw [wrap_id (n := dOf g.events d e.prev[i] + 1) (by omega) (by omega)]
   rw [List.drop_eq_getElem_cons hi] at hI
   have hr := ownI_is (fun x hx => (hb.in_ x hx).1) _ _ (fun p hp' => hmem p (by
    rcases List.mem_cons.1 hp' with rfl | h
    ·
     exact hm
    ·
     exact List.mem_of_mem_drop h)) hI
   simp only at hr
   by_cases h0 : dOf g.events d e.prev[i] = 0
   ·
    rw [decide_eq_true h0]
    rw [if_pos h0] at hr
    exact .inr ⟨0, rfl, hr.symm⟩
   ·
    rw [decide_eq_false h0]
    rw [if_neg h0] at hr
    refine .inl ⟨_, rfl, ?_, ?_, ?_⟩
    ·
     split <;> omega
    ·
     split <;> omega
    ·
     rw [show (if dOf g.events d e.prev[i] + 1 > s then dOf g.events d e.prev[i] + 1 else s) - 1 = mx2 (s - 1) (dOf g.events d e.prev[i]) by unfold mx2; split <;> split <;> omega]
     exact hr)
  (fun s ⟨_, _, hI⟩ => by
   simp only [Zl]
   rw [dnlt, cond_false]
   refine ⟨s, rfl, ?_⟩
   rw [List.drop_length] at hI
   simp at hI
   omega) (s := 1) ⟨by omega, by omega, by unfold own; simp⟩
 obtain ⟨o, h1, rfl⟩ := this
 exact h1

theorem Zcl {g : TGraph'} {d : List Int} {c : Nat} (hf : Fits g.events) (hb : Bd g.events c d) (hc : c < 900000) :
  iter (fun z : List Int × Int × Bool × Int => Zm g z.1 z.2.1 z.2.2.1 z.2.2.2) big (d, (zeros d : Int), false, 0) = some (sweep g.events d, (zeros (sweep g.events d) : Int), decide (zeros (sweep g.events d) < zeros d)) ∧ zeros (sweep g.events d) ≤ zeros d ∧ (zeros (sweep g.events d) = zeros d → sweep g.events d = d) := by
 have hl := hf.len
 have hz : ∀ d : List Int, d.length = g.events.length → zeros d ≤ 60 := fun d hd => by have : zeros d ≤ d.length := List.countP_le_length; omega
 have := loop_fold (l := List.range g.events.length) (step := fun z : List Int × Int × Bool × Int => Zm g z.1 z.2.1 z.2.2.1 z.2.2.2) (fun (s : List Int × Int × Bool) j => (s.1, s.2.1, s.2.2, j)) (fun s => s) (fun s i => (updD g.events s.1 i, (zeros (updD g.events s.1 i) : Int), decide (zeros (updD g.events s.1 i) < zeros d)))
  (fun i s => Bd g.events (c + i) s.1 ∧ s.2.1 = (zeros s.1 : Int) ∧ s.2.2 = decide (zeros s.1 < zeros d) ∧ zeros s.1 ≤ zeros d ∧ (zeros s.1 = zeros d → s.1 = d)) (by simp; omega) (fun i s hi hall => by
  obtain ⟨s, lf, ch⟩ := s
  obtain ⟨hI, hs1, hs2, hs3, hs4⟩ := hall
  simp only at hI hs1 hs3 hs4
  replace hs2 : ch = decide (zeros s < zeros d) := hs2
  subst hs1 hs2
  simp only [List.length_range] at hi
  simp only [List.getElem_range]
  have hu := updD_bd hf.whole hI hi
  have hcs := updD_cases hI hi
  refine ⟨?_, hu, trivial, trivial, ?_, ?_⟩
  ·
   simp only [Zm]
   have his : i < s.length := by rw [hI.len]; exact hi
   rw [dlt hi, cond_true, get_of_lt hi, Option.bind_some, get_of_lt his, Option.bind_some]
   have e1 : s.getD i 0 = s[i] := by simp [his]
   have e2 : g.events.getD i zEv = g.events[i] := by simp [hi]
   rw [e1, e2] at hcs
   have hzs := hz s hI.len
   simp only [Z37, Z7b, wrap1 hi (by omega : g.events.length < 9223372036854775807), Zci hf hI (by omega) (List.getElem_mem hi), Option.bind_some]
   by_cases h1 : s[i] > 0
   ·
    have e3 : updD g.events s i = s := by unfold updD; rw [e1, if_pos h1]
    rw [e3, decide_eq_true h1]; rfl
   ·
    rw [decide_eq_false h1, cond_false]
    by_cases h2 : own g.events s g.events[i] > 0
    ·
     have e3 : updD g.events s i = s.set i (own g.events s g.events[i]) := by unfold updD; rw [e1, e2, if_neg h1, if_pos h2]
     rw [decide_eq_true h2, cond_true, Int.toNat_natCast, ← e3]
     have h0 : s[i] = 0 := by have := hI.in_ _ (List.getElem_mem his); omega
     rcases hcs with h | ⟨_, _, _, h⟩
     ·
      exfalso
      rw [e3] at h
      have h5 : s[i]? = some s[i] := List.getElem?_eq_getElem his
      have : (s.set i (own g.events s g.events[i]))[i]? = s[i]? := by rw [h]
      rw [List.getElem?_set_self his, h5] at this
      simp only [Option.some.injEq] at this
      omega
     ·
      rw [wrap_id (by omega) (by omega), decide_eq_true (by omega : zeros (updD g.events s i) < zeros d)]
      rw [show (zeros s : Int) - 1 = (zeros (updD g.events s i) : Int) by omega]
    ·
     have e3 : updD g.events s i = s := by unfold updD; rw [e1, e2, if_neg h1, if_neg h2]
     rw [decide_eq_false h2, cond_false, e3]
  ·
   rcases hcs with h | ⟨_, _, _, h⟩
   ·
    rw [h]; exact hs3
   ·
    omega
  ·
   rcases hcs with h | ⟨_, _, _, h⟩
   ·
    rw [h]; exact hs4
   ·
    intro h'; omega)
  (fun s _ => by
   simp only [List.length_range, Zm]
   rw [dnlt, cond_false]) (s := (d, (zeros d : Int), false)) ⟨by simpa using hb, rfl, by simp, Nat.le_refl _, fun _ => rfl⟩
 have hfold : ∀ (r : List Nat) (s : List Int × Int × Bool), (r.foldl (fun s i => (updD g.events s.1 i, (zeros (updD g.events s.1 i) : Int), decide (zeros (updD g.events s.1 i) < zeros d))) s).1 = r.foldl (updD g.events) s.1 := by
  intro r
  induction r with
  | nil => intro s; rfl
  | cons i r ih => intro s; rw [List.foldl_cons, List.foldl_cons, ih]
 obtain ⟨h1, h2⟩ := this
 generalize hq : (List.range g.events.length).foldl (fun s i => (updD g.events s.1 i, (zeros (updD g.events s.1 i) : Int), decide (zeros (updD g.events s.1 i) < zeros d))) (d, (zeros d : Int), false) = q at h1 h2
 have h3 : q.1 = sweep g.events d := by rw [← hq, hfold]; rfl
 obtain ⟨q1, q2, q3⟩ := q
 simp only at h2 h3 h1
 subst h3
 obtain ⟨_, h4, h5, h6, h7⟩ := h2
 replace h5 : q3 = decide (zeros (sweep g.events d) < zeros d) := h5
 subst h4 h5
 exact ⟨h1, h6, h7⟩

theorem sweep_done {l : List TEvent} {d : List Int} (hd : d.length = l.length) (h : zeros d = 0) (hn : ∀ x ∈ d, 0 ≤ x) : sweep l d = d := by
 have : ∀ i, i < l.length → updD l d i = d := fun i hi => by
  have hid : i < d.length := by omega
  have e1 : d.getD i 0 = d[i] := by simp [hid]
  have h0 : d[i] ≠ 0 := fun h0 => by
   have := List.countP_eq_zero.1 h d[i] (List.getElem_mem hid)
   simp [h0] at this
  have := hn _ (List.getElem_mem hid)
  unfold updD; rw [e1, if_pos (by omega)]
 unfold sweep
 suffices h : ∀ r : List Nat, (∀ i ∈ r, i < l.length) → r.foldl (updD l) d = d from h _ fun i hi => by simpa using hi
 intro r
 induction r with
 | nil => intro _; rfl
 | cons i r ih => intro hr; rw [List.foldl_cons, this i (hr i (by simp))]; exact ih fun j hj => hr j (by simp [hj])

theorem sweeps_fix {l : List TEvent} {d : List Int} {k : Nat} (h : sweep l (sweeps l k d) = sweeps l k d) : ∀ m, k ≤ m → sweeps l m d = sweeps l k d
 | 0, hm => by
  obtain rfl : k = 0 := by omega
  rfl
 | m + 1, hm => by
  by_cases hk : k = m + 1
  ·
   subst hk; rfl
  ·
   rw [sweeps, sweeps_fix h m (by omega), h]

theorem sweeps_bd {l : List TEvent} (hf : Fits l) {d : List Int} (hd : Bd l 0 d) : ∀ k, k ≤ l.length → Bd l (k * l.length) (sweeps l k d)
 | 0, _ => by rw [Nat.zero_mul]; exact hd
 | k + 1, hk => by
  have h1 := sweeps_bd hf hd k (by omega)
  have hl := hf.len
  have hm : k * l.length ≤ 60 * 60 := Nat.mul_le_mul (by omega) hl
  have h2 := (Zce hf h1 (by omega)).2
  rw [Nat.add_mul, Nat.one_mul]
  exact h2

theorem c_depths {g : TGraph'} (hf : Fits g.events) : Z1h g = some (depthsOf g.events, decide (zeros (depthsOf g.events) = 0)) := by
 have hl := hf.len
 unfold Z1h
 rw [chk_t (decide_eq_true ⟨by omega, by omega⟩), Option.bind_some, Int.toNat_natCast]
 have hz : Bd g.events 0 (List.replicate g.events.length 0) := ⟨by simp, fun x hx => by rw [List.eq_of_mem_replicate hx]; simp⟩
 generalize hd0 : List.replicate g.events.length (0 : Int) = d0 at hz
 have hz0 : zeros d0 = g.events.length := by rw [← hd0]; unfold zeros; rw [List.countP_replicate]; simp
 have := iter_total (step := fun z : List Int × Int × Bool => Z38 g z.1 z.2.1 z.2.2) (p := fun o : List Int × Int => o = (depthsOf g.events, (zeros (depthsOf g.events) : Int)))
  (fun m (x : List Int × Int × Bool) => ∃ k, k ≤ g.events.length ∧ x.1 = sweeps g.events k d0 ∧ x.2.1 = (zeros x.1 : Int) ∧ ((x.2.2 = true ∧ k + zeros x.1 ≤ g.events.length ∧ m = zeros x.1 + 1) ∨ (x.2.2 = false ∧ sweep g.events x.1 = x.1 ∧ m = 0))) (by
  rintro m ⟨d, lf, ch⟩ ⟨k, hk, h1, h2, h3⟩
  simp only at h1 h2 h3
  have hb := sweeps_bd hf hz k hk
  rw [← h1] at hb
  have hm : k * g.events.length ≤ 60 * 60 := Nat.mul_le_mul (by omega) hl
  have hfin : sweep g.events d = d → depthsOf g.events = d := fun h => by
   unfold depthsOf
   rw [hd0, sweeps_fix (k := k) (by rw [← h1]; exact h) _ hk, h1]
  simp only [Z38, Z55]
  rcases h3 with ⟨rfl, h4, rfl⟩ | ⟨rfl, h4, rfl⟩
  ·
   rw [cond_true, h2]
   by_cases hp : (zeros d : Int) > 0
   ·
    rw [decide_eq_true hp, cond_true]
    obtain ⟨e1, e2, e3⟩ := Zcl hf hb (by omega)
    rw [e1, Option.bind_some]
    right
    by_cases hlt : zeros (sweep g.events d) < zeros d
    ·
     refine ⟨_, zeros (sweep g.events d) + 1, rfl, by omega, k + 1, by omega, ?_, rfl, .inl ⟨decide_eq_true hlt, ?_, rfl⟩⟩
     ·
      simp only [sweeps]; rw [h1]
     ·
      simp only; omega
    ·
     have e4 := e3 (by omega)
     refine ⟨_, 0, rfl, by omega, k, hk, by simp only; rw [e4, h1], rfl, .inr ⟨decide_eq_false hlt, by simp only; rw [e4, e4], rfl⟩⟩
   ·
    rw [decide_eq_false hp, cond_false]
    left
    have h0 : zeros d = 0 := by omega
    rw [hfin (sweep_done hb.len h0 fun x hx => (hb.in_ x hx).1)]
    exact ⟨_, rfl, rfl⟩
  ·
   left
   rw [cond_false, cond_false, h2, hfin h4]
   exact ⟨_, rfl, rfl⟩) big (g.events.length + 1) (d0, (g.events.length : Int), true) ⟨0, by omega, rfl, by simp only; rw [hz0], .inl ⟨rfl, by simp only; omega, by simp only; omega⟩⟩ (big_gt (by omega))
 obtain ⟨o, ho, rfl⟩ := this
 rw [ho, Option.bind_some]
 simp only [Z7a, beqd]
 congr 2
 by_cases h : zeros (depthsOf g.events) = 0
 ·
  rw [decide_eq_true h, decide_eq_true (by omega)]
 ·
  rw [decide_eq_false h, decide_eq_false (by omega)]
end Go.Proofs.YtnndihmamfomcaaGreat
