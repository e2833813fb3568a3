/- Plain laws: sizes, copies, comparisons and marks of graphs. -/
import Derived.Test.YtnndihmamfomcaaGreatCGS
set_option autoImplicit false
set_option linter.unusedVariables false
set_option linter.unusedSimpArgs false
namespace Go.Proofs.YtnndihmamfomcaaGreat
open Go Go.Abs


theorem c_szInt64S (p : List Int) (n : Int) (hp : p.length ≤ maxLen) (h0 : 0 ≤ n) (hn : n ≤ 1048576) : ∃ r, Z7p p n = some r ∧ ((0 ≤ r ∧ r ≤ n ∧ p.length ≤ 1048576) ∨ r = -1) := by
 simp only [maxLen] at hp
 unfold Z7p
 rw [wrap_id (by omega) (by omega)]
 by_cases h : n - (p.length : Int) < 0
 ·
  rw [decide_eq_true h]; exact ⟨_, rfl, .inr rfl⟩
 ·
  rw [decide_eq_false h]; exact ⟨_, rfl, .inl ⟨by omega, by omega, by omega⟩⟩

structure EvIn (e : TEvent) : Prop where
 text : e.text.size ≤ maxLen
 prev : e.prev.length ≤ maxLen

theorem c_szEvent (e : TEvent) (n : Int) (he : EvIn e) (h0 : 0 ≤ n) (hn : n ≤ 1048576) : ∃ r, Z7n e n = some r ∧ ((0 ≤ r ∧ r ≤ n ∧ e.prev.length ≤ 1048576 ∧ e.text.size ≤ 1048576) ∨ r = -1) := by
 have ht := he.text
 simp only [maxLen] at ht
 unfold Z7n
 rw [wrap_id (by omega) (by omega)]
 by_cases h : n - (e.text.size : Int) < 0
 ·
  rw [decide_eq_true h]; exact ⟨_, rfl, .inr rfl⟩
 ·
  rw [decide_eq_false h, cond_false]
  obtain ⟨r, h1, h2⟩ := c_szInt64S e.prev (n - (e.text.size : Int)) he.prev (by omega) (by omega)
  rw [h1, Option.bind_some]
  rcases h2 with ⟨h2, h3, h4⟩ | rfl
  ·
   rw [decide_eq_false (by omega)]; exact ⟨_, rfl, .inl ⟨h2, by omega, h4, by omega⟩⟩
  ·
   exact ⟨_, rfl, .inr rfl⟩

def Small (l : List TEvent) : Prop := l.length ≤ 1048576 ∧ ∀ e ∈ l, e.prev.length ≤ 1048576 ∧ e.text.size ≤ 1048576

theorem c_szEventS (p : List TEvent) (n : Int) (hl : p.length ≤ maxLen) (hp : ∀ e ∈ p, EvIn e) (h0 : 0 ≤ n) (hn : n ≤ 1048576) : ∃ r, Z5n p n = some r ∧ ((0 ≤ r ∧ r ≤ n ∧ Small p) ∨ r = -1) := by
 simp only [maxLen] at hl
 unfold Z5n
 rw [wrap_id (by omega) (by omega)]
 by_cases h : n - (p.length : Int) < 0
 ·
  rw [decide_eq_true h]; exact ⟨_, rfl, .inr rfl⟩
 ·
  rw [decide_eq_false h, cond_false]
  obtain ⟨o, h1, h2⟩ := loop_state_out (τ := Int × Int) (ω := Int ⊕ Int) (σ := Int) (step := fun z : Int × Int => Z1r p z.1 z.2) (n := p.length) (fun s j => (s, j))
   (fun i s => 0 ≤ s ∧ s ≤ n ∧ ∀ (j : Nat) (hj : j < p.length), j < i → p[j].prev.length ≤ 1048576 ∧ p[j].text.size ≤ 1048576) (fun o => o = .inl (-1) ∨ ∃ r, o = .inr r ∧ 0 ≤ r ∧ r ≤ n ∧ Small p) (by omega) (by
   rintro i s hi ⟨hs0, hsn, hI⟩
   obtain ⟨r, e1, e2⟩ := c_szEvent p[i] s (hp _ (List.getElem_mem hi)) hs0 (by omega)
   simp only [Z1r]
   rw [dlt hi, cond_true, get_of_lt hi, Option.bind_some, e1, Option.bind_some, wrap1 hi (by omega)]
   rcases e2 with ⟨e2, e3, e4⟩ | rfl
   ·
    rw [decide_eq_false (by omega), cond_false]
    refine .inl ⟨r, rfl, e2, by omega, fun j hj hji => ?_⟩
    rcases Nat.lt_or_ge j i with h | h
    ·
     exact hI j hj h
    ·
     obtain rfl : j = i := by omega
     exact e4
   ·
    exact .inr ⟨_, rfl, .inl rfl⟩) (by
   rintro s ⟨hs0, hsn, hI⟩
   simp only [Z1r]
   rw [dnlt, cond_false]
   refine ⟨_, rfl, .inr ⟨s, rfl, hs0, hsn, by omega, fun e he => ?_⟩⟩
   obtain ⟨j, hj, rfl⟩ := List.mem_iff_getElem.1 he
   exact hI j hj hj) (s := n - (p.length : Int)) ⟨by omega, by omega, fun j hj h => by omega⟩
  rw [h1, Option.bind_some]
  rcases h2 with rfl | ⟨r, rfl, h3⟩
  ·
   exact ⟨_, rfl, .inr rfl⟩
  ·
   exact ⟨_, rfl, .inl h3⟩

structure GIn (g : TGraph) : Prop where
 el : g.events.length ≤ maxLen
 pl : g.parked.length ≤ maxLen
 ev : ∀ e ∈ g.events, EvIn e
 pv : ∀ e ∈ g.parked, EvIn e

theorem c_szGraph (g : TGraph) (n : Int) (hg : GIn g) (h0 : 0 ≤ n) (hn : n ≤ 1048576) : ∃ r, Z7o g n = some r ∧ ((0 ≤ r ∧ r ≤ n ∧ Small g.events ∧ Small g.parked) ∨ r = -1) := by
 unfold Z7o
 obtain ⟨r, h1, h2⟩ := c_szEventS g.events n hg.el hg.ev h0 hn
 rw [h1, Option.bind_some]
 rcases h2 with ⟨h2, h3, h4⟩ | rfl
 ·
  rw [decide_eq_false (by omega), cond_false]
  obtain ⟨r', h5, h6⟩ := c_szEventS g.parked r hg.pl hg.pv h2 (by omega)
  rw [h5, Option.bind_some]
  rcases h6 with ⟨h6, h7, h8⟩ | rfl
  ·
   rw [decide_eq_false (by omega)]; exact ⟨_, rfl, .inl ⟨h6, by omega, h4, h8⟩⟩
  ·
   exact ⟨_, rfl, .inr rfl⟩
 ·
  exact ⟨_, rfl, .inr rfl⟩


theorem loop_copy {α β : Type} {xs : List α} {z : β} (f : α → β) {step : List β × Int → Option ((List β × Int) ⊕ List β)} (hl : xs.length < 9223372036854775807)
  (h1 : ∀ (i : Nat) (s : List β) (hi : i < xs.length), s.length = xs.length → step (s, (i : Int)) = some (.inl (s.set i (f xs[i]), ((i + 1 : Nat) : Int)))) (h2 : ∀ s : List β, step (s, (xs.length : Int)) = some (.inr s)) :
  iter step big (List.replicate xs.length z, 0) = some (xs.map f) := by
 obtain ⟨o, e1, rfl⟩ := loop_state (τ := List β × Int) (ω := List β) (σ := List β) (step := step) (n := xs.length) (fun s j => (s, j)) (fun i s => s = (xs.take i).map f ++ List.replicate (xs.length - i) z) (fun o => o = xs.map f) hl (by
  rintro i s hi rfl
  refine ⟨_, h1 i _ hi (by simp; omega), ?_⟩
  have e0 : List.replicate (xs.length - i) z = z :: List.replicate (xs.length - (i + 1)) z := by
   rw [show xs.length - i = (xs.length - (i + 1)) + 1 by omega, List.replicate_succ]
  have e1 : xs.take (i + 1) = xs.take i ++ [xs[i]] := by rw [List.take_add_one, List.getElem?_eq_getElem hi]; rfl
  rw [e0, set_mid (X := (xs.take i).map f) (u := z) (Y := List.replicate (xs.length - (i + 1)) z) rfl (by simp; omega), e1, List.map_append, List.append_assoc]
  rfl) (by
  rintro s rfl
  exact ⟨_, h2 _, by simp⟩) (s := List.replicate xs.length z) (by simp)
 exact e1

theorem c_toInt64S (p : List Int) (hp : p.length ≤ 1048576) : Z7s p = some p := by
 unfold Z7s
 rw [chk_t (decide_eq_true ⟨by omega, by omega⟩), Option.bind_some, Int.toNat_natCast]
 rw [loop_copy (xs := p) (fun x => x) (by omega) (fun i s hi hs => by
  simp only [Z3h]
  rw [dlt hi, cond_true, get_of_lt hi, Option.bind_some, get_of_lt (by omega : i < s.length), Option.bind_some, wrap1 hi (by omega), Int.toNat_natCast]) (fun s => by simp only [Z3h]; rw [dnlt, cond_false])]
 simp [Z7t]

theorem c_toEvent (e : TEvent) (hp : e.prev.length ≤ 1048576) : Z7q e = some e := by
 unfold Z7q
 rw [c_toInt64S _ hp]; rfl

theorem c_toEventS (p : List TEvent) (hp : Small p) : Z5o p = some p := by
 have hl := hp.1
 unfold Z5o
 rw [chk_t (decide_eq_true ⟨by omega, by omega⟩), Option.bind_some, Int.toNat_natCast]
 rw [loop_copy (xs := p) (fun x => x) (by omega) (fun i s hi hs => by
  simp only [Z3g]
  rw [dlt hi, cond_true, get_of_lt hi, Option.bind_some, c_toEvent _ (hp.2 _ (List.getElem_mem hi)).1, Option.bind_some, get_of_lt (by omega : i < s.length), Option.bind_some, wrap1 hi (by omega), Int.toNat_natCast]) (fun s => by simp only [Z3g]; rw [dnlt, cond_false])]
 simp [Z7r]

def toG (g : TGraph) : TGraph' := TGraph'.mk g.room g.events g.parked
theorem c_toGraph (g : TGraph) (he : Small g.events) (hp : Small g.parked) : Zo g = some (toG g) := by
 unfold Zo
 rw [c_toEventS _ he, Option.bind_some, c_toEventS _ hp]; rfl

theorem toG_fine {g : TGraph} (he : Small g.events) (hp : Small g.parked) : Fine (toG g) := ⟨he.1, hp.1, fun e h => (he.2 e h).1, fun e h => (hp.2 e h).1⟩


theorem c_eqInt64S (p : List Int) (hp : p.length ≤ 1048576) : Z7i p p = some true := by
 unfold Z7i
 rw [bned, decide_eq_true rfl]
 simp only [Bool.not_true, cond_false]
 rw [loop_allL (l := p) (fun _ => true) (.inl false) (.inr ()) (by omega) (fun i hi => by
  simp only [Z3e]
  rw [dlt hi, cond_true, get_of_lt hi, Option.bind_some, Option.bind_some, bned, decide_eq_true rfl, wrap1 hi (by omega)]; rfl) (by simp only [Z3e]; rw [dnlt, cond_false])]
 rw [show (p.all fun _ => true) = true by simp]; rfl

theorem c_eqEvent (e : TEvent) (hp : e.prev.length ≤ 1048576) : Z5h e e = some true := by
 unfold Z5h
 rw [c_eqInt64S _ hp]
 simp

theorem c_eqEventS (p : List TEvent) (hp : Small p) : Z5j p p = some true := by
 have hl := hp.1
 unfold Z5j
 rw [bned, decide_eq_true rfl]
 simp only [Bool.not_true, cond_false]
 rw [loop_allL (l := p) (fun _ => true) (.inl false) (.inr ()) (by omega) (fun i hi => by
  simp only [Z3d]
  rw [dlt hi, cond_true, get_of_lt hi, Option.bind_some, Option.bind_some, c_eqEvent _ (hp.2 _ (List.getElem_mem hi)).1, Option.bind_some, wrap1 hi (by omega)]; rfl) (by simp only [Z3d]; rw [dnlt, cond_false])]
 rw [show (p.all fun _ => true) = true by simp]; rfl

theorem c_eqGraph (g : TGraph') (he : Small g.events) (hp : Small g.parked) : Z7h g g = some true := by
 unfold Z7h
 rw [c_eqEventS _ he, c_eqEventS _ hp]
 simp


def upFrom (n : Int) : Nat → List Int
 | 0 => []
 | k + 1 => n :: upFrom (n + 1) k
theorem upFrom_len : ∀ (k : Nat) (n : Int), (upFrom n k).length = k
 | 0, _ => rfl
 | k + 1, n => by simp [upFrom, upFrom_len k]
theorem upFrom_get : ∀ (k : Nat) (n : Int) (i : Nat) (hi : i < (upFrom n k).length), (upFrom n k)[i] = n + i
 | 0, _, i, hi => by simp [upFrom] at hi
 | k + 1, n, 0, hi => by simp [upFrom]
 | k + 1, n, i + 1, hi => by
  simp only [upFrom, List.getElem_cons_succ]
  rw [upFrom_get k]; omega
theorem upFrom_succ : ∀ (k : Nat) (n : Int), upFrom n (k + 1) = upFrom n k ++ [n + k]
 | 0, n => by simp [upFrom]
 | k + 1, n => by
  rw [upFrom, upFrom_succ k (n + 1)]
  simp [upFrom]; omega

theorem c_markInt64S (p : List Int) (n : Int) (hp : p.length ≤ 1048576) (h0 : 0 ≤ n) (hn : n ≤ 1000000000000000) : Z5m p n = some (n + p.length, upFrom n p.length) := by
 unfold Z5m
 obtain ⟨o, e1, rfl⟩ := loop_state (τ := List Int × Int × Int) (ω := Int × List Int) (σ := List Int × Int) (step := fun z : List Int × Int × Int => Z1q z.1 z.2.1 z.2.2) (n := p.length) (fun s j => (s.1, s.2, j)) (fun i s => s = (upFrom n i ++ p.drop i, n + i)) (fun o => o = (n + p.length, upFrom n p.length)) (by omega) (by
  rintro i s hi rfl
  have e0 : p.drop i = p[i] :: p.drop (i + 1) := List.drop_eq_getElem_cons hi
  generalize hR : p.drop (i + 1) = R at e0
  generalize p[i] = u at e0
  refine ⟨(upFrom n (i + 1) ++ R, n + i + 1), ?_, by simp; omega⟩
  have hlen : (upFrom n i ++ p.drop i).length = p.length := by rw [List.length_append, upFrom_len, List.length_drop]; omega
  simp only [Z1q]
  rw [hlen, dlt hi, cond_true, e0, get_mid (X := upFrom n i) (u := u) (Y := R) rfl (upFrom_len i n).symm, Option.bind_some, Int.toNat_natCast, set_mid (X := upFrom n i) (u := u) (Y := R) rfl (upFrom_len i n).symm, wrap1 hi (by omega), wrap_id (by omega) (by omega), upFrom_succ]
  simp) (by
  rintro s rfl
  simp only [Z1q]
  rw [show (upFrom n p.length ++ p.drop p.length).length = p.length by simp [upFrom_len], dnlt, cond_false]
  exact ⟨_, rfl, by simp⟩) (s := (p, n)) (by simp [upFrom])
 rw [e1, Option.bind_some]; rfl

theorem c_heldInt64S (k : Nat) (n : Int) (hk : k ≤ 1048576) (h0 : 0 ≤ n) (hn : n ≤ 1000000000000000) : Z5k (upFrom n k) n = some (n + k) := by
 unfold Z5k
 obtain ⟨o, e1, rfl⟩ := loop_state (τ := Int × Int) (ω := Int ⊕ Int) (σ := Int) (step := fun z : Int × Int => Z1o (upFrom n k) z.1 z.2) (n := k) (fun s j => (s, j)) (fun i s => s = n + i) (fun o => o = .inr (n + k)) (by omega) (by
  rintro i s hi rfl
  refine ⟨n + i + 1, ?_, by omega⟩
  simp only [Z1o, upFrom_len]
  have hi' : i < (upFrom n k).length := by rw [upFrom_len]; exact hi
  rw [dlt hi, cond_true, get_of_lt hi', Option.bind_some, upFrom_get, bned, decide_eq_true rfl, wrap1 hi (by omega), wrap_id (by omega) (by omega)]; rfl) (by
  rintro s rfl
  simp only [Z1o, upFrom_len]
  rw [dnlt, cond_false]
  exact ⟨_, rfl, rfl⟩) (s := n) (by simp)
 rw [e1, Option.bind_some]; rfl

theorem c_markText (n : Int) (h0 : 0 ≤ n) (hn : n ≤ 1000000000000000) : ∃ t, Z7l n = some t := by
 unfold Z7l
 by_cases h : n ≤ 0
 ·
  rw [decide_eq_true h]; exact ⟨_, rfl⟩
 ·
  rw [decide_eq_false h, cond_false]
  obtain ⟨o, e1, e2⟩ := iter_total (step := fun z : Int × ByteArray => Z3f z.1 z.2) (p := fun o : ByteArray => (o.size : Int) ≤ 1000000000000000) (fun m (z : Int × ByteArray) => 0 ≤ z.1 ∧ z.1 + z.2.size ≤ 1000000000000000 ∧ m = z.1.toNat) (by
   rintro m ⟨x, t⟩ ⟨hx, hs, rfl⟩
   simp only at hx hs
   simp only [Z3f]
   by_cases hp : x > 0
   ·
    right
    have hsz : ∀ k : Int, (strOf [k]).size = 1 := fun k => rfl
    have hd : 0 ≤ Int.tdiv x 10 ∧ Int.tdiv x 10 < x := by
     rw [Int.tdiv_eq_ediv_of_nonneg hx]; omega
    rw [decide_eq_true hp, cond_true, chk_t (decide_eq_true (by rw [hsz]; omega)), Option.bind_some, wrap_id (n := Int.tdiv x 10) (by omega) (by omega)]
    refine ⟨_, (Int.tdiv x 10).toNat, rfl, by omega, hd.1, ?_, rfl⟩
    simp only [ByteArray.size_append, hsz]; omega
   ·
    left
    rw [decide_eq_false hp, cond_false]
    exact ⟨_, rfl, by omega⟩) big n.toNat (n, ByteArray.empty) ⟨h0, by simp; omega, rfl⟩ (big_gt (by omega))
  rw [e1, Option.bind_some]
  unfold Z7m
  rw [chk_t (decide_eq_true (by show 1 + o.size ≤ _; omega))]
  exact ⟨_, rfl⟩

theorem get_set_self {α : Type} {l : List α} {k : Nat} {v : α} (hk : k < l.length) : getI (l.set k v) (k : Int) = some v := by rw [getI_set hk, if_pos rfl]

theorem c_markEventS (p : List TEvent) (n : Int) (hp : Small p) (h0 : 0 ≤ n) (hn : n ≤ 100000000000000) : ∃ r, Z5l p n = some r ∧ 0 ≤ r.1 ∧ r.1 ≤ n + p.length * 2000000 := by
 have hl := hp.1
 unfold Z5l
 obtain ⟨o, e1, e2⟩ := loop_state (τ := List TEvent × Int × Int) (ω := Int × List TEvent) (σ := List TEvent × Int) (step := fun z : List TEvent × Int × Int => Z1p z.1 z.2.1 z.2.2) (n := p.length) (fun s j => (s.1, s.2, j)) (fun i s => s.1.length = p.length ∧ (∀ e ∈ s.1, e.prev.length ≤ 1048576) ∧ 0 ≤ s.2 ∧ s.2 ≤ n + i * 2000000) (fun o => 0 ≤ o.1 ∧ o.1 ≤ n + p.length * 2000000) (by omega) (by
  rintro i ⟨l, k⟩ hi ⟨hll, hpl, hk0, hk⟩
  simp only at hll hpl hk0 hk
  have hil : i < l.length := by omega
  have w : ∀ x : Int, 0 ≤ x → x ≤ 1000000000000000 → IntKind.i64.wrap (x + 1) = x + 1 := fun x h1 h2 => wrap_id (by omega) (by omega)
  obtain ⟨t, ht⟩ := c_markText (k + 1 + 1 + 1 + 1 + 1 + 1) (by omega) (by omega)
  have hmk := c_markInt64S l[i].prev (k + 1 + 1 + 1 + 1 + 1 + 1 + 1) (hpl _ (List.getElem_mem hil)) (by omega) (by omega)
  have hpi := hpl _ (List.getElem_mem hil)
  have hw := wrap1 hi (by omega : p.length < 9223372036854775807)
  simp only [Z1p]
  rw [w k hk0 (by omega), w (k + 1) (by omega) (by omega), w (k + 1 + 1) (by omega) (by omega), w (k + 1 + 1 + 1) (by omega) (by omega), w (k + 1 + 1 + 1 + 1) (by omega) (by omega), w (k + 1 + 1 + 1 + 1 + 1) (by omega) (by omega), w (k + 1 + 1 + 1 + 1 + 1 + 1) (by omega) (by omega)]
  rw [decide_eq_true (by omega : (i : Int) < (l.length : Int)), cond_true, get_of_lt hil, Option.bind_some]
  simp only [Int.toNat_natCast, get_set_self, List.length_set, hil, Option.bind_some, ht, List.set_set, hmk, hw]
  rw [w _ (by omega) (by omega)]
  refine ⟨(_, _), rfl, by simp [hll], fun e he => ?_, by simp only; omega, by simp only; omega⟩
  simp only at he
  rcases List.mem_or_eq_of_mem_set he with h | h
  ·
   exact hpl e h
  ·
   subst h; simp only [upFrom_len]; exact hpi) (by
  rintro ⟨l, k⟩ ⟨hll, _, hk0, hk⟩
  simp only at hll hk0 hk
  simp only [Z1p]
  rw [hll, dnlt, cond_false]
  exact ⟨_, rfl, hk0, hk⟩) (s := (p, n)) ⟨rfl, fun e he => (hp.2 e he).1, h0, by simp⟩
 rw [e1, Option.bind_some]
 exact ⟨_, rfl, e2⟩

theorem c_markGraph (g : TGraph') (n : Int) (he : Small g.events) (hp : Small g.parked) (h0 : 0 ≤ n) (hn : n ≤ 1000000) : ∃ r, Z7k g n = some r ∧ 0 ≤ r.1 := by
 have h1 := he.1
 obtain ⟨r, e1, e2, e3⟩ := c_markEventS g.events n he h0 (by omega)
 obtain ⟨r', e4, e5, _⟩ := c_markEventS g.parked r.1 hp e2 (by omega)
 unfold Z7k
 rw [e1, Option.bind_some, e4]
 exact ⟨_, rfl, e5⟩
end Go.Proofs.YtnndihmamfomcaaGreat
