/- Plain laws: sizes, copies, comparisons and marks of graphs. -/
import Derived.Test.YtnndihmamfomcaaGreatCGS
set_option autoImplicit false
set_option linter.unusedVariables false
set_option linter.unusedSimpArgs false
namespace Go.Proofs.YtnndihmamfomcaaGreat
open Go Go.Abs


theorem c_szInt64S (p : List Int) (n : Int) (hp : p.length ≤ maxLen) (h0 : 0 ≤ n) (hn : n ≤ 1048576) : ∃ r, Z7z p n = some r ∧ ((0 ≤ r ∧ r ≤ n ∧ p.length ≤ 1048576) ∨ r = -1) := by
 simp only [maxLen] at hp
 unfold Z7z
 rw [wrap_id (by omega) (by omega)]
 by_cases h : n - (p.length : Int) < 0
 ·
  rw [decide_eq_true h]; exact ⟨_, rfl, .inr rfl⟩
 ·
  rw [decide_eq_false h]; exact ⟨_, rfl, .inl ⟨by omega, by omega, by omega⟩⟩

structure EvIn (e : TEvent) : Prop where
 text : e.text.size ≤ maxLen
 prev : e.prev.length ≤ maxLen

theorem c_szEvent (e : TEvent) (n : Int) (he : EvIn e) (h0 : 0 ≤ n) (hn : n ≤ 1048576) : ∃ r, Z7x e n = some r ∧ ((0 ≤ r ∧ r ≤ n ∧ e.prev.length ≤ 1048576 ∧ e.text.size ≤ 1048576) ∨ r = -1) := by
 have ht := he.text
 simp only [maxLen] at ht
 unfold Z7x
 rw [wrap_id (by omega) (by omega)]
 by_cases h : n - (e.text.size : Int) < 0
 ·
  rw [decide_eq_true h]; exact ⟨_, rfl, .inr rfl⟩
 ·
  rw [decide_eq_false h, cond_false]
  obtain ⟨r, h1, h2⟩ := c_szInt64S e.prev (n - (e.text.size : Int)) he.prev (by omega) (by omega)
  rw [h1, Option.bind_some]
  rcases h2 with ⟨h2, h3, h4⟩ | rfl
  ·
   rw [decide_eq_false (by omega)]; exact ⟨_, rfl, .inl ⟨h2, by omega, h4, by omega⟩⟩
  ·
   exact ⟨_, rfl, .inr rfl⟩

def Small (l : List TEvent) : Prop := l.length ≤ 1048576 ∧ ∀ e ∈ l, e.prev.length ≤ 1048576 ∧ e.text.size ≤ 1048576

theorem c_szEventS (p : List TEvent) (n : Int) (hl : p.length ≤ maxLen) (hp : ∀ e ∈ p, EvIn e) (h0 : 0 ≤ n) (hn : n ≤ 1048576) : ∃ r, Z5o p n = some r ∧ ((0 ≤ r ∧ r ≤ n ∧ Small p) ∨ r = -1) := by
 simp only [maxLen] at hl
 unfold Z5o
 rw [wrap_id (by omega) (by omega)]
 by_cases h : n - (p.length : Int) < 0
 ·
  rw [decide_eq_true h]; exact ⟨_, rfl, .inr rfl⟩
 ·
  rw [decide_eq_false h, cond_false]
  obtain ⟨o, h1, h2⟩ := loop_state_out (τ := Int × Int) (ω := Int ⊕ Int) (σ := Int) (step := fun z : Int × Int => Z1v p z.1 z.2) (n := p.length) (fun s j => (s, j))
   (fun i s => 0 ≤ s ∧ s ≤ n ∧ ∀ (j : Nat) (hj : j < p.length), j < i → p[j].prev.length ≤ 1048576 ∧ p[j].text.size ≤ 1048576) (fun o => o = .inl (-1) ∨ ∃ r, o = .inr r ∧ 0 ≤ r ∧ r ≤ n ∧ Small p) (by omega) (by
   rintro i s hi ⟨hs0, hsn, hI⟩
   obtain ⟨r, e1, e2⟩ := c_szEvent p[i] s (hp _ (List.getElem_mem hi)) hs0 (by omega)
   simp only [Z1v]
   rw [dlt hi, cond_true, get_of_lt hi, Option.bind_some, e1, Option.bind_some, wrap1 hi (by omega)]
   rcases e2 with ⟨e2, e3, e4⟩ | rfl
   ·
    rw [decide_eq_false (by omega), cond_false]
    refine .inl ⟨r, rfl, e2, by omega, fun j hj hji => ?_⟩
    rcases Nat.lt_or_ge j i with h | h
    ·
     exact hI j hj h
    ·
     obtain rfl : j = i := by omega
     exact e4
   ·
    exact .inr ⟨_, rfl, .inl rfl⟩) (by
   rintro s ⟨hs0, hsn, hI⟩
   simp only [Z1v]
   rw [dnlt, cond_false]
   refine ⟨_, rfl, .inr ⟨s, rfl, hs0, hsn, by omega, fun e he => ?_⟩⟩
   obtain ⟨j, hj, rfl⟩ := List.mem_iff_getElem.1 he
   exact hI j hj hj) (s := n - (p.length : Int)) ⟨by omega, by omega, fun j hj h => by omega⟩
  rw [h1, Option.bind_some]
  rcases h2 with rfl | ⟨r, rfl, h3⟩
  ·
   exact ⟨_, rfl, .inr rfl⟩
  ·
   exact ⟨_, rfl, .inl h3⟩

structure GIn (g : TGraph) : Prop where
 el : g.events.length ≤ maxLen
 pl : g.parked.length ≤ maxLen
 ev : ∀ e ∈ g.events, EvIn e
 pv : ∀ e ∈ g.parked, EvIn e

theorem c_szGraph (g : TGraph) (n : Int) (hg : GIn g) (h0 : 0 ≤ n) (hn : n ≤ 1048576) : ∃ r, Z7y g n = some r ∧ ((0 ≤ r ∧ r ≤ n ∧ Small g.events ∧ Small g.parked) ∨ r = -1) := by
 unfold Z7y
 obtain ⟨r, h1, h2⟩ := c_szEventS g.events n hg.el hg.ev h0 hn
 rw [h1, Option.bind_some]
 rcases h2 with ⟨h2, h3, h4⟩ | rfl
 ·
  rw [decide_eq_false (by omega), cond_false]
  obtain ⟨r', h5, h6⟩ := c_szEventS g.parked r hg.pl hg.pv h2 (by omega)
  rw [h5, Option.bind_some]
  rcases h6 with ⟨h6, h7, h8⟩ | rfl
  ·
   rw [decide_eq_false (by omega)]; exact ⟨_, rfl, .inl ⟨h6, by omega, h4, h8⟩⟩
  ·
   exact ⟨_, rfl, .inr rfl⟩
 ·
  exact ⟨_, rfl, .inr rfl⟩


theorem loop_copy {α β : Type} {xs : List α} {z : β} (f : α → β) {step : List β × Int → Option ((List β × Int) ⊕ List β)} (hl : xs.length < 9223372036854775807)
  (h1 : ∀ (i : Nat) (s : List β) (hi : i < xs.length), s.length = xs.length → step (s, (i : Int)) = some (.inl (s.set i (f xs[i]), ((i + 1 : Nat) : Int)))) (h2 : ∀ s : List β, step (s, (xs.length : Int)) = some (.inr s)) :
  iter step big (List.replicate xs.length z, 0) = some (xs.map f) := by
 obtain ⟨o, e1, rfl⟩ := loop_state (τ := List β × Int) (ω := List β) (σ := List β) (step := step) (n := xs.length) (fun s j => (s, j)) (fun i s => s = (xs.take i).map f ++ List.replicate (xs.length - i) z) (fun o => o = xs.map f) hl (by
  rintro i s hi rfl
  refine ⟨_, h1 i _ hi (by simp; omega), ?_⟩
  have e0 : List.replicate (xs.length - i) z = z :: List.replicate (xs.length - (i + 1)) z := by
   rw [show xs.length - i = (xs.length - (i + 1)) + 1 by omega, List.replicate_succ]
  have e1 : xs.take (i + 1) = xs.take i ++ [xs[i]] := by rw [List.take_add_one, List.getElem?_eq_getElem hi]; rfl
  rw [e0, set_mid (X := (xs.take i).map f) (u := z) (Y := List.replicate (xs.length - (i + 1)) z) rfl (by simp; omega), e1, List.map_append, List.append_assoc]
  rfl) (by
  rintro s rfl
  exact ⟨_, h2 _, by simp⟩) (s := List.replicate xs.length z) (by simp)
 exact e1

theorem c_toInt64S (p : List Int) (hp : p.length ≤ 1048576) : Z82 p = some p := by
 unfold Z82
 rw [chk_t (decide_eq_true ⟨by omega, by omega⟩), Option.bind_some, Int.toNat_natCast]
 rw [loop_copy (xs := p) (fun x => x) (by omega) (fun i s hi hs => by
  simp only [Z3l]
  rw [dlt hi, cond_true, get_of_lt hi, Option.bind_some, get_of_lt (by omega : i < s.length), Option.bind_some, wrap1 hi (by omega), Int.toNat_natCast]) (fun s => by simp only [Z3l]; rw [dnlt, cond_false])]
 simp [Z83]

theorem c_toEvent (e : TEvent) (hp : e.prev.length ≤ 1048576) : Z80 e = some e := by
 unfold Z80
 rw [c_toInt64S _ hp]; rfl

theorem c_toEventS (p : List TEvent) (hp : Small p) : Z5p p = some p := by
 have hl := hp.1
 unfold Z5p
 rw [chk_t (decide_eq_true ⟨by omega, by omega⟩), Option.bind_some, Int.toNat_natCast]
 rw [loop_copy (xs := p) (fun x => x) (by omega) (fun i s hi hs => by
  simp only [Z3k]
  rw [dlt hi, cond_true, get_of_lt hi, Option.bind_some, c_toEvent _ (hp.2 _ (List.getElem_mem hi)).1, Option.bind_some, get_of_lt (by omega : i < s.length), Option.bind_some, wrap1 hi (by omega), Int.toNat_natCast]) (fun s => by simp only [Z3k]; rw [dnlt, cond_false])]
 simp [Z81]

def toG (g : TGraph) : TGraph' := TGraph'.mk g.room g.events g.parked
theorem c_toGraph (g : TGraph) (he : Small g.events) (hp : Small g.parked) : Z1w g = some (toG g) := by
 unfold Z1w
 rw [c_toEventS _ he, Option.bind_some, c_toEventS _ hp]; rfl

theorem toG_fine {g : TGraph} (he : Small g.events) (hp : Small g.parked) : Fine (toG g) := ⟨he.1, hp.1, fun e h => (he.2 e h).1, fun e h => (hp.2 e h).1⟩


theorem c_eqInt64S (p : List Int) (hp : p.length ≤ 1048576) : Z7w p p = some true := by
 unfold Z7w
 rw [bned, decide_eq_true rfl]
 simp only [Bool.not_true, cond_false]
 rw [loop_allL (l := p) (fun _ => true) (.inl false) (.inr ()) (by omega) (fun i hi => by
  simp only [Z3j]
  rw [dlt hi, cond_true, get_of_lt hi, Option.bind_some, Option.bind_some, bned, decide_eq_true rfl, wrap1 hi (by omega)]; rfl) (by simp only [Z3j]; rw [dnlt, cond_false])]
 rw [show (p.all fun _ => true) = true by simp]; rfl

theorem c_eqEvent (e : TEvent) (hp : e.prev.length ≤ 1048576) : Z7u e e = some true := by
 unfold Z7u
 rw [c_eqInt64S _ hp]
 simp

theorem c_eqEventS (p : List TEvent) (hp : Small p) : Z5n p p = some true := by
 have hl := hp.1
 unfold Z5n
 rw [bned, decide_eq_true rfl]
 simp only [Bool.not_true, cond_false]
 rw [loop_allL (l := p) (fun _ => true) (.inl false) (.inr ()) (by omega) (fun i hi => by
  simp only [Z3i]
  rw [dlt hi, cond_true, get_of_lt hi, Option.bind_some, Option.bind_some, c_eqEvent _ (hp.2 _ (List.getElem_mem hi)).1, Option.bind_some, wrap1 hi (by omega)]; rfl) (by simp only [Z3i]; rw [dnlt, cond_false])]
 rw [show (p.all fun _ => true) = true by simp]; rfl

theorem c_eqGraph (g : TGraph') (he : Small g.events) (hp : Small g.parked) : Z7v g g = some true := by
 unfold Z7v
 rw [c_eqEventS _ he, c_eqEventS _ hp]
 simp


end Go.Proofs.YtnndihmamfomcaaGreat
