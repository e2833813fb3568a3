/- Plain laws for the graphs: events in order. -/
import Derived.Test.YtnndihmamfomcaaGreatCGR
set_option autoImplicit false
set_option linter.unusedVariables false
set_option linter.unusedSimpArgs false
namespace Go.Proofs.YtnndihmamfomcaaGreat
open Go Go.Abs

def refB (h : THistory) (id : Int) : Bool := decide (Option.getD (mget h.refused id) 0 = 0)
def inOrd (h : THistory) : List TEvent := ((ordIds h.graph.events).filter (refB h)).map (evD h.graph.events)

theorem ordD {l : List TEvent} (hf : Fits l) {i : Nat} (hi : i < (ordIds l).length) : evAt l (ordIds l)[i] = some (evD l (ordIds l)[i]) ∧ evD l (ordIds l)[i] ∈ l ∧ (evD l (ordIds l)[i]).id = (ordIds l)[i] :=
 evD_is ((ordIds_mem hf).1 (List.getElem_mem hi)) hf.up

theorem fold_if_filter {α β γ : Type} (p : α → Bool) (f : α → β) (g : γ → β → γ) : ∀ (l : List α) (s : γ), l.foldl (fun s x => if p x = true then g s (f x) else s) s = ((l.filter p).map f).foldl g s
 | [], _ => rfl
 | x :: l, s => by
  rw [List.foldl_cons]
  cases h : p x with
  | true => rw [if_pos rfl, List.filter_cons_of_pos h, List.map_cons, List.foldl_cons, fold_if_filter p f g l]
  | false => rw [if_neg (by simp), List.filter_cons_of_neg (by simp [h]), fold_if_filter p f g l]

theorem c_inOrder {h : THistory} (hr : Right h.graph) : Z79 h = some (inOrd h) := by
 have hfl := hr.fits.len
 have hol := ordIds_len hr.fits
 unfold Z79
 rw [c_order hr.fits, Option.bind_some]
 have := loop_fold (l := ordIds h.graph.events) (step := fun z : List TEvent × Int => Z1j h (ordIds h.graph.events) z.1 z.2) (fun q j => (q, j)) (fun q => q) (fun q id => if refB h id = true then q ++ [evD h.graph.events id] else q) (fun i q => q.length ≤ i) (by omega) (fun i q hi hq => by
  refine ⟨?_, by split <;> first | omega | (rw [List.length_append, List.length_singleton]; omega)⟩
  simp only [Z1j]
  rw [dlt hi, cond_true, get_of_lt hi, Option.bind_some, c_at _ _ hr.fits.up (by omega), Option.bind_some, (ordD hr.fits hi).1, beqd]
  simp only [Z5e, wrap1 hi (by omega : (ordIds h.graph.events).length < 9223372036854775807), Option.getD_some]
  unfold refB
  by_cases hc : Option.getD (mget h.refused (ordIds h.graph.events)[i]) 0 = 0
  ·
   rw [decide_eq_true hc, cond_true, if_pos rfl, chk96 (by simp; omega), Option.bind_some]
  ·
   rw [decide_eq_false hc, cond_false, if_neg (by simp)])
  (fun q _ => by simp only [Z1j]; rw [dnlt, cond_false]) (s := []) (by simp)
 rw [this.1, Option.bind_some, fold_if_filter (refB h) (evD h.graph.events) (fun q e => q ++ [e]), map_append_fold (fun e => e)]
 unfold inOrd Z7a
 simp

theorem inOrd_len {h : THistory} (hr : Right h.graph) : (inOrd h).length ≤ 60 := by
 unfold inOrd
 rw [List.length_map]
 have := List.length_filter_le (refB h) (ordIds h.graph.events)
 have := ordIds_len hr.fits
 have := hr.fits.len
 omega
theorem inOrd_mem {h : THistory} (hr : Right h.graph) {e : TEvent} (he : e ∈ inOrd h) : e ∈ h.graph.events ∧ refB h e.id = true := by
 unfold inOrd at he
 obtain ⟨id, h1, rfl⟩ := List.mem_map.1 he
 obtain ⟨h2, h3⟩ := List.mem_filter.1 h1
 obtain ⟨_, h4, h5⟩ := evD_is ((ordIds_mem hr.fits).1 h2) hr.fits.up
 exact ⟨h4, by rw [h5]; exact h3⟩

theorem Both.code {g : TGraph'} {h : THistory} {w : TL06Known} (hb : Both g h w) {e : TEvent} (he : e ∈ g.events) : ∃ c, getI w.code (plc g.events e.id) = some c ∧ Option.getD (mget h.refused e.id) 0 = c := by
 have hk := hb.all e he
 exact ⟨_, hk.gc, by rw [hk.mR]; rfl⟩
theorem Both.behind {g : TGraph'} {h : THistory} {w : TL06Known} (hb : Both g h w) (hr : Right g) {e : TEvent} (he : e ∈ g.events) : getI w.behind (plc g.events e.id) = some (behI h.after e.id) ∧ StOk g.events (behI h.after e.id) := by
 have hk := hb.all e he
 have e1 : behI h.after e.id = nextOf g (resOf g (e.prev.map (behI h.after))) e := by
  show Option.getD (mget h.after e.id) [] = _
  rw [hk.mA]; rfl
 rw [e1]
 exact ⟨hk.gb, nextOf_ok hr.fits.up hk.ok he⟩
theorem Both.ahead {g : TGraph'} {h : THistory} {w : TL06Known} (hb : Both g h w) {e : TEvent} (he : e ∈ g.events) : getI w.ahead (plc g.events e.id) = some (behI h.before e.id) ∧ StOk g.events (behI h.before e.id) := by
 have hk := hb.all e he
 have e1 : behI h.before e.id = resOf g (e.prev.map (behI h.after)) := by
  show Option.getD (mget h.before e.id) [] = _
  rw [hk.mB]; rfl
 rw [e1]
 exact ⟨hk.ga, hk.ok⟩

theorem Right.sts {g : TGraph'} (hr : Right g) {s : List TEntry} (hs : StOk g.events s) : Sts g s := (Mrg.mk (ls := []) hr.fits hr.ev hr.deep (fun s hs => by cases hs) (by simp)).sts hs

end Go.Proofs.YtnndihmamfomcaaGreat
