/- Plain laws for the graphs: events in order. -/
import Derived.Test.YtnndihmamfomcaaGreatCGR
set_option autoImplicit false
set_option linter.unusedVariables false
set_option linter.unusedSimpArgs false
namespace Go.Proofs.YtnndihmamfomcaaGreat
open Go Go.Abs

def refB (h : THistory) (id : Int) : Bool := decide (Option.getD (mget h.refused id) 0 = 0)
theorem Both.code {g : TGraph'} {h : THistory} {w : TL06Known} (hb : Both g h w) {e : TEvent} (he : e ∈ g.events) : ∃ c, getI w.code (plc g.events e.id) = some c ∧ Option.getD (mget h.refused e.id) 0 = c := by
 have hk := hb.all e he
 exact ⟨_, hk.gc, by rw [hk.mR]; rfl⟩
theorem Both.behind {g : TGraph'} {h : THistory} {w : TL06Known} (hb : Both g h w) (hr : Right g) {e : TEvent} (he : e ∈ g.events) : getI w.behind (plc g.events e.id) = some (behI h.after e.id) ∧ StOk g.events (behI h.after e.id) := by
 have hk := hb.all e he
 have e1 : behI h.after e.id = nextOf g (resOf g (e.prev.map (behI h.after))) e := by
  show Option.getD (mget h.after e.id) [] = _
  rw [hk.mA]; rfl
 rw [e1]
 exact ⟨hk.gb, nextOf_ok hr.fits.up hk.ok he⟩
theorem Both.ahead {g : TGraph'} {h : THistory} {w : TL06Known} (hb : Both g h w) {e : TEvent} (he : e ∈ g.events) : getI w.ahead (plc g.events e.id) = some (behI h.before e.id) ∧ StOk g.events (behI h.before e.id) := by
 have hk := hb.all e he
 have e1 : behI h.before e.id = resOf g (e.prev.map (behI h.after)) := by
  show Option.getD (mget h.before e.id) [] = _
  rw [hk.mB]; rfl
 rw [e1]
 exact ⟨hk.ga, hk.ok⟩

theorem Right.sts {g : TGraph'} (hr : Right g) {s : List TEntry} (hs : StOk g.events s) : Sts g s := (Mrg.mk (ls := []) hr.fits hr.ev hr.deep (fun s hs => by cases hs) (by simp)).sts hs

end Go.Proofs.YtnndihmamfomcaaGreat
