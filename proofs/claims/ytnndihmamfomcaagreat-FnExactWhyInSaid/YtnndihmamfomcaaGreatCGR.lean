/- Plain laws for the graphs: the history of a graph, alike on both sides (end). -/
import Derived.Test.YtnndihmamfomcaaGreatCGQ
set_option autoImplicit false
set_option linter.unusedVariables false
set_option linter.unusedSimpArgs false
namespace Go.Proofs.YtnndihmamfomcaaGreat
open Go Go.Abs

theorem map_append_fold {α β : Type} (f : α → β) : ∀ (r : List α) (q : List β), r.foldl (fun q p => q ++ [f p]) q = q ++ r.map f
 | [], q => by simp
 | p :: r, q => by rw [List.foldl_cons, map_append_fold f r]; simp

theorem Zeo {g : TGraph'} (hr : Right g) {od : List Int} {ah bh : List (List TEntry)} {cd : List Int} (ls : Int → List TEntry) {i : Nat} (hi : i < od.length) (hil : i < g.events.length) {k : Nat} (hk : k < g.events.length) (hid : od[i] = g.events[k].id)
  (la : ah.length = g.events.length) (lb : bh.length = g.events.length) (lc : cd.length = g.events.length) (hpl : ∀ p ∈ g.events[k].prev, StOk g.events (ls p) ∧ getI bh (plc g.events p) = some (ls p)) :
  Z16 g (depthsOf g.events) od ah bh cd (i : Int) = some (.inl (ah.set k (resOf g (g.events[k].prev.map ls)), bh.set k (nextOf g (resOf g (g.events[k].prev.map ls)) g.events[k]), cd.set k (codeOf g (resOf g (g.events[k].prev.map ls)) g.events[k]), ((i + 1 : Nat) : Int))) := by
 have hfl := hr.fits.len
 have he : g.events[k] ∈ g.events := List.getElem_mem hk
 have hev := hr.ev _ he
 have hp4 := hev.prev.1
 have hplc := (hr.fits.up.plc hk).1
 simp only [Z16]
 rw [dlt hil, cond_true, get_of_lt hi, Option.bind_some, hid, c_l03At _ _ (by omega), Option.bind_some, hplc, get_of_lt hk, Option.bind_some]
 generalize g.events[k] = e at *
 have h7 := loop_fold (l := e.prev) (step := fun z : List (List TEntry) × Int => Z2o g bh e z.1 z.2) (fun q j => (q, j)) (fun q => q) (fun q p => q ++ [ls p]) (fun i q => q.length = i) (by omega) (fun i q hi hq => by
  refine ⟨?_, by simp [hq]⟩
  simp only [Z2o]
  rw [dlt hi, cond_true, get_of_lt hi, Option.bind_some, c_l03At _ _ (by omega), Option.bind_some, (hpl _ (List.getElem_mem hi)).2, Option.bind_some, chk24 (by simp; omega), Option.bind_some, wrap1 hi (by omega)])
  (fun q _ => by simp only [Z2o]; rw [dnlt, cond_false]) (s := []) rfl
 rw [h7.1, map_append_fold, Option.bind_some, List.nil_append]
 have hm : Mrg g (e.prev.map ls) := ⟨hr.fits, hr.ev, hr.deep, fun s hs => by obtain ⟨p, hp, rfl⟩ := List.mem_map.1 hs; exact (hpl p hp).1, by simp; omega⟩
 -- any history that knows the depths
 have hkn : KnowsD (THistory.mk g (g.events.map fun e => (e.id, dmR g.events e)) [] [] []) := by
  intro e' he'
  have key : ∀ l : List TEvent, e' ∈ l → mget (l.map fun e => (e.id, dmR g.events e)) e'.id = some (dmR g.events e') := by
   intro l
   induction l with
   | nil => intro h; cases h
   | cons f l ih =>
    intro h
    simp only [List.map_cons, mget]
    by_cases hf : e'.id = f.id
    ·
     rw [if_pos hf]
     unfold dmR
     rw [hf]
    ·
     rw [if_neg hf]
     rcases List.mem_cons.1 h with rfl | h
     ·
      exact absurd rfl hf
     ·
      exact ih h
  exact key _ he'
 obtain ⟨c1, _, c3⟩ := c_resolve (h := THistory.mk g (g.events.map fun e => (e.id, dmR g.events e)) [] [] []) hm hkn
 simp only at c1 c3
 simp only [Z96]
 rw [c1, Option.bind_some, get_of_lt (by omega : k < ah.length), Option.bind_some, Int.toNat_natCast, getI_set (by omega), if_pos rfl, Option.bind_some, (c_allowed (hm.sts c3) hev.ask).1, Option.bind_some, get_of_lt (by omega : k < cd.length), Option.bind_some, getI_set (by omega), if_pos rfl, Option.bind_some, (c_ahead hr _ he).1, beqd, beqd]
 have hsl := hm.slen c3
 generalize resOf g (e.prev.map ls) = s at c3 hsl
 have hput := c_l04Put c3.up (TEntry.mk e.kind e.key e.id) (by omega)
 have w1 : IntKind.i64.wrap ((i : Int) + 1) = ((i + 1 : Nat) : Int) := wrap1 hil (by omega)
 simp only [Z4o, Z6v, Z6u, Z6t, Int.toNat_natCast, hput, List.nil_append]
 rw [chk24 (by simp; omega)]
 have hgb : ∀ v : List TEntry, getI (bh.set k v) (k : Int) = some v := fun v => by rw [getI_set (by omega), if_pos rfl]
 have hgc : ∀ v : Int, getI (cd.set k v) (k : Int) = some v := fun v => by rw [getI_set (by omega), if_pos rfl]
 have hgb0 := get_of_lt (by omega : k < bh.length)
 simp only [Option.bind_some, hgb, hgc, hgb0, w1, List.set_set, beqd]
 unfold nextOf codeOf putE
 by_cases h1 : alw g s e = 0
 ·
  by_cases h2 : e.kind = 8
  ·
   cases h3 : aheadB g e.key e with
   | false => simp [h1, h2, hgc]
   | true => simp [h1, h2, hgc]
  ·
   by_cases h4 : e.kind ≤ 6
   ·
    simp [h1, h2, h4, hgc]
   ·
    simp [h1, h2, h4, hgc]
 ·
  simp [h1, hgc]

structure Both (g : TGraph') (h : THistory) (w : TL06Known) : Prop where
 graph : h.graph = g
 depth : KnowsD h
 depths : w.depths = depthsOf g.events
 la : w.ahead.length = g.events.length
 lb : w.behind.length = g.events.length
 lc : w.code.length = g.events.length
 all : ∀ e ∈ g.events, KnowsE g (behI h.after) h.before h.after h.refused w.ahead w.behind w.code e

theorem behI_mset {A : List (Int × List TEntry)} {id p : Int} {t : List TEntry} (h : p ≠ id) : behI (mset A id t) p = behI A p := by
 unfold behI; rw [mget_mset, if_neg h]

theorem history_both {g : TGraph'} (hr : Right g) : ∃ h w, Z7q g = some h ∧ Z6s g = some w ∧ Both g h w := by
 have hfl := hr.fits.len
 obtain ⟨e0, hb⟩ := c_l03Depths hr.fits
 have hol := ordIds_len hr.fits
 -- the depths
 obtain ⟨m, hm1, hm2⟩ : ∃ m, iter (fun z : List (Int × Int) × Int => Zo g (depthsOf g.events, decide (zeros (depthsOf g.events) = 0)) z.1 z.2) big ([], 0) = some m ∧ ∀ e ∈ g.events, mget m e.id = some (dmR g.events e) := by
  obtain ⟨o, h1, h2⟩ := loop_state (τ := List (Int × Int) × Int) (ω := List (Int × Int)) (σ := List (Int × Int)) (step := fun z : List (Int × Int) × Int => Zo g (depthsOf g.events, decide (zeros (depthsOf g.events) = 0)) z.1 z.2) (n := g.events.length) (fun s j => (s, j))
   (fun i s => ∀ (j : Nat) (hj : j < g.events.length), j < i → mget s g.events[j].id = some (dmR g.events g.events[j])) (fun o => ∀ (j : Nat) (hj : j < g.events.length), mget o g.events[j].id = some (dmR g.events g.events[j])) (by omega) (by
   intro i s hi hI
   have hid : i < (depthsOf g.events).length := by rw [hb.len]; exact hi
   refine ⟨mset s g.events[i].id (depthsOf g.events)[i], ?_, fun j hj hji => ?_⟩
   ·
    simp only [Zo]
    rw [dlt hi, cond_true, get_of_lt hi, Option.bind_some, get_of_lt hid, Option.bind_some, wrap1 hi (by omega)]
   ·
    rw [mget_mset]
    by_cases he : g.events[j].id = g.events[i].id
    ·
     rw [if_pos he]
     obtain rfl := hr.fits.up.inj hj hi he
     unfold dmR dOf
     rw [(hr.fits.up.plc hj).1, get_of_lt hid]; rfl
    ·
     rw [if_neg he]
     exact hI j hj (by
      rcases Nat.lt_or_ge j i with h | h
      ·
       exact h
      ·
       obtain rfl : j = i := by omega
       exact absurd rfl he)) (by
   intro s hI
   simp only [Zo]
   rw [dnlt, cond_false]
   exact ⟨s, rfl, fun j hj => hI j hj hj⟩) (s := []) (fun j hj h => by omega)
  refine ⟨o, h1, fun e he => ?_⟩
  obtain ⟨j, hj, rfl⟩ := List.mem_iff_getElem.1 he
  exact h2 j hj
 -- the states
 have hpos : ∀ i, (hi : i < (ordIds g.events).length) → ∃ k, ∃ hk : k < g.events.length, (ordIds g.events)[i] = g.events[k].id := fun i hi => by
  obtain ⟨e, he, h1⟩ := List.mem_map.1 ((ordIds_mem hr.fits).1 (List.getElem_mem hi))
  obtain ⟨k, hk, rfl⟩ := List.mem_iff_getElem.1 he
  exact ⟨k, hk, h1.symm⟩
 obtain ⟨⟨B, A, R⟩, ⟨ah, bh, cd⟩, q1, q2, la, lb, lc, hall⟩ := loop_both (step1 := fun z : List (Int × List TEntry) × List (Int × List TEntry) × List (Int × Int) × Int => Z1u g m (ordIds g.events) z.1 z.2.1 z.2.2.1 z.2.2.2) (step2 := fun z : List (List TEntry) × List (List TEntry) × List Int × Int => Z16 g (depthsOf g.events) (ordIds g.events) z.1 z.2.1 z.2.2.1 z.2.2.2) (n := g.events.length)
  (fun (s : List (Int × List TEntry) × List (Int × List TEntry) × List (Int × Int)) j => (s.1, s.2.1, s.2.2, j)) (fun (s : List (List TEntry) × List (List TEntry) × List Int) j => (s.1, s.2.1, s.2.2, j))
  (fun i s t => t.1.length = g.events.length ∧ t.2.1.length = g.events.length ∧ t.2.2.length = g.events.length ∧ ∀ e ∈ g.events, e.id ∈ (ordIds g.events).take i → KnowsE g (behI s.2.1) s.1 s.2.1 s.2.2 t.1 t.2.1 t.2.2 e)
  (fun (s : List (Int × List TEntry) × List (Int × List TEntry) × List (Int × Int)) (t : List (List TEntry) × List (List TEntry) × List Int) => t.1.length = g.events.length ∧ t.2.1.length = g.events.length ∧ t.2.2.length = g.events.length ∧ ∀ e ∈ g.events, KnowsE g (behI s.2.1) s.1 s.2.1 s.2.2 t.1 t.2.1 t.2.2 e) (by omega) (by
  rintro i ⟨B, A, R⟩ ⟨ah, bh, cd⟩ hi ⟨la, lb, lc, hI⟩
  simp only at la lb lc hI ⊢
  have hio : i < (ordIds g.events).length := by omega
  obtain ⟨k, hk, hid⟩ := hpos i hio
  have he : g.events[k] ∈ g.events := List.getElem_mem hk
  have hevat : evAt g.events (ordIds g.events)[i] = some g.events[k] := by rw [hid]; exact (hr.fits.up.plc hk).2
  have hprev : ∀ p ∈ g.events[k].prev, ∃ f ∈ g.events, f.id = p ∧ p ∈ (ordIds g.events).take i := fun p hp => by
   obtain ⟨f, hf, hfid⟩ := has_iff.1 (hr.fits.whole _ he p hp)
   exact ⟨f, hf, hfid, ord_prev hr.fits hr.deep hio hevat hp⟩
  have hknow : ∀ p ∈ g.events[k].prev, StOk g.events (behI A p) ∧ getI bh (plc g.events p) = some (behI A p) := fun p hp => by
   obtain ⟨f, hf, hfid, ht⟩ := hprev p hp
   subst hfid
   have hk := hI f hf ht
   have e1 : behI A f.id = nextOf g (resOf g (f.prev.map (behI A))) f := by
    show Option.getD (mget A f.id) [] = _
    rw [hk.mA]; rfl
   rw [e1]
   exact ⟨nextOf_ok hr.fits.up hk.ok hf, hk.gb⟩
  have hks : KnowsD (THistory.mk g m B A R) := hm2
  have s1 := Zcf (h := THistory.mk g m B A R) hr hks he (fun p hp => (hknow p hp).1)
  have s2 := Zeo hr (od := ordIds g.events) (ah := ah) (bh := bh) (cd := cd) (behI A) hio hi hk hid la lb lc hknow
  have hm : Mrg g (g.events[k].prev.map (behI A)) := ⟨hr.fits, hr.ev, hr.deep, fun s hs => by obtain ⟨p, hp, rfl⟩ := List.mem_map.1 hs; exact (hknow p hp).1, by have := (hr.ev _ he).prev.1; simp; omega⟩
  have hsok := (c_resolve (h := THistory.mk g m B A R) hm hks).2.2
  simp only at s1 hsok
  refine ⟨(mset B g.events[k].id (resOf g (g.events[k].prev.map (behI A))), mset A g.events[k].id (nextOf g (resOf g (g.events[k].prev.map (behI A))) g.events[k]), mset R g.events[k].id (codeOf g (resOf g (g.events[k].prev.map (behI A))) g.events[k])), (ah.set k (resOf g (g.events[k].prev.map (behI A))), bh.set k (nextOf g (resOf g (g.events[k].prev.map (behI A))) g.events[k]), cd.set k (codeOf g (resOf g (g.events[k].prev.map (behI A))) g.events[k])), ?_, s2, by simp [la], by simp [lb], by simp [lc], ?_⟩
  ·
   simp only [Z1u]
   rw [dlt hio, cond_true, get_of_lt hio, Option.bind_some, c_at _ _ hr.fits.up (by omega), hevat, Option.bind_some]
   simp only [Option.getD_some]
   rw [s1, Option.bind_some, wrap1 hio (by omega)]
  ·
   intro e hem het
   have hself : ∀ p ∈ g.events[k].prev, p ≠ g.events[k].id := fun p hp => ((hr.ev _ he).prev.2.1 p hp).2.2
   have hpk := (hr.fits.up.plc hk).1
   by_cases hek : e = g.events[k]
   ·
    subst hek
    have e1 : g.events[k].prev.map (behI (mset A g.events[k].id (nextOf g (resOf g (g.events[k].prev.map (behI A))) g.events[k]))) = g.events[k].prev.map (behI A) := List.map_congr_left fun p hp => behI_mset (hself p hp)
    refine ⟨?_, ?_, ?_, ?_, ?_, ?_, ?_⟩
    ·
     simp only [e1]; exact hsok
    ·
     simp only [e1]; rw [mget_mset, if_pos rfl]
    ·
     simp only [e1]; rw [mget_mset, if_pos rfl]
    ·
     simp only [e1]; rw [mget_mset, if_pos rfl]
    ·
     simp only [e1]; rw [hpk, getI_set (by omega), if_pos rfl]
    ·
     simp only [e1]; rw [hpk, getI_set (by omega), if_pos rfl]
    ·
     simp only [e1]; rw [hpk, getI_set (by omega), if_pos rfl]
   ·
    have hne : e.id ≠ g.events[k].id := fun h => hek (by
     obtain ⟨j, hj, rfl⟩ := List.mem_iff_getElem.1 hem
     obtain rfl := hr.fits.up.inj hj hk h
     rfl)
    have het' : e.id ∈ (ordIds g.events).take i := by
     rw [List.take_add_one, List.getElem?_eq_getElem hio, hid] at het
     rcases List.mem_append.1 het with h | h
     ·
      exact h
     ·
      simp at h; exact absurd h hne
    obtain ⟨j, hj, hji, hje⟩ := mem_take het'
    have hpn : ∀ p ∈ e.prev, p ≠ g.events[k].id := fun p hp hpe => by
     have h1 := ord_prev hr.fits hr.deep hj (e := e) (by rw [hje]; exact hr.fits.up.evAt_mem hem) hp
     obtain ⟨u, hu, huj, hue⟩ := mem_take h1
     have : u = i := by
      have hnd := ordIds_nodup hr.fits
      exact (List.getElem_inj (h₀ := hu) (h₁ := hio) hnd).1 (by rw [hue, hpe, hid])
     omega
    have e1 : e.prev.map (behI (mset A g.events[k].id (nextOf g (resOf g (g.events[k].prev.map (behI A))) g.events[k]))) = e.prev.map (behI A) := List.map_congr_left fun p hp => behI_mset (hpn p hp)
    have hK := hI e hem het'
    obtain ⟨ke, hke, hkp, _, _⟩ := plc_has (has_of_mem hem)
    have hkk : ke ≠ k := fun h => by
     subst h
     have := hr.fits.up.plc hke
     obtain ⟨j2, hj2, hje2⟩ := List.mem_iff_getElem.1 hem
     have h3 := (hr.fits.up.plc hj2).1
     rw [hje2, hkp] at h3
     have : j2 = ke := by omega
     subst this
     exact hek hje2.symm
    refine ⟨?_, ?_, ?_, ?_, ?_, ?_, ?_⟩
    ·
     simp only [e1]; exact hK.ok
    ·
     simp only [e1]; rw [mget_mset, if_neg hne]; exact hK.mB
    ·
     simp only [e1]; rw [mget_mset, if_neg hne]; exact hK.mR
    ·
     simp only [e1]; rw [mget_mset, if_neg hne]; exact hK.mA
    ·
     simp only [e1]; rw [hkp, getI_set (by omega), if_neg hkk, ← hkp]; exact hK.ga
    ·
     simp only [e1]; rw [hkp, getI_set (by omega), if_neg hkk, ← hkp]; exact hK.gc
    ·
     simp only [e1]; rw [hkp, getI_set (by omega), if_neg hkk, ← hkp]; exact hK.gb) (by
  rintro ⟨B, A, R⟩ ⟨ah, bh, cd⟩ ⟨la, lb, lc, hI⟩
  simp only at la lb lc hI
  refine ⟨(B, A, R), (ah, bh, cd), ?_, ?_, la, lb, lc, fun e he => hI e he ?_⟩
  ·
   simp only [Z1u]
   rw [hol, dnlt, cond_false]
  ·
   simp only [Z16]
   rw [dnlt, cond_false]
  ·
   rw [List.take_of_length_le (by omega)]
   exact (ordIds_mem hr.fits).2 (List.mem_map.2 ⟨e, he, rfl⟩)) (s := ([], [], [])) (t := (List.replicate g.events.length [], List.replicate g.events.length [], List.replicate g.events.length 0)) ⟨by simp, by simp, by simp, fun e _ h => by simp at h⟩
 simp only at q1 q2 la lb lc hall
 refine ⟨THistory.mk g m B A R, TL06Known.mk (depthsOf g.events) ah bh cd, ?_, ?_, rfl, hm2, rfl, la, lb, lc, hall⟩
 ·
  unfold Z7q
  rw [c_depths hr.fits, Option.bind_some, hm1, Option.bind_some]
  simp only [Z7s, Z7r]
  rw [c_order hr.fits, Option.bind_some, q1]; rfl
 ·
  unfold Z6s
  rw [e0, Option.bind_some, chk_t (decide_eq_true ⟨by omega, by omega⟩), Option.bind_some, Option.bind_some, chk_t (decide_eq_true ⟨by omega, by omega⟩), Option.bind_some]
  simp only [Z97, Z95, Int.toNat_natCast]
  rw [c_l03Sort hr.fits hr.deep, Option.bind_some, q2]; rfl
end Go.Proofs.YtnndihmamfomcaaGreat
