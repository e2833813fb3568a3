/- Plain laws for the graphs: the history of a graph, alike on both sides. -/
import Derived.Test.YtnndihmamfomcaaGreatCGP
set_option autoImplicit false
set_option linter.unusedVariables false
set_option linter.unusedSimpArgs false
namespace Go.Proofs.YtnndihmamfomcaaGreat
open Go Go.Abs

theorem loop_both {τ1 τ2 ω1 ω2 σ1 σ2 : Type} {step1 : τ1 → Option (τ1 ⊕ ω1)} {step2 : τ2 → Option (τ2 ⊕ ω2)} {n : Nat} (emb1 : σ1 → Int → τ1) (emb2 : σ2 → Int → τ2) (I : Nat → σ1 → σ2 → Prop) (Q : ω1 → ω2 → Prop) (hn : n < 9223372036854775807)
  (h1 : ∀ (i : Nat) (s : σ1) (t : σ2), i < n → I i s t → ∃ s' t', step1 (emb1 s i) = some (.inl (emb1 s' ((i + 1 : Nat) : Int))) ∧ step2 (emb2 t i) = some (.inl (emb2 t' ((i + 1 : Nat) : Int))) ∧ I (i + 1) s' t')
  (h2 : ∀ s t, I n s t → ∃ o o', step1 (emb1 s n) = some (.inr o) ∧ step2 (emb2 t n) = some (.inr o') ∧ Q o o') {s : σ1} {t : σ2} (h0 : I 0 s t) :
  ∃ o o', iter step1 big (emb1 s 0) = some o ∧ iter step2 big (emb2 t 0) = some o' ∧ Q o o' := by
 have key : ∀ m i k : Nat, ∀ s t, i + m = n → m < k → I i s t → ∃ o o', iter step1 k (emb1 s i) = some o ∧ iter step2 k (emb2 t i) = some o' ∧ Q o o' := by
  intro m
  induction m with
  | zero =>
   intro i k s t hm hk hi
   obtain ⟨k, rfl⟩ : ∃ k', k = k' + 1 := ⟨k - 1, by omega⟩
   obtain rfl : i = n := by omega
   obtain ⟨o, o', e1, e2, hq⟩ := h2 s t hi
   exact ⟨o, o', by rw [iter, e1]; rfl, by rw [iter, e2]; rfl, hq⟩
  | succ m ih =>
   intro i k s t hm hk hi
   obtain ⟨k, rfl⟩ : ∃ k', k = k' + 1 := ⟨k - 1, by omega⟩
   obtain ⟨s', t', e1, e2, hi'⟩ := h1 i s t (by omega) hi
   obtain ⟨o, o', f1, f2, hq⟩ := ih (i + 1) k s' t' (by omega) (by omega) hi'
   exact ⟨o, o', by rw [iter, e1]; exact f1, by rw [iter, e2]; exact f2, hq⟩
 exact key n 0 big s t (by omega) (big_gt (by omega)) h0


theorem idPl_is {l : List TEvent} {k : Nat} (hk : k < l.length) : idPl l (k : Int) = l[k].id := by unfold idPl; simp [hk]
theorem dd_plc {l : List TEvent} (hf : Fits l) {k : Nat} (hk : k < l.length) : dd (depthsOf l) (k : Int) = dOf l (depthsOf l) l[k].id := by
 have hb := (c_l03Depths hf).2
 have hkd : k < (depthsOf l).length := by rw [hb.len]; exact hk
 unfold dd dOf
 rw [(hf.up.plc hk).1, get_of_lt hkd]
 simp [hkd]

theorem ord_all {l : List TEvent} (hf : Fits l) {k : Nat} (hk : k < l.length) : (k : Int) ∈ ordPl l := by
 refine (c_ordPl hf).2.1.mem_iff.2 ?_
 unfold idt
 exact List.mem_map.2 ⟨k, List.mem_range'_1.2 ⟨by omega, by omega⟩, rfl⟩

theorem ordIds_len {l : List TEvent} (hf : Fits l) : (ordIds l).length = l.length := by unfold ordIds; rw [List.length_map, ord_len hf]
theorem ordIds_mem {l : List TEvent} (hf : Fits l) {id : Int} : id ∈ ordIds l ↔ id ∈ l.map (·.id) := by
 unfold ordIds
 rw [List.mem_map, List.mem_map]
 constructor
 ·
  rintro ⟨x, hx, rfl⟩
  obtain ⟨k, rfl, hk⟩ := ord_in hf hx
  exact ⟨l[k], List.getElem_mem hk, (idPl_is hk).symm⟩
 ·
  rintro ⟨e, he, rfl⟩
  obtain ⟨k, hk, rfl⟩ := List.mem_iff_getElem.1 he
  exact ⟨(k : Int), ord_all hf hk, idPl_is hk⟩
theorem ordIds_nodup {l : List TEvent} (hf : Fits l) : (ordIds l).Nodup := by
 unfold ordIds
 rw [List.nodup_iff_pairwise_ne, List.pairwise_map]
 refine List.Pairwise.imp_of_mem (fun {a b} ha hb hab he => ?_) (c_ordPl hf).2.2
 obtain ⟨i, rfl, hi⟩ := ord_in hf ha
 obtain ⟨j, rfl, hj⟩ := ord_in hf hb
 rw [idPl_is hi, idPl_is hj] at he
 obtain rfl := hf.up.inj hi hj he
 unfold Lt2 at hab; omega

theorem ordIds_get {l : List TEvent} {i : Nat} (h1 : i < (ordPl l).length) (h2 : i < (ordIds l).length) : (ordIds l)[i] = idPl l (ordPl l)[i] := List.getElem_map _
theorem ord_prev {l : List TEvent} (hf : Fits l) (hd : Deep l) {i : Nat} (hi : i < (ordIds l).length) {e : TEvent} (he : evAt l (ordIds l)[i] = some e) {p : Int} (hp : p ∈ e.prev) : p ∈ (ordIds l).take i := by
 obtain ⟨hel, hid⟩ := evAt_some he
 obtain ⟨f, hfl, hfid⟩ := has_iff.1 (hf.whole e hel p hp)
 obtain ⟨k, hk, rfl⟩ := List.mem_iff_getElem.1 hfl
 obtain ⟨u, hu, huk⟩ := List.mem_iff_getElem.1 (ord_all hf hk)
 have hlt := depth_lt hf hd hel hp
 have hil : i < (ordPl l).length := by rw [ord_len hf]; rw [ordIds_len hf] at hi; exact hi
 obtain ⟨x, hx, hxl⟩ := ord_in hf (List.getElem_mem hil)
 have e1 : (ordIds l)[i] = l[x].id := by
  rw [ordIds_get hil hi, hx, idPl_is hxl]
 have d1 := dd_plc hf hxl
 have d2 := dd_plc hf hk
 rw [← e1, ← hid] at d1
 rw [hfid] at d2
 have hui : u < i := by
  rcases Nat.lt_trichotomy u i with h | h | h
  ·
   exact h
  ·
   subst h
   rw [hx] at huk
   have : x = k := by omega
   subst this
   omega
  ·
   have := List.pairwise_iff_getElem.1 (c_ordPl hf).2.2 i u hil hu h
   rw [hx, huk] at this
   unfold Lt2 at this; omega
 have hul : u < (ordIds l).length := by omega
 have e2 : (ordIds l)[u] = p := by
  rw [ordIds_get hu hul, huk, idPl_is hk, hfid]
 have : ((ordIds l).take i)[u]'(by simp; omega) = p := by simp [e2]
 rw [← this]
 exact List.getElem_mem _


def aheadB (g : TGraph') (a : Int) (e : TEvent) : Bool := (Z1d g a e).getD false
def codeOf (g : TGraph') (s : List TEntry) (e : TEvent) : Int := if alw g s e = 0 ∧ e.kind = 8 ∧ aheadB g e.key e = false then 6 else alw g s e
def nextOf (g : TGraph') (s : List TEntry) (e : TEvent) : List TEntry := if codeOf g s e = 0 ∧ e.kind ≤ 6 then putE s e else s

theorem nextOf_ok {g : TGraph'} (hu : Up2 g.events) {s : List TEntry} (hs : StOk g.events s) {e : TEvent} (he : e ∈ g.events) : StOk g.events (nextOf g s e) := by
 unfold nextOf
 split
 ·
  exact hs.put (hu.evAt_mem he)
 ·
  exact hs

structure KnowsE (g : TGraph') (ls : Int → List TEntry) (B A : List (Int × List TEntry)) (R : List (Int × Int)) (ah bh : List (List TEntry)) (cd : List Int) (e : TEvent) : Prop where
 ok : StOk g.events (resOf g (e.prev.map ls))
 mB : mget B e.id = some (resOf g (e.prev.map ls))
 mR : mget R e.id = some (codeOf g (resOf g (e.prev.map ls)) e)
 mA : mget A e.id = some (nextOf g (resOf g (e.prev.map ls)) e)
 ga : getI ah (plc g.events e.id) = some (resOf g (e.prev.map ls))
 gc : getI cd (plc g.events e.id) = some (codeOf g (resOf g (e.prev.map ls)) e)
 gb : getI bh (plc g.events e.id) = some (nextOf g (resOf g (e.prev.map ls)) e)

def behI (A : List (Int × List TEntry)) (id : Int) : List TEntry := Option.getD (mget A id) []

structure Right (g : TGraph') : Prop where
 fits : Fits g.events
 ev : ∀ e ∈ g.events, EvOk e
 deep : Deep g.events
theorem GOk.right {g : TGraph'} (h : GOk g) : Right g := ⟨h.fits, fun e he => (h.ev e he).1, h.deep⟩
theorem Right.walk {g : TGraph'} (h : Right g) : Walk g := ⟨h.fits, h.ev⟩

theorem c_ahead {g : TGraph'} (h : Right g) (a : Int) {e : TEvent} (he : e ∈ g.events) : Z2c g a e.id = some (aheadB g a e) ∧ Z1d g a e = some (aheadB g a e) := by
 obtain ⟨b, h1, h2⟩ := ahead_same h.walk a he
 unfold aheadB
 rw [h1, h2]
 exact ⟨rfl, rfl⟩

theorem getI_set {α : Type} {l : List α} {k j : Nat} {v : α} (hk : k < l.length) : getI (l.set k v) (j : Int) = if j = k then some v else getI l (j : Int) := by
 have h0 : (0 : Int) ≤ (j : Int) := by omega
 simp only [getI, h0, if_true, Int.toNat_natCast]
 by_cases h : j = k
 ·
  subst h; rw [if_pos rfl, List.getElem?_set_self hk]
 ·
  rw [if_neg h, List.getElem?_set_ne (by omega)]

theorem Zcf {h : THistory} (hr : Right h.graph) (hk : KnowsD h) {e : TEvent} (he : e ∈ h.graph.events) (hpl : ∀ p ∈ e.prev, StOk h.graph.events (behI h.after p)) :
  Z7g h e = some (mset h.before e.id (resOf h.graph (e.prev.map (behI h.after))), mset h.after e.id (nextOf h.graph (resOf h.graph (e.prev.map (behI h.after))) e), mset h.refused e.id (codeOf h.graph (resOf h.graph (e.prev.map (behI h.after))) e)) := by
 have hp4 := (hr.ev e he).prev.1
 have hst : Z1s h e.prev = some (e.prev.map (behI h.after)) := by
  unfold Z1s
  have := loop_fold (l := e.prev) (step := fun z : List (List TEntry) × Int => Zd h e.prev z.1 z.2) (fun q j => (q, j)) (fun q => q) (fun q p => q ++ [behI h.after p]) (fun i q => q.length = i) (by omega) (fun i q hi hq => by
   refine ⟨?_, by simp [hq]⟩
   simp only [Zd]
   rw [dlt hi, cond_true, get_of_lt hi, Option.bind_some, chk24 (by simp; omega), Option.bind_some, wrap1 hi (by omega)]; rfl)
   (fun q _ => by simp only [Zd]; rw [dnlt, cond_false]) (s := []) rfl
  have e1 : ∀ (r : List Int) (q : List (List TEntry)), r.foldl (fun q p => q ++ [behI h.after p]) q = q ++ r.map (behI h.after) := by
   intro r
   induction r with
   | nil => intro q; simp
   | cons p r ih => intro q; rw [List.foldl_cons, ih]; simp
  rw [this.1, e1]; rfl
 have hm : Mrg h.graph (e.prev.map (behI h.after)) := ⟨hr.fits, hr.ev, hr.deep, fun s hs => by obtain ⟨p, hp, rfl⟩ := List.mem_map.1 hs; exact hpl p hp, by simp; omega⟩
 obtain ⟨_, c2, c3⟩ := c_resolve hm hk
 unfold Z7g
 rw [hst, Option.bind_some, c2, Option.bind_some, (c_allowed (hm.sts c3) (hr.ev e he).ask).2, Option.bind_some, (c_ahead hr _ he).2, beqd, beqd]
 have hsl := hm.slen c3
 generalize resOf h.graph (e.prev.map (behI h.after)) = s at c3 hsl
 have hid := (hr.ev e he).id.1
 have hput := c_put c3.up (TEntry.mk e.kind e.key e.id) (by simp only; omega) (by omega)
 simp only [Z3c, Z5d, Z5c, Option.bind_some, hput, mset_mset, beqd]
 unfold nextOf codeOf putE
 by_cases h1 : alw h.graph s e = 0
 ·
  by_cases h2 : e.kind = 8
  ·
   cases h3 : aheadB h.graph e.key e with
   | false => simp [h1, h2]
   | true => simp [h1, h2]
  ·
   by_cases h4 : e.kind ≤ 6
   ·
    simp [h1, h2, h4]
   ·
    simp [h1, h2, h4]
 ·
  simp [h1]
end Go.Proofs.YtnndihmamfomcaaGreat
