/- Plain laws for the graphs: what states have in common; who is left. -/
import Derived.Test.YtnndihmamfomcaaGreatCGL
set_option autoImplicit false
set_option linter.unusedVariables false
set_option linter.unusedSimpArgs false
namespace Go.Proofs.YtnndihmamfomcaaGreat
open Go Go.Abs

structure Mrg (g : TGraph') (ls : List (List TEntry)) : Prop where
 fits : Fits g.events
 ev : ∀ e ∈ g.events, EvOk e
 deep : Deep g.events
 ok : ∀ s ∈ ls, StOk g.events s
 len : ls.length ≤ 1000

theorem Mrg.ids {g : TGraph'} {ls : List (List TEntry)} (h : Mrg g ls) : Ids1 g.events := fun e he => (h.ev e he).id.1
theorem Mrg.slen {g : TGraph'} {ls : List (List TEntry)} (h : Mrg g ls) {s : List TEntry} (hs : StOk g.events s) : s.length ≤ 60 := Nat.le_trans hs.len h.fits.len
theorem Mrg.sts {g : TGraph'} {ls : List (List TEntry)} (h : Mrg g ls) {s : List TEntry} (hs : StOk g.events s) : Sts g s := ⟨h.fits.up, by have := h.fits.len; omega, h.ids, hs, by have := h.slen hs; omega⟩
theorem Mrg.ne0 {g : TGraph'} {ls : List (List TEntry)} (h : Mrg g ls) {s : List TEntry} (hs : StOk g.events s) {x : TEntry} (hx : x ∈ s) : 1 ≤ x.id := by
 obtain ⟨e, he, _⟩ := hs.ev x hx
 have h1 := evAt_some he
 have := h.ids e h1.1
 omega

def alikeB (ls : List (List TEntry)) (x : TEntry) : Bool := ls.all fun s => decide (idS s x.kind x.key = x.id)
def memS (s : List TEntry) (x : TEntry) : Bool := s.any fun e => decide (x.kind = e.kind) && (decide (x.key = e.key) && decide (x.id = e.id))
theorem memS_iff {s : List TEntry} {x : TEntry} : memS s x = true ↔ x ∈ s := by
 unfold memS
 rw [List.any_eq_true]
 constructor
 ·
  rintro ⟨e, he, h⟩
  simp only [Bool.and_eq_true, decide_eq_true_eq] at h
  have : x = e := by cases x; cases e; simp_all
  exact this ▸ he
 ·
  intro h
  exact ⟨x, h, by simp⟩

theorem c_l06Alike (ls : List (List TEntry)) (x : TEntry) (hl : ls.length < 1000000) (hs : ∀ s ∈ ls, s.length < 1000000) : Z94 ls x = some (alikeB ls x) := by
 unfold Z94
 rw [loop_allL (l := ls) (fun s => decide (idS s x.kind x.key = x.id)) (.inl false) (.inr ()) (by omega) (fun i hi => by
  have := hs _ (List.getElem_mem hi)
  simp only [Z4n]
  rw [dlt hi, cond_true, get_of_lt hi, Option.bind_some, c_l04At _ _ _ (by omega), Option.bind_some, bned, wrap1 hi (by omega)]
  cases decide (idS ls[i] x.kind x.key = x.id) <;> rfl) (by simp only [Z4n]; rw [dnlt, cond_false])]
 unfold alikeB
 cases ls.all fun s => decide (idS s x.kind x.key = x.id) <;> rfl

theorem c_Contains_Entry (s : List TEntry) (x : TEntry) (hl : s.length < 1000000) : Z8f s x = some (memS s x) := by
 unfold Z8f Zao
 rw [bind_idx (loop_idx (l := s) (step := Z22 s x) (fun e => decide (x.kind = e.kind) && (decide (x.key = e.key) && decide (x.id = e.id))) (by omega) (fun i hi => by
  simp only [Z22]
  rw [dlt hi, cond_true, get_of_lt hi, Option.bind_some, wrap1 hi (by omega), beqd, beqd, beqd, Bool.and_true]
  cases (decide (x.kind = s[i].kind) && (decide (x.key = s[i].key) && decide (x.id = s[i].id))) <;> rfl) (by simp only [Z22]; rw [dnlt, cond_false])) (fun _ => rfl) rfl]
 rw [Option.bind_some, idxP_nn]; rfl

theorem idS_mem {s : List TEntry} (h : UpS s) {x : TEntry} (hx : x ∈ s) : idS s x.kind x.key = x.id := by
 rcases idS_cases s x.kind x.key with ⟨_, h0⟩ | ⟨y, hy, h1, h2, h3⟩
 ·
  exact absurd ⟨rfl, rfl⟩ (h0 x hx)
 ·
  obtain ⟨i, hi, rfl⟩ := List.mem_iff_getElem.1 hx
  obtain ⟨j, hj, rfl⟩ := List.mem_iff_getElem.1 hy
  rw [h3]
  rcases Nat.lt_trichotomy i j with h4 | h4 | h4
  ·
   have := h.lt hj h4; unfold ltK at this; omega
  ·
   subst h4; rfl
  ·
   have := h.lt hi h4; unfold ltK at this; omega

theorem alike_iff {g : TGraph'} {ls : List (List TEntry)} (h : Mrg g ls) {s : List TEntry} (hs : s ∈ ls) {x : TEntry} (hx : x ∈ s) : alikeB ls x = true ↔ ∀ t ∈ ls, x ∈ t := by
 unfold alikeB
 rw [List.all_eq_true]
 constructor
 ·
  intro ha t ht
  have h1 := of_decide_eq_true (ha t ht)
  have h0 := h.ne0 (h.ok s hs) hx
  rcases idS_cases t x.kind x.key with ⟨h2, _⟩ | ⟨y, hy, _, _, h4⟩
  ·
   omega
  ·
   have := (h.ok t ht).eq (h.ok s hs) hy hx (by omega)
   exact this ▸ hy
 ·
  intro ha t ht
  exact decide_eq_true (idS_mem (h.ok t ht).up (ha t ht))


def stepR (ls : List (List TEntry)) (q : List TEntry × List Int) (x : TEntry) : List TEntry × List Int := if alikeB ls x = true then (putS q.1 x, q.2) else (q.1, setI q.2 x.id)
def partsR (ls : List (List TEntry)) : List TEntry × List Int := ls.foldl (fun q s => s.foldl (stepR ls) q) ([], [])

theorem foldl_flat {α β : Type} (f : β → α → β) : ∀ (ls : List (List α)) (q : β), ls.foldl (fun q s => s.foldl f q) q = ls.flatten.foldl f q
 | [], _ => rfl
 | s :: ls, q => by rw [List.foldl_cons, foldl_flat f ls, List.flatten_cons, List.foldl_append]

structure RInv (g : TGraph') (q : List TEntry × List Int) : Prop where
 ok : StOk g.events q.1
 up : UpI q.2
 ids : ∀ n ∈ q.2, n ∈ g.events.map (·.id)

theorem upI_len {l : List Int} {m : List Int} (h : UpI l) (hs : ∀ n ∈ l, n ∈ m) : l.length ≤ m.length :=
 List.Nodup.length_le_of_subset (by rw [List.nodup_iff_pairwise_ne]; exact h.imp fun {a b} hab => by omega) hs

theorem RInv.step {g : TGraph'} {ls : List (List TEntry)} {q : List TEntry × List Int} (h : RInv g q) {s : List TEntry} (hs : StOk g.events s) {x : TEntry} (hx : x ∈ s) : RInv g (stepR ls q x) := by
 obtain ⟨e, he, h1, h2⟩ := hs.ev x hx
 have h3 := evAt_some he
 unfold stepR
 split
 ·
  refine ⟨?_, h.up, h.ids⟩
  have e1 : x = TEntry.mk e.kind e.key e.id := by cases x; simp_all
  have := h.ok.put (e := e) (by rw [h3.2]; exact he)
  rw [← e1] at this
  exact this
 ·
  refine ⟨h.ok, setI_up h.up, fun n hn => ?_⟩
  rcases setI_mem.1 hn with hn | rfl
  ·
   exact h.ids n hn
  ·
   exact List.mem_map.2 ⟨e, h3.1, h3.2⟩

theorem RInv.fold {g : TGraph'} {ls : List (List TEntry)} : ∀ {xs : List TEntry} {q : List TEntry × List Int}, RInv g q → (∀ x ∈ xs, ∃ s, StOk g.events s ∧ x ∈ s) → RInv g (xs.foldl (stepR ls) q)
 | [], _, h, _ => h
 | x :: xs, q, h, hx => by
  obtain ⟨s, h1, h2⟩ := hx x (by simp)
  show RInv g (xs.foldl (stepR ls) (stepR ls q x))
  exact RInv.fold (h.step h1 h2) fun y hy => hx y (by simp [hy])

theorem RInv.len {g : TGraph'} {q : List TEntry × List Int} (h : RInv g q) (hl : g.events.length ≤ 60) : q.1.length ≤ 60 ∧ q.2.length ≤ 60 := by
 refine ⟨Nat.le_trans h.ok.len hl, ?_⟩
 have := upI_len h.up h.ids
 simp at this
 omega

theorem RInv.zero (g : TGraph') : RInv g ([], []) := ⟨.nil _, .nil, fun n hn => by cases hn⟩

theorem c_partsR {g : TGraph'} {ls : List (List TEntry)} (h : Mrg g ls) : iter (fun z : List TEntry × List Int × Int => Z19 ls z.1 z.2.1 z.2.2) big ([], [], 0) = some (partsR ls) ∧ RInv g (partsR ls) := by
 have hlen := h.len
 have hfl := h.fits.len
 have := loop_fold (l := ls) (step := fun z : List TEntry × List Int × Int => Z19 ls z.1 z.2.1 z.2.2) (fun (q : List TEntry × List Int) j => (q.1, q.2, j)) (fun q => q) (fun q s => s.foldl (stepR ls) q) (fun _ q => RInv g q) (by omega) (fun i q hi hq => by
  have hs := h.ok _ (List.getElem_mem hi)
  have hsl := h.slen hs
  refine ⟨?_, RInv.fold hq fun x hx => ⟨_, hs, hx⟩⟩
  simp only [Z19]
  have inner := loop_fold (l := ls[i]) (step := fun z : List TEntry × List Int × Int => Z2s ls (i : Int) z.1 z.2.1 z.2.2) (fun (q : List TEntry × List Int) j => (q.1, q.2, j)) (fun q => q) (stepR ls) (fun _ q => RInv g q) (by omega) (fun j q hj hq => by
   refine ⟨?_, hq.step hs (List.getElem_mem hj)⟩
   have hql := hq.len hfl
   simp only [Z2s]
   rw [get_of_lt hi, Option.bind_some, dlt hj, cond_true, get_of_lt hj, Option.bind_some, c_l06Alike _ _ (by omega) (fun s hs => by have := h.slen (h.ok s hs); omega), Option.bind_some]
   simp only [Z71, wrap1 hj (by omega : ls[i].length < 9223372036854775807)]
   unfold stepR
   cases alikeB ls ls[i][j] with
   | true => rw [cond_true, c_l04Put hq.ok.up _ (by omega)]; rfl
   | false => rw [cond_false, c_l03Set hq.up _ (by omega)]; rfl)
   (fun q _ => by simp only [Z2s]; rw [get_of_lt hi, Option.bind_some, dnlt, cond_false]) (s := q) hq
  rw [dlt hi, cond_true, inner.1, Option.bind_some]
  simp only [Z9g, wrap1 hi (by omega : ls.length < 9223372036854775807)])
  (fun q _ => by simp only [Z19]; rw [dnlt, cond_false]) (s := ([], [])) (RInv.zero g)
 exact this

theorem partsR_mem {g : TGraph'} {ls : List (List TEntry)} (h : Mrg g ls) : (∀ y, y ∈ (partsR ls).1 ↔ (∃ s ∈ ls, y ∈ s) ∧ alikeB ls y = true) ∧ (∀ n, n ∈ (partsR ls).2 ↔ ∃ s ∈ ls, ∃ x ∈ s, alikeB ls x = false ∧ x.id = n) := by
 have hx : ∀ x ∈ ls.flatten, ∃ s ∈ ls, x ∈ s := fun x hx => by obtain ⟨s, h1, h2⟩ := List.mem_flatten.1 hx; exact ⟨s, h1, h2⟩
 have hsame : ∀ x y, (∃ s ∈ ls, x ∈ s) → (∃ s ∈ ls, y ∈ s) → alikeB ls x = true → alikeB ls y = true → eqK x y → x = y := by
  rintro x y ⟨s, hs, hxs⟩ ⟨t, ht, hyt⟩ h1 h2 ⟨h3, h4⟩
  have h5 := (alike_iff h hs hxs).1 h1 t ht
  have e1 := idS_mem (h.ok t ht).up h5
  have e2 := idS_mem (h.ok t ht).up hyt
  rw [h3, h4, e2] at e1
  exact ((h.ok t ht).eq (h.ok t ht) h5 hyt e1.symm)
 have key : ∀ (xs : List TEntry) (q : List TEntry × List Int), (∀ x ∈ xs, ∃ s ∈ ls, x ∈ s) → (∀ x ∈ q.1, (∃ s ∈ ls, x ∈ s) ∧ alikeB ls x = true) → RInv g q →
   (∀ y, y ∈ (xs.foldl (stepR ls) q).1 ↔ y ∈ q.1 ∨ y ∈ xs ∧ alikeB ls y = true) ∧ (∀ n, n ∈ (xs.foldl (stepR ls) q).2 ↔ n ∈ q.2 ∨ ∃ x ∈ xs, alikeB ls x = false ∧ x.id = n) := by
  intro xs
  induction xs with
  | nil => intro q _ _ _; exact ⟨fun y => by simp, fun n => by simp⟩
  | cons x xs ih =>
   intro q h1 h2 h3
   obtain ⟨s, hs, hxs⟩ := h1 x (by simp)
   have h3' := h3.step (ls := ls) (h.ok s hs) hxs
   rw [List.foldl_cons]
   cases ha : alikeB ls x with
   | true =>
    have e1 : stepR ls q x = (putS q.1 x, q.2) := by unfold stepR; rw [if_pos ha]
    have hm : ∀ y, y ∈ putS q.1 x ↔ y = x ∨ y ∈ q.1 := fun y => by
     rw [putS_mem h3.ok.up]
     constructor
     ·
      rintro (h | ⟨h, _⟩)
      ·
       exact .inl h
      ·
       exact .inr h
     ·
      rintro (h4 | h4)
      ·
       exact .inl h4
      ·
       by_cases h5 : eqK y x
       ·
        exact .inl (hsame y x (h2 y h4).1 ⟨s, hs, hxs⟩ (h2 y h4).2 ha h5)
       ·
        exact .inr ⟨h4, h5⟩
    rw [e1] at h3' ⊢
    obtain ⟨i1, i2⟩ := ih (putS q.1 x, q.2) (fun y hy => h1 y (by simp [hy])) (fun y hy => by
     rcases (hm y).1 hy with rfl | hy
     ·
      exact ⟨⟨s, hs, hxs⟩, ha⟩
     ·
      exact h2 y hy) h3'
    refine ⟨fun y => ?_, fun n => ?_⟩
    ·
     rw [i1]
     simp only [hm, List.mem_cons]
     constructor
     ·
      rintro ((rfl | h4) | ⟨h4, h5⟩)
      ·
       exact .inr ⟨.inl rfl, ha⟩
      ·
       exact .inl h4
      ·
       exact .inr ⟨.inr h4, h5⟩
     ·
      rintro (h4 | ⟨rfl | h4, h5⟩)
      ·
       exact .inl (.inr h4)
      ·
       exact .inl (.inl rfl)
      ·
       exact .inr ⟨h4, h5⟩
    ·
     rw [i2]
     constructor
     ·
      rintro (h4 | ⟨y, h4, h5⟩)
      ·
       exact .inl h4
      ·
       exact .inr ⟨y, by simp [h4], h5⟩
     ·
      rintro (h4 | ⟨y, h4, h5, h6⟩)
      ·
       exact .inl h4
      ·
       rcases List.mem_cons.1 h4 with rfl | h4
       ·
        rw [ha] at h5; cases h5
       ·
        exact .inr ⟨y, h4, h5, h6⟩
   | false =>
    have e1 : stepR ls q x = (q.1, setI q.2 x.id) := by unfold stepR; rw [if_neg (by simp [ha])]
    rw [e1] at h3' ⊢
    obtain ⟨i1, i2⟩ := ih (q.1, setI q.2 x.id) (fun y hy => h1 y (by simp [hy])) h2 h3'
    refine ⟨fun y => ?_, fun n => ?_⟩
    ·
     rw [i1]
     simp only [List.mem_cons]
     constructor
     ·
      rintro (h4 | ⟨h4, h5⟩)
      ·
       exact .inl h4
      ·
       exact .inr ⟨.inr h4, h5⟩
     ·
      rintro (h4 | ⟨rfl | h4, h5⟩)
      ·
       exact .inl h4
      ·
       rw [ha] at h5; cases h5
      ·
       exact .inr ⟨h4, h5⟩
    ·
     rw [i2]
     simp only [setI_mem]
     constructor
     ·
      rintro ((h4 | rfl) | ⟨y, h4, h5⟩)
      ·
       exact .inl h4
      ·
       exact .inr ⟨x, by simp, ha, rfl⟩
      ·
       exact .inr ⟨y, by simp [h4], h5⟩
     ·
      rintro (h4 | ⟨y, h4, h5, h6⟩)
      ·
       exact .inl (.inl h4)
      ·
       rcases List.mem_cons.1 h4 with rfl | h4
       ·
        exact .inl (.inr h6.symm)
       ·
        exact .inr ⟨y, h4, h5, h6⟩
 obtain ⟨k1, k2⟩ := key ls.flatten ([], []) hx (fun x hx => by cases hx) (RInv.zero g)
 have e : partsR ls = ls.flatten.foldl (stepR ls) ([], []) := foldl_flat _ _ _
 rw [e]
 refine ⟨fun y => ?_, fun n => ?_⟩
 ·
  rw [k1]
  constructor
  ·
   rintro (h1 | ⟨h1, h2⟩)
   ·
    cases h1
   ·
    exact ⟨hx y h1, h2⟩
  ·
   rintro ⟨⟨s, h1, h2⟩, h3⟩
   exact .inr ⟨List.mem_flatten.2 ⟨s, h1, h2⟩, h3⟩
 ·
  rw [k2]
  constructor
  ·
   rintro (h1 | ⟨x, h1, h2, h3⟩)
   ·
    cases h1
   ·
    obtain ⟨s, h4, h5⟩ := hx x h1
    exact ⟨s, h4, x, h5, h2, h3⟩
  ·
   rintro ⟨s, h1, x, h2, h3, h4⟩
   exact .inr ⟨x, List.mem_flatten.2 ⟨s, h1, h2⟩, h3, h4⟩


def comI (ls : List (List TEntry)) : List TEntry := (ls.head?.getD []).filter fun x => ls.all fun t => memS t x

theorem comI_is {g : TGraph'} {ls : List (List TEntry)} (h : Mrg g ls) : comI ls = (partsR ls).1 := by
 have hR := (c_partsR h).2
 refine ups_ext ?_ hR.ok.up fun x => ?_
 ·
  unfold comI
  cases ls with
  | nil => exact .nil
  | cons s ls => exact (h.ok s (by simp)).up.filter _
 ·
  rw [(partsR_mem h).1]
  unfold comI
  rw [List.mem_filter, List.all_eq_true]
  cases ls with
  | nil => simp
  | cons s ls =>
   simp only [List.head?_cons, Option.getD_some]
   constructor
   ·
    rintro ⟨h1, h2⟩
    exact ⟨⟨s, by simp, h1⟩, (alike_iff h (s := s) (by simp) h1).2 fun t ht => memS_iff.1 (h2 t ht)⟩
   ·
    rintro ⟨⟨t, h1, h2⟩, h3⟩
    have h4 := (alike_iff h h1 h2).1 h3
    exact ⟨h4 s (by simp), fun t ht => memS_iff.2 (h4 t ht)⟩
end Go.Proofs.YtnndihmamfomcaaGreat
