/- Plain laws for the graphs: allowed alike; rising rows of numbers; states of a graph that are put into. -/
import Derived.Test.YtnndihmamfomcaaGreatCGK
set_option autoImplicit false
set_option linter.unusedVariables false
set_option linter.unusedSimpArgs false
namespace Go.Proofs.YtnndihmamfomcaaGreat
open Go Go.Abs

theorem allowed_same {g : TGraph'} {s : List TEntry} (h : Sts g s) {e : TEvent} (ha : e.author ≠ 0) (hk : e.kind = 2 ∨ e.kind = 3 → e.key ≠ 0) : ∃ r, Z2l g s e = some r ∧ Z33 g s e = some r := by
 unfold Z2l Z33
 simp only [Z52, Z51, Z35, Z50, Z1f, Z6n, Z4j, Z6m, Z2m]
 rw [c_l04At _ _ _ (by have := h.sl; omega), Option.bind_some, (cur_iff h.ids h.ok 1 0).1, c_current h.up h.len h.ok.up h.sl, Option.bind_some, c_member h, Option.bind_some, c_level h ha, Option.bind_some, c_l05Member h, c_l05Level h]
 simp only [Option.bind_some, beqd, bned, c_deniedIf, c_l05If]
 generalize hm : mbr g.events s e.author = m
 generalize hp : lvl g.events s e.author = p
 by_cases k1 : e.kind = 1
 ·
  cases (cur g.events s 1 0).isSome <;> simp [k1]
 ·
  cases (cur g.events s 1 0).isSome with
  | false => simp [k1]
  | true =>
   by_cases k2 : e.kind = 2
   ·
    obtain ⟨r1, a1, a2⟩ := own_same h e m
    obtain ⟨r2, b1, b2⟩ := other_same h e p (hk (.inl k2))
    by_cases q1 : e.key = e.author
    ·
     refine ⟨r1, ?_, ?_⟩ <;> simp [k2, q1, a1, a2]
    ·
     by_cases q2 : m = 1
     ·
      refine ⟨r2, ?_, ?_⟩ <;> simp [k2, q1, q2, b1, b2]
     ·
      simp [k2, q1, q2]
   ·
    by_cases q2 : m = 1
    ·
     by_cases k3 : e.kind = 3
     ·
      have e1 := c_level h (hk (.inr k3))
      have e2 := c_l05Level h e.key
      by_cases q3 : p < 50 <;> by_cases q4 : e.n > p <;> by_cases q5 : e.key = e.author <;> simp [k3, q2, q3, q4, q5, e1, e2]
      all_goals (subst q5; simp_all)
     ·
      by_cases k4 : e.kind = 4
      ·
       simp [k4, q2]
      ·
       by_cases k5 : e.kind = 5
       ·
        simp [k5, q2]
       ·
        by_cases k6 : e.kind = 6
        ·
         simp [k6, q2]
        ·
         by_cases k8 : e.kind = 8
         ·
          rw [c_at _ _ h.up (by have := h.len; omega), c_l03At _ _ (by have := h.len; omega), ev_has]
          simp only [Option.bind_some, plc_neg, ev_has]
          cases he : evAt g.events e.key with
          | none => simp [k8, q2]
          | some e' =>
           have := (get_plc he).1
           by_cases q3 : p < 50 <;> simp [k8, q2, q3, this]
         ·
          simp [k1, k2, k3, k4, k5, k6, k8, q2]
    ·
     simp [k1, k2, q2]

def Ask (e : TEvent) : Prop := e.author ≠ 0 ∧ (e.kind = 2 ∨ e.kind = 3 → e.key ≠ 0)

theorem c_allowed {g : TGraph'} {s : List TEntry} (h : Sts g s) {e : TEvent} (ha : Ask e) : Z2l g s e = some (alw g s e) ∧ Z33 g s e = some (alw g s e) := by
 obtain ⟨r, h1, h2⟩ := allowed_same h ha.1 ha.2
 unfold alw
 rw [h1, h2]
 exact ⟨rfl, rfl⟩

theorem EvOk.ask {e : TEvent} (h : EvOk e) : Ask e := by
 refine ⟨by have := h.author; omega, fun hk => ?_⟩
 have hb := h.body
 unfold bodyOk Z29 Zu Zv Zw Zx Zy Zz Zi Z10 at hb
 simp only [c_l02User, c_l02Is, c_l02Id, Option.bind_some, beqd] at hb
 rcases hk with hk | hk
 ·
  rw [hk] at hb
  intro h0
  rw [h0] at hb
  simp at hb
 ·
  rw [hk] at hb
  intro h0
  rw [h0] at hb
  simp at hb


abbrev UpI (l : List Int) : Prop := l.Pairwise (· < ·)
def setI : List Int → Int → List Int
 | [], n => [n]
 | a :: r, n => if a < n then a :: setI r n else if a = n then a :: r else n :: a :: r

theorem setI_while {n : Int} : ∀ {l : List Int}, UpI l → setI l n = if (l.dropWhile fun a => decide (a < n)).head? = some n then l else (l.takeWhile fun a => decide (a < n)) ++ n :: (l.dropWhile fun a => decide (a < n))
 | [], _ => rfl
 | a :: r, h => by
  obtain ⟨h1, h2⟩ := List.pairwise_cons.1 h
  unfold setI
  by_cases hlt : a < n
  ·
   rw [if_pos hlt, List.takeWhile_cons_of_pos (by simp [hlt]), List.dropWhile_cons_of_pos (by simp [hlt]), setI_while h2]
   split <;> rfl
  ·
   rw [if_neg hlt, List.takeWhile_cons_of_neg (by simp [hlt]), List.dropWhile_cons_of_neg (by simp [hlt])]
   by_cases he : a = n
   ·
    subst he; simp
   ·
    rw [if_neg he, if_neg (by simp [he])]; rfl

theorem c_l03Set {l : List Int} (hl : UpI l) (n : Int) (hb : l.length < 1000000) : Z8w l n = some (setI l n) := by
 unfold Z8w
 rw [loop_while (l := l) (fun a => decide (a < n)) (by omega) (fun i hi => by
  simp only [Z4e, Z4d]
  rw [dlt hi, cond_true, get_of_lt hi, Option.bind_some, wrap1 hi (by omega)]
  cases decide (l[i] < n) <;> rfl) (by simp only [Z4e, Z4d]; rw [dnlt, cond_false, cond_false]), Option.bind_some, setI_while hl]
 have hk : (l.takeWhile fun a => decide (a < n)).length ≤ l.length := (List.takeWhile_prefix _).length_le
 obtain ⟨e1, e2⟩ := take_while_len (fun a => decide (a < n)) l
 have hd : (l.dropWhile fun a => decide (a < n)).length ≤ l.length := (List.dropWhile_suffix _).length_le
 simp only [Z8x, Z6f]
 have hins : (sliceI l 0 (((l.takeWhile fun a => decide (a < n)).length : Nat) : Int)).bind (fun s19 => (chk (decide ((([] : List Int).length + s19.length) * 8 ≤ 140737488355328))).bind fun u22 => (chk (decide (((([] : List Int) ++ s19).length + [n].length) * 8 ≤ 140737488355328))).bind fun u26 => (sliceI l (((l.takeWhile fun a => decide (a < n)).length : Nat) : Int) (l.length : Int)).bind fun s28 => (chk (decide ((((([] : List Int) ++ s19) ++ [n]).length + s28.length) * 8 ≤ 140737488355328))).bind fun u31 => some (((([] : List Int) ++ s19) ++ [n]) ++ s28)) = some ((l.takeWhile fun a => decide (a < n)) ++ n :: (l.dropWhile fun a => decide (a < n))) := by
  rw [sliceI_to hk, Option.bind_some, e1, chk8 (by simp; omega), Option.bind_some, chk8 (by simp; omega), Option.bind_some, sliceI_from hk, Option.bind_some, e2, chk8 (by simp; omega), Option.bind_some]
  simp
 by_cases hlt : (l.takeWhile fun a => decide (a < n)).length < l.length
 ·
  rw [dlt hlt, cond_true, get_of_lt hlt, Option.bind_some, beqd]
  have e3 : (l.dropWhile fun a => decide (a < n)).head? = some l[(l.takeWhile fun a => decide (a < n)).length] := by
   rw [← e2, List.head?_drop, List.getElem?_eq_getElem hlt]
  rw [e3]
  by_cases he : l[(l.takeWhile fun a => decide (a < n)).length] = n
  ·
   rw [decide_eq_true he, cond_true, if_pos (by rw [he])]
  ·
   rw [decide_eq_false he, cond_false, if_neg (by simpa using he)]
   exact hins
 ·
  rw [decide_eq_false (by omega), cond_false, cond_false]
  have e3 : (l.dropWhile fun a => decide (a < n)) = [] := by
   rw [← e2]; exact List.drop_of_length_le (by omega)
  rw [if_neg (by rw [e3]; simp)]
  exact hins

theorem setI_mem {n x : Int} : ∀ {l : List Int}, x ∈ setI l n ↔ x ∈ l ∨ x = n
 | [] => by simp [setI]
 | a :: r => by
  unfold setI
  split
  ·
   simp [setI_mem (l := r), or_assoc]
  ·
   split
   ·
    rename_i h; subst h; simp only [List.mem_cons]
    constructor
    ·
     exact fun h => .inl h
    ·
     rintro (h | h)
     ·
      exact h
     ·
      exact .inl h
   ·
    simp only [List.mem_cons]
    constructor
    ·
     rintro (h | h | h)
     ·
      exact .inr h
     ·
      exact .inl (.inl h)
     ·
      exact .inl (.inr h)
    ·
     rintro ((h | h) | h)
     ·
      exact .inr (.inl h)
     ·
      exact .inr (.inr h)
     ·
      exact .inl h
theorem setI_up {n : Int} : ∀ {l : List Int}, UpI l → UpI (setI l n)
 | [], _ => List.pairwise_singleton _ _
 | a :: r, h => by
  obtain ⟨h1, h2⟩ := List.pairwise_cons.1 h
  unfold setI
  split
  ·
   refine List.pairwise_cons.2 ⟨fun y hy => ?_, setI_up h2⟩
   rcases setI_mem.1 hy with hy | rfl
   ·
    exact h1 y hy
   ·
    assumption
  ·
   split
   ·
    exact h
   ·
    refine List.pairwise_cons.2 ⟨fun y hy => ?_, h⟩
    rcases List.mem_cons.1 hy with rfl | hy
    ·
     omega
    ·
     have := h1 y hy; omega
theorem putS_mem {x y : TEntry} : ∀ {s : List TEntry}, UpS s → (y ∈ putS s x ↔ y = x ∨ (y ∈ s ∧ ¬ eqK y x))
 | [], _ => by simp [putS]
 | e :: r, h => by
  obtain ⟨h1, h2⟩ := List.pairwise_cons.1 h
  unfold putS
  by_cases hlt : ltK e x
  ·
   rw [if_pos hlt, List.mem_cons, putS_mem h2, List.mem_cons]
   constructor
   ·
    rintro (rfl | rfl | ⟨h3, h4⟩)
    ·
     exact .inr ⟨.inl rfl, by unfold ltK at hlt; unfold eqK; omega⟩
    ·
     exact .inl rfl
    ·
     exact .inr ⟨.inr h3, h4⟩
   ·
    rintro (rfl | ⟨rfl | h3, h4⟩)
    ·
     exact .inr (.inl rfl)
    ·
     exact .inl rfl
    ·
     exact .inr (.inr ⟨h3, h4⟩)
  ·
   rw [if_neg hlt]
   have hgt : ∀ z ∈ r, ¬ eqK z x := fun z hz => by have := h1 z hz; unfold ltK eqK at *; omega
   by_cases he : eqK e x
   ·
    rw [if_pos he, List.mem_cons, List.mem_cons]
    constructor
    ·
     rintro (rfl | h3)
     ·
      exact .inl rfl
     ·
      exact .inr ⟨.inr h3, hgt y h3⟩
    ·
     rintro (rfl | ⟨rfl | h3, h4⟩)
     ·
      exact .inl rfl
     ·
      exact absurd he h4
     ·
      exact .inr h3
   ·
    rw [if_neg he, List.mem_cons]
    constructor
    ·
     rintro (rfl | h3)
     ·
      exact .inl rfl
     ·
      rcases List.mem_cons.1 h3 with rfl | h4
      ·
       exact .inr ⟨h3, he⟩
      ·
       exact .inr ⟨h3, hgt y h4⟩
    ·
     rintro (rfl | ⟨h3, _⟩)
     ·
      exact .inl rfl
     ·
      exact .inr h3
theorem putS_up {x : TEntry} : ∀ {s : List TEntry}, UpS s → UpS (putS s x)
 | [], _ => List.pairwise_singleton _ _
 | e :: r, h => by
  obtain ⟨h1, h2⟩ := List.pairwise_cons.1 h
  unfold putS
  by_cases hlt : ltK e x
  ·
   rw [if_pos hlt]
   refine List.pairwise_cons.2 ⟨fun y hy => ?_, putS_up h2⟩
   rcases (putS_mem h2).1 hy with rfl | ⟨hy, _⟩
   ·
    exact hlt
   ·
    exact h1 y hy
  ·
   rw [if_neg hlt]
   by_cases he : eqK e x
   ·
    rw [if_pos he]
    exact List.pairwise_cons.2 ⟨fun y hy => by have := h1 y hy; unfold ltK eqK at *; omega, h2⟩
   ·
    rw [if_neg he]
    refine List.pairwise_cons.2 ⟨fun y hy => ?_, h⟩
    rcases List.mem_cons.1 hy with rfl | hy
    ·
     unfold ltK eqK at *; omega
    ·
     have := h1 y hy; unfold ltK eqK at *; omega
theorem StOk.put {l : List TEvent} {s : List TEntry} (h : StOk l s) {e : TEvent} (he : evAt l e.id = some e) : StOk l (putS s (TEntry.mk e.kind e.key e.id)) := by
 refine ⟨putS_up h.up, fun x hx => ?_⟩
 rcases (putS_mem h.up).1 hx with rfl | ⟨hx, _⟩
 ·
  exact ⟨e, he, rfl, rfl⟩
 ·
  exact h.ev x hx
theorem StOk.nil (l : List TEvent) : StOk l [] := ⟨.nil, fun x hx => by cases hx⟩
theorem StOk.eq {l : List TEvent} {s t : List TEntry} (h1 : StOk l s) (h2 : StOk l t) {x y : TEntry} (hx : x ∈ s) (hy : y ∈ t) (hid : x.id = y.id) : x = y := by
 obtain ⟨e, a1, a2, a3⟩ := h1.ev x hx
 obtain ⟨f, b1, b2, b3⟩ := h2.ev y hy
 rw [← hid, a1] at b1
 cases b1
 cases x; cases y
 simp_all
theorem StOk.len {l : List TEvent} {s : List TEntry} (h : StOk l s) : s.length ≤ l.length := by
 have h1 : (s.map (·.id)).Nodup := by
  rw [List.nodup_iff_pairwise_ne, List.pairwise_map]
  refine List.Pairwise.imp_of_mem (fun {a b} ha hb hab hid => ?_) h.up
  have := h.eq h ha hb hid
  subst this
  unfold ltK at hab; omega
 have h2 : ∀ x ∈ s.map (·.id), x ∈ l.map (·.id) := fun x hx => by
  obtain ⟨y, hy, rfl⟩ := List.mem_map.1 hx
  obtain ⟨e, he, _⟩ := h.ev y hy
  have := evAt_some he
  exact List.mem_map.2 ⟨e, this.1, this.2⟩
 have := h1.length_le_of_subset h2
 simpa using this

theorem ups_ext {s t : List TEntry} (hs : UpS s) (ht : UpS t) (h : ∀ x, x ∈ s ↔ x ∈ t) : s = t := by
 have n1 : s.Nodup := by rw [List.nodup_iff_pairwise_ne]; exact hs.imp fun {a b} hab e => by subst e; unfold ltK at hab; omega
 have n2 : t.Nodup := by rw [List.nodup_iff_pairwise_ne]; exact ht.imp fun {a b} hab e => by subst e; unfold ltK at hab; omega
 exact List.Perm.eq_of_pairwise (fun a b _ _ h1 h2 => by unfold ltK at h1 h2; omega) hs ht ((List.perm_ext_iff_of_nodup n1 n2).2 h)
end Go.Proofs.YtnndihmamfomcaaGreat
