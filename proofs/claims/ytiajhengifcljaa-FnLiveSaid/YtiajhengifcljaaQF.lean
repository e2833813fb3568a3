/- FnLive: the law is true, whatever the input. -/
import Derived.Test.YtiajhengifcljaaQD
set_option autoImplicit false
namespace Go.Proofs.Ytiajhengifcljaa
open Go Go.Abs

def inB (e : TLive) : Prop := (1 ≤ e.user ∧ e.user ≤ 6) ∧ 0 ≤ e.till ∧ e.till ≤ 1000000
def Rt (p : List TLive) : Prop := Srt p ∧ ∀ e ∈ p, inB e

theorem right_rt (p : List TLive) (hp : p.length ≤ 1048576) (h : spec_LiveRight p = some true) : Rt p := by
  refine ⟨up_srt.1 (right_up p hp h), fun e he => ?_⟩
  obtain ⟨i, hi⟩ := List.getElem?_of_mem he
  have := right_good p hp h i e hi
  unfold badAt at this
  simp only [Bool.or_eq_false_iff, Bool.not_eq_false', decide_eq_true_eq] at this
  exact ⟨this.1.1, this.1.2⟩

theorem rt_right (p : List TLive) (hp : p.length ≤ 1048576) (h : Rt p) : spec_LiveRight p = some true := by
  have hgood : ∀ i e, p[i]? = some e → badAt p i e = false := fun i e he => by
    have hb := h.2 e (List.mem_of_getElem? he)
    unfold badAt
    rw [decide_eq_true hb.1, decide_eq_true hb.2]
    by_cases hi : 0 < i
    · have hlt := (List.getElem?_eq_some_iff.1 he).1
      have hx : p[i - 1]? = some p[i - 1] := List.getElem?_eq_getElem (by omega)
      have := up_srt.2 h.1 (i - 1) i _ e (by omega) hx he
      simp only [hx]
      rw [decide_eq_false (by omega : ¬ p[i - 1].user ≥ e.user)]
      simp
    · simp [hi]
  unfold spec_LiveRight
  rw [iter_is (o := .inr ()) (fun m (x : Int) => ∃ i : Nat, x = i ∧ i + m = p.length) ?_ (m := p.length) (x := (0 : Int)) ⟨0, rfl, by simp⟩ (lt_big (by omega))]
  · rfl
  · rintro m x ⟨i, rfl, him⟩
    by_cases hi : i < p.length
    · have hpi : p[i]? = some p[i] := List.getElem?_eq_getElem hi
      right
      refine ⟨(i : Int) + 1, m - 1, ?_, by omega, i + 1, by simp, by omega⟩
      rw [spec_step p hp i _ hpi, hgood i _ hpi, spec_LiveRight_j2, wrap_id (by omega) (by omega)]
      rfl
    · left
      unfold spec_LiveRight_s3
      rw [decide_eq_false (by omega)]
      rfl

theorem ins_rt {p : List TLive} {x : TLive} (h : Rt p) (hx : inB x) : Rt (ins p x) := by
  refine ⟨ins_srt h.1, ?_⟩
  have hb := h.2
  clear h
  induction p with
  | nil => intro e he; rw [ins, List.mem_singleton] at he; rw [he]; exact hx
  | cons f p ih =>
    have hf := hb f (by simp)
    unfold ins
    split
    · intro e he
      rcases List.mem_cons.1 he with rfl | he
      · exact hf
      · exact ih (fun e he => hb e (by simp [he])) e he
    · split
      · intro e he
        rcases List.mem_cons.1 he with rfl | he
        · refine ⟨hx.1, ?_⟩
          simp only [mx]
          split
          · exact hf.2
          · exact hx.2
        · exact hb e (by simp [he])
      · intro e he
        rcases List.mem_cons.1 he with rfl | he
        · exact hx
        · exact hb e he

theorem fold_rt : ∀ (b p : List TLive), Rt p → (∀ x ∈ b, inB x) → Rt (b.foldl ins p)
  | [], _, h, _ => h
  | x :: b, p, h, hb => fold_rt b _ (ins_rt h (hb x (by simp))) fun y hy => hb y (by simp [hy])

theorem rt_len_aux : ∀ (p : List TLive) (c : Int), Srt p → (∀ e ∈ p, c ≤ e.user ∧ e.user ≤ 6) → (p.length : Int) ≤ 7 - c ∨ p = []
  | [], _, _, _ => .inr rfl
  | e :: p, c, h, hb => by
    left
    obtain ⟨h1, h2⟩ := List.pairwise_cons.1 h
    have he := hb e (by simp)
    rcases rt_len_aux p (e.user + 1) h2 (fun f hf => ⟨by have := h1 f hf; omega, (hb f (by simp [hf])).2⟩) with h3 | rfl
    · simp only [List.length_cons]; omega
    · simp; omega

theorem rt_len {p : List TLive} (h : Rt p) : p.length ≤ 6 := by
  rcases rt_len_aux p 1 h.1 (fun e he => (h.2 e he).1) with h3 | rfl
  · omega
  · simp

/-- When a user is active no longer. -/
def val : List TLive → Int → Option Int
  | [], _ => none
  | e :: p, u => if e.user = u then some e.till else val p u

theorem val_none {v : Int} : ∀ {p : List TLive}, (∀ b ∈ p, v < b.user) → val p v = none
  | [], _ => rfl
  | e :: p, h => by
    have := h e (by simp)
    rw [val, if_neg (by omega)]
    exact val_none fun b hb => h b (by simp [hb])

theorem val_ext : ∀ {p q : List TLive}, Srt p → Srt q → (∀ v, val p v = val q v) → p = q
  | [], [], _, _, _ => rfl
  | [], f :: q, _, _, h => by have := h f.user; simp [val] at this
  | e :: p, [], _, _, h => by have := h e.user; simp [val] at this
  | e :: p, f :: q, hp, hq, h => by
    obtain ⟨p1, p2⟩ := List.pairwise_cons.1 hp
    obtain ⟨q1, q2⟩ := List.pairwise_cons.1 hq
    have he : e.user = f.user := by
      by_cases h1 : e.user < f.user
      · have := h e.user
        rw [val, if_pos rfl, val_none (fun b hb => by
          rcases List.mem_cons.1 hb with rfl | hb
          · exact h1
          · have := q1 b hb; omega)] at this
        cases this
      · by_cases h2 : f.user < e.user
        · have := h f.user
          rw [val_none (p := e :: p) (fun b hb => by
            rcases List.mem_cons.1 hb with rfl | hb
            · exact h2
            · have := p1 b hb; omega), val, if_pos rfl] at this
          cases this
        · omega
    have ht : e.till = f.till := by
      have := h e.user
      rw [val, if_pos rfl, val, if_pos he.symm] at this
      exact Option.some.inj this
    have hef : e = f := by cases e; cases f; simp only at he ht; rw [he, ht]
    subst hef
    rw [val_ext p2 q2 fun v => ?_]
    by_cases hv : e.user = v
    · rw [val_none (fun b hb => by have := p1 b hb; omega), val_none (fun b hb => by have := q1 b hb; omega)]
    · have := h v
      rwa [val, if_neg hv, val, if_neg hv] at this

def mrg : Option Int → Option Int → Option Int
  | none, o => o
  | o, none => o
  | some a, some b => some (mx a b)

theorem val_ins (x : TLive) (v : Int) : ∀ {p : List TLive}, Srt p → val (ins p x) v = if x.user = v then mrg (val p v) (some x.till) else val p v
  | [], _ => by rw [ins, val, val]; split <;> rfl
  | e :: p, h => by
    obtain ⟨h1, h2⟩ := List.pairwise_cons.1 h
    unfold ins
    split
    · rename_i hlt
      rw [val, val_ins x v h2, val]
      by_cases hv : e.user = v
      · rw [if_pos hv, if_neg (by omega), if_pos hv]
      · rw [if_neg hv, if_neg hv]
    · split
      · rename_i he
        rw [val, val]
        by_cases hv : x.user = v
        · rw [if_pos hv, if_pos hv, if_pos (by omega)]; rfl
        · rw [if_neg hv, if_neg hv, if_neg (by omega)]
      · rename_i hn hne
        rw [val]
        by_cases hv : x.user = v
        · rw [if_pos hv, if_pos hv, val_none (fun b hb => by
            rcases List.mem_cons.1 hb with rfl | hb
            · omega
            · have := h1 b hb; omega)]
          rfl
        · rw [if_neg hv, if_neg hv]

theorem val_fold (v : Int) : ∀ (b p : List TLive), Srt b → Srt p → val (b.foldl ins p) v = mrg (val p v) (val b v)
  | [], p, _, _ => by cases h : val p v <;> simp [val, mrg, h]
  | x :: b, p, hb, hp => by
    obtain ⟨h1, h2⟩ := List.pairwise_cons.1 hb
    rw [List.foldl_cons, val_fold v b _ h2 (ins_srt hp), val_ins x v hp, val]
    by_cases hv : x.user = v
    · rw [if_pos hv, if_pos hv, val_none (p := b) (fun c hc => by have := h1 c hc; omega)]
      cases val p v <;> rfl
    · rw [if_neg hv, if_neg hv]

theorem fold_srt : ∀ (b p : List TLive), Srt p → Srt (b.foldl ins p)
  | [], _, h => h
  | x :: b, _, h => fold_srt b _ (ins_srt h)

theorem mrg_comm (a b : Option Int) : mrg a b = mrg b a := by
  cases a <;> cases b <;> simp [mrg, mx_comm]
theorem mrg_again (a b : Option Int) : mrg (mrg a b) b = mrg a b := by
  cases a <;> cases b <;> simp only [mrg, mx]
  · rename_i x; rw [if_neg (by omega)]
  · rename_i x y
    by_cases h : x > y
    · rw [if_pos h, if_pos h]
    · rw [if_neg h, if_neg (by omega)]

theorem join_comm {a b : List TLive} (ha : Srt a) (hb : Srt b) : b.foldl ins a = a.foldl ins b :=
  val_ext (fold_srt _ _ ha) (fold_srt _ _ hb) fun v => by rw [val_fold v b a hb ha, val_fold v a b ha hb, mrg_comm]
theorem join_again {a b : List TLive} (ha : Srt a) (hb : Srt b) : b.foldl ins (b.foldl ins a) = b.foldl ins a :=
  val_ext (fold_srt _ _ (fold_srt _ _ ha)) (fold_srt _ _ ha) fun v => by rw [val_fold v b _ hb (fold_srt _ _ ha), val_fold v b a hb ha, mrg_again]

theorem lwLive_self (r : TLiveOut) (hl : r.row.length ≤ 1048576) (h : r.code = 0 → spec_LiveRight r.row = some true) : laws_lwLive r r = some true := by
  unfold laws_lwLive laws_lwLive_j4
  simp only [bne_self_eq_false, cond_false]
  rw [iter_is (o := .inr r.code) (fun m (x : Int) => ∃ i : Nat, x = i ∧ i + m = r.row.length) ?_ (m := r.row.length) (x := (0 : Int)) ⟨0, rfl, by simp⟩ (lt_big (by omega))]
  · simp only [Option.bind_some, laws_lwLive_j2, laws_lwLive_j1]
    by_cases hc : r.code = 0
    · rw [hc, h hc]; rfl
    · have : (r.code != 0) = true := by simp [hc]
      rw [this]; rfl
  · rintro m x ⟨i, rfl, him⟩
    unfold laws_lwLive_s3
    by_cases hi : i < r.row.length
    · right
      have hpi : r.row[i]? = some r.row[i] := List.getElem?_eq_getElem hi
      refine ⟨(i : Int) + 1, m - 1, ?_, by omega, i + 1, by simp, by omega⟩
      rw [decide_eq_true (by omega : (i : Int) < r.row.length)]
      simp only [cond_true, getI_nat hpi, Option.bind_some, beq_self_eq_true, Bool.and_self]
      rw [wrap_id (by omega) (by omega)]
    · left
      rw [decide_eq_false (by omega)]
      rfl

theorem lwNums_self (p : List Int) (hp : p.length ≤ 1048576) : laws_lwNums p p = some true := by
  unfold laws_lwNums
  simp only [bne_self_eq_false, cond_false]
  rw [iter_is (o := .inr ()) (fun m (x : Int) => ∃ i : Nat, x = i ∧ i + m = p.length) ?_ (m := p.length) (x := (0 : Int)) ⟨0, rfl, by simp⟩ (lt_big (by omega))]
  · rfl
  · rintro m x ⟨i, rfl, him⟩
    unfold laws_lwNums_s2
    by_cases hi : i < p.length
    · right
      have hpi : p[i]? = some p[i] := List.getElem?_eq_getElem hi
      refine ⟨(i : Int) + 1, m - 1, ?_, by omega, i + 1, by simp, by omega⟩
      rw [decide_eq_true (by omega : (i : Int) < p.length)]
      simp only [cond_true, getI_nat hpi, Option.bind_some, bne_self_eq_false, cond_false]
      rw [wrap_id (by omega) (by omega)]
    · left
      rw [decide_eq_false (by omega)]
      rfl

theorem setRow_right (p : List TLive) (u t : Int) (hp : p.length ≤ 1048576) (r : TLiveOut) (h : spec_LiveSet p u t = some r) (hc : r.code = 0) : spec_LiveRight r.row = some true := by
  unfold spec_LiveSet at h
  by_cases h4 : p.length ≤ 400
  · rw [decide_eq_false (by omega)] at h
    obtain ⟨b, hs, _⟩ := liveRight_same p hp
    simp only [cond_false, hs, Option.bind_some, isUser_same, isTime_same] at h
    cases b with
    | false => cases h; cases hc
    | true =>
      simp only [cond_true] at h
      by_cases hu : 1 ≤ u ∧ u ≤ 6
      · by_cases ht : 0 ≤ t ∧ t ≤ 1000000
        · have hrt := right_rt p hp hs
          rw [decide_eq_true hu, decide_eq_true ht] at h
          simp only [cond_true, Bool.not_true, spec_LiveSet_j1, cond_false, spec_set_ins p hp hrt.1, Option.bind_some] at h
          cases h
          have h2 := ins_rt (x := TLive.mk u t) hrt ⟨hu, ht⟩
          exact rt_right _ (by have := rt_len h2; simp only; omega) h2
        · rw [decide_eq_true hu, decide_eq_false ht] at h
          cases h; cases hc
      · rw [decide_eq_false hu] at h
        cases h; cases hc
  · rw [decide_eq_true (by omega)] at h
    cases h; cases hc

theorem at_fold (now : Int) : ∀ (p : List TLive) (l : List Int), p.foldl (atNext now) l = l ++ (p.filter fun e => decide (e.till > now)).map (·.user)
  | [], l => by simp
  | e :: p, l => by
    rw [List.foldl_cons, at_fold now p, atNext]
    cases h : decide (e.till > now) <;> simp [h]

theorem at_len (now : Int) (p : List TLive) (l : List Int) : (p.foldl (atNext now) l).length ≤ l.length + p.length := by
  rw [at_fold]
  have := List.length_filter_le (fun e : TLive => decide (e.till > now)) p
  simp; omega

theorem liveAt_is (p : List TLive) (hp : p.length ≤ 1048576) (hs : impl_LiveRight p = some true) (now : Int) : impl_LiveAt p now = some ((p.filter fun e => decide (e.till > now)).map (·.user)) := by
  unfold impl_LiveAt
  rw [hs]
  simp only [Option.bind_some, cond_true]
  have h1 := iter_forL (xs := p) (step := fun z : Int × List Int × Int × Int => impl_LiveAt_s3 p z.1 z.2.1 z.2.2.1 z.2.2.2) (σ := List Int) (ω := List Int) (f := fun _ s x => some (.inl (atNext now s x))) (k := big) (s := []) (fun i s => (now, s, (p.length : Int), (i : Int))) (fun s => s)
    (fun i s => s.length ≤ i) (fun i s x hl hx => by
      simp only
      rw [implAt_step p hp now s i hl x hx]
      simp) (fun i s x s' hl hx he => by
      cases he
      have := atNext_len now s x; omega) (fun s _ => by
      simp only
      unfold impl_LiveAt_s3
      rw [decide_eq_false (by omega)]
      rfl) (by simp) (lt_big (by omega))
  have h2 := forL_fold (g := atNext now) (ω := List Int) (f := fun _ s x => some (.inl (atNext now s x))) (fun _ _ => True) p 0 [] trivial fun _ _ _ _ _ => ⟨rfl, trivial⟩
  rw [h2, at_fold] at h1
  simp only [List.nil_append] at h1
  have h3 : iter (fun z : Int × List Int × Int × Int => impl_LiveAt_s3 p z.1 z.2.1 z.2.2.1 z.2.2.2) big (now, [], (p.length : Int), 0) = some ((p.filter fun e => decide (e.till > now)).map (·.user)) := h1
  rw [h3]
  rfl

theorem liveNext_is (p : List TLive) (hp : p.length ≤ 1048576) (hs : impl_LiveRight p = some true) (now : Int) : impl_LiveNext p now = some (p.foldl (nxt now) (-1)) := by
  unfold impl_LiveNext
  rw [hs]
  simp only [Option.bind_some, cond_true]
  have h1 := iter_forL (xs := p) (step := fun z : Int × Int × Int × Int => impl_LiveNext_s4 p z.1 z.2.1 z.2.2.1 z.2.2.2) (σ := Int) (ω := Int) (f := fun _ s x => some (.inl (nxt now s x))) (k := big) (s := -1) (fun i s => (now, s, (p.length : Int), (i : Int))) (fun s => s)
    (fun _ _ => True) (fun i s x _ hx => by
      simp only
      rw [implNext_step p hp now s i x hx]
      simp) (fun _ _ _ _ _ _ _ => trivial) (fun s _ => by
      simp only
      unfold impl_LiveNext_s4
      rw [decide_eq_false (by omega)]
      rfl) trivial (lt_big (by omega))
  have h2 := forL_fold (g := nxt now) (ω := Int) (f := fun _ s x => some (.inl (nxt now s x))) (fun _ _ => True) p 0 (-1) trivial fun _ _ _ _ _ => ⟨rfl, trivial⟩
  rw [h2] at h1
  have h3 : iter (fun z : Int × Int × Int × Int => impl_LiveNext_s4 p z.1 z.2.1 z.2.2.1 z.2.2.2) big (now, -1, (p.length : Int), 0) = some (p.foldl (nxt now) (-1)) := h1
  rw [h3]
  rfl

/-- What the least time from now on is. -/
theorem nxt_least (now : Int) : ∀ (p : List TLive), (∀ e ∈ p, 0 ≤ e.till) → ∀ (best : Int) (q : List TLive), (best = -1 ∧ (∀ e ∈ q, e.till ≤ now) ∨ now < best ∧ 0 ≤ best ∧ (∃ e ∈ q, e.till = best) ∧ ∀ e ∈ q, now < e.till → best ≤ e.till) →
    (p.foldl (nxt now) best = -1 ∧ (∀ e ∈ q ++ p, e.till ≤ now) ∨ now < p.foldl (nxt now) best ∧ 0 ≤ p.foldl (nxt now) best ∧ (∃ e ∈ q ++ p, e.till = p.foldl (nxt now) best) ∧ ∀ e ∈ q ++ p, now < e.till → p.foldl (nxt now) best ≤ e.till)
  | [], _, best, q, h => by simpa using h
  | x :: p, hp, best, q, h => by
    have hx := hp x (by simp)
    have := nxt_least now p (fun e he => hp e (by simp [he])) (nxt now best x) (q ++ [x]) ?_
    · simpa using this
    · unfold nxt
      rcases h with ⟨rfl, h⟩ | ⟨h1, h2, ⟨e, he, h3⟩, h4⟩
      · by_cases hn : x.till > now
        · right
          rw [decide_eq_true hn]
          simp only [show decide ((-1 : Int) < 0) = true from rfl, Bool.true_or, Bool.and_self, cond_true]
          refine ⟨hn, hx, ⟨x, by simp, rfl⟩, fun f hf hlt => ?_⟩
          rcases List.mem_append.1 hf with hf | hf
          · have := h f hf; omega
          · rw [List.mem_singleton.1 hf]; exact Int.le_refl _
        · left
          rw [decide_eq_false hn]
          refine ⟨rfl, fun f hf => ?_⟩
          rcases List.mem_append.1 hf with hf | hf
          · exact h f hf
          · rw [List.mem_singleton.1 hf]; omega
      · right
        rw [decide_eq_false (by omega : ¬ best < 0), Bool.false_or]
        by_cases hn : x.till > now
        · rw [decide_eq_true hn, Bool.true_and]
          by_cases hb : x.till < best
          · rw [decide_eq_true hb]
            refine ⟨hn, hx, ⟨x, by simp, rfl⟩, fun f hf hlt => ?_⟩
            rcases List.mem_append.1 hf with hf | hf
            · have := h4 f hf hlt; simp only [cond_true]; omega
            · rw [List.mem_singleton.1 hf]; exact Int.le_refl _
          · rw [decide_eq_false hb]
            refine ⟨h1, h2, ⟨e, by simp [he], h3⟩, fun f hf hlt => ?_⟩
            rcases List.mem_append.1 hf with hf | hf
            · exact h4 f hf hlt
            · rw [List.mem_singleton.1 hf]; simp only [cond_false]; omega
        · rw [decide_eq_false hn, Bool.false_and]
          refine ⟨h1, h2, ⟨e, by simp [he], h3⟩, fun f hf hlt => ?_⟩
          rcases List.mem_append.1 hf with hf | hf
          · exact h4 f hf hlt
          · rw [List.mem_singleton.1 hf] at hlt; omega

theorem filter_lt_of {α : Type} {p q : α → Bool} : ∀ {l : List α}, (∀ x ∈ l, q x = true → p x = true) → (∃ x ∈ l, p x = true ∧ q x = false) → (l.filter q).length < (l.filter p).length
  | [], _, ⟨x, hx, _⟩ => by cases hx
  | y :: l, h, ⟨x, hx, h1, h2⟩ => by
    have hle : ∀ {l : List α}, (∀ x ∈ l, q x = true → p x = true) → (l.filter q).length ≤ (l.filter p).length := fun {l} h => by
      induction l with
      | nil => simp
      | cons z l ih =>
        have := ih fun x hx => h x (by simp [hx])
        cases hq : q z with
        | true => simp [hq, h z (by simp) hq]; omega
        | false => cases hp : p z <;> simp [hq, hp] <;> omega
    have hl : ∀ x ∈ l, q x = true → p x = true := fun x hx => h x (by simp [hx])
    rcases List.mem_cons.1 hx with rfl | hx
    · have := hle hl
      simp [h1, h2]; omega
    · have := filter_lt_of hl ⟨x, hx, h1, h2⟩
      cases hq : q y with
      | true => simp [hq, h y (by simp) hq]; omega
      | false => cases hp : p y <;> simp [hq, hp] <;> omega

/-- The end of the law: who is active until when. -/
theorem live_end (l : List TLive) (now : Int) (hl : l.length ≤ 402) (who : List Int) (next : Int) (hw : impl_LiveAt l now = some who) (hn : impl_LiveNext l now = some next) : laws_FnLive_j2 (l, now) who now next false = some true := by
  have hp : l.length ≤ 1048576 := by omega
  obtain ⟨b, hs, hi⟩ := liveRight_same l hp
  unfold laws_FnLive_j2
  simp only [cond_false]
  cases b with
  | false =>
    have e1 : who = [] := by
      unfold impl_LiveAt at hw; rw [hi] at hw; exact (Option.some.inj hw).symm
    have e2 : next = -1 := by
      unfold impl_LiveNext at hn; rw [hi] at hn; exact (Option.some.inj hn).symm
    subst e1 e2
    rfl
  | true =>
    have hrt := right_rt l hp hs
    rw [liveAt_is l hp hi now] at hw
    rw [liveNext_is l hp hi now] at hn
    cases hw
    cases hn
    have hmin := nxt_least now l (fun e he => (hrt.2 e he).2.1) (-1) [] (.inl ⟨rfl, fun e he => by cases he⟩)
    simp only [List.nil_append] at hmin
    rcases hmin with ⟨h1, h2⟩ | ⟨h1, h2, ⟨e, he, h3⟩, h4⟩
    · rw [h1, decide_eq_true (by omega : (-1 : Int) < 0)]
      have : (l.filter fun e => decide (e.till > now)) = [] := List.filter_eq_nil_iff.2 fun e he => by have := h2 e he; simp; omega
      rw [this]
      rfl
    · generalize hnx : l.foldl (nxt now) (-1) = nx at *
      have hb := (hrt.2 e he).2
      rw [decide_eq_false (by omega : ¬ nx < 0), wrap_id (by omega) (by omega)]
      have hsame : (l.filter fun e => decide (e.till > nx - 1)) = l.filter fun e => decide (e.till > now) := by
        apply List.filter_congr
        intro f hf
        by_cases hlt : f.till > now
        · have := h4 f hf hlt
          rw [decide_eq_true hlt, decide_eq_true (by omega)]
        · rw [decide_eq_false hlt, decide_eq_false (by omega)]
      simp only [cond_false, liveAt_is l hp hi, Option.bind_some, hsame]
      rw [lwNums_self _ (by have := List.length_filter_le (fun e : TLive => decide (e.till > now)) l; rw [List.length_map]; omega)]
      simp only [Option.bind_some, cond_true]
      have hless := filter_lt_of (p := fun e : TLive => decide (e.till > now)) (q := fun e => decide (e.till > nx)) (l := l) (fun f hf hq => by
        have := of_decide_eq_true hq
        exact decide_eq_true (by omega)) ⟨e, he, decide_eq_true (by omega), decide_eq_false (by omega)⟩
      rw [decide_eq_true (by simp only [List.length_map]; omega : (((l.filter fun e => decide (e.till > nx)).map (·.user)).length : Int) < ((l.filter fun e => decide (e.till > now)).map (·.user)).length)]
      simp only [cond_true, laws_FnLive_j1]
      rw [decide_eq_true (by omega : nx > now)]

/-- The middle of the law: joining. -/
theorem live_mid (a b : List TLive) (ha : a.length ≤ 402) (hb : b.length ≤ 402) (j : TLiveOut) (hj : impl_LiveJoin a b = some j) (l : List TLive) (now : Int) (who : List Int) (next : Int) (hend : laws_FnLive_j2 (l, now) who now next false = some true) :
    laws_lwLive j j = some true ∧ laws_FnLive_j3 (a, b) j (l, now) who j.code now next false = some true := by
  have hap : a.length ≤ 1048576 := by omega
  have hbp : b.length ≤ 1048576 := by omega
  obtain ⟨ra, rb, hsa, hsb, _, hi⟩ := liveJoin_same a b hap hbp
  obtain ⟨rb', ra', hsb', hsa', _, hi2⟩ := liveJoin_same b a hbp hap
  rw [hsb] at hsb'; cases hsb'
  rw [hsa] at hsa'; cases hsa'
  rw [hi] at hj
  cases hj
  have hcomm : joinOf b a rb ra = joinOf a b ra rb := by
    unfold joinOf
    by_cases h : a.length > 400 ∨ b.length > 400
    · rw [if_pos h, if_pos (by omega)]
    · rw [if_neg h, if_neg (by omega)]
      by_cases hr : ra = true ∧ rb = true
      · rw [if_pos hr, if_pos ⟨hr.2, hr.1⟩]
        obtain ⟨rfl, rfl⟩ := hr
        rw [join_comm (right_rt a hap hsa).1 (right_rt b hbp hsb).1]
      · rw [if_neg hr, if_neg (fun h => hr ⟨h.2, h.1⟩)]
  have hcase : (joinOf a b ra rb).code = 0 → (joinOf a b ra rb).row = b.foldl ins a ∧ Rt a ∧ Rt b ∧ rb = true ∧ b.length ≤ 400 := by
    unfold joinOf
    split
    · intro h; cases h
    · rename_i h1
      split
      · rename_i h2
        obtain ⟨rfl, rfl⟩ := h2
        exact fun _ => ⟨rfl, right_rt a hap hsa, right_rt b hbp hsb, rfl, by omega⟩
      · intro h; cases h
  have hself : laws_lwLive (joinOf a b ra rb) (joinOf a b ra rb) = some true := lwLive_self _ (joinOf_len a b ra rb) fun h => by
    obtain ⟨h1, h2, h3, _⟩ := hcase h
    have h4 := fold_rt b a h2 h3.2
    rw [h1]
    exact rt_right _ (by have := rt_len h4; omega) h4
  refine ⟨hself, ?_⟩
  unfold laws_FnLive_j3
  have e : TLiveOut.mk (joinOf a b ra rb).row (joinOf a b ra rb).code = joinOf a b ra rb := rfl
  simp only [cond_false, hi2, Option.bind_some, hcomm, e, hself, cond_true]
  by_cases hc : (joinOf a b ra rb).code = 0
  · obtain ⟨h1, h2, h3, h4, h5⟩ := hcase hc
    subst h4
    have hrt := fold_rt b a h2 h3.2
    have hl6 := rt_len hrt
    obtain ⟨rj, rb2, hsj, hsb2, _, hij⟩ := liveJoin_same (joinOf a b ra true).row b (by rw [h1]; omega) hbp
    rw [hsb] at hsb2; cases hsb2
    rw [h1, rt_right _ (by omega) hrt] at hsj
    cases hsj
    have hag : joinOf (joinOf a b ra true).row b true true = joinOf a b ra true := by
      have e2 : joinOf a b ra true = TLiveOut.mk (b.foldl ins a) 0 := by rw [← e, h1, hc]
      rw [h1, e2]
      unfold joinOf
      rw [if_neg (by omega), if_pos ⟨rfl, rfl⟩, join_again h2.1 h3.1]
    rw [hc]
    simp only [beq_self_eq_true, cond_true, hij, hag, Option.bind_some]
    rw [hself]
    exact hend
  · rw [beq_false_of_ne hc]
    exact hend

theorem fnLive_true (p q : List Int) : laws_FnLive p q = some true := by
  unfold laws_FnLive
  by_cases hp : p.length ≤ 1048576
  · rw [decide_eq_false (by omega)]
    by_cases hq : q.length ≤ 1048576
    · rw [decide_eq_false (by omega)]
      unfold laws_FnLive_j4
      obtain ⟨⟨s, u, t⟩, h1, hl1⟩ := draw_set p hp
      obtain ⟨⟨a, b⟩, h2, hl2, hl3⟩ := draw_join q hq
      obtain ⟨⟨l, now⟩, h3, hl4⟩ := draw_at p hp
      simp only at hl1 hl2 hl3 hl4
      obtain ⟨x, hx1, hx2, hx3⟩ := liveSet_same s u t (by omega)
      obtain ⟨ra, rb, _, _, hj1, hj2⟩ := liveJoin_same a b (by omega) (by omega)
      obtain ⟨who, hw1, hw2, hw3⟩ := liveAt_same l (by omega) now
      obtain ⟨nx, hn1, hn2⟩ := liveNext_same l (by omega) now
      obtain ⟨r, hr1, hr2⟩ := liveRight_same l (by omega)
      have hend := live_end l now hl4 who nx hw2 hn2
      obtain ⟨hm1, hm2⟩ := live_mid a b hl2 hl3 _ hj2 l now who nx hend
      have hxs := lwLive_self x hx3 (setRow_right s u t (by omega) x hx1)
      simp only [cond_false, h1, h2, h3, hx1, hx2, hj1, hj2, hw1, hw2, hn1, hn2, hr1, hr2, hxs, hm1, Option.bind_some, cond_true, lwNums_self who hw3, bne_self_eq_false, beq_self_eq_true, Bool.not_true, hm2]
    · rw [decide_eq_true (by omega)]
      rfl
  · rw [decide_eq_true (by omega)]
    rfl

set_option maxRecDepth 100000 in
theorem fnLive_lifted (os : Os) (started : os.Started) (H : Type) (enc : TypeId × Value → H) :
    ReturnsInHanded {} Try.checked os 8 .any (Rows.fnLiveSpec.pre6 enc Try.prog Try.f8 Rows.fnLiveRow.domain false) (Rows.fnLiveSpec.post enc Try.prog Try.f8 false true false false) :=
  law_lifted (C := Try.checked) (ts := [44, 44]) (tb := 4) (by kernel_rfl) started (by kernel_rfl) Try.func8
    (ChangeSpec.witness6 (enc := enc) (C := Try.checked) false ⟨#[], #[.slice none 0 0, .slice none 0 0], []⟩ 8 (by kernel_rfl) (by kernel_rfl) (by kernel_rfl) (by kernel_rfl))
    (by kernel_rfl) rfl (by kernel_rfl) rfl (by kernel_rfl) rfl (fun ds h => match ds, h with | [_, _], _ => rfl)
    (OpensAll.cons (d := .slice 5) (by kernel_rfl) rfl (Opens.slice (sz := 1) (by kernel_rfl) (Opens.int (t := 5) (kd := .u8) (by kernel_rfl)) (by kernel_rfl) (by decide)) (OpensAll.cons (d := .slice 5) (by kernel_rfl) rfl (Opens.slice (sz := 1) (by kernel_rfl) (Opens.int (t := 5) (kd := .u8) (by kernel_rfl)) (by kernel_rfl) (by decide)) OpensAll.nil))
    (fun g hg => ok_laws_FnLive g.1 g.2.1 true (fnLive_true g.1 g.2.1))

theorem fnLive_holds : Rows.FnLiveSaid :=
  OpenClaim.holds_of_wide 8 Try.f8 rfl rfl rfl rfl rfl rfl rfl ⟨rfl, rfl, rfl, rfl, rfl⟩ rfl rfl rfl rfl rfl (by kernel_rfl) Try.func8 (by kernel_rfl)
    (of_decide_eq_true (by kernel_rfl)) (by unfold Func.isWrapper; first | (rw [if_pos (by decide +kernel)]; kernel_rfl) | (rw [if_neg (by decide +kernel)]; exact ⟨rfl, rfl⟩))
    (fun os started H enc _ => fnLive_lifted os started H enc)
end Go.Proofs.Ytiajhengifcljaa
