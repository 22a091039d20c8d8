/- Plain laws for FnExplained: counting, calls in a row, widened calls. No program here but what the print tells of it. -/
import Derived.Test.YthhfkicmgneokaaJe
import Derived.Test.YthhfkicmgneokaaHi
import Derived.Test.YthhfkicmgneokaaQx31
import Derived.Test.YthhfkicmgneokaaQx25
namespace Go.Proofs.Ythhfkicmgneokaa.Q
open Go.RowKit Go.Proofs.YthhfkicmgneokaaW.PrintWords Go.Proofs.YthhfkicmgneokaaW.PrintLast Go.Proofs.YthhfkicmgneokaaW.PrintMore
set_option linter.unusedVariables false
set_option linter.unusedSimpArgs false

theorem countP_eq (lc : List S55) : countP lc = if areOk lc then ((allc lc lc.length [] []).length : Int) else -1 := by
  unfold countP
  cases hok : areOk lc with
  | false => rfl
  | true =>
    simp only [if_true]
    have hb := allc_len lc (areOk_len hok) lc.length [] []
    have hp : 7 ^ lc.length ≤ 7 ^ 7 := Nat.pow_le_pow_right (by omega) (areOk_len hok)
    have h7 : (7 : Nat) ^ 7 = 823543 := by decide
    rw [ext_fold, fold_N _ 0 (by omega) (by omega), Int.zero_add]
theorem same_l (l : List Int) (hl : l.length ≤ 9223372036854775807) : ∀ (d i k : Nat), d = l.length - i → i ≤ l.length → d < k → laws_same.l0 k l l (i : Int) = some true
  | d, i, 0 => fun _ _ hk => absurd hk (Nat.not_lt_zero _)
  | d, i, k + 1 => fun hd hi hk => by
    rw [laws_same.l0]
    by_cases c : (i : Int) < (l.length : Int)
    · rw [if_pos c, if_pos (by omega), if_pos c, if_pos rfl, wrap_succ (n := l.length) (by omega) (by omega)]
      exact same_l l hl (d - 1) (i + 1) k (by omega) (by omega) (by omega)
    · rw [if_neg c]
theorem same_ev (l : List Int) (hl : l.length ≤ 9223372036854775807) : Ev (fun k => laws_same.f k l l) true :=
  Ev.of (g := fun k => laws_same.f k l l) (laws_same.mono l l) (k := l.length + 1) (by
    unfold laws_same.f
    rw [if_pos rfl]
    exact same_l l hl l.length 0 (l.length + 1) (by omega) (by omega) (by omega))

/-! ### in a row -/
theorem inRow_l (lc : List S55) (hl : lc.length ≤ 9223372036854775807) : ∀ (d i : Nat), d = lc.length - i → 1 ≤ i → (∀ j, 1 ≤ j → j < i → j < lc.length → ahead (rd_T55 lc ((j - 1 : Nat) : Int)) (rd_T55 lc (j : Int)) = true) →
    ∃ v, Ev (fun k => impl_InRow.l0 k lc (i : Int)) v ∧ (v = true → ∀ j, 1 ≤ j → j < lc.length → ahead (rd_T55 lc ((j - 1 : Nat) : Int)) (rd_T55 lc (j : Int)) = true)
  | 0, i => fun hd hi hp => ⟨areOk lc, Ev.step (f := fun _ => some (areOk lc)) (fun k => by rw [impl_InRow.l0, if_neg (by omega)]; rfl) (Ev.now _), fun _ j h1 h2 => hp j h1 (by omega) h2⟩
  | d + 1, i => fun hd hi hp => by
    have hw : wrap64 ((i : Int) + 1) = ((i + 1 : Nat) : Int) := wrap_succ (n := lc.length) (by omega) (by omega)
    have hv : wrap64 ((i : Int) - 1) = ((i - 1 : Nat) : Int) := by unfold wrap64; omega
    have hA : Ev (fun k => impl_Ahead.f k (rd_T55 lc ((i - 1 : Nat) : Int)).f0 (rd_T55 lc ((i - 1 : Nat) : Int)).f1 (rd_T55 lc ((i - 1 : Nat) : Int)).f2 (rd_T55 lc ((i - 1 : Nat) : Int)).f3 (rd_T55 lc ((i - 1 : Nat) : Int)).f4 (rd_T55 lc (i : Int)).f0 (rd_T55 lc (i : Int)).f1 (rd_T55 lc (i : Int)).f2 (rd_T55 lc (i : Int)).f3 (rd_T55 lc (i : Int)).f4) (ahead (rd_T55 lc ((i - 1 : Nat) : Int)) (rd_T55 lc (i : Int))) :=
      Ev.of (g := fun k => impl_Ahead.f k _ _ _ _ _ _ _ _ _ _) (fun k => impl_Ahead.mono _ _ _ _ _ _ _ _ _ _ k) (k := 1) (ahead_f _ _)
    have hstep : ∀ k, impl_InRow.l0 (k + 1) lc (i : Int) = (impl_Ahead.f k (rd_T55 lc ((i - 1 : Nat) : Int)).f0 (rd_T55 lc ((i - 1 : Nat) : Int)).f1 (rd_T55 lc ((i - 1 : Nat) : Int)).f2 (rd_T55 lc ((i - 1 : Nat) : Int)).f3 (rd_T55 lc ((i - 1 : Nat) : Int)).f4 (rd_T55 lc (i : Int)).f0 (rd_T55 lc (i : Int)).f1 (rd_T55 lc (i : Int)).f2 (rd_T55 lc (i : Int)).f3 (rd_T55 lc (i : Int)).f4).bind fun t => if t = true then impl_InRow.l0 k lc ((i + 1 : Nat) : Int) else some false := fun k => by
      rw [impl_InRow.l0, hv, hw, if_pos (by omega), if_pos (by omega), if_pos (by omega), if_pos (by omega)]
    cases hh : ahead (rd_T55 lc ((i - 1 : Nat) : Int)) (rd_T55 lc (i : Int)) with
    | false =>
      rw [hh] at hA
      exact ⟨false, Ev.step hstep (Ev.bind hA (Ev.congr (fun k => if_neg (by decide)) (Ev.now _))), fun h => by simp at h⟩
    | true =>
      rw [hh] at hA
      obtain ⟨v, hE, hv'⟩ := inRow_l lc hl d (i + 1) (by omega) (by omega) (fun j h1 h2 h3 => by
        by_cases c : j = i
        · subst c; exact hh
        · exact hp j h1 (by omega) h3)
      exact ⟨v, Ev.step hstep (Ev.bind hA (Ev.congr (fun k => if_pos rfl) hE)), hv'⟩
theorem inRow_ev (lc : List S55) (hl : lc.length ≤ 9223372036854775807) : ∃ v, Ev (fun k => impl_InRow.f k lc) v ∧ (v = true → ∀ j, 1 ≤ j → j < lc.length → ahead (rd_T55 lc ((j - 1 : Nat) : Int)) (rd_T55 lc (j : Int)) = true) :=
  inRow_l lc hl (lc.length - 1) 1 rfl (Nat.le_refl _) (fun j h1 h2 => by omega)

theorem callOk_parts {x : S55} (h : callOk x = true) : 0 ≤ x.f4 ∧ x.f4 ≤ 1000000 ∧ 0 ≤ x.f3 ∧ x.f3 ≤ x.f4 := by
  unfold callOk at h
  simp only [Bool.and_eq_true, decide_eq_true_eq] at h
  exact ⟨h.2.1.1.1, h.2.1.1.2, h.2.1.2, h.2.2⟩
theorem ahead_parts {a b : S55} (h : ahead a b = true) : callOk a = true ∧ callOk b = true ∧ a.f4 < b.f3 := by
  unfold ahead at h
  simp only [Bool.and_eq_true, decide_eq_true_eq] at h
  exact ⟨h.1.1, h.1.2, h.2⟩
theorem ahead_of {a b : S55} (ha : callOk a = true) (hb : callOk b = true) (h : a.f4 < b.f3) : ahead a b = true := by
  unfold ahead
  simp only [Bool.and_eq_true, decide_eq_true_eq]
  exact ⟨⟨ha, hb⟩, h⟩
theorem ahead_far {lc : List S55} (h : ∀ j, 1 ≤ j → j < lc.length → ahead (rd_T55 lc ((j - 1 : Nat) : Int)) (rd_T55 lc (j : Int)) = true) :
    ∀ (d i : Nat), i + d + 1 < lc.length → ahead (rd_T55 lc (i : Int)) (rd_T55 lc ((i + d + 1 : Nat) : Int)) = true
  | 0, i => fun hi => h (i + 1) (by omega) hi
  | d + 1, i => fun hi => by
    have h1 := ahead_parts (ahead_far h d i (by omega))
    have h2 := ahead_parts (h (i + (d + 1) + 1) (by omega) hi)
    have h3 := callOk_parts h2.1
    have e : i + (d + 1) + 1 - 1 = i + d + 1 := by omega
    rw [e] at h2 h3
    exact ahead_of h1.1 h2.2.1 (by omega)
theorem sub_len {α : Type} [BEq α] [LawfulBEq α] : ∀ (l m : List α), l.Nodup → (∀ x ∈ l, x ∈ m) → l.length ≤ m.length
  | [], m, _, _ => Nat.zero_le _
  | x :: r, m, hn, h => by
    have hx := h x (List.mem_cons_self ..)
    have hr := sub_len r (m.erase x) (List.nodup_cons.1 hn).2 (fun y hy => (List.mem_erase_of_ne (fun e => (List.nodup_cons.1 hn).1 (by rw [← e]; exact hy))).2 (h y (List.mem_cons_of_mem _ hy)))
    rw [List.length_erase_of_mem hx] at hr
    have hp : 0 < m.length := List.length_pos_of_mem hx
    rw [List.length_cons]
    omega
/-- A call that ought to have come ahead of one that came: no order any more. -/
theorem dead (lc : List S55) (k : Nat) (hk : k < lc.length) : ∀ (d : Nat) (ord st : List Int), ord.length + d = lc.length → ord.Nodup → (∀ y ∈ ord, 0 ≤ y ∧ y < lc.length) → (k : Int) ∉ ord → (∃ y ∈ ord, ahead (rd_T55 lc (k : Int)) (rd_T55 lc y) = true) → allc lc d ord st = []
  | 0, ord, st, hl, hn, hin, hnk, _ => by
    exfalso
    have := sub_len ((k : Int) :: ord) ((List.range lc.length).map fun i : Nat => (i : Int)) (List.nodup_cons.2 ⟨hnk, hn⟩) (fun x hx => by
      rw [List.mem_map]
      rcases List.mem_cons.1 hx with rfl | hx
      · exact ⟨k, List.mem_range.2 hk, rfl⟩
      · have := hin x hx
        exact ⟨x.toNat, List.mem_range.2 (by omega), by omega⟩)
    simp at this
    omega
  | d + 1, ord, st, hl, hn, hin, hnk, ⟨y, hy, hay⟩ => by
    rw [allc, List.flatMap_eq_nil_iff]
    intro i hi
    have hlt : i < lc.length := List.mem_range.1 hi
    by_cases hb : blocked lc ord i = true
    · rw [if_pos hb]
    rw [if_neg hb]
    have hni : (i : Int) ∉ ord := fun hm => hb (by unfold blocked; rw [Bool.or_eq_true]; exact .inl (by simpa using hm))
    have hik : (k : Int) ≠ (i : Int) := fun e => by
      have : k = i := by omega
      subst this
      exact hb (by unfold blocked; rw [Bool.or_eq_true, List.any_eq_true]; exact .inr ⟨y, hy, hay⟩)
    cases stepS (rd_T55 lc (i : Int)) st with
    | none => rfl
    | some st' =>
      refine dead lc k hk d (ord ++ [(i : Int)]) st' (by simp; omega) ?_ ?_ ?_ ⟨y, List.mem_append_left _ hy, hay⟩
      · rw [List.nodup_append]
        exact ⟨hn, by simp, fun a ha b hb' => by simp at hb'; rintro rfl; exact hni (hb' ▸ ha)⟩
      · intro z hz
        rcases List.mem_append.1 hz with hz | hz
        · exact hin z hz
        · simp at hz; subst hz; omega
      · intro hm
        rcases List.mem_append.1 hm with hm | hm
        · exact hnk hm
        · simp at hm; omega
theorem flat_one {α : Type} (k : Nat) (g : Nat → List α) : ∀ L : List Nat, L.Nodup → (∀ i ∈ L, i ≠ k → g i = []) → (L.flatMap g).length ≤ (g k).length
  | [], _, _ => by simp
  | i :: r, hn, h => by
    rw [List.flatMap_cons, List.length_append]
    have hr := flat_one k g r (List.nodup_cons.1 hn).2 (fun j hj => h j (List.mem_cons_of_mem _ hj))
    by_cases c : i = k
    · subst c
      have : r.flatMap g = [] := by
        rw [List.flatMap_eq_nil_iff]
        intro j hj
        exact h j (List.mem_cons_of_mem _ hj) (fun e => (List.nodup_cons.1 hn).1 (e ▸ hj))
      rw [this]; simp
    · rw [h i (List.mem_cons_self ..) c, List.length_nil]; omega
def upto (k : Nat) : List Int := (List.range k).map fun i : Nat => (i : Int)
theorem upto_succ (k : Nat) : upto (k + 1) = upto k ++ [(k : Int)] := by unfold upto; rw [List.range_succ, List.map_append]; rfl
theorem mem_upto {k : Nat} {x : Int} : x ∈ upto k ↔ 0 ≤ x ∧ x < k := by
  unfold upto
  rw [List.mem_map]
  constructor
  · rintro ⟨i, hi, rfl⟩
    have := List.mem_range.1 hi
    omega
  · intro h
    exact ⟨x.toNat, List.mem_range.2 (by omega), by omega⟩
theorem upto_nodup : ∀ k : Nat, (upto k).Nodup
  | 0 => by simp [upto]
  | k + 1 => by
    rw [upto_succ, List.nodup_append]
    exact ⟨upto_nodup k, by simp, fun a ha b hb => by
      have := (mem_upto.1 ha)
      simp at hb
      omega⟩
theorem row_one (lc : List S55) (h : ∀ j, 1 ≤ j → j < lc.length → ahead (rd_T55 lc ((j - 1 : Nat) : Int)) (rd_T55 lc (j : Int)) = true) :
    ∀ (d k : Nat) (st : List Int), k + d = lc.length → (allc lc d (upto k) st).length ≤ 1
  | 0, k, st, _ => by rw [allc]; simp
  | d + 1, k, st, hk => by
    rw [allc]
    refine Nat.le_trans (flat_one k _ _ List.nodup_range ?_) ?_
    · intro i hi hik
      have hlt : i < lc.length := List.mem_range.1 hi
      by_cases hb : blocked lc (upto k) i = true
      · rw [if_pos hb]
      rw [if_neg hb]
      have hni : (i : Int) ∉ upto k := fun hm => hb (by unfold blocked; rw [Bool.or_eq_true]; exact .inl (by simpa using hm))
      have hgt : k < i := by
        have : ¬ (0 ≤ (i : Int) ∧ (i : Int) < k) := fun e => hni (mem_upto.2 e)
        omega
      cases stepS (rd_T55 lc (i : Int)) st with
      | none => rfl
      | some st' =>
        refine dead lc k (by omega) d _ st' (by simp [upto]; omega) ?_ ?_ ?_ ⟨(i : Int), by simp, ?_⟩
        · rw [List.nodup_append]
          exact ⟨upto_nodup k, by simp, fun a ha b hb' => by simp at hb'; rintro rfl; exact hni (hb' ▸ ha)⟩
        · intro z hz
          rcases List.mem_append.1 hz with hz | hz
          · have := mem_upto.1 hz; omega
          · simp at hz; subst hz; omega
        · intro hm
          rcases List.mem_append.1 hm with hm | hm
          · have := mem_upto.1 hm; omega
          · simp at hm; omega
        · have := ahead_far h (i - k - 1) k (by omega)
          have e : k + (i - k - 1) + 1 = i := by omega
          rwa [e] at this
    · by_cases hb : blocked lc (upto k) k = true
      · rw [if_pos hb]; simp
      rw [if_neg hb]
      cases stepS (rd_T55 lc (k : Int)) st with
      | none => simp
      | some st' =>
        have := row_one lc h d (k + 1) st' (by omega)
        rwa [upto_succ] at this

/-! ### widened calls -/
def wide (a : Int) (x : S55) : S55 := ⟨x.f0, x.f1, x.f2, mx 0 (wrap64 (x.f3 - a)), mn 1000000 (wrap64 (x.f4 + a))⟩
theorem wide_parts {a : Int} {x : S55} (h : callOk x = true) (h0 : 0 ≤ a) (h1 : a ≤ 1000000) : (wide a x).f3 ≤ x.f3 ∧ 0 ≤ (wide a x).f3 ∧ x.f4 ≤ (wide a x).f4 ∧ (wide a x).f4 ≤ 1000000 := by
  have hp := callOk_parts h
  have e1 : wrap64 (x.f3 - a) = x.f3 - a := by unfold wrap64; omega
  have e2 : wrap64 (x.f4 + a) = x.f4 + a := by unfold wrap64; omega
  unfold wide mx mn
  simp only [e1, e2]
  refine ⟨?_, ?_, ?_, ?_⟩ <;> split <;> omega
theorem wide_ok {a : Int} {x : S55} (h : callOk x = true) (h0 : 0 ≤ a) (h1 : a ≤ 1000000) : callOk (wide a x) = true := by
  have hp := callOk_parts h
  have hw := wide_parts h h0 h1
  unfold callOk at h ⊢
  simp only [Bool.and_eq_true, decide_eq_true_eq] at h ⊢
  exact ⟨h.1, ⟨⟨⟨by omega, hw.2.2.2⟩, hw.2.1⟩, by omega⟩⟩
theorem areOk_parts {lc : List S55} (h : areOk lc = true) : lc.length ≤ 7 ∧ ∀ x ∈ lc, callOk x = true := by
  refine ⟨areOk_len h, fun x hx => ?_⟩
  unfold areOk at h
  rw [Bool.and_eq_true] at h
  have h2 := h.2
  rw [Bool.not_eq_true', List.any_eq_false] at h2
  have := h2 x hx
  simpa using this
theorem areOk_of {lc : List S55} (h1 : lc.length ≤ 7) (h2 : ∀ x ∈ lc, callOk x = true) : areOk lc = true := by
  unfold areOk
  rw [Bool.and_eq_true, Bool.not_eq_true', List.any_eq_false]
  exact ⟨decide_eq_true (by omega), fun x hx => by simp [h2 x hx]⟩
theorem areOk_wide {lc : List S55} {a : Int} (h : areOk lc = true) (h0 : 0 ≤ a) (h1 : a ≤ 1000000) : areOk (lc.map (wide a)) = true := by
  have hp := areOk_parts h
  refine areOk_of (by simp [hp.1]) (fun x hx => ?_)
  obtain ⟨y, hy, rfl⟩ := List.mem_map.1 hx
  exact wide_ok (hp.2 y hy) h0 h1
theorem rd_in {lc : List S55} {x : Int} (h0 : 0 ≤ x) (h1 : x < lc.length) : rd_T55 lc x ∈ lc := by
  unfold rd_T55
  rw [getD_at _ _ _ (by omega)]
  exact List.getElem_mem _
theorem rd_wide {lc : List S55} (a : Int) {x : Int} (h0 : 0 ≤ x) (h1 : x < lc.length) : rd_T55 (lc.map (wide a)) x = wide a (rd_T55 lc x) := by
  unfold rd_T55
  rw [getD_at _ _ _ (by rw [List.length_map]; omega), getD_at _ _ _ (by omega), List.getElem_map]
theorem flat_sub {α : Type} (g g' : Nat → List α) : ∀ L : List Nat, (∀ i ∈ L, (g i).Sublist (g' i)) → (L.flatMap g).Sublist (L.flatMap g')
  | [], _ => by simp
  | i :: r, h => by
    rw [List.flatMap_cons, List.flatMap_cons]
    exact (h i (List.mem_cons_self ..)).append (flat_sub g g' r (fun j hj => h j (List.mem_cons_of_mem _ hj)))
theorem allc_wide (lc : List S55) (a : Int) (hok : areOk lc = true) (h0 : 0 ≤ a) (h1 : a ≤ 1000000) : ∀ (d : Nat) (ord st : List Int), (∀ y ∈ ord, 0 ≤ y ∧ y < lc.length) → (allc lc d ord st).Sublist (allc (lc.map (wide a)) d ord st)
  | 0, ord, st, _ => by rw [allc, allc]; exact List.Sublist.refl _
  | d + 1, ord, st, hin => by
    rw [allc, allc, List.length_map]
    refine flat_sub _ _ _ (fun i hi => ?_)
    have hlt : i < lc.length := List.mem_range.1 hi
    have hp := areOk_parts hok
    have hrw := rd_wide (lc := lc) a (x := (i : Int)) (by omega) (by omega)
    have hci := hp.2 _ (rd_in (lc := lc) (x := (i : Int)) (by omega) (by omega))
    by_cases hb : blocked lc ord i = true
    · rw [if_pos hb]; exact List.nil_sublist _
    rw [if_neg hb]
    have hbw : ¬ blocked (lc.map (wide a)) ord i = true := by
      intro hw
      apply hb
      unfold blocked at hw ⊢
      rw [Bool.or_eq_true] at hw ⊢
      rcases hw with hw | hw
      · exact .inl hw
      · right
        rw [List.any_eq_true] at hw ⊢
        obtain ⟨y, hy, hay⟩ := hw
        have hyr := hin y hy
        rw [hrw, rd_wide a hyr.1 hyr.2] at hay
        have hcy := hp.2 _ (rd_in hyr.1 hyr.2)
        have ha := ahead_parts hay
        have w1 := wide_parts hci h0 h1
        have w2 := wide_parts hcy h0 h1
        exact ⟨y, hy, ahead_of hci hcy (by omega)⟩
    rw [if_neg hbw, hrw]
    have hst : stepS (wide a (rd_T55 lc (i : Int))) st = stepS (rd_T55 lc (i : Int)) st := rfl
    rw [hst]
    cases stepS (rd_T55 lc (i : Int)) st with
    | none => exact List.Sublist.refl _
    | some st' =>
      refine allc_wide lc a hok h0 h1 d _ st' (fun z hz => ?_)
      rcases List.mem_append.1 hz with hz | hz
      · exact hin z hz
      · simp at hz; subst hz; omega
theorem widen_l (lc : List S55) (a : Int) (hl : lc.length ≤ 1000) : ∀ (d i k : Nat), d = lc.length - i → i ≤ lc.length → d < k → impl_Widen.l0 k a ((lc.take i).map (wide a)) lc (lc.length : Int) (i : Int) = some (lc.map (wide a), true)
  | d, i, 0 => fun _ _ hk => absurd hk (Nat.not_lt_zero _)
  | d, i, k + 1 => fun hd hi hk => by
    rw [impl_Widen.l0]
    by_cases c : (i : Int) < (lc.length : Int)
    · have e : (lc.take i).map (wide a) ++ [wide a (rd_T55 lc (i : Int))] = (lc.take (i + 1)).map (wide a) := by
        have hr : rd_T55 lc (i : Int) = lc[i]'(by omega) := by unfold rd_T55; rw [Int.toNat_natCast, getD_at _ _ _ (by omega)]
        rw [hr, List.take_succ_eq_append_getElem (by omega), List.map_append]; rfl
      rw [if_pos c, if_pos (by omega), if_pos c, if_pos (by rw [List.length_map, List.length_take]; omega), wrap_succ (n := lc.length) (by omega) (by omega)]
      show impl_Widen.l0 k a ((lc.take i).map (wide a) ++ [wide a (rd_T55 lc (i : Int))]) lc (lc.length : Int) ((i + 1 : Nat) : Int) = _
      rw [e]
      exact widen_l lc a hl (d - 1) (i + 1) k (by omega) (by omega) (by omega)
    · rw [if_neg c, List.take_of_length_le (by omega)]
theorem widen_ev (lc : List S55) (a : Int) (hok : areOk lc = true) (h0 : 0 ≤ a) (h1 : a ≤ 1000000) : Ev (fun k => impl_Widen.f k lc a) (lc.map (wide a), true) := by
  have hl := areOk_len hok
  refine Ev.of (g := fun k => impl_Widen.f k lc a) (impl_Widen.mono lc a) (k := lc.length + 2) ?_
  unfold impl_Widen.f
  rw [impl_areCalls.f, hok, Option.bind_some, if_pos rfl, within_f, Option.bind_some]
  have : (!(decide (0 ≤ a) && decide (a ≤ 1000000))) = false := by simp [h0, h1]
  rw [this, impl_Widen.j0, if_neg (by decide)]
  exact widen_l lc a (by omega) lc.length 0 (lc.length + 1) (by omega) (by omega) (by omega)
theorem explainE_len (lc : List S55) : ((explainP lc).getD []).length ≤ 7 := by
  rw [explain_head]
  cases hok : areOk lc with
  | false => simp
  | true =>
    rw [if_pos rfl]
    cases h : (allc lc lc.length [] []).head? with
    | none => simp
    | some o =>
      have hm : o ∈ allc lc lc.length [] [] := List.mem_of_mem_head? h
      obtain ⟨r, hr, hl, _⟩ := (mem_allc _ _ _ _ _).1 hm
      rw [List.nil_append] at hr
      rw [Option.getD_some, hr, hl]
      exact areOk_len hok
theorem explainE_ev (lc : List S55) (hl : lc.length ≤ 9223372036854775807) : Ev (fun k => spec_Explain.f k lc) ((explainP lc).getD [], (explainP lc).isSome) := by
  unfold spec_Explain.f
  refine Ev.bind (fine_ev lc hl) ?_
  rw [explain_head]
  cases hok : areOk lc with
  | false =>
    simp only [Bool.false_eq_true, if_false]
    exact Ev.now _
  | true =>
    simp only [if_true]
    refine Ev.bind (orders_top lc hok) ?_
    cases h : allc lc lc.length [] [] with
    | nil =>
      refine Ev.congr (fun k => if_pos (by simp)) (Ev.now _)
    | cons o r =>
      refine Ev.congr (fun k => (if_neg (by rw [List.length_cons]; omega)).trans (if_pos (by rw [List.length_cons]; omega))) ?_
      exact Ev.now _
end Go.Proofs.Ythhfkicmgneokaa.Q
