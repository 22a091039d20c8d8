/- Plain laws: the reference's list of all orders, CountOrders, Explain. No program here. -/
import Derived.Test.YthhfkicmgneokaaJc
import Derived.Test.YthhfkicmgneokaaHf
import Derived.Test.YthhfkicmgneokaaHg
import Derived.Test.YthhfkicmgneokaaQx8
import Derived.Test.YthhfkicmgneokaaQx9
namespace Go.Proofs.Ythhfkicmgneokaa.Q
open Go.RowKit Go.Proofs.YthhfkicmgneokaaW.PrintWords Go.Proofs.YthhfkicmgneokaaW.PrintLast Go.Proofs.YthhfkicmgneokaaW.PrintMore
set_option linter.unusedVariables false
set_option linter.unusedSimpArgs false

theorem copy_l (l : List Int) (hl : l.length < 17592186044416) : ∀ (d i k : Nat), d = l.length - i → i ≤ l.length → d < k → spec_l01Copy.l0 k l (l.take i) (i : Int) = some l := by
  intro d
  induction d with
  | zero =>
    intro i k hd hi hk
    obtain ⟨k, rfl⟩ := round_ hk
    simp only [spec_l01Copy.l0]
    rw [if_neg (by omega), List.take_of_length_le (by omega)]
  | succ d ih =>
    intro i k hd hi hk
    obtain ⟨k, rfl⟩ := round_ hk
    have hlt : i < l.length := by omega
    simp only [spec_l01Copy.l0]
    rw [if_pos (by omega), if_pos (by omega), if_pos (by rw [List.length_take]; omega), wrap_succ (n := l.length) hlt (by omega), rd_at l i hlt]
    have e : l.take i ++ [l[i]] = l.take (i + 1) := by rw [List.take_succ_eq_append_getElem hlt]
    rw [e]
    exact ih (i + 1) k (by omega) (by omega) (by omega)
theorem copy_ev (l : List Int) (hl : l.length < 17592186044416) : Ev (fun k => spec_l01Copy.f k l) l := by
  refine ⟨l.length + 1, fun k hk => ?_⟩
  show spec_l01Copy.f k l = _
  unfold spec_l01Copy.f
  exact copy_l l hl l.length 0 k (by omega) (by omega) (by omega)
theorem has_l (l : List Int) (a : Int) (hl : l.length ≤ 9223372036854775807) : ∀ (d i k : Nat), d = l.length - i → i ≤ l.length → d < k → spec_l01Has.l0 k l a (i : Int) = some ((l.drop i).contains a) := by
  intro d
  induction d with
  | zero =>
    intro i k hd hi hk
    obtain ⟨k, rfl⟩ := round_ hk
    simp only [spec_l01Has.l0]
    rw [if_neg (by omega), List.drop_eq_nil_of_le (by omega)]
    rfl
  | succ d ih =>
    intro i k hd hi hk
    obtain ⟨k, rfl⟩ := round_ hk
    have hlt : i < l.length := by omega
    simp only [spec_l01Has.l0]
    rw [if_pos (by omega), if_pos (by omega), wrap_succ (n := l.length) hlt hl, rd_at l i hlt, List.drop_eq_getElem_cons hlt, ih (i + 1) k (by omega) (by omega) (by omega), List.contains_cons]
    by_cases h : l[i] = a
    · rw [if_pos h, h]; simp
    · rw [if_neg h, show (a == l[i]) = false by simp; exact fun hh => h hh.symm, Bool.false_or]
theorem has_ev (l : List Int) (a : Int) (hl : l.length ≤ 9223372036854775807) : Ev (fun k => spec_l01Has.f k l a) (l.contains a) := by
  refine ⟨l.length + 1, fun k hk => ?_⟩
  show spec_l01Has.f k l a = _
  unfold spec_l01Has.f
  have h := has_l l a hl l.length 0 k (by omega) (by omega) (by omega)
  rw [List.drop_zero] at h
  exact h

/-- All linearizations that begin with ord; none if ord itself does not go. -/
def O (lc : List S55) (d : Nat) (ord : List Int) : List (List Int) := match runSt lc [] [] ord with
  | none => []
  | some st => allc lc d ord st
theorem flat_len {α : Type} (B : Nat) (g : Nat → List α) (h : ∀ i, (g i).length ≤ B) : ∀ L : List Nat, (L.flatMap g).length ≤ L.length * B
  | [] => by simp
  | i :: r => by
    rw [List.flatMap_cons, List.length_append, List.length_cons, Nat.succ_mul]
    have := flat_len B g h r
    have := h i
    omega
theorem allc_len (lc : List S55) (hn : lc.length ≤ 7) : ∀ (d : Nat) (ord st : List Int), (allc lc d ord st).length ≤ 7 ^ d
  | 0, ord, st => by simp [allc]
  | d + 1, ord, st => by
    rw [allc]
    refine Nat.le_trans (flat_len (7 ^ d) _ (fun i => ?_) _) ?_
    · by_cases hb : blocked lc ord i = true
      · rw [if_pos hb]; simp
      · rw [if_neg hb]
        cases stepS (rd_T55 lc (i : Int)) st with
        | none => simp
        | some st' => exact allc_len lc hn d _ _
    · rw [List.length_range, Nat.pow_succ, Nat.mul_comm (7 ^ d) 7]
      exact Nat.mul_le_mul_right _ hn
theorem O_len (lc : List S55) (hn : lc.length ≤ 7) (d : Nat) (ord : List Int) : (O lc d ord).length ≤ 7 ^ d := by
  unfold O
  cases runSt lc [] [] ord with
  | none => simp
  | some st => exact allc_len lc hn d ord st
theorem O_succ (lc : List S55) (d : Nat) (ord : List Int) : O lc (d + 1) ord = (List.range lc.length).flatMap fun (i : Nat) => if ord.contains (i : Int) then [] else O lc d (ord ++ [(i : Int)]) := by
  unfold O
  have hs : ∀ i ∈ List.range lc.length, runSt lc [] [] (ord ++ [(i : Int)]) = (runSt lc [] [] ord).bind fun st => if blocked lc ord i then none else stepS (rd_T55 lc i) st := by
    intro i hi
    rw [runSt_snoc]
    congr 1
    funext st
    rw [List.nil_append, next_nat (List.mem_range.1 hi)]
  cases h : runSt lc [] [] ord with
  | none =>
    rw [eq_comm, List.flatMap_eq_nil_iff]
    intro i hi
    have := hs i hi
    rw [h] at this
    rw [this]
    simp
  | some st =>
    show allc lc (d + 1) ord st = _
    rw [allc]
    rw [List.flatMap_def, List.flatMap_def]
    congr 1
    refine List.map_congr_left (fun i hi => ?_)
    have h2 := hs i hi
    rw [h, Option.bind_some] at h2
    rw [h2]
    by_cases hc : ord.contains (i : Int) = true
    · rw [if_pos hc, if_pos (by unfold blocked; rw [hc]; rfl)]
    · rw [if_neg hc]
      by_cases hb : blocked lc ord i = true
      · rw [if_pos hb, if_pos hb]
      · rw [if_neg hb, if_neg hb]
        cases stepS (rd_T55 lc (i : Int)) st <;> rfl

theorem l1_app (lc : List S55) (ord : List Int) (i : Nat) (L : List (List Int)) (hL : L.length ≤ 9223372036854775807) (v : List (List Int)) : ∀ (d j : Nat) (acc : List (List Int)), d = L.length - j → j ≤ L.length → acc.length + d < 5864062014805 →
    Ev (fun k => spec_l16Orders.l0 k lc ord (acc ++ L.drop j) (wrap64 ((i : Int) + 1))) v → Ev (fun k => spec_l16Orders.l1 k lc ord acc (i : Int) L (j : Int)) v := by
  intro d
  induction d with
  | zero =>
    intro j acc hd hj hb hv
    refine Ev.step (f := fun k => spec_l16Orders.l0 k lc ord acc (wrap64 ((i : Int) + 1))) (fun k => ?_) ?_
    · simp only [spec_l16Orders.l1]
      rw [if_neg (by omega)]
    · rw [List.drop_eq_nil_of_le (by omega), List.append_nil] at hv
      exact hv
  | succ d ih =>
    intro j acc hd hj hb hv
    have hlt : j < L.length := by omega
    refine Ev.step (f := fun k => spec_l16Orders.l1 k lc ord (acc ++ [L[j]]) (i : Int) L ((j + 1 : Nat) : Int)) (fun k => ?_) ?_
    · simp only [spec_l16Orders.l1]
      rw [if_pos (by omega), if_pos (by omega), if_pos (by omega), wrap_succ (n := L.length) hlt (by omega)]
      have e : rd_L5 L (j : Int) = L[j] := by unfold rd_L5; rw [Int.toNat_natCast, getD_at _ _ _ hlt]
      rw [e]
    · refine ih (j + 1) (acc ++ [L[j]]) (by omega) (by omega) (by simp; omega) ?_
      rw [List.append_assoc, List.singleton_append, ← List.drop_eq_getElem_cons hlt]
      exact hv

theorem step_bound (a b m : Nat) (hb : b ≤ 823543) (h : a + (m + 1) * 823543 ≤ 5764801) : a + b + m * 823543 ≤ 5764801 := by rw [Nat.succ_mul] at h; omega
theorem step_room (a b m : Nat) (hb : b ≤ 823543) (h : a + (m + 1) * 823543 ≤ 5764801) : a + b < 5864062014805 := by rw [Nat.succ_mul] at h; omega
theorem orders_ev (lc : List S55) (hok : areOk lc = true) : ∀ (d : Nat) (ord : List Int), ord.length + d = lc.length → Ev (fun k => spec_l16Orders.f k lc ord) (O lc d ord) := by
  have hn := areOk_len hok
  intro d
  induction d with
  | zero =>
    intro ord hl
    refine Ev.step (f := fun k => (spec_Explains.f k lc ord).bind fun t => if t = true then (spec_l01Copy.f k ord).bind fun c => some [c] else some []) (fun k => ?_) ?_
    · simp only [spec_l16Orders.f, Option.bind_some]
      rw [if_pos (by omega)]
      congr 1
    · refine Ev.bind (sExplains_ev lc ord (by omega) (by omega)) ?_
      have e : explB lc ord = (runSt lc [] [] ord).isSome := by
        unfold explB
        rw [hok, Bool.true_and, Bool.eq_iff_iff, decide_eq_true_iff, mem_allc]
        constructor
        · rintro ⟨r, hr, _, h⟩
          rw [List.nil_append] at hr
          rw [hr]; exact h
        · intro h
          exact ⟨ord, rfl, by omega, h⟩
      rw [e]
      unfold O
      cases runSt lc [] [] ord with
      | none =>
        simp only [Option.isSome_none, Bool.false_eq_true, if_false]
        exact Ev.now []
      | some st =>
        simp only [Option.isSome_some, if_true, allc]
        exact Ev.bind (copy_ev ord (by omega)) (Ev.now [ord])
  | succ d ih =>
    intro ord hl
    refine Ev.step (f := fun k => spec_l16Orders.l0 k lc ord [] 0) (fun k => ?_) ?_
    · simp only [spec_l16Orders.f, Option.bind_some]
      rw [if_neg (by omega)]
    · have hB : ∀ i : Nat, (O lc d (ord ++ [(i : Int)])).length ≤ 823543 := fun i => Nat.le_trans (O_len lc hn d _) (Nat.le_trans (Nat.pow_le_pow_right (by omega) (show d ≤ 7 by omega)) (by decide))
      have loop : ∀ (m i : Nat) (acc : List (List Int)), m = lc.length - i → i ≤ lc.length → acc.length + m * 823543 ≤ 5764801 →
          Ev (fun k => spec_l16Orders.l0 k lc ord acc (i : Int)) (acc ++ ((List.range lc.length).drop i).flatMap fun (i : Nat) => if ord.contains (i : Int) then [] else O lc d (ord ++ [(i : Int)])) := by
        intro m
        induction m with
        | zero =>
          intro i acc hm hi hacc
          refine Ev.step (f := fun _ => some acc) (fun k => ?_) ?_
          · simp only [spec_l16Orders.l0]
            rw [if_neg (by omega)]
          · rw [List.drop_eq_nil_of_le (by simp; omega), List.flatMap_nil, List.append_nil]
            exact Ev.now acc
        | succ m ihm =>
          intro i acc hm hi hacc
          have hlt : i < lc.length := by omega
          refine Ev.step (f := fun k => (spec_l01Has.f k ord (i : Int)).bind fun t => if t = true then spec_l16Orders.l0 k lc ord acc (wrap64 ((i : Int) + 1)) else (spec_l01Copy.f k ord).bind fun c => if c.length < 17592186044416 then (spec_l16Orders.f k lc (c ++ [(i : Int)])).bind fun L => spec_l16Orders.l1 k lc ord acc (i : Int) L 0 else none) (fun k => ?_) ?_
          · simp only [spec_l16Orders.l0]
            rw [if_pos (by omega)]
          · have hdr : (List.range lc.length).drop i = i :: (List.range lc.length).drop (i + 1) := by rw [List.drop_eq_getElem_cons (by simpa using hlt), List.getElem_range]
            rw [hdr, List.flatMap_cons]
            refine Ev.bind (has_ev ord (i : Int) (by omega)) ?_
            have hw : wrap64 ((i : Int) + 1) = ((i + 1 : Nat) : Int) := wrap_succ (n := lc.length) hlt (by omega)
            by_cases hc : ord.contains (i : Int) = true
            · rw [if_pos hc, List.nil_append]
              refine Ev.congr (fun k => if_pos hc) ?_
              rw [hw]
              exact ihm (i + 1) acc (by omega) (by omega) (step_bound acc.length 0 m (Nat.zero_le _) hacc)
            · rw [if_neg hc]
              refine Ev.congr (fun k => if_neg hc) (Ev.bind (copy_ev ord (by omega)) ?_)
              refine Ev.congr (fun k => if_pos (by omega)) (Ev.bind (ih (ord ++ [(i : Int)]) (by simp; omega)) ?_)
              have hb := hB i
              have hdec : (823543 : Nat) ≤ 9223372036854775807 := by omega
              refine l1_app lc ord i (O lc d (ord ++ [(i : Int)])) (Nat.le_trans hb hdec) _ (O lc d (ord ++ [(i : Int)])).length 0 acc (Nat.sub_zero _).symm (Nat.zero_le _) (step_room _ _ m hb hacc) ?_
              rw [List.drop_zero, hw, ← List.append_assoc]
              exact ihm (i + 1) _ (by omega) (by omega) (by rw [List.length_append]; exact step_bound _ _ m hb hacc)
      have h := loop lc.length 0 [] (by omega) (by omega) (by simp; omega)
      rw [List.drop_zero, List.nil_append, ← O_succ] at h
      exact h

theorem orders_top (lc : List S55) (hok : areOk lc = true) : Ev (fun k => spec_l16Orders.f k lc []) (allc lc lc.length [] []) := orders_ev lc hok lc.length [] (by simp)

/-! ### CountOrders -/
theorem fold_N : ∀ (L : List (List Int)) (n : Int), 0 ≤ n → n + L.length ≤ 9223372036854775807 → foldStop stepN L n = (n + L.length, true)
  | [], n, _, _ => by simp [foldStop]
  | o :: r, n, h0, h => by
    rw [List.length_cons] at h
    have hw : wrap64 (n + 1) = n + 1 := by unfold wrap64; omega
    rw [foldStop]
    simp only [stepN, if_true, hw]
    rw [fold_N r (n + 1) (by omega) (by omega), List.length_cons]
    congr 1
    omega
theorem countOrders_ev (lc : List S55) (hl : lc.length ≤ 9223372036854775807) : Ev (fun k => spec_CountOrders.f k lc) (countP lc) := by
  unfold spec_CountOrders.f countP
  refine Ev.bind (fine_ev lc hl) ?_
  cases hok : areOk lc with
  | false =>
    simp only [Bool.false_eq_true, if_false]
    exact Ev.now (-1)
  | true =>
    simp only [if_true]
    refine Ev.bind (orders_top lc hok) ?_
    have hb := allc_len lc (areOk_len hok) lc.length [] []
    have hp : 7 ^ lc.length ≤ 7 ^ 7 := Nat.pow_le_pow_right (by omega) (areOk_len hok)
    have h7 : (7 : Nat) ^ 7 = 823543 := by decide
    rw [ext_fold, fold_N _ 0 (by omega) (by omega), Int.zero_add]
    exact Ev.now _

/-! ### Explain -/
theorem fold_X : ∀ (L : List (List Int)), (foldStop stepX L none).1 = L.head?
  | [] => rfl
  | o :: r => by simp [foldStop, stepX]
theorem explain_head (lc : List S55) : explainP lc = if areOk lc then (allc lc lc.length [] []).head? else none := by
  unfold explainP
  rw [ext_fold, fold_X]
end Go.Proofs.Ythhfkicmgneokaa.Q
