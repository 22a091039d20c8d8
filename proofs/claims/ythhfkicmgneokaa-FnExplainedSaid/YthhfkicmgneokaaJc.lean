/- Plain laws: the reference's Explains, and the law of impl.Explains. No program here. -/
import Derived.Test.YthhfkicmgneokaaJa
import Derived.Test.YthhfkicmgneokaaJb
import Derived.Test.YthhfkicmgneokaaHe
import Derived.Test.YthhfkicmgneokaaQx6
namespace Go.Proofs.Ythhfkicmgneokaa.Q
open Go.RowKit Go.Proofs.YthhfkicmgneokaaW.PrintWords Go.Proofs.YthhfkicmgneokaaW.PrintLast Go.Proofs.YthhfkicmgneokaaW.PrintMore
set_option linter.unusedVariables false
set_option linter.unusedSimpArgs false

theorem aheads_f (k : Nat) (hk : 1 ≤ k) (a b : S55) : spec_Ahead.f k a.f0 a.f1 a.f2 a.f3 a.f4 b.f0 b.f1 b.f2 b.f3 b.f4 = some (ahead a b) := by
  unfold spec_Ahead.f ahead
  rw [sCallOk_f k hk a, sCallOk_f k hk b]
  cases callOk a <;> cases callOk b <;> simp
theorem any_or {α : Type} (p q : α → Bool) : ∀ l : List α, (l.any fun x => p x || q x) = (l.any p || l.any q)
  | [] => rfl
  | x :: l => by
    rw [List.any_cons, List.any_cons, List.any_cons, any_or p q l]
    cases p x <;> cases q x <;> cases l.any p <;> cases l.any q <;> rfl
theorem blocked_any (lc : List S55) (ord : List Int) (x : Int) (h : 0 ≤ x) : blocked lc ord x.toNat = ord.any fun y => (x == y) || ahead (rd_T55 lc x) (rd_T55 lc y) := by
  unfold blocked
  rw [any_or, List.contains_eq_any_beq, show ((x.toNat : Nat) : Int) = x by omega]
theorem rd_at (l : List Int) (i : Nat) (h : i < l.length) : rd l (i : Int) = l[i] := by unfold rd; rw [Int.toNat_natCast, getD_at _ _ _ h]
/-- What the inner loop goes on with. -/
def cont (k : Nat) (lc : List S55) (lo st : List Int) (i : Int) (c : S55) : Option Bool :=
  if c.f0 = true then (if st.length < 17592186044416 then spec_Explains.l0 k lc lo (st ++ [c.f1]) (wrap64 (i + 1)) else none)
  else if (st.length : Int) > 0 then (if 0 ≤ wrap64 ((st.length : Int) - 1) then (if wrap64 ((st.length : Int) - 1) < (st.length : Int) then (if wrap64 ((st.length : Int) - 1) ≤ (st.length : Int) then (if rd st (wrap64 ((st.length : Int) - 1)) = c.f2 then spec_Explains.l0 k lc lo (st.take ((wrap64 ((st.length : Int) - 1)) : Int).toNat) (wrap64 (i + 1)) else some false) else none) else none) else none)
  else if -1 = c.f2 then spec_Explains.l0 k lc lo st (wrap64 (i + 1)) else some false
theorem l1_ev (lc : List S55) (lo st : List Int) (i : Nat) (hi : i < lo.length) (hl : lo.length ≤ 7) (hin : ∀ j (h : j < i), 0 ≤ rd lo (j : Int) ∧ rd lo (j : Int) < lc.length) (c : S55) (v : Bool) (hv : Ev (fun k => cont k lc lo st i c) v) :
    ∀ (d j : Nat), d = i - j → j ≤ i → Ev (fun k => spec_Explains.l1 k lc lo st (i : Int) (j : Int) c.f0 c.f1 c.f2 c.f3 c.f4) (if ((lo.take i).drop j).any (fun y => (rd lo (i : Int) == y) || ahead c (rd_T55 lc y)) then false else v) := by
  intro d
  induction d with
  | zero =>
    intro j hd hj
    have he : j = i := by omega
    subst he
    refine Ev.step (f := fun k => cont k lc lo st (j : Int) c) (fun k => ?_) ?_
    · simp only [spec_Explains.l1]
      rw [if_neg (by omega)]
      rfl
    · rw [List.drop_eq_nil_of_le (by rw [List.length_take]; omega)]
      exact hv
  | succ d ih =>
    intro j hd hj
    have hjl : j < i := by omega
    have hjt : j < (lo.take i).length := by rw [List.length_take]; omega
    obtain ⟨h0, h1⟩ := hin j hjl
    have hdrop : (lo.take i).drop j = rd lo (j : Int) :: (lo.take i).drop (j + 1) := by
      rw [List.drop_eq_getElem_cons hjt, List.getElem_take, rd_at lo j (by omega)]
    have hbody : ∀ k, spec_Explains.l1 (k + 1) lc lo st (i : Int) (j : Int) c.f0 c.f1 c.f2 c.f3 c.f4 = if rd lo (j : Int) = rd lo (i : Int) then some false else (spec_Ahead.f k c.f0 c.f1 c.f2 c.f3 c.f4 ((rd_T55 lc (rd lo j)).f0) ((rd_T55 lc (rd lo j)).f1) ((rd_T55 lc (rd lo j)).f2) ((rd_T55 lc (rd lo j)).f3) ((rd_T55 lc (rd lo j)).f4)).bind fun t => if t = true then some false else spec_Explains.l1 k lc lo st (i : Int) ((j + 1 : Nat) : Int) c.f0 c.f1 c.f2 c.f3 c.f4 := by
      intro k
      simp only [spec_Explains.l1]
      rw [if_pos (by omega), if_pos (by omega), if_pos (by omega), if_pos (by omega), if_pos (by omega), if_pos h0, if_pos h1, wrap_succ (n := i) hjl (by omega)]
    refine Ev.step hbody ?_
    rw [hdrop, List.any_cons]
    by_cases he : rd lo (j : Int) = rd lo (i : Int)
    · rw [show (rd lo (i : Int) == rd lo (j : Int)) = true by simp [he]]
      simp only [Bool.true_or, if_true]
      exact Ev.congr (fun k => if_pos he) (Ev.now false)
    · rw [show (rd lo (i : Int) == rd lo (j : Int)) = false by simp; exact fun h => he h.symm, Bool.false_or]
      refine Ev.congr (fun k => if_neg he) (Ev.bind (a := ahead c (rd_T55 lc (rd lo j))) ⟨1, fun k hk => aheads_f k hk _ _⟩ ?_)
      cases hah : ahead c (rd_T55 lc (rd lo j)) with
      | true => simp only [Bool.true_or, if_true]; exact Ev.now false
      | false =>
        simp only [Bool.false_or, Bool.false_eq_true, if_false]
        exact ih (j + 1) (by omega) (by omega)

theorem expl_l0 (lc : List S55) (lo : List Int) (hl : lo.length = lc.length) (hn : lc.length ≤ 7) : ∀ (d i : Nat) (st : List Int), d = lo.length - i → i ≤ lo.length → (∀ j (h : j < i), 0 ≤ rd lo (j : Int) ∧ rd lo (j : Int) < lc.length) → st.length ≤ i →
    Ev (fun k => spec_Explains.l0 k lc lo st (i : Int)) (runSt lc (lo.take i) st (lo.drop i)).isSome := by
  intro d
  induction d with
  | zero =>
    intro i st hd hi hin hst
    refine Ev.step (f := fun _ => some true) (fun k => ?_) ?_
    · simp only [spec_Explains.l0]
      rw [if_neg (by omega)]
    · rw [List.drop_eq_nil_of_le (by omega)]
      exact Ev.now true
  | succ d ih =>
    intro i st hd hi hin hst
    have hil : i < lo.length := by omega
    rw [List.drop_eq_getElem_cons hil, ← rd_at lo i hil]
    obtain ⟨x, hx⟩ : ∃ x, x = rd lo (i : Int) := ⟨_, rfl⟩
    rw [← hx]
    have hw : wrap64 ((lc.length : Int) - 1) = (lc.length : Int) - 1 := by unfold wrap64; omega
    have hbody : ∀ k, spec_Explains.l0 (k + 1) lc lo st (i : Int) = if 0 ≤ x ∧ x < lc.length then spec_Explains.l1 k lc lo st (i : Int) 0 ((rd_T55 lc x).f0) ((rd_T55 lc x).f1) ((rd_T55 lc x).f2) ((rd_T55 lc x).f3) ((rd_T55 lc x).f4) else some false := by
      intro k
      simp only [spec_Explains.l0]
      rw [if_pos (by omega), if_pos (by omega), l01In_f, Option.bind_some, hw, ← hx]
      by_cases h : 0 ≤ x ∧ x < lc.length
      · rw [if_pos h, if_pos (by rw [Bool.and_eq_true]; exact ⟨decide_eq_true h.1, decide_eq_true (by omega)⟩), if_pos h.1, if_pos h.2]
      · rw [if_neg h, if_neg (by rw [Bool.and_eq_true]; intro hh; exact h ⟨of_decide_eq_true hh.1, by have := of_decide_eq_true hh.2; omega⟩)]
    refine Ev.step hbody ?_
    rw [runSt]
    unfold next
    by_cases h : 0 ≤ x ∧ x < lc.length
    · rw [if_pos h]
      have hin' : ∀ j (hj : j < i + 1), 0 ≤ rd lo (j : Int) ∧ rd lo (j : Int) < lc.length := fun j hj => by
        by_cases e : j = i
        · subst e; rw [← hx]; exact h
        · exact hin j (by omega)
      have htk : lo.take i ++ [x] = lo.take (i + 1) := by rw [List.take_succ_eq_append_getElem hil, hx, rd_at lo i hil]
      rw [htk]
      have hstep : ∀ st', st'.length ≤ i + 1 → Ev (fun k => spec_Explains.l0 k lc lo st' (wrap64 ((i : Int) + 1))) (runSt lc (lo.take (i + 1)) st' (lo.drop (i + 1))).isSome := fun st' h' => by
        rw [wrap_succ (n := lo.length) hil (by omega)]
        exact ih (i + 1) st' (by omega) (by omega) hin' h'
      have hc : Ev (fun k => cont k lc lo st i (rd_T55 lc x)) ((stepS (rd_T55 lc x) st).bind fun st' => runSt lc (lo.take (i + 1)) st' (lo.drop (i + 1))).isSome := by
        unfold cont stepS
        by_cases h0 : (rd_T55 lc x).f0 = true
        · rw [if_pos h0]
          refine Ev.congr (fun k => (if_pos h0).trans (if_pos (by omega))) ?_
          exact hstep _ (by simp; omega)
        · rw [if_neg h0]
          refine Ev.congr (fun k => if_neg h0) ?_
          by_cases h1 : st.length = 0
          · rw [if_pos h1]
            refine Ev.congr (fun k => if_neg (by omega)) ?_
            by_cases h2 : (rd_T55 lc x).f2 = -1
            · rw [if_pos h2]
              refine Ev.congr (fun k => if_pos h2.symm) ?_
              exact hstep _ (by omega)
            · rw [if_neg h2]
              exact Ev.congr (fun k => if_neg (fun hh => h2 hh.symm)) (Ev.now false)
          · rw [if_neg h1]
            have hw2 : wrap64 ((st.length : Int) - 1) = (st.length : Int) - 1 := by unfold wrap64; omega
            refine Ev.congr (fun k => (if_pos (by omega)).trans ((if_pos (by omega)).trans ((if_pos (by omega)).trans (if_pos (by omega))))) ?_
            rw [hw2]
            by_cases h2 : (rd_T55 lc x).f2 = rd st ((st.length : Int) - 1)
            · rw [if_pos h2]
              refine Ev.congr (fun k => if_pos h2.symm) ?_
              rw [show ((st.length : Int) - 1).toNat = st.length - 1 by omega]
              exact hstep _ (by simp; omega)
            · rw [if_neg h2]
              exact Ev.congr (fun k => if_neg (fun hh => h2 hh.symm)) (Ev.now false)
      have h1 := l1_ev lc lo st i hil (by omega) hin (rd_T55 lc x) _ hc i 0 (by omega) (by omega)
      rw [List.drop_zero, ← hx] at h1
      rw [blocked_any lc _ x h.1]
      refine Ev.congr (fun k => if_pos h) ?_
      by_cases hb : ((lo.take i).any fun y => (x == y) || ahead (rd_T55 lc x) (rd_T55 lc y)) = true
      · rw [if_pos hb] at h1 ⊢
        exact h1
      · rw [if_neg hb] at h1 ⊢
        exact h1
    · rw [if_neg h]
      exact Ev.congr (fun k => if_neg h) (Ev.now false)

/-- The reference's Explains. -/
def explB (lc : List S55) (lo : List Int) : Bool := areOk lc && decide (lo ∈ allc lc lc.length [] [])
theorem sExplains_ev (lc : List S55) (lo : List Int) (hl : lc.length ≤ 9223372036854775807) (hlo : lo.length ≤ 9223372036854775807) : Ev (fun k => spec_Explains.f k lc lo) (explB lc lo) := by
  unfold spec_Explains.f explB
  refine Ev.bind (fine_ev lc hl) ?_
  cases hok : areOk lc with
  | false =>
    simp only [Bool.false_eq_true, if_false, Bool.false_and]
    exact Ev.step (f := fun _ => some false) (fun k => by simp only [spec_Explains.j0]; rfl) (Ev.now false)
  | true =>
    have h7 := areOk_len hok
    simp only [if_true, Bool.true_and]
    by_cases he : lo.length = lc.length
    · refine Ev.step (f := fun k => spec_Explains.l0 k lc lo [] 0) (fun k => by simp only [spec_Explains.j0]; rw [if_neg (by simp [he])]) ?_
      have h := expl_l0 lc lo he h7 lo.length 0 [] (by omega) (by omega) (fun j h => by omega) (by simp)
      rw [List.take_zero, List.drop_zero] at h
      have e : decide (lo ∈ allc lc lc.length [] []) = (runSt lc [] [] lo).isSome := by
        rw [Bool.eq_iff_iff, decide_eq_true_iff, mem_allc]
        constructor
        · rintro ⟨r, hr, _, h⟩
          rw [List.nil_append] at hr
          rw [hr]; exact h
        · intro h
          exact ⟨lo, rfl, he, h⟩
      rw [e]
      exact h
    · have e : decide (lo ∈ allc lc lc.length [] []) = false := by
        rw [decide_eq_false_iff_not, mem_allc]
        rintro ⟨r, hr, hlen, _⟩
        rw [List.nil_append] at hr
        exact he (by rw [hr, hlen])
      rw [e]
      exact Ev.step (f := fun _ => some false) (fun k => by simp only [spec_Explains.j0]; rw [if_pos (by simp; omega)]) (Ev.now false)

/-- The program's Explains is the same. -/
theorem fold_E (lo : List Int) : ∀ L : List (List Int), (foldStop (stepE lo) L false).1 = decide (lo ∈ L)
  | [] => by simp [foldStop]
  | o :: r => by
    rw [foldStop]
    by_cases h : lo = o
    · simp [stepE, h]
    · have h2 := fold_E lo r
      simp only [stepE, h, decide_false, Bool.not_false, if_true]
      rw [h2]
      simp [h]
theorem explains_same (lc : List S55) (lo : List Int) : impl_Explains.f lc lo = some (explB lc lo) := by
  unfold impl_Explains.f explainsP explB
  rw [ext_fold, fold_E]
  cases areOk lc <;> simp
end Go.Proofs.Ythhfkicmgneokaa.Q
