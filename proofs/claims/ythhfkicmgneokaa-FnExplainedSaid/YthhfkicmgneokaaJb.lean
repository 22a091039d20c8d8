/- Plain laws on orders: all linearizations that extend a prefix, and what the search makes of them. No program here. -/
import Derived.Test.YthhfkicmgneokaaHc
namespace Go.Proofs.Ythhfkicmgneokaa.Q
open Go.RowKit Go.Proofs.YthhfkicmgneokaaW.PrintWords Go.Proofs.YthhfkicmgneokaaW.PrintLast Go.Proofs.YthhfkicmgneokaaW.PrintMore
set_option linter.unusedVariables false
set_option linter.unusedSimpArgs false

/-- All linearizations that begin with ord, in order; d calls are left, the stack is st. -/
def allc (lc : List S55) : Nat → List Int → List Int → List (List Int)
  | 0, ord, _ => [ord]
  | d + 1, ord, st => (List.range lc.length).flatMap fun i => if blocked lc ord i then [] else match stepS (rd_T55 lc i) st with
      | none => []
      | some st' => allc lc d (ord ++ [(i : Int)]) st'

def foldStop {σ : Type} (step : σ → List Int → σ × Bool) : List (List Int) → σ → σ × Bool
  | [], s => (s, true)
  | o :: r, s => if (step s o).2 then foldStop step r (step s o).1 else ((step s o).1, false)
theorem foldStop_append {σ : Type} (step : σ → List Int → σ × Bool) : ∀ (L M : List (List Int)) (s : σ), foldStop step (L ++ M) s = if (foldStop step L s).2 then foldStop step M (foldStop step L s).1 else foldStop step L s
  | [], M, s => by simp [foldStop]
  | o :: r, M, s => by
    rw [List.cons_append, foldStop, foldStop]
    by_cases h : (step s o).2 = true
    · rw [if_pos h, if_pos h, foldStop_append step r M]
    · rw [if_neg h, if_neg h]; simp
theorem runL_fold {σ : Type} (step : σ → List Int → σ × Bool) (f : Nat → σ → σ × Bool) (g : Nat → List (List Int)) (h : ∀ i s, f i s = foldStop step (g i) s) : ∀ (L : List Nat) (s : σ), runL f L s = foldStop step (L.flatMap g) s
  | [], s => rfl
  | i :: r, s => by
    rw [List.flatMap_cons, foldStop_append, runL, h i s]
    by_cases hb : (foldStop step (g i) s).2 = true
    · rw [if_pos hb, if_pos hb, runL_fold step f g h r]
    · rw [if_neg hb, if_neg hb]
      have : (foldStop step (g i) s).2 = false := by simpa using hb
      rw [← this]
theorem ext_fold {σ : Type} (lc : List S55) (step : σ → List Int → σ × Bool) : ∀ (d : Nat) (ord st : List Int) (s : σ), ext lc step d ord st s = foldStop step (allc lc d ord st) s
  | 0, ord, st, s => by
    rw [ext, allc, foldStop, foldStop]
    by_cases h : (step s ord).2 = true
    · rw [if_pos h, ← h]
    · rw [if_neg h]
      have : (step s ord).2 = false := by simpa using h
      rw [← this]
  | d + 1, ord, st, s => by
    rw [ext, allc]
    refine runL_fold step _ _ (fun i s => ?_) _ s
    by_cases hb : blocked lc ord i = true
    · rw [if_pos hb, if_pos hb]; rfl
    · rw [if_neg hb, if_neg hb]
      cases stepS (rd_T55 lc (i : Int)) st with
      | none => rfl
      | some st' => exact ext_fold lc step d (ord ++ [(i : Int)]) st' s

/-! ### a run through an order -/
def next (lc : List S55) (ord st : List Int) (x : Int) : Option (List Int) :=
  if 0 ≤ x ∧ x < lc.length then (if blocked lc ord x.toNat then none else stepS (rd_T55 lc x) st) else none
def runSt (lc : List S55) : List Int → List Int → List Int → Option (List Int)
  | _, st, [] => some st
  | ord, st, x :: r => (next lc ord st x).bind fun st' => runSt lc (ord ++ [x]) st' r
theorem runSt_snoc (lc : List S55) : ∀ (r ord st : List Int) (x : Int), runSt lc ord st (r ++ [x]) = (runSt lc ord st r).bind fun st' => next lc (ord ++ r) st' x
  | [], ord, st, x => by
    show (next lc ord st x).bind (fun st' => runSt lc (ord ++ [x]) st' []) = (some st).bind fun st' => next lc (ord ++ []) st' x
    rw [Option.bind_some, List.append_nil]
    cases next lc ord st x <;> rfl
  | y :: r, ord, st, x => by
    rw [List.cons_append, runSt, runSt]
    cases h : next lc ord st y with
    | none => rfl
    | some st' =>
      rw [Option.bind_some, Option.bind_some, runSt_snoc lc r]
      congr 1
      funext st''
      rw [List.append_assoc]
      rfl
theorem next_nat {lc : List S55} {ord st : List Int} {i : Nat} (h : i < lc.length) : next lc ord st (i : Int) = if blocked lc ord i then none else stepS (rd_T55 lc i) st := by
  unfold next
  rw [if_pos ⟨by omega, by omega⟩, Int.toNat_natCast]
theorem mem_allc (lc : List S55) : ∀ (d : Nat) (ord st lo : List Int), lo ∈ allc lc d ord st ↔ ∃ r, lo = ord ++ r ∧ r.length = d ∧ (runSt lc ord st r).isSome = true
  | 0, ord, st, lo => by
    rw [allc, List.mem_singleton]
    constructor
    · intro h
      exact ⟨[], by simpa using h, rfl, rfl⟩
    · rintro ⟨r, rfl, hr, _⟩
      rw [List.eq_nil_of_length_eq_zero hr, List.append_nil]
  | d + 1, ord, st, lo => by
    rw [allc, List.mem_flatMap]
    constructor
    · rintro ⟨i, hi, h⟩
      have hlt : i < lc.length := List.mem_range.1 hi
      by_cases hb : blocked lc ord i = true
      · rw [if_pos hb] at h; cases h
      · rw [if_neg hb] at h
        cases hs : stepS (rd_T55 lc (i : Int)) st with
        | none => rw [hs] at h; cases h
        | some st' =>
          rw [hs] at h
          obtain ⟨r, rfl, hr, hrun⟩ := (mem_allc lc d _ _ _).1 h
          refine ⟨(i : Int) :: r, by simp, by simp [hr], ?_⟩
          rw [runSt, next_nat hlt, if_neg hb, hs, Option.bind_some]
          exact hrun
    · rintro ⟨r, rfl, hr, hrun⟩
      cases r with
      | nil => simp at hr
      | cons x r =>
        rw [runSt] at hrun
        unfold next at hrun
        by_cases hx : 0 ≤ x ∧ x < lc.length
        · rw [if_pos hx] at hrun
          refine ⟨x.toNat, List.mem_range.2 (by omega), ?_⟩
          have hxx : ((x.toNat : Nat) : Int) = x := by omega
          by_cases hb : blocked lc ord x.toNat = true
          · rw [if_pos hb] at hrun; simp at hrun
          · rw [if_neg hb] at hrun ⊢
            rw [hxx]
            cases hs : stepS (rd_T55 lc x) st with
            | none => rw [hs] at hrun; simp at hrun
            | some st' =>
              rw [hs, Option.bind_some] at hrun
              exact (mem_allc lc d _ _ _).2 ⟨r, by simp, by simpa using hr, hrun⟩
        · rw [if_neg hx] at hrun; simp at hrun
end Go.Proofs.Ythhfkicmgneokaa.Q
