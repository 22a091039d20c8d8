/- The pure statement of FnExplained. -/
import Derived.Test.YthhfkicmgneokaaKa
import Derived.Test.YthhfkicmgneokaaKb
import Derived.Test.YthhfkicmgneokaaQx31
import Derived.OpenShut
namespace Go.Proofs.Ythhfkicmgneokaa.Pure
open Go.RowKit Go.Proofs.Ythhfkicmgneokaa.Q Go.Proofs.YthhfkicmgneokaaW.PrintWords Go.Proofs.YthhfkicmgneokaaW.PrintLast
theorem at_ok (l0 : List Int) (hl : l0.length ≤ 1048576) (hw : ∀ x ∈ l0, (Lit.int .u8 x).wf = true) : ∃ t, laws_at.f l0 0 = some t ∧ 0 ≤ t := by
  unfold laws_at.f
  by_cases c : (0 : Int) < (l0.length : Int)
  · rw [if_pos c, if_pos (Int.le_refl _)]
    have h : rd l0 0 ∈ l0 := by
      unfold rd
      rw [getD_at _ _ _ (show (0 : Int).toNat < l0.length by omega)]
      exact List.getElem_mem _
    have hb := bounds_u8 (hw _ h)
    exact ⟨_, rfl, by unfold wrap64; omega⟩
  · rw [if_neg c]
    exact ⟨_, rfl, Int.tmod_nonneg _ (by unfold wrap64; omega)⟩
theorem FnExplained : laws_FnExplained.Pure := by
  intro l0 _ _ hw
  unfold laws_FnExplained.f
  refine Ev.rounds ?_
  by_cases hbig : (l0.length : Int) > 1048576
  · have hb : laws_big.f l0 = some true := by unfold laws_big.f; rw [decide_eq_true hbig]
    rw [hb]
    exact Ev.now true
  have hb : laws_big.f l0 = some false := by unfold laws_big.f; rw [decide_eq_false hbig]
  simp only [hb, Option.bind_some]
  refine Ev.congr (fun k => if_neg (by decide)) ?_
  obtain ⟨lc, hD, hlc⟩ := drawExplain_ok l0 (by omega)
  refine Ev.bind hD (Ev.bind (explainE_ev lc (by omega)) ?_)
  simp only [impl_Explain.f, impl_CountOrders.f, Option.bind_some]
  obtain ⟨o, ho⟩ : ∃ o, o = (explainP lc).getD [] := ⟨_, rfl⟩
  have hx := explainE_len lc
  rw [← ho] at hx
  simp only [← ho]
  refine Ev.congr (fun k => if_neg (by simp)) (Ev.bind (same_ev o (by omega)) ?_)
  refine Ev.congr (fun k => if_pos rfl) (Ev.bind (countOrders_ev lc (by omega)) ?_)
  have hnn : (countP lc != countP lc) = false := by simp
  rw [hnn]
  have hc := countP_eq lc
  have he := explain_head lc
  cases hs : explainP lc with
  | none =>
    have hle : countP lc ≤ 0 := by
      rw [hc]
      cases hok : areOk lc with
      | false => simp
      | true =>
        rw [hok, if_pos rfl, hs] at he
        rw [if_pos rfl]
        cases ha : allc lc lc.length [] [] with
        | nil => simp
        | cons a r => rw [ha] at he; simp at he
    refine Ev.step (f := fun _ => some true) (fun k => ?_) (Ev.now _)
    simp only [laws_FnExplained.j0, Option.isSome]
    rw [if_neg (by decide), if_neg (by decide), decide_eq_true hle]
  | some p =>
    rw [hs] at ho he
    rw [Option.getD_some] at ho
    subst ho
    cases hok : areOk lc with
    | false => rw [hok] at he; simp at he
    | true =>
      rw [hok, if_pos rfl] at he hc
      have hmem : o ∈ allc lc lc.length [] [] := List.mem_of_mem_head? he.symm
      have hpos : 1 ≤ countP lc := by rw [hc]; have := List.length_pos_of_mem hmem; omega
      have hex : explB lc o = true := by unfold explB; rw [hok, decide_eq_true hmem]; rfl
      obtain ⟨v, hR, hv⟩ := inRow_ev lc (by omega)
      have h1 : v = true → countP lc = 1 := fun h => by
        have := row_one lc (hv h) lc.length 0 [] (by omega)
        have e : upto 0 = [] := rfl
        rw [e] at this
        omega
      obtain ⟨t, eT, ht⟩ := at_ok l0 (by omega) hw
      have hm0 : 0 ≤ Int.tmod t 9 := Int.tmod_nonneg _ ht
      have hm1 : Int.tmod t 9 < 9 := Int.tmod_lt_of_pos _ (by omega)
      have hsub := allc_wide lc (Int.tmod t 9) hok hm0 (by omega) lc.length [] [] (fun y hy => by cases hy)
      have hokw := areOk_wide (a := Int.tmod t 9) hok hm0 (by omega)
      have hcw := countP_eq (lc.map (wide (Int.tmod t 9)))
      rw [hokw, if_pos rfl, List.length_map] at hcw
      have hexw : explB (lc.map (wide (Int.tmod t 9))) o = true := by
        unfold explB
        rw [hokw, List.length_map, decide_eq_true (hsub.subset hmem)]; rfl
      have hge : countP (lc.map (wide (Int.tmod t 9))) ≥ countP lc := by
        rw [hcw, hc]
        have := hsub.length_le
        omega
      have hlast : Ev (fun k => laws_FnExplained.j1 k l0 lc o (countP lc) false) true := by
        refine Ev.step (f := fun k => (impl_Widen.f k lc (Int.tmod t 9)).bind fun bt => if bt.2 = true then ((impl_Explains.f bt.1 o).bind fun t441 => if t441 = true then ((impl_CountOrders.f bt.1).bind fun t442 => some (decide (t442 ≥ countP lc))) else some false) else some false) (fun k => ?_) ?_
        · simp only [laws_FnExplained.j1]
          rw [if_neg (by decide), eT, Option.bind_some]
        · refine Ev.bind (widen_ev lc _ hok hm0 (by omega)) ?_
          simp only [if_true, explains_same, hexw, Option.bind_some, impl_CountOrders.f, decide_eq_true hge]
          exact Ev.now true
      refine Ev.step (f := fun k => (impl_InRow.f k lc).bind fun t435 => if t435 = true then laws_FnExplained.j1 k l0 lc o (countP lc) (countP lc != 1) else laws_FnExplained.j1 k l0 lc o (countP lc) false) (fun k => ?_) ?_
      · simp only [laws_FnExplained.j0, Option.isSome]
        rw [if_neg (by decide), if_pos trivial, if_neg (by omega), explains_same, hex, Option.bind_some, if_pos rfl]
      · refine Ev.bind hR ?_
        cases hvv : v with
        | false => exact Ev.congr (fun k => if_neg (by decide)) hlast
        | true =>
          have : (countP lc != 1) = false := by rw [h1 hvv]; decide
          refine Ev.congr (fun k => (if_pos rfl).trans (by rw [this])) hlast
end Go.Proofs.Ythhfkicmgneokaa.Pure
