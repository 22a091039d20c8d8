/- The pure statement of FnExactExplain: the program's Explain tells what the reference's tells, in memory of its own. -/
import Derived.Test.YthhfkicmgneokaaJe
import Derived.Test.YthhfkicmgneokaaJf
import Derived.Test.YthhfkicmgneokaaOpen
import Derived.Test.YthhfkicmgneokaaQx29
namespace Go.Proofs.Ythhfkicmgneokaa.Pure
open Go.RowKit Go.Proofs.Ythhfkicmgneokaa.Q Go.Proofs.YthhfkicmgneokaaW.PrintWords Go.Proofs.YthhfkicmgneokaaW.PrintLast
def FnExactExplainPure : Prop := ∀ (l0 : (List S60)), l0.length ≤ 9223372036854775807 → (fun xs : List S60 => ∀ x ∈ xs, wfT60 x) l0 → ∃ k, laws_FnExactExplain.f k l0 = some true
theorem sz_callsX (l0 : List S60) (h0 : l0.length ≤ 9223372036854775807) : laws_szCallS.f l0 1048576 = some (if (1048576 : Int) - (l0.length : Int) < 0 then -1 else 1048576 - (l0.length : Int)) := by
  have hw : wrap64 (1048576 - (l0.length : Int)) = 1048576 - (l0.length : Int) := by unfold wrap64; omega
  unfold laws_szCallS.f
  rw [hw]
  by_cases h : (1048576 : Int) - (l0.length : Int) < 0
  · rw [if_pos h, if_pos h]
  · rw [if_neg h, if_neg h]
theorem explain_len (lc : List S55) : ((explainP lc).getD []).length ≤ 7 := by
  rw [explain_head]
  cases hok : areOk lc with
  | false => simp
  | true =>
    rw [if_pos rfl]
    cases h : (allc lc lc.length [] []).head? with
    | none => simp
    | some o =>
      have hm : o ∈ allc lc lc.length [] [] := List.mem_of_mem_head? h
      obtain ⟨r, hr, hl, _⟩ := (mem_allc _ _ _ _ _).1 hm
      rw [List.nil_append] at hr
      rw [Option.getD_some, hr, hl]
      exact areOk_len hok
theorem explain_ev (lc : List S55) (hl : lc.length ≤ 9223372036854775807) : Ev (fun k => spec_Explain.f k lc) ((explainP lc).getD [], (explainP lc).isSome) := by
  unfold spec_Explain.f
  refine Ev.bind (fine_ev lc hl) ?_
  rw [explain_head]
  cases hok : areOk lc with
  | false =>
    simp only [Bool.false_eq_true, if_false]
    exact Ev.now _
  | true =>
    simp only [if_true]
    refine Ev.bind (orders_top lc hok) ?_
    cases h : allc lc lc.length [] [] with
    | nil =>
      refine Ev.congr (fun k => if_pos (by simp)) (Ev.now _)
    | cons o r =>
      refine Ev.congr (fun k => (if_neg (by rw [List.length_cons]; omega)).trans (if_pos (by rw [List.length_cons]; omega))) ?_
      exact Ev.now _
theorem FnExactExplain : FnExactExplainPure := by
  intro l0 h0 _
  unfold laws_FnExactExplain.f
  refine Ev.rounds ?_
  simp only [sz_callsX l0 h0, Option.bind_some]
  by_cases hbig : (1048576 : Int) - (l0.length : Int) < 0
  · rw [if_pos hbig]
    exact Ev.now true
  rw [if_neg hbig]
  refine Ev.congr (fun k => if_neg hbig) ?_
  have hT := toCallS_ev l0 (by omega)
  have hx := explain_len (l0.map conv)
  have hml : (l0.map conv).length = l0.length := by simp
  refine Ev.bind hT (Ev.bind (explain_ev _ (by omega)) (Ev.bind hT ?_))
  simp only [impl_Explain.f, Option.bind_some]
  obtain ⟨o, ho⟩ : ∃ o, o = (explainP (l0.map conv)).getD [] := ⟨_, rfl⟩
  obtain ⟨b, hb⟩ : ∃ b, b = (explainP (l0.map conv)).isSome := ⟨_, rfl⟩
  rw [← ho] at hx
  simp only [← ho, ← hb]
  refine Ev.bind (eqIntS_ev o (by omega)) ?_
  simp only [if_true]
  refine Ev.step (f := fun k => (laws_toCallS.f k l0).bind fun t => (laws_eqCallS.f k (l0.map conv) t).bind fun t => if t = true then (laws_markCallS.f k (l0.map conv) 1).bind fun bt => if bt.1 < 0 then laws_FnExactExplain.j1 k l0 o b o true else (laws_eqIntS.f k o o).bind fun t => if t = true then laws_FnExactExplain.j1 k l0 o b o (b != b) else laws_FnExactExplain.j1 k l0 o b o true else some false) (fun k => by simp only [laws_FnExactExplain.j0]; rw [if_neg (by simp)]) ?_
  refine Ev.bind hT (Ev.bind (eqCallS_ev _ (by omega)) ?_)
  simp only [if_true]
  obtain ⟨r, hm⟩ := markCallS_ev (l0.map conv) 1 (by omega) (by omega)
  refine Ev.bind hm (Ev.congr (fun k => if_neg (by simp only; omega)) (Ev.bind (eqIntS_ev o (by omega)) ?_))
  simp only [if_true]
  refine Ev.step (f := fun k => (laws_markIntS.f k o 1).bind fun bt => (laws_heldIntS.f k bt.2 1).bind fun t => if t < 0 then some false else if t = bt.1 then (laws_toCallS.f k l0).bind fun t => (impl_Explain.f t).bind fun bt2 => (laws_eqIntS.f k bt2.1 o).bind fun t => if t = true then laws_FnExactExplain.j2 k bt.2 bt.1 (bt2.2 != b) else laws_FnExactExplain.j2 k bt.2 bt.1 true else some false) (fun k => by simp only [laws_FnExactExplain.j1]; rw [if_neg (by simp)]) ?_
  refine Ev.bind (markIntS_ev o 1 (by omega) (by omega)) (Ev.bind (heldIntS_ev 1 o.length (by omega) (by omega)) (Ev.congr (fun k => (if_neg (by omega)).trans (if_pos rfl)) ?_))
  refine Ev.bind hT ?_
  simp only [impl_Explain.f, Option.bind_some, ← ho, ← hb]
  refine Ev.bind (eqIntS_ev o (by omega)) ?_
  simp only [if_true]
  refine Ev.step (f := fun k => (laws_heldIntS.f k (marks 1 o.length) 1).bind fun t => if t < 0 then some false else if t = 1 + (o.length : Int) then some true else some false) (fun k => by simp only [laws_FnExactExplain.j2]; rw [if_neg (by simp)]) ?_
  refine Ev.bind (heldIntS_ev 1 o.length (by omega) (by omega)) (Ev.congr (fun k => (if_neg (by omega)).trans (if_pos rfl)) (Ev.now true))
end Go.Proofs.Ythhfkicmgneokaa.Pure
