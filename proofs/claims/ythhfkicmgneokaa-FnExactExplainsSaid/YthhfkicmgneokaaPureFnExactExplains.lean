/- The pure statement of FnExactExplains: the program's Explains tells what the reference's tells. -/
import Derived.Test.YthhfkicmgneokaaJc
import Derived.Test.YthhfkicmgneokaaJd
import Derived.Test.YthhfkicmgneokaaOpen
import Derived.Test.YthhfkicmgneokaaQx30
namespace Go.Proofs.Ythhfkicmgneokaa.Pure
open Go.RowKit Go.Proofs.Ythhfkicmgneokaa.Q Go.Proofs.YthhfkicmgneokaaW.PrintWords Go.Proofs.YthhfkicmgneokaaW.PrintLast
def FnExactExplainsPure : Prop := ∀ (l0 : (List S60)) (l1 : (List Int)), l0.length ≤ 9223372036854775807 → (fun xs : List S60 => ∀ x ∈ xs, wfT60 x) l0 → l1.length ≤ 9223372036854775807 → (fun xs : List Int => ∀ x ∈ xs, (fun x : Int => (Lit.int .i64 x).wf = true) x) l1 → ∃ k, laws_FnExactExplains.f k l0 l1 = some true
theorem FnExactExplains : FnExactExplainsPure := by
  intro l0 l1 h0 _ h1 _
  unfold laws_FnExactExplains.f
  by_cases hb : (l1.length : Int) > 1048576
  · exact ⟨0, if_pos hb⟩
  refine Ev.rounds (Ev.congr (fun k => if_neg hb) ?_)
  have hsz : laws_szCallS.f l0 1048576 = some (if wrap64 (1048576 - (l0.length : Int)) < 0 then -1 else wrap64 (1048576 - (l0.length : Int))) := by
    unfold laws_szCallS.f
    by_cases h : wrap64 (1048576 - (l0.length : Int)) < 0
    · rw [if_pos h, if_pos h]
    · rw [if_neg h, if_neg h]
  have hw : wrap64 (1048576 - (l0.length : Int)) = 1048576 - (l0.length : Int) := by unfold wrap64; omega
  rw [hw] at hsz
  simp only [hsz, Option.bind_some]
  by_cases hbig : (1048576 : Int) - (l0.length : Int) < 0
  · rw [if_pos hbig]
    exact Ev.now true
  rw [if_neg hbig]
  refine Ev.congr (fun k => if_neg hbig) ?_
  have hT := toCallS_ev l0 (by omega)
  have hI := toIntS_ev l1 (by omega)
  refine Ev.bind hT (Ev.bind hI (Ev.bind (sExplains_ev _ _ (by simp; omega) (by omega)) (Ev.bind hT (Ev.bind hI ?_))))
  simp only [explains_same, Option.bind_some]
  refine Ev.congr (fun k => if_neg (by simp)) (Ev.bind hT (Ev.bind (eqCallS_ev _ (by simp; omega)) ?_))
  simp only [if_true]
  refine Ev.bind hI (Ev.bind (eqIntS_ev _ (by omega)) ?_)
  simp only [if_true]
  exact Ev.now true
end Go.Proofs.Ythhfkicmgneokaa.Pure
