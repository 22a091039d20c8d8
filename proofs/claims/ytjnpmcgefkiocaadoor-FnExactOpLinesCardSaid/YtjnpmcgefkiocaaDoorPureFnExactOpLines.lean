/- The pure statement of FnExactOpLines: the program's lines are the reference's. -/
import Derived.Test.YtjnpmcgefkiocaaDoorSb
import Derived.Test.YtjnpmcgefkiocaaDoorOpen
import Derived.Test.YtjnpmcgefkiocaaDoorQx3
namespace Go.Proofs.YtjnpmcgefkiocaaDoor.Pure
open Go.RowKit Go.Proofs.YtjnpmcgefkiocaaDoor.Q Go.Proofs.YtjnpmcgefkiocaaDoorW.PrintWords Go.Proofs.YtjnpmcgefkiocaaDoorW.PrintLast
def FnExactOpLinesPure : Prop := ∀ (l0 : (List S46)), l0.length ≤ 9223372036854775807 → (fun xs : List S46 => ∀ x ∈ xs, wfT46 x) l0 → ∃ k, laws_FnExactOpLines.f k l0 = some true
theorem FnExactOpLines : FnExactOpLinesPure := by
  intro l0 h0 _
  have hw : wrap64 (1048576 - (l0.length : Int)) = 1048576 - (l0.length : Int) := by unfold wrap64; omega
  unfold laws_FnExactOpLines.f laws_szOpS.f
  refine Ev.rounds ?_
  rw [hw]
  by_cases c : (1048576 : Int) - (l0.length : Int) < 0
  · rw [if_pos c]
    refine Ev.bind (Ev.now _) ?_
    exact Ev.congr (f := fun _ => some true) (fun k => if_pos (by decide)) (Ev.now _)
  rw [if_neg c]
  clear hw
  refine Ev.bind (Ev.now _) ?_
  refine Ev.congr (fun k => if_neg c) ?_
  have hT := toOpS_ev l0 (by omega)
  refine Ev.bind hT (Ev.bind (sLines_ev _) (Ev.bind hT (Ev.bind (iLines_ev _) ?_)))
  refine Ev.congr (fun k => if_pos rfl) ?_
  refine Ev.step (fun k => by simp only [laws_FnExactOpLines.j0]; rw [if_neg (by simp)]) ?_
  refine Ev.bind hT (Ev.bind (eqOpS_ev _ (by rw [List.length_map]; omega)) ?_)
  exact Ev.congr (f := fun _ => some true) (fun k => if_pos rfl) (Ev.now _)
end Go.Proofs.YtjnpmcgefkiocaaDoor.Pure
