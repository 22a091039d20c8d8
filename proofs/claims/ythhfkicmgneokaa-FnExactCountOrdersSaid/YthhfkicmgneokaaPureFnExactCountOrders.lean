/- The pure statement of FnExactCountOrders: the program's CountOrders tells what the reference's tells. -/
import Derived.Test.YthhfkicmgneokaaJe
import Derived.Test.YthhfkicmgneokaaOpen
import Derived.Test.YthhfkicmgneokaaQx28
namespace Go.Proofs.Ythhfkicmgneokaa.Pure
open Go.RowKit Go.Proofs.Ythhfkicmgneokaa.Q Go.Proofs.YthhfkicmgneokaaW.PrintWords Go.Proofs.YthhfkicmgneokaaW.PrintLast
def FnExactCountOrdersPure : Prop := ∀ (l0 : (List S60)), l0.length ≤ 9223372036854775807 → (fun xs : List S60 => ∀ x ∈ xs, wfT60 x) l0 → ∃ k, laws_FnExactCountOrders.f k l0 = some true
theorem sz_calls (l0 : List S60) (h0 : l0.length ≤ 9223372036854775807) : laws_szCallS.f l0 1048576 = some (if (1048576 : Int) - (l0.length : Int) < 0 then -1 else 1048576 - (l0.length : Int)) := by
  have hw : wrap64 (1048576 - (l0.length : Int)) = 1048576 - (l0.length : Int) := by unfold wrap64; omega
  unfold laws_szCallS.f
  rw [hw]
  by_cases h : (1048576 : Int) - (l0.length : Int) < 0
  · rw [if_pos h, if_pos h]
  · rw [if_neg h, if_neg h]
theorem FnExactCountOrders : FnExactCountOrdersPure := by
  intro l0 h0 _
  unfold laws_FnExactCountOrders.f
  refine Ev.rounds ?_
  simp only [sz_calls l0 h0, Option.bind_some]
  by_cases hbig : (1048576 : Int) - (l0.length : Int) < 0
  · rw [if_pos hbig]
    exact Ev.now true
  rw [if_neg hbig]
  refine Ev.congr (fun k => if_neg hbig) ?_
  have hT := toCallS_ev l0 (by omega)
  refine Ev.bind hT (Ev.bind (countOrders_ev _ (by simp; omega)) (Ev.bind hT ?_))
  simp only [impl_CountOrders.f, Option.bind_some, if_true]
  refine Ev.bind hT (Ev.bind (eqCallS_ev _ (by simp; omega)) ?_)
  simp only [if_true]
  exact Ev.now true
end Go.Proofs.Ythhfkicmgneokaa.Pure
