/- laws.FnExactProgLines: whatever the arguments, the call returns true, and each argument reads afterwards as it read before. Conditions: none beyond the card's own: the listed variables of math/bits and internal/strconv read as the program's text lays them. -/
import Derived.Test.YtjnpmcgefkiocaaDoorRows
import Derived.Test.YtjnpmcgefkiocaaDoorCards
import Derived.Test.YtjnpmcgefkiocaaDoorTie
import Derived.Test.YtjnpmcgefkiocaaDoorQx9
import Derived.Test.YtjnpmcgefkiocaaDoorPureFnExactProgLines
import Derived.Test.YtjnpmcgefkiocaaDoorOpen
import Derived.WalkKit
import Derived.ProofKit
import Derived.OpenShut
import Derived.ShutString
import Derived.ChangeOld
import Derived.Below
import Derived.SizedLaws
import Derived.LaidMore
import Derived.Stop.Joined
import Derived.Stop.LaidErr
import Derived.SevenTiedAt
import Derived.Test.YtjnpmcgefkiocaaDoorWSized
namespace Go.Proofs.YtjnpmcgefkiocaaDoor.fnExactProgLines
open Go Go.ChangeShapes Go.WideShapes Go.ChangeAt Go.RowKit Go.Proofs.YtjnpmcgefkiocaaDoor.Q Go.Proofs.YtjnpmcgefkiocaaDoorW.PrintWords
open Go.ChangeMaps (open_string shut_string)
set_option linter.unusedVariables false
theorem own : ownKnob Tryd.prog.godebug = none := by kernel_rfl
theorem laidOut : laidOutB Tryd.prog = true := by kernel_rfl
def laidL : List (String × DataW Unit) := [("math/bits.deBruijn32tab", Rows.laid_math_bits_deBruijn32tab), ("math/bits.deBruijn64tab", Rows.laid_math_bits_deBruijn64tab), ("internal/strconv.uint64pow10", Rows.laid_internal_strconv_uint64pow10)]
/- The door's own heap meets the condition. -/
theorem door_met (os : Os) (args : Array Value) : laidMetH Tryd.prog laidL ((World.doorLaid Tryd.prog 400 os).forCall (fun _ _ => 0) ⟨#[], args, []⟩).memory :=
  laidMetH_of_parts3 (fuel := 8) (laidMet_of_run' 8 (by kernel_rfl) (by kernel_rfl)) (by kernel_rfl) (by kernel_rfl)
theorem tab_laid {W : World} (h : laidMetH Tryd.prog laidL W) : TabW W := by
  rw [MakeChecks.laidMetH_plain _ _ _ (by kernel_rfl)] at h
  have h2 := h.tail.tail
  exact Go.Lib.tabIs_of_head (g := 0) (t := 101) (e := 91) (n := 20) (rest := []) (by kernel_rfl) (by kernel_rfl) Tryd.underlying101 Tryd.underlying91 (by kernel_rfl) (by kernel_rfl) h2
theorem lens_of {w : World} {A : Option Addr} {L : List (List S81)} (h : Kd.C (Kd.slice 81 k81) w A L.length L) : ∀ l ∈ L, l.length ≤ 9223372036854775807 := by
  intro l hl
  obtain ⟨i, hi, rfl⟩ := List.mem_iff_getElem.mp hl
  obtain ⟨ad, A0, c0, _, _, _, hC⟩ := at_L2 h (i : Int) (by omega) (by omega)
  rw [rdLL_at L i hi] at hC
  exact hC.2.1
/- The struct that came in: its number, its list of lists. -/
set_option maxRecDepth 100000 in
theorem opened_prog {H : Type} {enc : TypeId × Value → H} {w : World} {base : Nat} {held : Bool} {cs : Array Value} {y : DataW H} {ps : List MemPlace} (hz : cs.size = Tryd.prog.cellsOf 32)
    (h : DataW.Trod enc Tryd.prog w base (fun _ => true) held 32 (.agg cs) y ps) :
    ∃ (a : Int) (A : Option Addr) (n cap : Nat) (l : List (List S81)), cs = #[.int .i64 a, .slice A n cap] ∧ n = l.length ∧ Kd.C (Kd.slice 81 k81) w A l.length l ∧ l.length ≤ cap := by
  obtain ⟨fuel, hf⟩ := h
  obtain ⟨xs, n', _, _, hcl, hl, hg⟩ := DataW.trod_struct Tryd.underlying32 hf
  obtain ⟨x0, K0, _⟩ := opens_field (n := n') hl hg 0 _ rfl (opens_int Tryd.underlying3) 0 1 rfl (by kernel_rfl)
  obtain ⟨x1, K1, _⟩ := opens_field (n := n') hl hg 1 _ rfl (opens_slice Tryd.underlying30 (by kernel_rfl) (opens_slice Tryd.underlying60 (by kernel_rfl) opens_T81 z81) []) 1 1 rfl (by kernel_rfl)
  obtain ⟨A, c, hcs, hc, hC⟩ := K1
  have hz2 : cs.size = 2 := hz.trans (by kernel_rfl)
  obtain ⟨ls⟩ := cs
  match ls, hz2 with
  | [u, v], _ =>
    simp [Value.cells] at K0 hcs
    have hu : u = .int .i64 x0 := by
      have h2 : [u] = [.int .i64 x0] := K0
      exact List.head_eq_of_cons_eq h2
    subst hu hcs
    exact ⟨x0, A, _, c, x1, rfl, rfl, hC, hc⟩
set_option maxRecDepth 100000 in
theorem lifted (os : Os) (started : os.Started) (H : Type) (enc : TypeId × Value → H) :
    ReturnsInHanded {} Tryd.checked os 4 .any (fun w args => (Rows.fnExactProgLinesSpec.pre enc Tryd.prog Tryd.f4 [] false w args ∧ laidMetH Tryd.prog laidL w) ∧ sizedMet enc Tryd.prog Tryd.f4 (OpenSpec.ofChange Rows.fnExactProgLinesSpec) false w args)
      (Rows.fnExactProgLinesSpec.post enc Tryd.prog Tryd.f4 false true false false) := by
  refine returnsInHanded_of_change_and (C := Tryd.checked) (X := fun w _ => laidMetH Tryd.prog laidL w) (fun _ _ _ hh h => h.of_heap hh) own started (by kernel_rfl) Tryd.func4
    (ChangeSpec.witness_shaped (enc := enc) (C := Tryd.checked) (os := os) (X := fun w _ => laidMetH Tryd.prog laidL w) false (World.doorLaid Tryd.prog 400 os) #[.agg #[.int .i64 0, .slice none 0 0]] 8 rfl (World.shaped_of_RefB (by kernel_rfl) (by kernel_rfl)) (by kernel_rfl) (by kernel_rfl) (by kernel_rfl) (door_met os _)) ?_
  intro W base args ds gs before hval0 hW _ _ hL _
  have hval : ∀ (j : Nat) t v, Tryd.f4.params[j]? = some t → args[j]? = some v → Value.okWide Tryd.prog W .any base t v := hval0
  have hW' := hW
  obtain ⟨p, q, hA0, hV, rfl, hfz, hnd⟩ := hW
  have hA : DataW.TrodAll enc Tryd.prog W 0 (fun _ => true) true Tryd.f4.params.toList args.toList ds p := hA0
  rw [Tryd.params4] at hA hval
  obtain ⟨v0, vs0, d0, ds0, p0, q0, hargs, rfl, rfl, h0, r0⟩ := trodAll_cons hA
  obtain ⟨rfl, rfl, rfl⟩ := trodAll_nil r0
  obtain rfl : args = #[v0] := by cases args; simp_all
  obtain ⟨rfl, rfl⟩ := trodVars_none hV
  obtain ⟨cs0, rfl, hsz0⟩ := okWide_struct Tryd.underlying32 (hval 0 32 v0 rfl rfl)
  have k0 := h0
  have lt0 : ∀ x ∈ p0, x.block < W.heap.size := by obtain ⟨m, hm⟩ := k0; exact DataW.trod_lt m _ _ _ hm
  obtain ⟨a0, A0, n0, cap0, l0, rfl, rfl, hr0, hc0⟩ := opened_prog hsz0 h0
  have hT := tab_laid hL
  clear hA0 hval0 hL
  obtain ⟨k, h⟩ := Pure.FnExactProgLines a0 l0 hr0.2.1 (lens_of hr0)
  refine (laws_FnExactProgLines.calls k a0 _ _ l0 true W hr0 hc0 h hT).mono fun e W' ⟨he, bel⟩ => ?_
  subst he
  exact ⟨_, rfl, _, _, _, [], _, [], hW', trodAll_mk1 (shut_bool Tryd.underlying4 _), (trodAll_cons_mk (Below.trod laidOut (by kernel_rfl) (of_decide_eq_true (by kernel_rfl)) k0 bel lt0) trodAll_mk0), rfl, bel.frame _, fun h => by cases h⟩
theorem over : Rows.fnExactProgLinesRow.holds Tryd.pinned (OpenSpec.ofChange Rows.fnExactProgLinesSpec) :=
  OpenClaim.holds_of_wide 4 Tryd.f4 rfl rfl rfl rfl rfl rfl rfl ⟨rfl, rfl, rfl, rfl, rfl⟩ rfl rfl rfl rfl rfl (by kernel_rfl) Tryd.func4 (by kernel_rfl)
    (of_decide_eq_true (by kernel_rfl)) (by unfold Func.isWrapper; first | (rw [if_pos (by decide +kernel)]; kernel_rfl) | (rw [if_neg (by decide +kernel)]; exact ⟨rfl, rfl⟩))
    (fun os started H enc _ => lifted os started H enc)
/- The tied card. -/
theorem proved : Rows.FnExactProgLinesCardSaid :=
  Claim7.holds_tied_plain_at .later [] [.data, .data, .data] true (true, "795e348237683f0e060c5d7548076548b163ad9f3babb2fd9093af9d71411e76") false
    over (fun _ h => by cases h) (by kernel_rfl) (fun _ h => by cases h) fnExactProgLines_row_tie rfl ⟨rfl, rfl⟩ (by kernel_rfl) rfl
    (fun f fn hf hfn => by
      obtain rfl : f = 4 := Option.some.inj ((show Tryd.prog.funcNamed "loop.example/g00712/laws.FnExactProgLines" = some 4 by kernel_rfl).symm.trans hf) |>.symm
      obtain rfl : fn = Tryd.f4 := (Option.some.inj (Tryd.func4.symm.trans hfn)).symm
      exact ⟨by kernel_rfl, fun j t ht => by
        rw [Tryd.params4] at ht
        have h3 : t = 32 := by
          rcases j with _ | j
          · simpa using ht.symm
          · simp at ht
        subst h3
        exact (show Tryd.prog.wantsStandIn 32 = false by kernel_rfl)⟩)
    (by kernel_rfl)
#print axioms proved
end Go.Proofs.YtjnpmcgefkiocaaDoor.fnExactProgLines
namespace Go.Proofs.YtjnpmcgefkiocaaDoor
/- The card, under a short name, for the claim. -/
theorem fnExactProgLinesCard_holds : Rows.FnExactProgLinesCardSaid := fnExactProgLines.proved
end Go.Proofs.YtjnpmcgefkiocaaDoor
