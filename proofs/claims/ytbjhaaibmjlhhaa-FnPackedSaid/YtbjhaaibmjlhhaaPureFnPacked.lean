/- The pure statement of FnPacked: a packed script is read as it was, and so are the whole blocks of one that is cut. -/
import Derived.Test.YtbjhaaibmjlhhaaPd
import Derived.Test.YtbjhaaibmjlhhaaQx18
import Derived.OpenShut
namespace Go.Proofs.Ytbjhaaibmjlhhaa.Pure
open Go.RowKit Go.Proofs.Ytbjhaaibmjlhhaa.Q Go.Proofs.YtbjhaaibmjlhhaaW.PrintWords Go.Proofs.YtbjhaaibmjlhhaaW.PrintLast
set_option linter.unusedVariables false

theorem j2_ev (l : List OpS) (hl : l.length ≤ 100000) (hok : l.all opOk = true) (hp : (packs l).length ≤ 4000) (cut : Nat) (hc : cut ≤ (packs l).length) (j n : Nat) (s : Int) (hs : scanV ((packs l).take cut) = (l.take j, (n : Int), s)) (hn : n ≤ cut) (hf : cut = (packs l).length → s = 0) :
    Ev (fun k => laws_FnPacked.j2 k (packs l) cut n s false) true := by
  have hb := packs_byt l.length l (Nat.le_refl _) hok
  have hlen : ((packs l).take cut).length = cut := by rw [List.length_take]; omega
  have g0 : (0 : Int) ≤ (cut : Int) := by omega
  have g1 : (cut : Int) ≤ ((packs l).length : Int) := by omega
  have g2 : (0 : Int) ≤ (n : Int) := by omega
  have g3 : (n : Int) ≤ ((packs l).length : Int) := by omega
  refine Ev.step (fun k => by rw [laws_FnPacked.j2, if_neg (by decide), if_pos g0, if_pos g1, Int.toNat_natCast]) ?_
  refine Ev.bind (longest_ev _ (byt_take hb cut) (by omega) _ n s hs (by omega)) ?_
  refine Ev.congr (fun k => by rw [if_pos g2, if_pos g3, Int.toNat_natCast, List.take_take, Nat.min_eq_left hn]) ?_
  refine Ev.bind (sameB_ev _ (by rw [List.length_take]; omega)) ?_
  refine Ev.congr (f := fun _ => some true) (fun k => ?_) (Ev.now _)
  rw [if_pos rfl]
  by_cases c : (cut : Int) < ((packs l).length : Int)
  · rw [if_pos c]
  · rw [if_neg c, hf (by omega)]; rfl
theorem FnPacked : laws_FnPacked.Pure := by
  intro l0 _ _ hw
  unfold laws_FnPacked.f
  refine Ev.rounds ?_
  by_cases hbig : (l0.length : Int) > 1048576
  · have hb : laws_big.f l0 = some true := by unfold laws_big.f; rw [decide_eq_true hbig]
    rw [hb]
    exact Ev.now true
  have hb : laws_big.f l0 = some false := by unfold laws_big.f; rw [decide_eq_false hbig]
  simp only [hb, Option.bind_some]
  refine Ev.congr (fun k => if_neg (by decide)) ?_
  have hByt : Byt l0 := fun x hx => by have := bounds_u8 (hw x hx); omega
  obtain ⟨l, hD, hl⟩ := drawPack_ok l0 (by omega)
  refine Ev.bind hD (Ev.bind (sPack_ev l (by omega)) (Ev.bind (iPack_ev l (by omega)) ?_))
  refine Ev.congr (fun k => if_neg (by simp)) ?_
  have hfl : (fin l []).1.length ≤ 4000 := by
    unfold fin
    by_cases c : l.all opOk = true ∧ ([] : List Int).length + (packs l).length ≤ 4000
    · rw [if_pos c]; have := c.2; simpa using this
    · rw [if_neg c]; simp
  refine Ev.bind (sameB_ev _ (by omega)) ?_
  by_cases c : l.all opOk = true ∧ ([] : List Int).length + (packs l).length ≤ 4000
  · have hf : fin l [] = (packs l, true) := by unfold fin; rw [if_pos c]; rfl
    obtain ⟨hok, hp⟩ := c
    have hp : (packs l).length ≤ 4000 := by simpa using hp
    rw [hf]
    refine Ev.step (fun k => by simp only [laws_FnPacked.j0]; rw [if_neg (by decide), if_pos trivial]) ?_
    refine Ev.bind (unpack_ev l (by omega) hok hp) ?_
    refine Ev.congr (fun k => if_pos rfl) ?_
    refine Ev.bind (same_ev l (by omega)) ?_
    obtain ⟨a, ea, a0, a1⟩ := at_ok l0 0 hByt (by omega) (by omega)
    obtain ⟨b, eb, b0, b1⟩ := at_ok l0 1 hByt (by omega) (by omega)
    have ea' : laws_at.f l0 0 = some a := ea
    have eb' : laws_at.f l0 1 = some b := eb
    have hab : 0 ≤ a * (1 + b) ∧ a * (1 + b) ≤ 255 * 256 := ⟨Int.mul_nonneg a0 (by omega), Int.mul_le_mul a1 (by omega) (by omega) (by omega)⟩
    obtain ⟨q, hq⟩ : ∃ q, q = a * (1 + b) := ⟨_, rfl⟩
    have hq0 : 0 ≤ q := by omega
    have hqm : q ≤ 65280 := by omega
    obtain ⟨cut, hcut⟩ : ∃ cut : Nat, (cut : Int) = Int.tmod q (((packs l).length : Int) + 1) := ⟨(Int.tmod q (((packs l).length : Int) + 1)).toNat, Int.toNat_of_nonneg (Int.tmod_nonneg _ hq0)⟩
    have hcl : cut ≤ (packs l).length := by
      have := Int.tmod_lt_of_pos q (b := ((packs l).length : Int) + 1) (by omega)
      rw [← hcut] at this
      omega
    obtain ⟨j, n, s, hs, hj, hj16, hn, hst, hfull⟩ := scan_cut l (by omega) hok hp cut hcl
    have hbp := packs_byt l.length l (Nat.le_refl _) hok
    have g0 : ¬ (((packs l).length : Int) + 1 = 0) := by omega
    have g1 : (0 : Int) ≤ (cut : Int) := by omega
    have g2 : (cut : Int) ≤ ((packs l).length : Int) := by omega
    have hlj : (l.take j).length = j := by rw [List.length_take]; omega
    have g3 : ¬ ((j : Int) > (l.length : Int)) := by omega
    have g4 : (0 : Int) ≤ (j : Int) := by omega
    have g5 : (j : Int) ≤ (l.length : Int) := by omega
    have g6 : ¬ ((n : Int) > (cut : Int)) := by omega
    have g7 : ¬ ((j : Int) % 16) = 0 → j = l.length := by omega
    have hlj2 : (l.take j).length ≤ 100000000 := by rw [hlj]; omega
    have hfin := j2_ev l (by omega) hok hp cut hcl j n s hs hn (fun h => (hfull h).2.2)
    have b2 : -9223372036854775808 ≤ 1 + b := by omega
    have b3 : 1 + b ≤ 9223372036854775807 := by omega
    have b4 : -9223372036854775808 ≤ ((packs l).length : Int) + 1 := by omega
    have b5 : ((packs l).length : Int) + 1 ≤ 9223372036854775807 := by omega
    have b6 : -9223372036854775808 ≤ q := by omega
    have b7 : q ≤ 9223372036854775807 := by omega
    have w1 : wrap64 (1 + b) = 1 + b := w64_of _ _ rfl b2 b3
    have w2 : wrap64 (a * (1 + b)) = q := w64_of _ _ hq.symm b6 b7
    have w3 : wrap64 (((packs l).length : Int) + 1) = ((packs l).length : Int) + 1 := w64_of _ _ rfl b4 b5
    refine Ev.step (fun k => by simp only [laws_FnPacked.j1]; rw [if_neg (by decide), ea', Option.bind_some, eb', Option.bind_some, w1, w2, w3, ← hcut, if_neg g0, if_pos g1, if_pos g2, Int.toNat_natCast]) ?_
    refine Ev.bind (iscan_ev _ (byt_take hbp cut)) ?_
    rw [hs]
    simp only [hlj]
    refine Ev.congr (fun k => by rw [if_neg g3, if_pos g4, if_pos g5, Int.toNat_natCast]) ?_
    refine Ev.bind (same_ev _ hlj2) ?_
    by_cases c16 : ((j : Int) % 16) = 0
    · refine Ev.congr (fun k => by rw [if_pos rfl, if_neg g6, if_neg hst, if_pos c16]) ?_
      exact hfin
    · have hjl : j = l.length := g7 c16
      have e : ((j : Int) != (l.length : Int)) = false := by rw [hjl]; simp
      refine Ev.congr (fun k => by rw [if_pos rfl, if_neg g6, if_neg hst, if_neg c16, e]) ?_
      exact hfin
  · have hf : fin l [] = ([], false) := by unfold fin; rw [if_neg c]
    rw [hf]
    exact Ev.at1 fun k => by simp only [laws_FnPacked.j0]; rw [if_neg (by decide), if_neg (by decide)]
end Go.Proofs.Ytbjhaaibmjlhhaa.Pure
