/- The pure statement of FnBent: a packed script of at least one op with one byte of its first block turned is not read as it was. -/
import Derived.Test.YtbjhaaibmjlhhaaPe
import Derived.Test.YtbjhaaibmjlhhaaQx16
import Derived.OpenShut
namespace Go.Proofs.Ytbjhaaibmjlhhaa.Pure
open Go.RowKit Go.Proofs.Ytbjhaaibmjlhhaa.Q Go.Proofs.YtbjhaaibmjlhhaaW.PrintWords Go.Proofs.YtbjhaaibmjlhhaaW.PrintLast
set_option linter.unusedVariables false

/- turned by a byte that is not 0, a byte is another one -/
theorem xor_ne (a c : Int) (a0 : 0 ≤ a) (a1 : a ≤ 255) (c0 : 1 ≤ c) (c1 : c ≤ 255) : 0 ≤ Go.bits .xor .u8 a c ∧ Go.bits .xor .u8 a c ≤ 255 ∧ a ≠ Go.bits .xor .u8 a c := by
  have e : Go.bits .xor .u8 a c = IntKind.u8.wrap ((BitVec.ofInt 8 a ^^^ BitVec.ofInt 8 c).toNat : Int) := rfl
  have hlt : (BitVec.ofInt 8 a ^^^ BitVec.ofInt 8 c).toNat < 256 := (BitVec.ofInt 8 a ^^^ BitVec.ofInt 8 c).isLt
  have hw : ∀ n : Nat, n < 256 → IntKind.u8.wrap (n : Int) = (n : Int) := fun n hn => by
    show ((n : Int) % 256) = _
    omega
  rw [e, hw _ hlt]
  refine ⟨by omega, by omega, fun h => ?_⟩
  have h1 : BitVec.ofInt 8 a = BitVec.ofInt 8 a ^^^ BitVec.ofInt 8 c := by
    apply BitVec.eq_of_toNat_eq
    have h2 : (BitVec.ofInt 8 a).toNat = a.toNat := by
      rw [BitVec.toNat_ofInt]
      show (a % 256).toNat = a.toNat
      rw [Int.emod_eq_of_lt a0 (by omega)]
    exact h2.trans ((congrArg Int.toNat h).trans (Int.toNat_natCast _))
  have h3 : BitVec.ofInt 8 c = 0#8 := by
    have := congrArg (fun x => BitVec.ofInt 8 a ^^^ x) h1
    simp only [← BitVec.xor_assoc, BitVec.xor_self, BitVec.zero_xor] at this
    exact this.symm
  have h4 := congrArg BitVec.toNat h3
  rw [BitVec.toNat_ofInt] at h4
  have h5 : (c % 256).toNat = 0 := h4
  rw [Int.emod_eq_of_lt (by omega) (by omega)] at h5
  omega
theorem copy_ev (l0 b : List Int) (o : List OpS) (hl : b.length ≤ 100000) : ∀ (d i : Nat) (x : List Int), d = b.length - i → i ≤ b.length → x.length = i → ∀ r, Ev (fun k => laws_FnBent.l0 k l0 b o (x ++ b.drop i) b.length) r → Ev (fun k => laws_FnBent.l0 k l0 b o x i) r := by
  intro d
  induction d with
  | zero =>
    intro i x hd hi hx r hE
    have : i = b.length := by omega
    subst this
    rw [List.drop_length, List.append_nil] at hE
    exact hE
  | succ d ih =>
    intro i x hd hi hx r hE
    have hlt : i < b.length := by omega
    have g0 : (i : Int) < (b.length : Int) := by omega
    have g1 : (0 : Int) ≤ (i : Int) := by omega
    have g2 : x.length < 140737488355328 := by omega
    have hr : rd b (i : Int) = b[i] := by unfold rd; rw [Int.toNat_natCast, getD_at _ _ _ hlt]
    have e : x ++ b.drop i = (x ++ [rd b (i : Int)]) ++ b.drop (i + 1) := by rw [hr, List.drop_eq_getElem_cons hlt, List.append_assoc]; rfl
    rw [e] at hE
    have hw := wrap_succ (i := i) (n := b.length) hlt (by omega)
    refine Ev.step (fun k => by rw [laws_FnBent.l0, if_pos g0, if_pos g1, if_pos g2, hw]) ?_
    exact ih (i + 1) _ (by clear hw; omega) (by clear hw; omega) (by clear hw; simp [hx]) r hE
theorem FnBent : laws_FnBent.Pure := by
  intro l0 _ _ hw
  unfold laws_FnBent.f
  refine Ev.rounds ?_
  by_cases hbig : (l0.length : Int) > 1048576
  · have hb : laws_big.f l0 = some true := by unfold laws_big.f; rw [decide_eq_true hbig]
    rw [hb]
    exact Ev.now true
  have hb : laws_big.f l0 = some false := by unfold laws_big.f; rw [decide_eq_false hbig]
  simp only [hb, Option.bind_some]
  refine Ev.congr (fun k => if_neg (by decide)) ?_
  have hByt : Byt l0 := fun x hx => by have := bounds_u8 (hw x hx); omega
  obtain ⟨b, hD, hB, hbl⟩ := drawScan_ok l0 (by omega)
  refine Ev.bind hD (Ev.bind (sscan_ev b hB) ?_)
  by_cases c0 : ((scanV b).1.length : Int) = 0
  · exact Ev.congr (f := fun _ => some true) (fun k => if_pos c0) (Ev.now _)
  refine Ev.congr (fun k => if_neg c0) ?_
  refine Ev.bind (iscan_ev b hB) ?_
  refine Ev.congr (fun k => if_pos rfl) ?_
  have hne : (scanV b).1 ≠ [] := by intro h; rw [h] at c0; simp at c0
  obtain ⟨hl4, o, n, hblk⟩ := scan_some b hne
  have hpos := blkP_pos hB hblk
  have hsl : (scanV b).1.length ≤ 100000 := by
    unfold scanV; rw [if_pos hl4]; unfold scanR; simp only []
    have := scan_len (b.length + 1) b hB
    rw [List.nil_append]; omega
  refine Ev.bind (same_ev _ (by omega)) ?_
  refine Ev.step (fun k => by rw [laws_FnBent.j0, if_neg (by decide)]) ?_
  refine copy_ev l0 b _ (by omega) b.length 0 [] (by omega) (by omega) rfl _ ?_
  rw [List.drop_zero, List.nil_append]
  obtain ⟨p, ep, p0, p1⟩ := at_ok l0 0 hByt (by omega) (by omega)
  obtain ⟨q, eq, q0, q1⟩ := at_ok l0 1 hByt (by omega) (by omega)
  have ep' : laws_at.f l0 0 = some p := ep
  have eq' : laws_at.f l0 1 = some q := eq
  obtain ⟨hr1, b0, b1⟩ := rd_byt hB 1 (by omega)
  have r0 : 0 ≤ rd b 1 := by have h1 : rd b 1 = b[1]'(by omega) := hr1; rw [h1]; exact b0
  have r1 : rd b 1 ≤ 255 := by have h1 : rd b 1 = b[1]'(by omega) := hr1; rw [h1]; exact b1
  clear hr1 b0 b1
  have hn : (n : Int) = 4 + rd b 1 := by
    unfold blkP at hblk
    by_cases c : 2 ≤ b.length ∧ 1 ≤ rd b 0 ∧ rd b 0 ≤ 16 ∧ rd b 1 + 4 ≤ b.length
    · rw [if_pos c] at hblk
      obtain ⟨u, hu, hblk⟩ := Option.bind_eq_some_iff.mp hblk
      by_cases c2 : u.2 = [] ∧ sumFrom 1 (b.take (2 + (rd b 1).toNat)) = 256 * rd b ((2 + (rd b 1).toNat : Nat) : Int) + rd b ((2 + (rd b 1).toNat + 1 : Nat) : Int)
      · rw [if_pos c2] at hblk; injection hblk with hblk; injection hblk with _ h2; omega
      · rw [if_neg c2] at hblk; cases hblk
    · rw [if_neg c] at hblk; cases hblk
  obtain ⟨k, hk⟩ : ∃ k : Nat, (k : Int) = Int.tmod p (n : Int) := ⟨(Int.tmod p (n : Int)).toNat, Int.toNat_of_nonneg (Int.tmod_nonneg _ p0)⟩
  have hkn : k < n := by
    have := Int.tmod_lt_of_pos p (b := (n : Int)) (by omega)
    rw [← hk] at this
    omega
  have hq0 : 0 ≤ Int.tmod q 255 := Int.tmod_nonneg _ q0
  have hq1 : Int.tmod q 255 < 255 := Int.tmod_lt_of_pos _ (by omega)
  obtain ⟨v, hv⟩ : ∃ v, v = Int.tmod q 255 := ⟨_, rfl⟩
  rw [← hv] at hq0 hq1
  obtain ⟨hrk, k0, k1⟩ := rd_byt hB k (by omega)
  obtain ⟨y0, y1, hy⟩ := xor_ne (rd b (k : Int)) (1 + v) (by rw [hrk]; exact k0) (by rw [hrk]; exact k1) (by omega) (by omega)
  have hbent := blk_bent b hB o n hblk k hkn _ y0 y1 hy
  have hBb : Byt (b.set k (Go.bits .xor .u8 (rd b (k : Int)) (1 + v))) := fun u hu => by
    rcases List.mem_or_eq_of_mem_set hu with h | h
    · exact hB u h
    · rw [h]; exact ⟨y0, y1⟩
  have hnil := scan_none _ hbent
  have g0 : ¬ ((b.length : Int) < (b.length : Int)) := Int.lt_irrefl _
  have g1 : 1 < (b.length : Int) := by omega
  have g2 : ¬ ((n : Int) = 0) := by omega
  have g3 : (0 : Int) ≤ (k : Int) := by omega
  have g4 : (k : Int) < (b.length : Int) := by omega
  have hv2 : (1 + v) % 256 = 1 + v := by omega
  have c1 : -9223372036854775808 ≤ 1 + v := by omega
  have c2 : 1 + v ≤ 9223372036854775807 := by omega
  have c3 : -9223372036854775808 ≤ (n : Int) := by omega
  have c4 : (n : Int) ≤ 9223372036854775807 := by omega
  have c5 : -9223372036854775808 ≤ rd b 1 := by omega
  have c6 : rd b 1 ≤ 9223372036854775807 := by omega
  have w1 : wrap64 (1 + v) = 1 + v := w64_of _ _ rfl c1 c2
  have w2 : wrap64 (rd b 1) = rd b 1 := w64_of _ _ rfl c5 c6
  have w3 : wrap64 (4 + rd b 1) = (n : Int) := w64_of _ _ hn.symm c3 c4
  refine Ev.step (fun k' => by rw [laws_FnBent.l0, if_neg g0, ep', Option.bind_some, if_pos g1, w2, w3, ← hk, if_neg g2, if_pos g3, if_pos g4, eq', Option.bind_some, ← hv, w1, hv2, Int.toNat_natCast]) ?_
  refine Ev.bind (iscan_ev _ hBb) ?_
  exact Ev.congr (f := fun _ => some true) (fun k => if_pos (by rw [hnil]; rfl)) (Ev.now _)
end Go.Proofs.Ytbjhaaibmjlhhaa.Pure
