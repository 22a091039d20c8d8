/- What the reference's reading of a script computes, plainly; what its drawing tells; a block with one byte turned is none (FnBent). -/
import Derived.Test.YtbjhaaibmjlhhaaPc
import Derived.Test.YtbjhaaibmjlhhaaQx11
import Derived.Test.YtbjhaaibmjlhhaaQx8
namespace Go.Proofs.Ytbjhaaibmjlhhaa.Q
open Go.RowKit Go.Proofs.YtbjhaaibmjlhhaaW.PrintWords Go.Proofs.YtbjhaaibmjlhhaaW.PrintLast Go.Proofs.YtbjhaaibmjlhhaaW.PrintMore
set_option linter.unusedVariables false
set_option linter.unusedSimpArgs false

/-! ### one op -/
theorem sUn_f (k : Nat) (l : List Int) (hl : l.length ≤ 100000000) (hb : Byt l) (i : Nat) : spec_UnpackOp.f (k + 2) l (i : Int) = some (unV l i) := by
  have hi0 : ¬ ((i : Int) < 0) := by omega
  by_cases c : i < l.length
  · obtain ⟨hr, hx0, hx1⟩ := rd_byt hb i c
    obtain ⟨x, hx⟩ : ∃ x, x = l[i] := ⟨_, rfl⟩
    rw [← hx] at hr hx0 hx1
    have g0 : decide ((i : Int) ≥ (l.length : Int)) = false := decide_eq_false (by omega)
    have g1 : (0 : Int) ≤ (i : Int) := by omega
    have g2 : (i : Int) < (l.length : Int) := by omega
    have hun : unL (l.drop i) = unL (x :: l.drop (i + 1)) := by rw [List.drop_eq_getElem_cons c, ← hx]
    have g3 : i + 1 < l.length → ¬ (((i + 1 : Nat) : Int) ≥ (l.length : Int)) := by omega
    have g3' : ¬ i + 1 < l.length → (((i + 1 : Nat) : Int) ≥ (l.length : Int)) := by omega
    have g4 : (0 : Int) ≤ ((i + 1 : Nat) : Int) := by omega
    have g5 : i + 1 < l.length → ((i + 1 : Nat) : Int) < (l.length : Int) := by omega
    have g6 : ¬ i + 1 < l.length → l.length ≤ i + 1 := by omega
    have g7 : i + 1 < l.length → l.length - (l.length - (i + 2)) = i + 2 := by omega
    have g8 : l.length - (l.length - (i + 1)) = i + 1 := by omega
    have hw1 : wrap64 ((i : Int) + 1) = ((i + 1 : Nat) : Int) := wrap_succ c (Nat.le_trans hl (by decide))
    have hw2 : i + 1 < l.length → wrap64 (((i + 1 : Nat) : Int) + 1) = ((i + 2 : Nat) : Int) := fun h => wrap_succ h (Nat.le_trans hl (by decide))
    obtain ⟨hwr, hq, hm⟩ := un_div x hx0 hx1
    obtain ⟨q, hq'⟩ : ∃ q, q = x / 5 := ⟨_, rfl⟩
    obtain ⟨m, hm'⟩ : ∃ m, m = x % 5 := ⟨_, rfl⟩
    rw [← hq'] at hq
    rw [← hm'] at hm
    unfold spec_UnpackOp.f
    rw [if_neg hi0, g0, spec_UnpackOp.j0, if_neg (by decide), if_pos g1, if_pos g2, hr, hwr, hq, hm, hasX_v, Option.bind_some, hw1]
    by_cases c1 : 1 ≤ q ∧ q ≤ 3
    · rw [if_pos (decide_eq_true c1)]
      by_cases c2 : i + 1 < l.length
      · obtain ⟨hr2, hy0, hy1⟩ := rd_byt hb (i + 1) c2
        obtain ⟨y, hy⟩ : ∃ y, y = l[i + 1] := ⟨_, rfl⟩
        rw [← hy] at hr2 hy0 hy1
        have hun2 : unL (x :: l.drop (i + 1)) = if opOk ⟨q, m, y⟩ then some (⟨q, m, y⟩, l.drop (i + 2)) else none := by
          rw [List.drop_eq_getElem_cons c2, ← hy, hq', hm']
          rw [hq'] at c1
          simp only [unL]
          rw [if_pos c1]
        have hwr2 : wrap64 y = y := (un_div y hy0 hy1).1
        rw [if_neg (g3 c2), if_pos g4, if_pos (g5 c2), hr2, hwr2, sOpOk_f, Option.bind_some, hw2 c2]
        unfold unV
        rw [hun, hun2]
        by_cases c3 : opOk ⟨q, m, y⟩ = true
        · rw [if_pos c3, if_pos c3]
          simp only []
          rw [List.length_drop, g7 c2]
        · rw [if_neg c3, if_neg c3]
      · have hun2 : unL (x :: l.drop (i + 1)) = none := by
          rw [List.drop_eq_nil_of_le (g6 c2)]
          rw [hq'] at c1
          simp only [unL]
          rw [if_pos c1]
        unfold unV
        rw [hun, hun2, if_pos (g3' c2)]
    · have hun2 : unL (x :: l.drop (i + 1)) = if opOk ⟨q, m, 0⟩ then some (⟨q, m, 0⟩, l.drop (i + 1)) else none := by
        rw [hq', hm']
        rw [hq'] at c1
        simp only [unL]
        rw [if_neg c1]
      rw [if_neg (by simpa using c1), sOpOk_f, Option.bind_some]
      unfold unV
      rw [hun, hun2]
      by_cases c3 : opOk ⟨q, m, 0⟩ = true
      · rw [if_pos c3, if_pos c3]
        simp only []
        rw [List.length_drop, g8]
      · rw [if_neg c3, if_neg c3]
  · have hd : l.drop i = [] := List.drop_eq_nil_of_le (by omega)
    have g0 : decide ((i : Int) ≥ (l.length : Int)) = true := decide_eq_true (by omega)
    unfold spec_UnpackOp.f
    rw [if_neg hi0, g0, spec_UnpackOp.j0, if_pos rfl]
    unfold unV
    rw [hd]; rfl
theorem sUn_ev (l : List Int) (hl : l.length ≤ 100000000) (hb : Byt l) (i : Nat) : Ev (fun k => spec_UnpackOp.f k l (i : Int)) (unV l i) :=
  ⟨2, fun k hk => by obtain ⟨q, rfl⟩ : ∃ q, k = q + 2 := ⟨k - 2, by omega⟩; exact sUn_f q l hl hb i⟩

/-! ### a block -/
def sblkV (e : Nat) (x5 : List OpS) : Option (List OpS × List Int) → List OpS × Int
  | none => ([], -1)
  | some (xs, r) => if r = [] then (x5 ++ xs, ((e + 2 : Nat) : Int)) else ([], -1)
theorem sblk_l (b : List Int) (hb : Byt b) (hl : b.length ≤ 100000000) (e n : Nat) (he : e + 2 ≤ b.length) (hn : n ≤ 300) (h0 : wrap64 (rd b 0) = (n : Int)) : ∀ (d j i : Nat) (x5 : List OpS), d = n - j → j ≤ n → i ≤ e → x5.length ≤ j →
    Ev (fun k => spec_l17Block.l0 k b e x5 i j) (sblkV e x5 (unsL d ((b.take e).drop i))) := by
  have htl : (b.take e).length = e := by rw [List.length_take]; omega
  have g0 : 0 < (b.length : Int) := by omega
  intro d
  induction d with
  | zero =>
    intro j i x5 hd hj hi h5
    have g1 : ¬ ((j : Int) < (n : Int)) := by omega
    have hE : (b.take e).drop i = [] ↔ (i : Int) = (e : Int) := by
      constructor
      · intro h; have := congrArg List.length h; rw [List.length_drop, htl] at this; simp at this; omega
      · intro h; exact List.drop_eq_nil_of_le (by omega)
    have hw : wrap64 ((e : Int) + 2) = ((e + 2 : Nat) : Int) := by clear h0; unfold wrap64; omega
    simp only [unsL, sblkV, List.append_nil]
    by_cases c : (i : Int) = (e : Int)
    · rw [if_pos (hE.mpr c)]
      exact Ev.at1 fun k => by rw [spec_l17Block.l0, if_pos g0, h0, if_neg g1, if_pos c, hw]
    · rw [if_neg (fun h => c (hE.mp h))]
      exact Ev.at1 fun k => by rw [spec_l17Block.l0, if_pos g0, h0, if_neg g1, if_neg c]
  | succ d ih =>
    intro j i x5 hd hj hi h5
    have g1 : ((j : Int) < (n : Int)) := by omega
    have g5 : (0 : Int) ≤ (e : Int) := by omega
    have g6 : (e : Int) ≤ (b.length : Int) := by omega
    have hU := sUn_ev (b.take e) (by omega) (byt_take hb e) i
    have hw1 : wrap64 ((j : Int) + 1) = ((j + 1 : Nat) : Int) := wrap_succ (n := n) (by omega) (by omega)
    refine Ev.step (fun k => by rw [spec_l17Block.l0, if_pos g0, h0, if_pos g1, if_pos g5, if_pos g6, Int.toNat_natCast, hw1]) ?_
    refine Ev.bind hU ?_
    simp only [unsL]
    cases hu : unL ((b.take e).drop i) with
    | none =>
      rw [unV_none hu, Option.bind_none]
      exact Ev.congr (f := fun _ => some (([] : List OpS), (-1 : Int))) (fun k => if_pos (by decide)) (Ev.now _)
    | some p =>
      obtain ⟨x, r⟩ := p
      obtain ⟨i2, hi1, hi2, hr⟩ := unL_drop (by clear h0 hw1; omega) hu
      subst hr
      rw [htl] at hi2
      rw [unV_some (by clear h0 hw1; omega) hu, Option.bind_some]
      have g7 : ¬ ((i2 : Int) < 0) := by clear h0 hw1; omega
      have g8 : x5.length < 5864062014805 := by clear h0 hw1; omega
      refine Ev.congr (fun k => by rw [if_neg g7, if_pos g8]) ?_
      have := ih (j + 1) i2 (x5 ++ [x]) (by clear h0 hw1; omega) (by clear h0 hw1; omega) hi2 (by clear h0 hw1; simp; omega)
      have hv : sblkV e x5 ((unsL d ((b.take e).drop i2)).bind fun q => some (x :: q.1, q.2)) = sblkV e (x5 ++ [x]) (unsL d ((b.take e).drop i2)) := by
        cases unsL d ((b.take e).drop i2) with
        | none => rfl
        | some q => obtain ⟨xs, r⟩ := q; simp only [Option.bind_some, sblkV, List.append_assoc, List.singleton_append]
      rw [hv]
      exact this
def sblkR : Option (List OpS × Nat) → List OpS × Int
  | none => ([], -1)
  | some (o, n) => (o, (n : Int))
theorem sblk_ev (b : List Int) (hb : Byt b) (hl : b.length ≤ 100000000) : Ev (fun k => spec_l17Block.f k b) (sblkR (blkP b)) := by
  unfold spec_l17Block.f
  have hj0 : blkP b = none → Ev (fun k => spec_l17Block.j0 k b true) (sblkR (blkP b)) := fun h => by
    rw [h]; exact Ev.at1 fun k => by rw [spec_l17Block.j0, if_pos rfl]; rfl
  by_cases c : b.length < 2
  · refine Ev.congr (fun k => if_pos (by omega)) ?_
    exact hj0 (blk_torn b (by omega))
  refine Ev.congr (fun k => if_neg (by omega)) ?_
  refine Ev.congr (fun k => if_pos (by omega)) ?_
  obtain ⟨h0, a0, a1⟩ := rd_byt hb 0 (by omega)
  obtain ⟨h1, b0, b1⟩ := rd_byt hb 1 (by omega)
  have h0' : rd b 0 = b[0]'(by omega) := h0
  have h1' : rd b 1 = b[1]'(by omega) := h1
  have r0 : 0 ≤ rd b 0 := by rw [h0']; exact a0
  have r1 : rd b 0 ≤ 255 := by rw [h0']; exact a1
  have s0 : 0 ≤ rd b 1 := by rw [h1']; exact b0
  have s1 : rd b 1 ≤ 255 := by rw [h1']; exact b1
  clear h0 h1 h0' h1' a0 a1 b0 b1
  obtain ⟨n, hn⟩ : ∃ n : Nat, rd b 0 = (n : Int) := ⟨(rd b 0).toNat, by omega⟩
  obtain ⟨m, hm⟩ : ∃ m : Nat, rd b 1 = (m : Int) := ⟨(rd b 1).toNat, by omega⟩
  have w0 : wrap64 (rd b 0) = (n : Int) := w64_of _ _ hn (by omega) (by omega)
  have w1 : wrap64 (rd b 1) = (m : Int) := by clear w0; exact w64_of _ _ hm (by omega) (by omega)
  have w3 : wrap64 (2 + (m : Int)) = ((2 + m : Nat) : Int) := by clear w0 w1; exact w64_of _ _ (by omega) (by omega) (by omega)
  have w2 : wrap64 (((2 + m : Nat) : Int) + 2) = ((2 + m + 2 : Nat) : Int) := by clear w0 w1 w3; exact w64_of _ _ (by omega) (by omega) (by omega)
  have w4 : wrap64 (((2 + m : Nat) : Int) + 1) = ((2 + m + 1 : Nat) : Int) := by clear w0 w1 w3 w2; exact w64_of _ _ (by omega) (by omega) (by omega)
  have gN : n ≤ 300 := by clear w0 w1 w3 w2 w4; omega
  have gc : ¬ (1 ≤ rd b 0 ∧ rd b 0 ≤ 16) → ¬ (2 ≤ b.length ∧ 1 ≤ rd b 0 ∧ rd b 0 ≤ 16 ∧ rd b 1 + 4 ≤ b.length) := fun h k => h ⟨k.2.1, k.2.2.1⟩
  have gd : ¬ (2 + m + 2 ≤ b.length) → ¬ (2 ≤ b.length ∧ 1 ≤ rd b 0 ∧ rd b 0 ≤ 16 ∧ rd b 1 + 4 ≤ b.length) := by clear w0 w1 w3 w2 w4; omega
  have ge : 2 + m + 2 ≤ b.length → 1 ≤ rd b 0 ∧ rd b 0 ≤ 16 → (2 ≤ b.length ∧ 1 ≤ rd b 0 ∧ rd b 0 ≤ 16 ∧ rd b 1 + 4 ≤ b.length) := by clear w0 w1 w3 w2 w4; omega
  have g1 : 1 < (b.length : Int) := by clear w0 w1 w3 w2 w4; omega
  rw [sIn_f]
  refine Ev.bind (Ev.now _) ?_
  by_cases c2 : 1 ≤ rd b 0 ∧ rd b 0 ≤ 16
  · have c2' : (!(decide (1 ≤ wrap64 (rd b 0)) && decide (wrap64 (rd b 0) ≤ 16))) = false := by rw [w0, ← hn]; simpa using c2
    rw [c2']
    by_cases c3 : 2 + m + 2 ≤ b.length
    · have hc := ge c3 c2
      have g3 : ¬ ((b.length : Int) < ((2 + m + 2 : Nat) : Int)) := by clear w0 w1 w3 w2 w4; omega
      have g4 : (0 : Int) ≤ ((2 + m : Nat) : Int) := by clear w0 w1 w3 w2 w4; omega
      have g5 : ((2 + m : Nat) : Int) ≤ (b.length : Int) := by clear w0 w1 w3 w2 w4; omega
      have g6 : ((2 + m : Nat) : Int) < (b.length : Int) := by clear w0 w1 w3 w2 w4; omega
      have g7 : (0 : Int) ≤ ((2 + m + 1 : Nat) : Int) := by clear w0 w1 w3 w2 w4; omega
      have g8 : ((2 + m + 1 : Nat) : Int) < (b.length : Int) := by clear w0 w1 w3 w2 w4; omega
      obtain ⟨hx, x0, x1⟩ := rd_byt hb (2 + m) (by clear w0 w1 w3 w2 w4; omega)
      obtain ⟨hy, y0, y1⟩ := rd_byt hb (2 + m + 1) (by clear w0 w1 w3 w2 w4; omega)
      have w5 : wrap64 (wrap64 (256 * wrap64 (rd b ((2 + m : Nat) : Int))) + wrap64 (rd b ((2 + m + 1 : Nat) : Int))) = 256 * rd b ((2 + m : Nat) : Int) + rd b ((2 + m + 1 : Nat) : Int) := by
        clear w0 w1 w3 w2 w4
        rw [hx, hy]
        unfold wrap64; omega
      clear hx x0 x1 hy y0 y1
      refine Ev.step (fun k => by rw [spec_l17Block.j0, if_neg (by decide), if_pos g1, w1, w3, w2, if_neg g3, if_pos g4, if_pos g5, Int.toNat_natCast]) ?_
      refine Ev.bind (ssum_ev (b.take (2 + m)) (by clear w0 w1 w3 w2 w4 w5; rw [List.length_take]; omega) (byt_take hb _)) ?_
      refine Ev.congr (fun k => by rw [if_pos g6, w4, if_pos g7, if_pos g8, w5]) ?_
      have hv : blkP b = (unsL n ((b.take (2 + m)).drop 2)).bind fun p => if p.2 = [] ∧ sumFrom 1 (b.take (2 + m)) = 256 * rd b ((2 + m : Nat) : Int) + rd b ((2 + m + 1 : Nat) : Int) then some (p.1, m + 4) else none := by
        unfold blkP
        rw [if_pos hc, hn, hm, Int.toNat_natCast, Int.toNat_natCast]
      rw [hv]
      by_cases c4 : sumFrom 1 (b.take (2 + m)) = 256 * rd b ((2 + m : Nat) : Int) + rd b ((2 + m + 1 : Nat) : Int)
      · have c4' : (sumFrom 1 (b.take (2 + m)) != 256 * rd b ((2 + m : Nat) : Int) + rd b ((2 + m + 1 : Nat) : Int)) = false := bne_eq_false_iff_eq.mpr c4
        rw [c4']
        refine Ev.step (fun k => by rw [spec_l17Block.j1, if_neg (by decide)]) ?_
        have hmain := sblk_l b hb hl (2 + m) n c3 gN w0 n 0 2 [] rfl (Nat.zero_le _) (by clear w0 w1 w3 w2 w4 w5; omega) (by simp)
        have he : sblkR ((unsL n ((b.take (2 + m)).drop 2)).bind fun p => if p.2 = [] ∧ sumFrom 1 (b.take (2 + m)) = 256 * rd b ((2 + m : Nat) : Int) + rd b ((2 + m + 1 : Nat) : Int) then some (p.1, m + 4) else none) = sblkV (2 + m) [] (unsL n ((b.take (2 + m)).drop 2)) := by
          cases unsL n ((b.take (2 + m)).drop 2) with
          | none => rfl
          | some p =>
            obtain ⟨xs, r⟩ := p
            simp only [Option.bind_some, sblkV, List.nil_append]
            by_cases cr : r = []
            · rw [if_pos ⟨cr, c4⟩, if_pos cr]; simp only [sblkR]; congr 1; clear w0 w1 w3 w2 w4 w5; omega
            · rw [if_neg (fun h => cr h.1), if_neg cr]; rfl
        rw [he]
        exact hmain
      · have c4' : (sumFrom 1 (b.take (2 + m)) != 256 * rd b ((2 + m : Nat) : Int) + rd b ((2 + m + 1 : Nat) : Int)) = true := bne_iff_ne.mpr c4
        rw [c4']
        have he : ((unsL n ((b.take (2 + m)).drop 2)).bind fun p => if p.2 = [] ∧ sumFrom 1 (b.take (2 + m)) = 256 * rd b ((2 + m : Nat) : Int) + rd b ((2 + m + 1 : Nat) : Int) then some (p.1, m + 4) else none) = none := by
          cases unsL n ((b.take (2 + m)).drop 2) with
          | none => rfl
          | some p => simp only [Option.bind_some]; rw [if_neg (fun h => c4 h.2)]
        rw [he]
        exact Ev.at1 fun k => by rw [spec_l17Block.j1, if_pos rfl]; rfl
    · have hnone := blk_torn b (gd c3)
      have g3 : ((b.length : Int) < ((2 + m + 2 : Nat) : Int)) := by clear w0 w1 w3 w2 w4; omega
      rw [hnone]
      refine Ev.step (fun k => by rw [spec_l17Block.j0, if_neg (by decide), if_pos g1, w1, w3, w2, if_pos g3]) ?_
      exact Ev.at1 fun k => by rw [spec_l17Block.j1, if_pos rfl]; rfl
  · have c2' : (!(decide (1 ≤ wrap64 (rd b 0)) && decide (wrap64 (rd b 0) ≤ 16))) = true := by
      rw [w0, ← hn]; simp only [Bool.not_eq_true', Bool.and_eq_false_imp, decide_eq_true_eq, decide_eq_false_iff_not]; exact fun h k => c2 ⟨h, k⟩
    rw [c2']
    exact hj0 (blk_torn b (gc c2))

/-! ### a script -/
theorem sscan_j2 (b : List Int) (hb : Byt b) (hl : b.length ≤ 4000) (i : Nat) (hi : i ≤ b.length) (x5 : List OpS) : Ev (fun k => spec_ScanOps.j2 k b x5 i) (x5, (i : Int), status (b.drop i)) := by
  have g0 : (0 : Int) ≤ (i : Int) := by omega
  have g1 : (i : Int) ≤ (b.length : Int) := by omega
  refine Ev.step (fun k => by rw [spec_ScanOps.j2, if_pos g0, if_pos g1, Int.toNat_natCast]) ?_
  by_cases c0 : (b.drop i).length = 0
  · have hs : status (b.drop i) = 0 := by unfold status; rw [if_pos c0]
    rw [hs]
    exact Ev.congr (f := fun _ => some (x5, (i : Int), (0 : Int))) (fun k => if_pos (by omega)) (Ev.now _)
  refine Ev.congr (fun k => if_neg (by omega)) ?_
  by_cases c1 : (b.drop i).length < 2
  · have hs : status (b.drop i) = 1 := by unfold status; rw [if_neg c0, if_pos c1]
    rw [hs]
    exact Ev.congr (f := fun _ => some (x5, (i : Int), (1 : Int))) (fun k => if_pos (by omega)) (Ev.now _)
  refine Ev.congr (fun k => if_neg (by omega)) ?_
  refine Ev.congr (fun k => if_pos (by omega)) ?_
  obtain ⟨h0, a0, a1⟩ := rd_byt (byt_drop hb i) 0 (by omega)
  obtain ⟨h1, b0, b1⟩ := rd_byt (byt_drop hb i) 1 (by omega)
  have h0' : rd (b.drop i) 0 = (b.drop i)[0]'(by omega) := h0
  have h1' : rd (b.drop i) 1 = (b.drop i)[1]'(by omega) := h1
  have w0 : wrap64 (rd (b.drop i) 0) = rd (b.drop i) 0 := by rw [h0']; unfold wrap64; omega
  have w1 : wrap64 (rd (b.drop i) 1) = rd (b.drop i) 1 := by rw [h1']; unfold wrap64; omega
  have w2 : wrap64 (rd (b.drop i) 1 + 4) = rd (b.drop i) 1 + 4 := by rw [h1']; unfold wrap64; omega
  rw [w0, w1, w2, sIn_f, sIn_f]
  refine Ev.bind (Ev.now _) ?_
  by_cases c2 : 1 ≤ rd (b.drop i) 0 ∧ rd (b.drop i) 0 ≤ 16
  · refine Ev.congr (fun k => if_pos (by simpa using c2)) ?_
    refine Ev.congr (fun k => if_pos (by omega)) ?_
    refine Ev.bind (Ev.now _) ?_
    by_cases c3 : 1 ≤ rd (b.drop i) 1 ∧ rd (b.drop i) 1 ≤ 32
    · refine Ev.congr (fun k => if_pos (by simpa using c3)) ?_
      by_cases c4 : ((b.drop i).length : Int) < rd (b.drop i) 1 + 4
      · have hs : status (b.drop i) = 1 := by unfold status; rw [if_neg c0, if_neg c1, if_pos ⟨c2.1, c2.2, c3.1, c3.2, c4⟩]
        rw [hs]
        exact Ev.congr (f := fun _ => some (x5, (i : Int), (1 : Int))) (fun k => if_pos c4) (Ev.now _)
      · have hs : status (b.drop i) = 2 := by unfold status; rw [if_neg c0, if_neg c1, if_neg (fun h => c4 h.2.2.2.2)]
        rw [hs]
        exact Ev.congr (f := fun _ => some (x5, (i : Int), (2 : Int))) (fun k => if_neg c4) (Ev.now _)
    · have hs : status (b.drop i) = 2 := by unfold status; rw [if_neg c0, if_neg c1, if_neg (fun h => c3 ⟨h.2.2.1, h.2.2.2.1⟩)]
      rw [hs]
      exact Ev.congr (f := fun _ => some (x5, (i : Int), (2 : Int))) (fun k => if_neg (by simpa using c3)) (Ev.now _)
  · have hs : status (b.drop i) = 2 := by unfold status; rw [if_neg c0, if_neg c1, if_neg (fun h => c2 ⟨h.1, h.2.1⟩)]
    rw [hs]
    exact Ev.congr (f := fun _ => some (x5, (i : Int), (2 : Int))) (fun k => if_neg (by simpa using c2)) (Ev.now _)
theorem sscan_l1 (b : List Int) (o : List OpS) (ho : o.length ≤ 100000) (i n : Nat) : ∀ (d j : Nat) (x5 : List OpS), d = o.length - j → j ≤ o.length → x5.length + (o.length - j) ≤ 1000000 → ∀ r, Ev (fun k => spec_ScanOps.l0 k b (x5 ++ o.drop j) (wrap64 ((i : Int) + (n : Int)))) r → Ev (fun k => spec_ScanOps.l1 k b x5 i o n j) r := by
  intro d
  induction d with
  | zero =>
    intro j x5 hd hj h5 r hE
    rw [List.drop_eq_nil_of_le (by omega), List.append_nil] at hE
    have g : ¬ ((j : Int) < (o.length : Int)) := by omega
    exact Ev.step (fun k => by rw [spec_ScanOps.l1, if_neg g]) hE
  | succ d ih =>
    intro j x5 hd hj h5 r hE
    have hlt : j < o.length := by omega
    have g : ((j : Int) < (o.length : Int)) := by omega
    have g1 : (0 : Int) ≤ (j : Int) := by omega
    have g2 : x5.length < 5864062014805 := by omega
    have hr := rdT_at o j hlt
    have e : x5 ++ o.drop j = (x5 ++ [(⟨(rd_T38 o (j : Int)).f0, (rd_T38 o (j : Int)).f1, (rd_T38 o (j : Int)).f2⟩ : OpS)]) ++ o.drop (j + 1) := by
      rw [hr, List.drop_eq_getElem_cons hlt, List.append_assoc]; rfl
    rw [e] at hE
    have hw := wrap_succ (i := j) (n := o.length) hlt (by omega)
    refine Ev.step (fun k => by rw [spec_ScanOps.l1, if_pos g, if_pos g1, if_pos g2, hw]) ?_
    exact ih (j + 1) _ (by clear hw; omega) (by clear hw; omega) (by clear hw; simp; omega) r hE
theorem sscan_l (b : List Int) (hb : Byt b) (hl : b.length ≤ 4000) : ∀ (d i : Nat) (x5 : List OpS), b.length - i ≤ d → i ≤ b.length → x5.length ≤ i → Ev (fun k => spec_ScanOps.l0 k b x5 i) (scanR b x5 i (scanN (d + 1) (b.drop i))) := by
  intro d
  induction d using Nat.strongRecOn with
  | ind d ih =>
  intro i x5 hd hi h5
  have hR : scanR b x5 i ([], 0) = (x5, (i : Int), status (b.drop i)) := by unfold scanR; simp
  by_cases c : i < b.length
  · have g : (i : Int) < (b.length : Int) := by omega
    have g0 : (0 : Int) ≤ (i : Int) := by omega
    have g1 : (i : Int) ≤ (b.length : Int) := by omega
    refine Ev.step (fun k => by rw [spec_ScanOps.l0, if_pos g, if_pos g0, if_pos g1, Int.toNat_natCast]) ?_
    refine Ev.bind (sblk_ev (b.drop i) (byt_drop hb i) (by rw [List.length_drop]; omega)) ?_
    rw [scanN]
    cases h : blkP (b.drop i) with
    | none =>
      refine Ev.congr (fun k => if_pos (show (sblkR none).2 < 0 by decide)) ?_
      rw [hR]
      exact sscan_j2 b hb hl i hi x5
    | some p =>
      obtain ⟨o, n⟩ := p
      have hp := blkP_pos (byt_drop hb i) h
      rw [List.length_drop] at hp
      have g2 : ¬ ((n : Int) < 0) := by omega
      refine Ev.congr (fun k => if_neg (show ¬ (sblkR (some (o, n))).2 < 0 from g2)) ?_
      have := ih (d - 1) (by omega) (i + n) (x5 ++ o) (by omega) (by omega) (by rw [List.length_append]; omega)
      rw [show d - 1 + 1 = d by omega] at this
      have he : scanR b x5 i (o ++ (scanN d ((b.drop i).drop n)).1, n + (scanN d ((b.drop i).drop n)).2) = scanR b (x5 ++ o) (i + n) (scanN d (b.drop (i + n))) := by
        rw [List.drop_drop]
        unfold scanR
        simp only []
        rw [List.append_assoc, Nat.add_assoc]
      show Ev (fun k => spec_ScanOps.l1 k b x5 i o n ((0 : Nat) : Int)) _
      refine sscan_l1 b o (by omega) i n o.length 0 x5 (by omega) (by omega) (by omega) _ ?_
      rw [List.drop_zero]
      have hw : wrap64 ((i : Int) + (n : Int)) = ((i + n : Nat) : Int) := by unfold wrap64; omega
      rw [hw, he]
      exact this
  · have g : ¬ ((i : Int) < (b.length : Int)) := by omega
    have hn : blkP (b.drop i) = none := blk_torn _ (by rw [List.length_drop]; omega)
    rw [scanN, hn, hR]
    refine Ev.step (fun k => by rw [spec_ScanOps.l0, if_neg g]) ?_
    exact sscan_j2 b hb hl i hi x5
theorem sscan_ev (b : List Int) (hb : Byt b) : Ev (fun k => spec_ScanOps.f k b) (scanV b) := by
  unfold spec_ScanOps.f scanV
  by_cases c : b.length ≤ 4000
  · rw [if_pos c]
    refine Ev.congr (fun k => if_neg (by omega)) ?_
    have h := sscan_l b hb c b.length 0 [] (by omega) (by omega) (by simp)
    rw [List.drop_zero] at h
    exact h
  · rw [if_neg c]
    exact Ev.congr (f := fun _ => some (([] : List OpS), (0 : Int), (2 : Int))) (fun k => if_pos (by omega)) (Ev.now _)

/-! ### one byte turned -/
theorem sum_inj (l : List Int) : ∀ (s t : Int), 0 ≤ s → s < 65521 → 0 ≤ t → t < 65521 → s ≠ t → sumFrom s l ≠ sumFrom t l := by
  induction l with
  | nil => exact fun s t _ _ _ _ h => h
  | cons x l ih =>
    intro s t s0 s1 t0 t1 h
    refine ih _ _ (sum_step s x).1 (sum_step s x).2 (sum_step t x).1 (sum_step t x).2 ?_
    intro he
    have he' : (31 * s + x) % 65521 = (31 * t + x) % 65521 := he
    apply h
    omega
theorem sum_set (l : List Int) : ∀ (s : Int) (k : Nat) (x y : Int), 0 ≤ s → s < 65521 → l[k]? = some x → 0 ≤ x → x ≤ 255 → 0 ≤ y → y ≤ 255 → x ≠ y → sumFrom s (l.set k y) ≠ sumFrom s l := by
  induction l with
  | nil => exact fun s k x y _ _ h => by simp at h
  | cons a l ih =>
    intro s k x y s0 s1 hk x0 x1 y0 y1 hxy
    cases k with
    | zero =>
      simp at hk
      subst hk
      rw [List.set_cons_zero]
      refine sum_inj l _ _ (sum_step s y).1 (sum_step s y).2 (sum_step s a).1 (sum_step s a).2 ?_
      intro he
      have he' : (31 * s + y) % 65521 = (31 * s + a) % 65521 := he
      omega
    | succ k =>
      rw [List.set_cons_succ]
      exact ih _ k x y (sum_step s a).1 (sum_step s a).2 (by simpa using hk) x0 x1 y0 y1 hxy
theorem unsL_long {n : Nat} {l s : List Int} {x y : List OpS} (h : unsL n l = some (x, [])) (h' : unsL n (l ++ s) = some (y, [])) : s = [] := by
  rw [unsL_app n h] at h'
  injection h' with h'
  injection h' with _ h'
theorem rd_set_ne (b : List Int) (k i : Nat) (y : Int) (h : k ≠ i) : rd (b.set k y) (i : Int) = rd b (i : Int) := by
  unfold rd; rw [Int.toNat_natCast, List.getD_eq_getElem?_getD, List.getD_eq_getElem?_getD, List.getElem?_set_ne h]
theorem rd_set_eq (b : List Int) (k : Nat) (y : Int) (h : k < b.length) : rd (b.set k y) (k : Int) = y := by
  unfold rd; rw [Int.toNat_natCast, List.getD_eq_getElem?_getD, List.getElem?_set_self h, Option.getD_some]
theorem blk_bent (b : List Int) (hb : Byt b) (o : List OpS) (n : Nat) (h : blkP b = some (o, n)) (k : Nat) (hk : k < n) (y : Int) (y0 : 0 ≤ y) (y1 : y ≤ 255) (hy : rd b (k : Int) ≠ y) : blkP (b.set k y) = none := by
  have hpos := blkP_pos hb h
  have hkl : k < b.length := by omega
  obtain ⟨hrk, k0, k1⟩ := rd_byt hb k hkl
  obtain ⟨hr1, b0, b1⟩ := rd_byt hb 1 (by omega)
  have r0 : 0 ≤ rd b 1 := by have h1 : rd b 1 = b[1]'(by omega) := hr1; rw [h1]; exact b0
  unfold blkP at h
  by_cases c : 2 ≤ b.length ∧ 1 ≤ rd b 0 ∧ rd b 0 ≤ 16 ∧ rd b 1 + 4 ≤ b.length
  · rw [if_pos c] at h
    obtain ⟨p, hp, h⟩ := Option.bind_eq_some_iff.mp h
    obtain ⟨xs, r⟩ := p
    by_cases c2 : r = [] ∧ sumFrom 1 (b.take (2 + (rd b 1).toNat)) = 256 * rd b ((2 + (rd b 1).toNat : Nat) : Int) + rd b ((2 + (rd b 1).toNat + 1 : Nat) : Int)
    · simp only [] at h
      rw [if_pos c2] at h
      injection h with h; injection h with h1 h2
      obtain ⟨hr, hsum⟩ := c2
      subst hr
      obtain ⟨m, hm⟩ : ∃ m : Nat, rd b 1 = (m : Int) := ⟨(rd b 1).toNat, by omega⟩
      obtain ⟨q, hq⟩ : ∃ q : Nat, rd b 0 = (q : Int) := ⟨(rd b 0).toNat, by omega⟩
      rw [hm, Int.toNat_natCast] at hsum h2
      rw [hm, hq, Int.toNat_natCast, Int.toNat_natCast] at hp
      have hml : 2 + m + 2 ≤ b.length := by omega
      clear hr1 b0 b1
      unfold blkP
      rw [List.length_set]
      by_cases k0' : k = 0
      · subst k0'
        have e0 : rd (b.set 0 y) 0 = y := rd_set_eq b 0 y hkl
        have e1 : rd (b.set 0 y) 1 = (m : Int) := by rw [← hm]; exact rd_set_ne b 0 1 y (by omega)
        by_cases cc : 2 ≤ b.length ∧ 1 ≤ rd (b.set 0 y) 0 ∧ rd (b.set 0 y) 0 ≤ 16 ∧ rd (b.set 0 y) 1 + 4 ≤ b.length
        · rw [if_pos cc, e1, e0, Int.toNat_natCast]
          have ed : ((b.set 0 y).take (2 + m)).drop 2 = (b.take (2 + m)).drop 2 := by
            rw [List.drop_take, List.drop_take, List.drop_set_of_lt (by omega)]
          rw [ed]
          cases hu : unsL y.toNat ((b.take (2 + m)).drop 2) with
          | none => rfl
          | some p =>
            obtain ⟨xs', r'⟩ := p
            simp only [Option.bind_some]
            rw [if_neg]
            rintro ⟨hr', _⟩
            subst hr'
            have := unsL_num _ _ hp hu
            apply hy
            show rd b 0 = y
            omega
        · rw [if_neg cc]
      by_cases k1' : k = 1
      · subst k1'
        have e0 : rd (b.set 1 y) 0 = (q : Int) := by rw [← hq]; exact rd_set_ne b 1 0 y (by omega)
        have e1 : rd (b.set 1 y) 1 = y := rd_set_eq b 1 y hkl
        by_cases cc : 2 ≤ b.length ∧ 1 ≤ rd (b.set 1 y) 0 ∧ rd (b.set 1 y) 0 ≤ 16 ∧ rd (b.set 1 y) 1 + 4 ≤ b.length
        · obtain ⟨z, hz⟩ : ∃ z : Nat, y = (z : Int) := ⟨y.toNat, by omega⟩
          subst hz
          rw [e0, e1] at cc
          rw [if_pos (by rw [e0, e1]; exact cc), e0, e1, Int.toNat_natCast, Int.toNat_natCast]
          have ed : ((b.set 1 (z : Int)).take (2 + z)).drop 2 = (b.drop 2).take z := by
            rw [List.drop_take, List.drop_set_of_lt (by omega), show 2 + z - 2 = z by omega]
          have em : (b.take (2 + m)).drop 2 = (b.drop 2).take m := by rw [List.drop_take, show 2 + m - 2 = m by omega]
          rw [em] at hp
          rw [ed]
          have hdl : (b.drop 2).length = b.length - 2 := List.length_drop ..
          have hzm : z ≠ m := by intro h; apply hy; show rd b 1 = _; rw [hm, h]
          cases hu : unsL q ((b.drop 2).take z) with
          | none => rfl
          | some p =>
            obtain ⟨xs', r'⟩ := p
            simp only [Option.bind_some]
            rw [if_neg]
            rintro ⟨hr', _⟩
            subst hr'
            rcases Nat.lt_or_gt_of_ne hzm with hlt | hlt
            · have es : (b.drop 2).take m = (b.drop 2).take z ++ ((b.drop 2).drop z).take (m - z) := by rw [← List.take_add, show z + (m - z) = m by omega]
              rw [es] at hp
              have := congrArg List.length (unsL_long hu hp)
              rw [List.length_take, List.length_drop, hdl] at this
              simp at this
              omega
            · have es : (b.drop 2).take z = (b.drop 2).take m ++ ((b.drop 2).drop m).take (z - m) := by rw [← List.take_add, show m + (z - m) = z by omega]
              rw [es] at hu
              have := congrArg List.length (unsL_long hp hu)
              rw [List.length_take, List.length_drop, hdl] at this
              simp at this
              omega
        · rw [if_neg cc]
      · have e0 : rd (b.set k y) 0 = (q : Int) := by rw [← hq]; exact rd_set_ne b k 0 y k0'
        have e1 : rd (b.set k y) 1 = (m : Int) := by rw [← hm]; exact rd_set_ne b k 1 y k1'
        rw [e0, e1, if_pos (by rw [← hq, ← hm]; exact c), Int.toNat_natCast, Int.toNat_natCast]
        have hne : ¬ (sumFrom 1 ((b.set k y).take (2 + m)) = 256 * rd (b.set k y) ((2 + m : Nat) : Int) + rd (b.set k y) ((2 + m + 1 : Nat) : Int)) := by
          by_cases c3 : k < 2 + m
          · rw [rd_set_ne b k (2 + m) y (by omega), rd_set_ne b k (2 + m + 1) y (by omega), ← hsum, List.take_set]
            have hkx : (b.take (2 + m))[k]? = some b[k] := by rw [List.getElem?_take, if_pos c3]; exact List.getElem?_eq_getElem hkl
            exact sum_set (b.take (2 + m)) 1 k b[k] y (by omega) (by omega) hkx k0 k1 y0 y1 (by rw [← hrk]; exact hy)
          · have et : (b.set k y).take (2 + m) = b.take (2 + m) := by rw [List.take_set, List.set_eq_of_length_le (by rw [List.length_take]; omega)]
            rw [et, hsum]
            by_cases c4 : k = 2 + m
            · subst c4
              rw [rd_set_eq b (2 + m) y hkl, rd_set_ne b (2 + m) (2 + m + 1) y (by omega)]
              omega
            · have c5 : k = 2 + m + 1 := by omega
              subst c5
              rw [rd_set_eq b (2 + m + 1) y hkl, rd_set_ne b (2 + m + 1) (2 + m) y (by omega)]
              omega
        cases unsL q (((b.set k y).take (2 + m)).drop 2) with
        | none => rfl
        | some p => simp only [Option.bind_some]; rw [if_neg (fun h => hne h.2)]
    · simp only [] at h; rw [if_neg c2] at h; cases h
  · rw [if_neg c] at h; cases h
theorem scan_none (b : List Int) (h : blkP b = none) : (scanV b).1 = [] := by
  unfold scanV
  by_cases c : b.length ≤ 4000
  · rw [if_pos c, scanN, h]; rfl
  · rw [if_neg c]
theorem scan_some (b : List Int) (h : (scanV b).1 ≠ []) : b.length ≤ 4000 ∧ ∃ o n, blkP b = some (o, n) := by
  by_cases c : b.length ≤ 4000
  · refine ⟨c, ?_⟩
    cases hb : blkP b with
    | none => exact absurd (scan_none b hb) h
    | some p => exact ⟨p.1, p.2, rfl⟩
  · exfalso; apply h; unfold scanV; rw [if_neg c]

/-! ### the drawing -/
theorem drawB_l (b : List Int) (n : Nat) (hb : b.length ≤ 9223372036854775806) (hn : n ≤ 100000) : ∀ (d m : Nat) (x5 : List Int) (i h : Int), d = n - m → m ≤ n → x5.length = m → Byt x5 → 0 ≤ i →
    ∃ (r : List Int × Int × Int), Ev (fun k => spec_l01DrawBytes.l0 k n x5 m b i h) r ∧ r.1.length = n ∧ Byt r.1 ∧ 0 ≤ r.2.1
  | 0, m, x5, i, h => fun hd hm h5 hB hi => ⟨(x5, i, h), Ev.at1 fun k => by rw [spec_l01DrawBytes.l0, if_neg (by omega)], by show x5.length = n; omega, hB, hi⟩
  | d + 1, m, x5, i, h => fun hd hm h5 hB hi => by
    obtain ⟨x, i1, h1, e1, hi1, hx0, hx1⟩ := below_ok b i h 256 hb hi
    obtain ⟨y, i2, h2, e2, hi2, hy0, hy1⟩ := below_ok b i1 h1 256 hb hi1
    obtain ⟨z, i3, h3, e3, hi3, hz⟩ := pick_ok b i2 h2 [0, 1, 255, 128, x, y] hb hi2 (by simp)
    have g0 : (m : Int) < (n : Int) := by omega
    have g1 : x5.length < 140737488355328 := by omega
    have gB : Byt (x5 ++ [z % 256]) := byt_app hB (fun u hu => by simp at hu; omega)
    have gl : (x5 ++ [z % 256]).length = m + 1 := by simp [h5]
    obtain ⟨r, hE, hr⟩ := drawB_l b n hb hn d (m + 1) (x5 ++ [z % 256]) i3 h3 (by omega) (by omega) gl gB hi3
    have hw := wrap_succ (i := m) (n := n) (by omega) (by omega)
    refine ⟨r, Ev.step (fun k => by rw [spec_l01DrawBytes.l0, if_pos g0, e1, Option.bind_some]; simp only []; rw [e2, Option.bind_some]; simp only []; rw [e3, Option.bind_some]; simp only []; rw [if_pos g1, hw]) hE, hr⟩
theorem drawB_ok (b : List Int) (n : Nat) (hb : b.length ≤ 9223372036854775806) (hn : n ≤ 100000) (i h : Int) (hi : 0 ≤ i) : ∃ (r : List Int × Int × Int), Ev (fun k => spec_l01DrawBytes.f k b i h n) r ∧ r.1.length = n ∧ Byt r.1 ∧ 0 ≤ r.2.1 :=
  drawB_l b n hb hn n 0 [] i h (by omega) (by omega) rfl byt_nil hi
theorem drawS_j2 (b : List Int) (hb : b.length ≤ 9223372036854775806) (x : List Int) (hx : Byt x) (hl : x.length ≤ 10000) (c : Bool) (i h : Int) (hi : 0 ≤ i) (hc : c = true → 0 < x.length) :
    ∃ r, Ev (fun k => spec_l17DrawBytes.j2 k x c b i h) r ∧ Byt r ∧ r.length ≤ 10010 := by
  cases c with
  | false => exact ⟨x, Ev.at1 fun k => by rw [spec_l17DrawBytes.j2, if_neg (by decide)], hx, by omega⟩
  | true =>
    have hx0 := hc rfl
    obtain ⟨o, i1, h1, e1, hi1, ho0, ho1⟩ := below_ok b i h 3 hb hi
    obtain ⟨y, i2, h2, e2, hi2, hy0, hy1⟩ := below_ok b i1 h1 x.length hb hi1
    have hy1 := hy1 (by omega)
    have hyl : y ≤ (x.length : Int) := by omega
    by_cases c0 : o = 0
    · refine ⟨x.take y.toNat, Ev.at1 fun k => ?_, byt_take hx _, by rw [List.length_take]; omega⟩
      rw [spec_l17DrawBytes.j2, if_pos rfl, e1, Option.bind_some]; simp only []
      rw [if_pos c0, e2, Option.bind_some]; simp only []
      rw [if_pos hy0, if_pos hyl]
    by_cases c1 : o = 1
    · obtain ⟨z, i3, h3, e3, hi3, hz0, hz1⟩ := below_ok b i2 h2 256 hb hi2
      refine ⟨x.set y.toNat (z % 256), Ev.at1 fun k => ?_, fun u hu => ?_, by rw [List.length_set]; omega⟩
      · rw [spec_l17DrawBytes.j2, if_pos rfl, e1, Option.bind_some]; simp only []
        rw [if_neg c0, if_pos c1, e2, Option.bind_some]; simp only []
        rw [e3, Option.bind_some]; simp only []
        rw [if_pos hy0, if_pos hy1]
      · rcases List.mem_or_eq_of_mem_set hu with h | h
        · exact hx u h
        · rw [h]; omega
    by_cases c2 : o = 2
    · obtain ⟨z, i3, h3, e3, hi3, hz0, hz1⟩ := below_ok b i1 h1 6 hb hi1
      have hz1 := hz1 (by omega)
      obtain ⟨r, hE, hr1, hr2, hr3⟩ := drawB_ok b (1 + z.toNat) hb (by omega) i3 h3 hi3
      have hw : wrap64 (1 + z) = ((1 + z.toNat : Nat) : Int) := by unfold wrap64; omega
      refine ⟨x ++ r.1, ?_, byt_app hx hr2, by rw [List.length_append]; clear hw; omega⟩
      refine Ev.step (fun k => by rw [spec_l17DrawBytes.j2, if_pos rfl, e1, Option.bind_some]) ?_
      simp only []
      refine Ev.congr (fun k => by rw [if_neg c0, if_neg c1, if_pos c2, e3, Option.bind_some]) ?_
      simp only [hw]
      refine Ev.bind hE ?_
      exact Ev.bind (join_ev x r.1 (by clear hw; omega) (by clear hw; omega)) (Ev.now _)
    · refine ⟨x, Ev.at1 fun k => ?_, hx, by omega⟩
      rw [spec_l17DrawBytes.j2, if_pos rfl, e1, Option.bind_some]; simp only []
      rw [if_neg c0, if_neg c1, if_neg c2]
theorem drawS_j1 (b : List Int) (hb : b.length ≤ 9223372036854775806) (x : List Int) (hx : Byt x) (hl : x.length ≤ 10000) (i h : Int) (hi : 0 ≤ i) :
    ∃ r, Ev (fun k => spec_l17DrawBytes.j1 k x b i h) r ∧ Byt r ∧ r.length ≤ 10010 := by
  obtain ⟨o, i1, h1, e1, hi1⟩ := once_ok b i h 3 hb hi
  cases o with
  | true =>
    obtain ⟨r, hE, hr⟩ := drawS_j2 b hb x hx hl (decide ((x.length : Int) > 0)) i1 h1 hi1 (fun hc => by have := of_decide_eq_true hc; omega)
    exact ⟨r, Ev.step (fun k => by rw [spec_l17DrawBytes.j1, e1, Option.bind_some]; simp only []; rw [if_pos trivial]) hE, hr⟩
  | false =>
    obtain ⟨r, hE, hr⟩ := drawS_j2 b hb x hx hl false i1 h1 hi1 (fun hc => by cases hc)
    exact ⟨r, Ev.step (fun k => by rw [spec_l17DrawBytes.j1, e1, Option.bind_some]; simp only []; rw [if_neg (by decide)]) hE, hr⟩
theorem fin_ok (l : List OpS) : Byt (fin l []).1 ∧ (fin l []).1.length ≤ 4000 := by
  unfold fin
  by_cases c : l.all opOk = true ∧ ([] : List Int).length + (packs l).length ≤ 4000
  · rw [if_pos c]; exact ⟨byt_app byt_nil (packs_byt l.length l (Nat.le_refl _) c.1), by have := c.2; simpa using this⟩
  · rw [if_neg c]; exact ⟨byt_nil, by simp⟩
theorem drawS_l0 (b : List Int) (hb : b.length ≤ 9223372036854775806) (x5 : List OpS) (h5 : x5.length ≤ 10000) : ∀ (d m : Nat) (x4 : List OpS) (i h : Int), d = x5.length - m → m ≤ x5.length → x4.length ≤ m → 0 ≤ i →
    ∃ r, Ev (fun k => spec_l17DrawBytes.l0 k x4 x5 m b i h) r ∧ Byt r ∧ r.length ≤ 10010
  | 0, m, x4, i, h => fun hd hm h4 hi => by
    have g0 : ¬ ((m : Int) < (x5.length : Int)) := by omega
    obtain ⟨y, i1, h1, e1, hi1, hy0, hy1⟩ := below_ok b i h ((x4.length : Int) + 1) hb hi
    have hy1 := hy1 (by omega)
    have hyl : y ≤ (x4.length : Int) := by omega
    obtain ⟨hA, hA2⟩ := fin_ok (x4.take y.toNat)
    obtain ⟨hB, hB2⟩ := fin_ok (x4.drop y.toNat)
    obtain ⟨o, i2, h2, e2, hi2⟩ := once_ok b i1 h1 3 hb hi1
    have hsA := sPack_ev (x4.take y.toNat) (by rw [List.length_take]; omega)
    have hsB := sPack_ev (x4.drop y.toNat) (by rw [List.length_drop]; omega)
    have hjn := join_ev (fin (x4.take y.toNat) []).1 (fin (x4.drop y.toNat) []).1 (by omega) (by omega)
    have hw : wrap64 ((x4.length : Int) + 1) = (x4.length : Int) + 1 := by clear e1 e2; unfold wrap64; omega
    cases o with
    | true =>
      obtain ⟨r, hE, hr⟩ := drawS_j1 b hb ((fin (x4.take y.toNat) []).1 ++ (fin (x4.drop y.toNat) []).1) (byt_app hA hB) (by rw [List.length_append]; clear hw; omega) i2 h2 hi2
      refine ⟨r, Ev.step (fun k => by rw [spec_l17DrawBytes.l0, if_neg g0, hw, e1, Option.bind_some]) ?_, hr⟩
      simp only []
      refine Ev.congr (fun k => by rw [if_pos hy0, if_pos hyl]) ?_
      refine Ev.bind hsA (Ev.bind hsB ?_)
      refine Ev.congr (fun k => by rw [e2, Option.bind_some]) ?_
      simp only []
      refine Ev.congr (fun k => by rw [if_pos trivial]) ?_
      exact Ev.bind hjn hE
    | false =>
      obtain ⟨r, hE, hr⟩ := drawS_j1 b hb (fin (x4.take y.toNat) []).1 hA (by clear hw; omega) i2 h2 hi2
      refine ⟨r, Ev.step (fun k => by rw [spec_l17DrawBytes.l0, if_neg g0, hw, e1, Option.bind_some]) ?_, hr⟩
      simp only []
      refine Ev.congr (fun k => by rw [if_pos hy0, if_pos hyl]) ?_
      refine Ev.bind hsA (Ev.bind hsB ?_)
      refine Ev.congr (fun k => by rw [e2, Option.bind_some]) ?_
      simp only []
      refine Ev.congr (fun k => by rw [if_neg (by decide)]) ?_
      exact hE
  | d + 1, m, x4, i, h => fun hd hm h4 hi => by
    have g0 : (m : Int) < (x5.length : Int) := by omega
    have g1 : (0 : Int) ≤ (m : Int) := by omega
    have g2 : x4.length < 5864062014805 := by omega
    have hlt : m < x5.length := by omega
    have hsO := sOpOk_ev (rd_T38 x5 (m : Int))
    cases hok : opOk (rd_T38 x5 (m : Int)) with
    | true =>
      obtain ⟨r, hE, hr⟩ := drawS_l0 b hb x5 h5 d (m + 1) (x4 ++ [(⟨(rd_T38 x5 (m : Int)).f0, (rd_T38 x5 (m : Int)).f1, (rd_T38 x5 (m : Int)).f2⟩ : OpS)]) i h (by omega) (by omega) (by simp; omega) hi
      have hw := wrap_succ (i := m) (n := x5.length) hlt (by omega)
      refine ⟨r, Ev.step (fun k => by rw [spec_l17DrawBytes.l0, if_pos g0, if_pos g1, hw]) ?_, hr⟩
      refine Ev.bind hsO ?_
      rw [hok]
      refine Ev.congr (fun k => by rw [if_pos rfl, if_pos g2]) ?_
      exact hE
    | false =>
      obtain ⟨r, hE, hr⟩ := drawS_l0 b hb x5 h5 d (m + 1) x4 i h (by omega) (by omega) (by omega) hi
      have hw := wrap_succ (i := m) (n := x5.length) hlt (by omega)
      refine ⟨r, Ev.step (fun k => by rw [spec_l17DrawBytes.l0, if_pos g0, if_pos g1, hw]) ?_, hr⟩
      refine Ev.bind hsO ?_
      rw [hok]
      refine Ev.congr (fun k => by rw [if_neg (by decide)]) ?_
      exact hE
theorem drawScan_ok (b : List Int) (hb : b.length ≤ 9223372036854775806) : ∃ l, Ev (fun k => spec_DrawScanOps.f k b) l ∧ Byt l ∧ l.length ≤ 10010 := by
  obtain ⟨h0, hN⟩ := new_ok b hb
  obtain ⟨s, eS, hs0, hs1⟩ := size_ok b 60 (by omega) hb
  obtain ⟨n, i1, h1, e1, hi1, hn0, hn1⟩ := below_ok b 0 h0 s hb (Int.le_refl _)
  have hn60 : n ≤ 60 := by
    by_cases c : 0 < s
    · have := hn1 c; omega
    · have hs : s = 0 := by omega
      subst hs
      have : spec_l01Below.f b 0 h0 0 = some (0, 0, h0) := by unfold spec_l01Below.f; rw [if_pos (Int.le_refl _)]
      rw [this] at e1
      injection e1 with e1
      injection e1 with e1
      omega
  obtain ⟨r, hE, hl, hr⟩ := drawOps_ok b n.toNat hb (by omega) i1 h1 hi1
  rw [show ((n.toNat : Nat) : Int) = n by omega] at hE
  obtain ⟨x, hX, hx, hxl⟩ := drawS_l0 b hb r.1 (by omega) r.1.length 0 [] r.2.1 r.2.2 (by omega) (by omega) (by simp) hr
  refine ⟨x, ?_, hx, hxl⟩
  unfold spec_DrawScanOps.f spec_l17DrawBytes.f
  refine Ev.bind (a := x) (Ev.bind hN ?_) (Ev.now _)
  simp only [eS, e1, Option.bind_some]
  exact Ev.bind hE hX
end Go.Proofs.Ytbjhaaibmjlhhaa.Q
