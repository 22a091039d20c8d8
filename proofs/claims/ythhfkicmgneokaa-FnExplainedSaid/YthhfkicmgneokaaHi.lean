/- By hand (the print's text with one more halt: after the two stores the world is named anew): impl.Widen. -/
import Derived.Test.YthhfkicmgneokaaQx1
import Derived.Test.YthhfkicmgneokaaHa
namespace Go.Proofs.Ythhfkicmgneokaa.Q
open Go.RowKit Go.Proofs.YthhfkicmgneokaaW.PrintWords Go.Proofs.YthhfkicmgneokaaW.PrintLast Go.Proofs.YthhfkicmgneokaaW.PrintMore
attribute [local go_sem] max2_int min2_int max_two min_two max_three min_three max_four min_four
set_option linter.unusedVariables false
set_option linter.unusedSimpArgs false

/-! ### impl_Widen: function 27 -/
mutual
def impl_Widen.j0 : Nat → List (S55) → Int → Bool → Option ((List (S55)) × Bool)
 | 0, _, _, _ => none
 | k + 1, x0, x1, x16 => if x16 = true then (some (([] : List (S55)), false)) else (impl_Widen.l0 k x1 (([] : List (S55))) x0 (x0.length : Int) 0)
def impl_Widen.l0 : Nat → Int → List (S55) → List (S55) → Int → Int → Option ((List (S55)) × Bool)
 | 0, _, _, _, _, _ => none
 | k + 1, x1, x6, x18, x19, x20 => if x20 < x19 then (if 0 ≤ x20 then (if x20 < (x18.length : Int) then (if x6.length < 3518437208883 then (impl_Widen.l0 k x1 (x6 ++ [(⟨(rd_T55 x18 x20).f0, (rd_T55 x18 x20).f1, (rd_T55 x18 x20).f2, mx 0 (wrap64 (((rd_T55 x18 x20).f3) - x1)), mn 1000000 (wrap64 (((rd_T55 x18 x20).f4) + x1))⟩ : S55)]) x18 x19 (wrap64 (x20 + 1))) else (none)) else (none)) else (none)) else (some (x6, true))
end
def impl_Widen.f (k : Nat) (l0 : List (S55)) (a1 : Int) : Option ((List (S55)) × Bool) := (impl_areCalls.f l0).bind fun t418 => (if t418 = true then ((impl_within.f a1 0 1000000).bind fun t419 => (impl_Widen.j0 k l0 a1 (!t419))) else (impl_Widen.j0 k l0 a1 true))
theorem impl_Widen.mono_l : ∀ k, (∀ y0 y1 y2, LeO (impl_Widen.j0 k y0 y1 y2) (impl_Widen.j0 (k + 1) y0 y1 y2)) ∧ (∀ y0 y1 y2 y3 y4, LeO (impl_Widen.l0 k y0 y1 y2 y3 y4) (impl_Widen.l0 (k + 1) y0 y1 y2 y3 y4))
 | 0 => ⟨fun _ _ _ r h => by simp [impl_Widen.j0] at h, fun _ _ _ _ _ r h => by simp [impl_Widen.l0] at h⟩
 | k + 1 => by
  obtain ⟨ih0, ih1⟩ := impl_Widen.mono_l k
  refine ⟨?_, ?_⟩
  ·intro y0 y1 y2
   unfold impl_Widen.j0
   repeat' first
   | (with_reducible exact ih0 _ _ _)
   | (with_reducible exact ih1 _ _ _ _ _)
   | (with_reducible exact LeO.refl _)
   | (with_reducible exact LeO.none _)
   | (with_reducible refine LeO.ite ?_ ?_)
   | (with_reducible refine LeO.bind ?_ (fun _ => ?_))
  ·intro y0 y1 y2 y3 y4
   unfold impl_Widen.l0
   repeat' first
   | (with_reducible exact ih0 _ _ _)
   | (with_reducible exact ih1 _ _ _ _ _)
   | (with_reducible exact LeO.refl _)
   | (with_reducible exact LeO.none _)
   | (with_reducible refine LeO.ite ?_ ?_)
   | (with_reducible refine LeO.bind ?_ (fun _ => ?_))
theorem impl_Widen.mono : ∀ a0 a1 k, LeO (impl_Widen.f k a0 a1) (impl_Widen.f (k + 1) a0 a1) := by
 intro a0 a1 k
 obtain ⟨ih0, ih1⟩ := impl_Widen.mono_l k
 unfold impl_Widen.f
 repeat' first
   | (with_reducible exact ih0 _ _ _)
   | (with_reducible exact ih1 _ _ _ _ _)
   | (with_reducible exact LeO.refl _)
   | (with_reducible exact LeO.none _)
   | (with_reducible refine LeO.ite ?_ ?_)
   | (with_reducible refine LeO.bind ?_ (fun _ => ?_))
set_option maxHeartbeats 8000000 in
set_option maxRecDepth 100000 in
theorem impl_Widen.calls (k : Nat) (A0 : Option Addr) (c0 : Nat) (l0 : List (S55)) (a1 : Int) (r1 : List (S55)) (r2 : Bool) (w : World) (hr0 : Kd.C k55 w A0 l0.length l0) (hc0 : l0.length ≤ c0) (h : impl_Widen.f k l0 a1 = some (r1, r2)) :
  Calls Try.prog 27 #[.slice A0 l0.length c0, .int .i64 a1] w fun e w' => ∃ v0_ : Value, e = .returned (.tuple #[v0_, .bool r2]) ∧ Kd.R k55 55 w' w.heap.size (fun _ => True) v0_ r1 ∧ Below w.heap.size w w' := by
 have hu55 := Try.underlying55
 have HR0 := Aside0.mk hr0
 have HC0 := Aside0.mk hc0
 clear hr0 hc0
 have HB := Aside0.mk (Below.refl w.heap.size w)
 have H : ((impl_areCalls.f l0).bind fun t418 => (if t418 = true then ((impl_within.f a1 0 1000000).bind fun t419 => (impl_Widen.j0 k l0 a1 (!t419))) else (impl_Widen.j0 k l0 a1 true))) = some (r1, r2) := h
 clear h
 have HC3 := Aside0.mk H
 clear H
 go_enter Try.func27, Try.ntmps27
 go_upto_region 1 with (fail)
 go_cut [16] (fun v16 wc => ∃ (kq : Nat) (x16_2 : Bool), v16 = .bool x16_2 ∧ Aside0 (impl_Widen.j0 kq l0 a1 x16_2 = some (r1, r2)) ∧ Aside0 (kq ≤ k) ∧ Aside0 (Below w.heap.size w wc))
 case first =>
  have H := HC3.out
  clear HC3
  replace H := Option.bind_eq_some_iff.mp H
  obtain ⟨t418, A40, H⟩ := H
  replace H : (if t418 = true then ((impl_within.f a1 0 1000000).bind fun t419 => (impl_Widen.j0 k l0 a1 (!t419))) else (impl_Widen.j0 k l0 a1 true)) = some (r1, r2) := H
  have A4 := Aside0.mk A40
  clear A40
  by_cases c5 : t418 = true
  ·subst c5
   have H1 : ((impl_within.f a1 0 1000000).bind fun t419 => (impl_Widen.j0 k l0 a1 (!t419))) = some (r1, r2) := by rw [if_pos rfl] at H; exact H
   clear H
   have H := H1
   clear H1
   replace H := Option.bind_eq_some_iff.mp H
   obtain ⟨t419, A60, H⟩ := H
   replace H : (impl_Widen.j0 k l0 a1 (!t419)) = some (r1, r2) := H
   have A6 := Aside0.mk A60
   clear A60
   have H' := Aside0.mk H
   clear H
   go_wp2_with (first | (go_at_call 42; (with_reducible refine (impl_areCalls.calls _ _ l0 true _ ?side1 ?side2 A4.out).mono ?_); (case side1 => repeat (first | exact (Kd.C_below HR0.out HB.out) | (with_reducible refine Kd.C_alloc ?_ _) | (with_reducible refine Kd.C_drewN ?_ _) | (with_reducible refine Kd.C_drew ?_))); (case side2 => exact HC0.out); rintro e w7 ⟨rfl, hb⟩; have n0_ := Aside0.mk (below_step (by with_reducible repeat (first | exact HB.out | apply below_alloc | apply pw_below_drewN | apply below_drew1)) hb); clear HB; have HB := n0_; clear n0_; clear hb) | (go_at_call 52; (with_reducible refine (impl_within.calls a1 0 1000000 t419 _ A6.out).mono ?_); rintro e w' ⟨rfl, ⟨nd, rfl⟩⟩))
   go_meet
   case rel => exact ⟨_, (!t419), (by first | rfl | simp | simp [*]), H', ⟨by first | omega | exact Nat.le_refl _⟩, ⟨by with_reducible repeat (first | exact HB.out | apply below_alloc | apply pw_below_drewN | apply below_drew1)⟩⟩
  ·replace c5 := Bool.eq_false_iff.mpr c5
   subst c5
   have H1 : (impl_Widen.j0 k l0 a1 true) = some (r1, r2) := by rw [if_neg (show ¬ (false = true) by decide)] at H; exact H
   clear H
   have H := H1
   clear H1
   have H' := Aside0.mk H
   clear H
   go_wp2_with (first | (go_at_call 42; (with_reducible refine (impl_areCalls.calls _ _ l0 false _ ?side1 ?side2 A4.out).mono ?_); (case side1 => repeat (first | exact (Kd.C_below HR0.out HB.out) | (with_reducible refine Kd.C_alloc ?_ _) | (with_reducible refine Kd.C_drewN ?_ _) | (with_reducible refine Kd.C_drew ?_))); (case side2 => exact HC0.out); rintro e w8 ⟨rfl, hb⟩; have n0_ := Aside0.mk (below_step (by with_reducible repeat (first | exact HB.out | apply below_alloc | apply pw_below_drewN | apply below_drew1)) hb); clear HB; have HB := n0_; clear n0_; clear hb))
   go_meet
   case rel => exact ⟨_, (true), (by first | rfl | simp | simp [*]), H', ⟨by first | omega | exact Nat.le_refl _⟩, ⟨by with_reducible repeat (first | exact HB.out | apply below_alloc | apply pw_below_drewN | apply below_drew1)⟩⟩
 case rest =>
  clear HC3
  try clear c2
  try clear p2
  try clear c4
  try clear c5
  obtain ⟨kq, x16_2, rfl, HA, HJ2, HB⟩ := hcut
  cases kq with
  | zero => exact absurd HA.out (by simp [impl_Widen.j0])
  | succ kj2 =>
   have H := HA.out
   clear HA
   simp only [impl_Widen.j0] at H
   by_cases c9 : x16_2 = true
   ·subst c9
    have H1 : (some (([] : List (S55)), false)) = some (r1, r2) := by rw [if_pos rfl] at H; exact H
    clear H
    have H := H1
    clear H1
    simp only [Option.some.injEq, Prod.mk.injEq] at H
    obtain ⟨rfl, rfl⟩ := H
    go_wp2
    go_ret2
    exact ⟨_, by first | rfl | (simp [errW_none, errW_some] <;> rfl) | (simp [*, errW_none, errW_some] <;> rfl), by first | exact Kd.R_nil _ _ _ _ _ | exact Kd.N_nil _ _ _ _ _ | exact Kd.V_nil _ _ _ _ _ | exact Kd.Q_nil _ _ _ _ _ | exact Kd.S_nil _ _ _ _ _, by with_reducible repeat (first | exact HB.out | apply below_alloc | apply pw_below_drewN | apply below_drew1)⟩
   ·replace c9 := Bool.eq_false_iff.mpr c9
    subst c9
    have H1 : (impl_Widen.l0 kj2 a1 (([] : List (S55))) l0 (l0.length : Int) 0) = some (r1, r2) := by rw [if_neg (show ¬ (false = true) by decide)] at H; exact H
    clear H
    have H := H1
    clear H1
    obtain ⟨y420, hy420⟩ : ∃ y_ : List (S55), y_ = (([] : List (S55))) := ⟨_, rfl⟩
    replace H : (impl_Widen.l0 kj2 a1 y420 l0 (l0.length : Int) 0) = some (r1, r2) := by first | (rw [hy420]; exact H) | exact H
    have Ny420 := Aside0.mk hy420
    clear hy420
    have H' := Aside0.mk H
    clear H
    go_wp2_with (first | ((with_reducible refine gate_dst (N := 17) rfl ?_); refine Kd.R_lit k55 _ 55 ?hg (N := 17) ?hd (xs := ([] : List (S55))) (inner := []) (ok := fun _ => True) (okp := fun _ => True) ?hr ?hp (fun _ hk => hk) trivial (Below.refl _ _) (Nat.le_refl _) (by simp) ?_; (case hd => rfl); (case hg => rfl); (case hr => first | (go_simp; done) | (go_simp; rfl)); (case hp => exact (Reps.none _ _)); intro v421 w10 ho11 hb hg_ hnew_; clear hg_ hnew_; (first | rw [← Ny420.out] at ho11 | (simp only [Int.reduceToNat] at ho11; rw [← Ny420.out] at ho11)); have n0_ := Aside0.mk (Kd.R_lower ho11 (below_size (by with_reducible repeat (first | exact HB.out | apply below_alloc | apply pw_below_drewN | apply below_drew1)))); have n1_ := Aside0.mk (below_step (by with_reducible repeat (first | exact HB.out | apply below_alloc | apply pw_below_drewN | apply below_drew1)) hb); clear HB; have HO422 := n0_; have HB := n1_; clear n0_ n1_; clear hb ho11))
    go_loopg [6, 20] kj2 (fun kq v6 v20 w' => ∃ (x6_2 : List (S55)) (x20_2 : Int), v20 = .int .i64 x20_2 ∧ Aside0 (impl_Widen.l0 kq a1 x6_2 l0 (l0.length : Int) x20_2 = some (r1, r2)) ∧ Aside0 (kq ≤ kj2) ∧ Aside0 (Kd.R k55 55 w' w.heap.size (fun _ => True) v6 x6_2) ∧ Aside0 (Below w.heap.size w w'))
    case atStart => exact ⟨(y420), (0), (by first | rfl | simp | simp [*]), H', ⟨Nat.le_refl _⟩, ⟨by (with_reducible repeat (first | apply Kd.R_alloc | apply Kd.R_drewN | apply Kd.R_drew)); exact HO422.out⟩, ⟨by with_reducible repeat (first | exact HB.out | apply below_alloc | apply pw_below_drewN | apply below_drew1)⟩⟩
    case round =>
     clear H'
     try clear c2
     try clear p2
     try clear c4
     try clear c5
     try clear c9
     try clear p2
     obtain ⟨x6_2, x20_2, rfl, HA, HK2, HO_6, HB⟩ := hrel
     cases gk with
     | zero => exact absurd HA.out (by simp [impl_Widen.l0])
     | succ k2 =>
      have H := HA.out
      clear HA
      simp only [impl_Widen.l0] at H
      by_cases c12 : x20_2 < (l0.length : Int)
      ·rw [if_pos c12] at H
       have c12b0 : decide (x20_2 < (l0.length : Int)) = true := decide_eq_true c12
       clear c12
       by_cases c13 : 0 ≤ x20_2
       ·rw [if_pos c13] at H
        have c13b0 : decide (0 ≤ x20_2) = true := decide_eq_true c13
        clear c13
        by_cases c14 : x20_2 < (l0.length : Int)
        ·rw [if_pos c14] at H
         have c14b0 : decide (x20_2 < (l0.length : Int)) = true := decide_eq_true c14
         clear c14
         obtain ⟨ji15, hji15⟩ : ∃ j_ : Int, (mx 0 (wrap64 (((rd_T55 l0 x20_2).f3) - a1))) = j_ := ⟨_, rfl⟩
         replace H : (if x6_2.length < 3518437208883 then (impl_Widen.l0 k2 a1 (x6_2 ++ [(⟨(rd_T55 l0 x20_2).f0, (rd_T55 l0 x20_2).f1, (rd_T55 l0 x20_2).f2, ji15, mn 1000000 (wrap64 (((rd_T55 l0 x20_2).f4) + a1))⟩ : S55)]) l0 (l0.length : Int) (wrap64 (x20_2 + 1))) else (none)) = some (r1, r2) := by first | (rw [hji15] at H; exact H) | (simp only [hji15] at H ⊢; exact H)
         have hji15_ : (if 0 < (wrap64 (((rd_T55 l0 x20_2).f3) - a1)) then (wrap64 (((rd_T55 l0 x20_2).f3) - a1)) else 0) = ji15 := hji15
         obtain ⟨ji16, hji16⟩ : ∃ j_ : Int, (mn 1000000 (wrap64 (((rd_T55 l0 x20_2).f4) + a1))) = j_ := ⟨_, rfl⟩
         replace H : (if x6_2.length < 3518437208883 then (impl_Widen.l0 k2 a1 (x6_2 ++ [(⟨(rd_T55 l0 x20_2).f0, (rd_T55 l0 x20_2).f1, (rd_T55 l0 x20_2).f2, ji15, ji16⟩ : S55)]) l0 (l0.length : Int) (wrap64 (x20_2 + 1))) else (none)) = some (r1, r2) := by first | (rw [hji16] at H; exact H) | (simp only [hji16] at H ⊢; exact H)
         have hji16_ : (if (wrap64 (((rd_T55 l0 x20_2).f4) + a1)) < 1000000 then (wrap64 (((rd_T55 l0 x20_2).f4) + a1)) else 1000000) = ji16 := hji16
         by_cases c17 : x6_2.length < 3518437208883
         ·rw [if_pos c17] at H
          have LMc17 := Aside0.mk c17
          clear c17
          obtain ⟨y425, hy425⟩ : ∃ y_ : List (S55), y_ = (x6_2 ++ [(⟨(rd_T55 l0 x20_2).f0, (rd_T55 l0 x20_2).f1, (rd_T55 l0 x20_2).f2, ji15, ji16⟩ : S55)]) := ⟨_, rfl⟩
          replace H : (impl_Widen.l0 k2 a1 y425 l0 (l0.length : Int) (wrap64 (x20_2 + 1))) = some (r1, r2) := by first | (rw [hy425]; exact H) | exact H
          have Ny425 := Aside0.mk hy425
          clear hy425
          have H' := Aside0.mk H
          clear H
          have p423 : 0 ≤ (x20_2 : Int) := of_decide_eq_true (by first | (with_reducible assumption) | assumption)
          have q423 : x20_2 < (l0.length : Int) := of_decide_eq_true (by first | (with_reducible assumption) | assumption)
          obtain ⟨ad423, e423, hx423_0, hx423_1, hx423_2, hx423_3, hx423_4⟩ := at_T55 HR0.out x20_2 p423 q423
          cases e423
          replace hx423_0 := (HB.out.cell (World.block_lt_of_cell? w _ hx423_0)).trans hx423_0
          replace hx423_1 := (HB.out.cell (World.block_lt_of_cell? w _ hx423_1)).trans hx423_1
          replace hx423_2 := (HB.out.cell (World.block_lt_of_cell? w _ hx423_2)).trans hx423_2
          replace hx423_3 := (HB.out.cell (World.block_lt_of_cell? w _ hx423_3)).trans hx423_3
          replace hx423_4 := (HB.out.cell (World.block_lt_of_cell? w _ hx423_4)).trans hx423_4
          replace p423 := eq_true p423
          replace q423 := eq_true q423
          go_wp2_with (first | ((with_reducible refine gate_dst (N := 8) rfl ?_); refine box_event ?hg (N := 8) ?hd (cs := #[.bool false, .int .i64 0, .int .i64 0, .int .i64 0, .int .i64 0]) (t := 55) ?hr ?_; (case hd => rfl); (case hg => rfl); (case hr => first | (go_simp; done) | (go_simp; rfl)); intro gb424 hg w18 hbox hb; have n0_ := Aside0.mk (Kd.R_below (Kd.R_elderB (by (with_reducible repeat (first | apply Kd.R_alloc | apply Kd.R_drewN | apply Kd.R_drew)); exact HO_6.out) gb424 (Nat.le_of_eq hg.symm)) hb); have n1_ := Aside0.mk (below_step (by with_reducible repeat (first | exact HB.out | apply below_alloc | apply pw_below_drewN | apply below_drew1)) hb); have n2_ := Aside0.mk (hbox); have n3_ := Aside0.mk ((by rw [hg]; exact (below_size (by with_reducible repeat (first | exact HB.out | apply below_alloc | apply pw_below_drewN | apply below_drew1))) : w.heap.size ≤ gb424)); have n4_ := Aside0.mk ((by rw [hg]; exact (below_size (by with_reducible repeat (first | exact HB.out | apply below_alloc | apply pw_below_drewN | apply below_drew1))) : w.heap.size ≤ gb424)); clear HO_6 HB; have HO_6 := n0_; have HB := n1_; have BK424 := n2_; have GW424 := n3_; have GE424 := n4_; clear n0_ n1_ n2_ n3_ n4_; clear hb hbox hg; have hcz19_0 : w18.cell? ⟨gb424, 0, none⟩ = some (.bool false) := (blk_cell BK424.out 0).trans rfl; have hcz19_1 : w18.cell? ⟨gb424, 1, none⟩ = some (.int .i64 0) := (blk_cell BK424.out 1).trans rfl; have hcz19_2 : w18.cell? ⟨gb424, 2, none⟩ = some (.int .i64 0) := (blk_cell BK424.out 2).trans rfl; have hcz19_3 : w18.cell? ⟨gb424, 3, none⟩ = some (.int .i64 0) := (blk_cell BK424.out 3).trans rfl; have hcz19_4 : w18.cell? ⟨gb424, 4, none⟩ = some (.int .i64 0) := (blk_cell BK424.out 4).trans rfl; have hfz19_0 := blk_frozen BK424.out 0; have hfz19_1 := blk_frozen BK424.out 1; have hfz19_2 := blk_frozen BK424.out 2; have hfz19_3 := blk_frozen BK424.out 3; have hfz19_4 := blk_frozen BK424.out 4) | ((with_reducible refine gate_store (t := 3) (p := 35) rfl ?_); refine store_event (t := 3) (p := 35) (v := ?vo_w30) (w1 := (((((((w18.setCell ⟨gb424, 0, none⟩ (.bool ((rd_T55 l0 x20_2).f0))).setCell ⟨gb424, 1, none⟩ (.int .i64 ((rd_T55 l0 x20_2).f1))).setCell ⟨gb424, 2, none⟩ (.int .i64 ((rd_T55 l0 x20_2).f2))).setCell ⟨gb424, 3, none⟩ (.int .i64 ((rd_T55 l0 x20_2).f3))).setCell ⟨gb424, 4, none⟩ (.int .i64 ((rd_T55 l0 x20_2).f4))).setCell ⟨gb424, 3, none⟩ (.int .i64 ji15)).setCell ⟨gb424, 4, none⟩ (.int .i64 ji16))) ?hg ?ho ?hn ?hr ?_; (case ho => rfl); (case hg => rfl); (case hn => rfl); (case hr => first | (go_simp; done) | (go_simp; rfl)); intro w30 hw; have n0_ : Aside0 (Kd.R k55 55 w30 w.heap.size (fun k_ => k_ ≠ gb424) u6 x6_2) := ⟨(by rw [hw]; exact (by (with_reducible repeat (first | apply Kd.R_alloc | apply Kd.R_drewN | apply Kd.R_drew)); exact Kd.R_mono (Kd.R_far (p := ⟨gb424, 4, none⟩) (Kd.R_far (p := ⟨gb424, 3, none⟩) (Kd.R_far (p := ⟨gb424, 4, none⟩) (Kd.R_far (p := ⟨gb424, 3, none⟩) (Kd.R_far (p := ⟨gb424, 2, none⟩) (Kd.R_far (p := ⟨gb424, 1, none⟩) (Kd.R_far (p := ⟨gb424, 0, none⟩) (Kd.R_mono HO_6.out (fun k_ hk => (⟨hk, hk.2⟩ : _ ∧ k_ ≠ gb424))) (fun _ hk => hk.2) (.bool ((rd_T55 l0 x20_2).f0))) (fun _ hk => hk.2) (.int .i64 ((rd_T55 l0 x20_2).f1))) (fun _ hk => hk.2) (.int .i64 ((rd_T55 l0 x20_2).f2))) (fun _ hk => hk.2) (.int .i64 ((rd_T55 l0 x20_2).f3))) (fun _ hk => hk.2) (.int .i64 ((rd_T55 l0 x20_2).f4))) (fun _ hk => hk.2) (.int .i64 ji15)) (fun _ hk => hk.2) (.int .i64 ji16)) (fun _ hk => hk.1.2)))⟩; have n2_ : Aside0 (w30.heap[gb424]? = some (.cells #[.bool ((rd_T55 l0 x20_2).f0), .int .i64 ((rd_T55 l0 x20_2).f1), .int .i64 ((rd_T55 l0 x20_2).f2), .int .i64 ji15, .int .i64 ji16] 55 (0, 0))) := ⟨(by rw [hw]; exact (by (with_reducible repeat (first | refine blk_drewN ?_ _ | refine blk_drew ?_ | refine blk_alloc ?_ _)); refine blk_put (cs := #[.bool ((rd_T55 l0 x20_2).f0), .int .i64 ((rd_T55 l0 x20_2).f1), .int .i64 ((rd_T55 l0 x20_2).f2), .int .i64 ji15, .int .i64 ((rd_T55 l0 x20_2).f4)]) ?_ 4 _ rfl; (with_reducible repeat (first | refine blk_drewN ?_ _ | refine blk_drew ?_ | refine blk_alloc ?_ _)); refine blk_put (cs := #[.bool ((rd_T55 l0 x20_2).f0), .int .i64 ((rd_T55 l0 x20_2).f1), .int .i64 ((rd_T55 l0 x20_2).f2), .int .i64 ((rd_T55 l0 x20_2).f3), .int .i64 ((rd_T55 l0 x20_2).f4)]) ?_ 3 _ rfl; (with_reducible repeat (first | refine blk_drewN ?_ _ | refine blk_drew ?_ | refine blk_alloc ?_ _)); refine blk_put (cs := #[.bool ((rd_T55 l0 x20_2).f0), .int .i64 ((rd_T55 l0 x20_2).f1), .int .i64 ((rd_T55 l0 x20_2).f2), .int .i64 ((rd_T55 l0 x20_2).f3), .int .i64 0]) ?_ 4 _ rfl; (with_reducible repeat (first | refine blk_drewN ?_ _ | refine blk_drew ?_ | refine blk_alloc ?_ _)); refine blk_put (cs := #[.bool ((rd_T55 l0 x20_2).f0), .int .i64 ((rd_T55 l0 x20_2).f1), .int .i64 ((rd_T55 l0 x20_2).f2), .int .i64 0, .int .i64 0]) ?_ 3 _ rfl; (with_reducible repeat (first | refine blk_drewN ?_ _ | refine blk_drew ?_ | refine blk_alloc ?_ _)); refine blk_put (cs := #[.bool ((rd_T55 l0 x20_2).f0), .int .i64 ((rd_T55 l0 x20_2).f1), .int .i64 0, .int .i64 0, .int .i64 0]) ?_ 2 _ rfl; (with_reducible repeat (first | refine blk_drewN ?_ _ | refine blk_drew ?_ | refine blk_alloc ?_ _)); refine blk_put (cs := #[.bool ((rd_T55 l0 x20_2).f0), .int .i64 0, .int .i64 0, .int .i64 0, .int .i64 0]) ?_ 1 _ rfl; (with_reducible repeat (first | refine blk_drewN ?_ _ | refine blk_drew ?_ | refine blk_alloc ?_ _)); refine blk_put (cs := #[.bool false, .int .i64 0, .int .i64 0, .int .i64 0, .int .i64 0]) ?_ 0 _ rfl; (with_reducible repeat (first | refine blk_drewN ?_ _ | refine blk_drew ?_ | refine blk_alloc ?_ _)); exact BK424.out))⟩; have n5_ : Aside0 (Below w.heap.size w w30) := ⟨(by rw [hw]; exact (by with_reducible repeat (first | exact HB.out | apply below_alloc | apply pw_below_drewN | apply below_drew1 | refine below_set ?_ GE424.out)))⟩; clear hw HO_6 BK424 HB; have HO_6 := n0_; have BK424 := n2_; have HB := n5_; clear n0_ n2_ n5_; (try clear hcz19_0 hcz19_1 hcz19_2 hcz19_3 hcz19_4 hfz19_0 hfz19_1 hfz19_2 hfz19_3 hfz19_4); have hcz20_0 : w30.cell? ⟨gb424, 0, none⟩ = some (.bool ((rd_T55 l0 x20_2).f0)) := (blk_cell BK424.out 0).trans rfl; have hcz20_1 : w30.cell? ⟨gb424, 1, none⟩ = some (.int .i64 ((rd_T55 l0 x20_2).f1)) := (blk_cell BK424.out 1).trans rfl; have hcz20_2 : w30.cell? ⟨gb424, 2, none⟩ = some (.int .i64 ((rd_T55 l0 x20_2).f2)) := (blk_cell BK424.out 2).trans rfl; have hcz20_3 : w30.cell? ⟨gb424, 3, none⟩ = some (.int .i64 ji15) := (blk_cell BK424.out 3).trans rfl; have hcz20_4 : w30.cell? ⟨gb424, 4, none⟩ = some (.int .i64 ji16) := (blk_cell BK424.out 4).trans rfl) | ((with_reducible refine gate_builtin (b := .append) (xs := #[.tmp 36, .tmp 38]) rfl ?_); at_builtin; refine Kd.R_append k55 (w0 := w) w.heap.size rfl (.tmp 36) (.tmp 38) 26 55 (.agg #[(.bool false), (.int .i64 0), (.int .i64 0), (.int .i64 0), (.int .i64 0)]) 40 rfl Try.underlying26 info55 rfl (by decide) (by omega) u6 x6_2 (⟨(rd_T55 l0 x20_2).f0, (rd_T55 l0 x20_2).f1, (rd_T55 l0 x20_2).f2, ji15, ji16⟩ : S55) [.bool ((rd_T55 l0 x20_2).f0), .int .i64 ((rd_T55 l0 x20_2).f1), .int .i64 ((rd_T55 l0 x20_2).f2), .int .i64 ji15, .int .i64 ji16] (fun k_ => k_ ≠ gb424) (fun _ => False) rfl (by first | (go_simp; done) | (go_simp; rfl)) ?aP (fun _ hk => hk.elim) ?aF ?aO ?aB ?aS ?aL ?_; (case aP => exact k55_mkM _ _ _ (⟨(rd_T55 l0 x20_2).f0, (rd_T55 l0 x20_2).f1, (rd_T55 l0 x20_2).f2, ji15, ji16⟩ : S55)); (case aB => exact (by with_reducible repeat (first | exact HB.out | apply below_alloc | apply pw_below_drewN | apply below_drew1 | refine below_set ?_ GE424.out))); (case aF => exact (fun k_ hk => Kd.freshB (g := gb424) (o := .cells #[.bool ((rd_T55 l0 x20_2).f0), .int .i64 ((rd_T55 l0 x20_2).f1), .int .i64 ((rd_T55 l0 x20_2).f2), .int .i64 ji15, .int .i64 ji16] 55 (0, 0)) (by (with_reducible repeat (first | refine blk_drewN ?_ _ | refine blk_drew ?_ | refine blk_alloc ?_ _)); exact BK424.out) k_ hk)); (case aO => exact (by (with_reducible repeat (first | apply Kd.R_alloc | apply Kd.R_drewN | apply Kd.R_drew)); exact HO_6.out)); (case aS => exact (below_size (by with_reducible repeat (first | exact HB.out | apply below_alloc | apply pw_below_drewN | apply below_drew1 | refine below_set ?_ GE424.out)))); (case aL => have := LMc17.out; omega); intro v426 w20 ho hb hg hat; rw [← Ny425.out] at ho; have n0_ := Aside0.mk (blk_grown (g := gb424) (o := .cells #[.bool ((rd_T55 l0 x20_2).f0), .int .i64 ((rd_T55 l0 x20_2).f1), .int .i64 ((rd_T55 l0 x20_2).f2), .int .i64 ji15, .int .i64 ji16] 55 (0, 0)) (by (with_reducible repeat (first | refine blk_drewN ?_ _ | refine blk_drew ?_ | refine blk_alloc ?_ _)); exact BK424.out) hg (Kd.R_away HO_6.out (fun _ hk => hk))); have n1_ := Aside0.mk (hb); have n2_ := Aside0.mk (ho); clear BK424 HB HO_6; have BK424 := n0_; have HB := n1_; have HO427 := n2_; clear n0_ n1_ n2_; clear ho hb hg hat))
          go_roundg k2
          case measure => have := HJ2.out; have := HK2.out; omega
          case rel => exact ⟨(y425), (wrap64 (x20_2 + 1)), (by first | rfl | simp | simp [*]), H', ⟨by have := HJ2.out; have := HK2.out; omega⟩, ⟨by (with_reducible repeat (first | apply Kd.R_alloc | apply Kd.R_drewN | apply Kd.R_drew)); exact Kd.R_mono HO427.out (fun _ hk => trivial)⟩, ⟨by with_reducible repeat (first | exact HB.out | apply below_alloc | apply pw_below_drewN | apply below_drew1 | refine below_set ?_ GE424.out)⟩⟩
         ·rw [if_neg c17] at H
          exact absurd H (by simp)
        ·rw [if_neg c14] at H
         exact absurd H (by simp)
       ·rw [if_neg c13] at H
        exact absurd H (by simp)
      ·rw [if_neg c12] at H
       have c12b0 : decide (x20_2 < (l0.length : Int)) = false := decide_eq_false c12
       clear c12
       simp only [Option.some.injEq, Prod.mk.injEq] at H
       obtain ⟨rfl, rfl⟩ := H
       go_wp2
       go_ret2
       exact ⟨_, by first | rfl | (simp [errW_none, errW_some] <;> rfl) | (simp [*, errW_none, errW_some] <;> rfl), by (with_reducible repeat (first | apply Kd.R_alloc | apply Kd.R_drewN | apply Kd.R_drew)); exact HO_6.out, by with_reducible repeat (first | exact HB.out | apply below_alloc | apply pw_below_drewN | apply below_drew1)⟩

end Go.Proofs.Ythhfkicmgneokaa.Q
