-- Written by a program of this session (qprint.py) over the kit's print: Lean checks every line.
import Derived.Test.YtbjhaaibmjlhhaaQx0
import Derived.Test.YtbjhaaibmjlhhaaQx2
import Derived.Test.YtbjhaaibmjlhhaaQx3
namespace Go.Proofs.Ytbjhaaibmjlhhaa.Q
open Go.RowKit Go.Proofs.YtbjhaaibmjlhhaaW.PrintWords Go.Proofs.YtbjhaaibmjlhhaaW.PrintLast Go.Proofs.YtbjhaaibmjlhhaaW.PrintMore
attribute [local go_sem] max2_int min2_int max_two min_two max_three min_three max_four min_four   -- for this text's walks alone
set_option linter.unusedVariables false
set_option linter.unusedSimpArgs false

/-! ### spec_UnpackOp: function 48 -/
def spec_UnpackOp.j0 : Nat → List Int → Int → Bool → Option (Int × Int × Int × Int)
 | 0, _, _, _ => none
 | k + 1, x0, x1, x15 => if x15 = true then (some (0, 0, 0, (-1))) else (if 0 ≤ x1 then (if x1 < (x0.length : Int) then ((spec_l17HasX.f (wrap64 (Int.tdiv (wrap64 (rd x0 x1)) 5))).bind fun t546 => (if t546 = true then (if (wrap64 (x1 + 1)) ≥ (x0.length : Int) then (some (0, 0, 0, (-1))) else (if 0 ≤ (wrap64 (x1 + 1)) then (if (wrap64 (x1 + 1)) < (x0.length : Int) then ((spec_OpOk.f k (wrap64 (Int.tdiv (wrap64 (rd x0 x1)) 5)) (Int.tmod (wrap64 (rd x0 x1)) 5) (wrap64 (rd x0 (wrap64 (x1 + 1))))).bind fun t548 => (if t548 = true then (some (wrap64 (Int.tdiv (wrap64 (rd x0 x1)) 5), Int.tmod (wrap64 (rd x0 x1)) 5, wrap64 (rd x0 (wrap64 (x1 + 1))), wrap64 ((wrap64 (x1 + 1)) + 1))) else (some (0, 0, 0, (-1))))) else (none)) else (none))) else ((spec_OpOk.f k (wrap64 (Int.tdiv (wrap64 (rd x0 x1)) 5)) (Int.tmod (wrap64 (rd x0 x1)) 5) 0).bind fun t549 => (if t549 = true then (some (wrap64 (Int.tdiv (wrap64 (rd x0 x1)) 5), Int.tmod (wrap64 (rd x0 x1)) 5, 0, wrap64 (x1 + 1))) else (some (0, 0, 0, (-1))))))) else (none)) else (none))
def spec_UnpackOp.f (k : Nat) (l0 : List Int) (a1 : Int) : Option (Int × Int × Int × Int) := if a1 < 0 then (spec_UnpackOp.j0 k l0 a1 true) else (spec_UnpackOp.j0 k l0 a1 (decide (a1 ≥ (l0.length : Int))))
theorem spec_UnpackOp.mono_l : ∀ k, (∀ y0 y1 y2, LeO (spec_UnpackOp.j0 k y0 y1 y2) (spec_UnpackOp.j0 (k + 1) y0 y1 y2))
 | 0 => fun _ _ _ r h => by simp [spec_UnpackOp.j0] at h
 | k + 1 => by
  have ih0 := spec_UnpackOp.mono_l k
  ·intro y0 y1 y2
   unfold spec_UnpackOp.j0
   repeat' first
   | (with_reducible exact ih0 _ _ _)
   | (with_reducible exact spec_OpOk.mono _ _ _ _)
   | (with_reducible exact LeO.refl _)
   | (with_reducible exact LeO.none _)
   | (with_reducible refine LeO.ite ?_ ?_)
   | (with_reducible refine LeO.bind ?_ (fun _ => ?_))
theorem spec_UnpackOp.mono : ∀ a0 a1 k, LeO (spec_UnpackOp.f k a0 a1) (spec_UnpackOp.f (k + 1) a0 a1) := by
 intro a0 a1 k
 have ih0 := spec_UnpackOp.mono_l k
 unfold spec_UnpackOp.f
 repeat' first
   | (with_reducible exact ih0 _ _ _)
   | (with_reducible exact spec_OpOk.mono _ _ _ _)
   | (with_reducible exact LeO.refl _)
   | (with_reducible exact LeO.none _)
   | (with_reducible refine LeO.ite ?_ ?_)
   | (with_reducible refine LeO.bind ?_ (fun _ => ?_))
def spec_UnpackOp.T3 : Bool × List (List Nat × List Nat) := (true, [([], []), ([], []), ([0, 1], [0, 1]), ([2], [2]), ([3], [3]), ([4], [4]), ([], []), ([], []), ([6, 7], [6, 7]), ([8], [8]), ([9], [9]), ([10], [10]), ([5, 11], [5, 11]), ([], []), ([13, 12, 0, 1, 2, 3, 4, 5, 6, 7, 8, 9, 10, 11, 12, 13], [12, 13])])
def spec_UnpackOp.B3 : List Nat := [0, 0, 3, 7, 15, 31, 0, 0, 192, 448, 960, 1984, 4095, 0, 16383]
theorem spec_UnpackOp.tab3 : rtab .any (opsOf Try.f48 3) = spec_UnpackOp.T3 := by kernel_rfl
theorem spec_UnpackOp.bits3 : waitsOk spec_UnpackOp.T3.2 spec_UnpackOp.B3 = true := by kernel_rfl
set_option maxHeartbeats 8000000 in
set_option maxRecDepth 100000 in
theorem spec_UnpackOp.calls (k : Nat) (A0 : Option Addr) (c0 : Nat) (l0 : List Int) (a1 : Int) (r1 : Int) (r2 : Int) (r3 : Int) (r4 : Int) (w : World) (hr0 : Kd.C (Kd.int .u8) w A0 l0.length l0) (hc0 : l0.length ≤ c0) (h : spec_UnpackOp.f k l0 a1 = some (r1, r2, r3, r4)) :
  Calls Try.prog 48 #[.slice A0 l0.length c0, .int .i64 a1] w fun e w' => e = .returned (.tuple #[.agg #[.int .i64 r1, .int .i64 r2, .int .i64 r3], .int .i64 r4]) ∧ Below w.heap.size w w' := by
 have hu38 := Try.underlying38
 have HR0 := Aside0.mk hr0
 have HC0 := Aside0.mk hc0
 clear hr0 hc0
 have HB := Aside0.mk (Below.refl w.heap.size w)
 have H : (if a1 < 0 then (spec_UnpackOp.j0 k l0 a1 true) else (spec_UnpackOp.j0 k l0 a1 (decide (a1 ≥ (l0.length : Int))))) = some (r1, r2, r3, r4) := h
 clear h
 have HC3 := Aside0.mk H
 clear H
 go_enter Try.func48, Try.ntmps48
 go_upto_region 1 with (first | ((with_reducible refine gate_dst (N := 4) rfl ?_); (try (refine gate_guard (by rfl) ?_; dsimp only)); refine box_event ?hg (N := 4) ?hd (cs := #[.int .i64 0, .int .i64 0, .int .i64 0]) (t := 38) ?hr ?_; (case hd => rfl); (case hg => rfl); (case hr => first | (go_simp; done) | (go_simp; rfl)); intro gb542 hg w4 hbox hb; have n0_ := Aside0.mk (below_step (by with_reducible repeat (first | exact HB.out | apply below_alloc | apply pw_below_drewN | apply below_drew1)) hb); have n1_ := Aside0.mk (hbox); have n2_ := Aside0.mk ((by rw [hg]; exact (below_size (by with_reducible repeat (first | exact HB.out | apply below_alloc | apply pw_below_drewN | apply below_drew1))) : w.heap.size ≤ gb542)); have n3_ := Aside0.mk ((by rw [hg]; exact (below_size (by with_reducible repeat (first | exact HB.out | apply below_alloc | apply pw_below_drewN | apply below_drew1))) : w.heap.size ≤ gb542)); clear HB; have HB := n0_; have BK542 := n1_; have GW542 := n2_; have GE542 := n3_; clear n0_ n1_ n2_ n3_; clear hb hbox hg))
 (try simp only [Act.put, List.setIfInBounds_toArray, List.set_cons_zero, List.set_cons_succ])
 go_cut [15] (fun v15 wc => ∃ (kq : Nat) (x15_2 : Bool), v15 = .bool x15_2 ∧ Aside0 (spec_UnpackOp.j0 kq l0 a1 x15_2 = some (r1, r2, r3, r4)) ∧ Aside0 (kq ≤ k) ∧ Aside0 (wc.heap[gb542]? = some (.cells #[.int .i64 0, .int .i64 0, .int .i64 0] 38 (0, 0))) ∧ Aside0 (Below w.heap.size w wc))
 case first =>
  have H := HC3.out
  clear HC3
  by_cases c5 : a1 < 0
  ·rw [if_pos c5] at H
   have c5b0 : decide (a1 < 0) = true := decide_eq_true c5
   clear c5
   (first | rw [c5b0] | rw [c5b1] | (simp only [i64_w, i32_w]; rw [c5b0]) | skip)
   have H' := Aside0.mk H
   clear H
   go_wp2
   go_meet
   case rel => exact ⟨_, (true), (by first | rfl | simp | simp [*]), H', ⟨by first | omega | exact Nat.le_refl _⟩, ⟨by (with_reducible repeat (first | refine blk_drewN ?_ _ | refine blk_drew ?_ | refine blk_alloc ?_ _)); exact BK542.out⟩, ⟨by with_reducible repeat (first | exact HB.out | apply below_alloc | apply pw_below_drewN | apply below_drew1 | refine below_set ?_ GE542.out)⟩⟩
  ·rw [if_neg c5] at H
   have c5b0 : decide (a1 < 0) = false := decide_eq_false c5
   clear c5
   (first | rw [c5b0] | rw [c5b1] | (simp only [i64_w, i32_w]; rw [c5b0]) | skip)
   have H' := Aside0.mk H
   clear H
   go_wp2
   go_meet
   case rel => exact ⟨_, (decide (a1 ≥ (l0.length : Int))), (by first | rfl | simp | simp [*]), H', ⟨by first | omega | exact Nat.le_refl _⟩, ⟨by (with_reducible repeat (first | refine blk_drewN ?_ _ | refine blk_drew ?_ | refine blk_alloc ?_ _)); exact BK542.out⟩, ⟨by with_reducible repeat (first | exact HB.out | apply below_alloc | apply pw_below_drewN | apply below_drew1 | refine below_set ?_ GE542.out)⟩⟩
 case rest =>
  clear HC3
  try clear p2
  try clear c4
  try clear c5
  try clear c5b0
  obtain ⟨kq, x15_2, rfl, HA, HJ2, BK542, HB⟩ := hcut
  cases kq with
  | zero => exact absurd HA.out (by simp [spec_UnpackOp.j0])
  | succ kj2 =>
   have H := HA.out
   clear HA
   simp only [spec_UnpackOp.j0] at H
   by_cases c6 : x15_2 = true
   ·subst c6
    have H1 : (some (0, 0, 0, (-1))) = some (r1, r2, r3, r4) := by rw [if_pos rfl] at H; exact H
    clear H
    have H := H1
    clear H1
    simp only [Option.some.injEq, Prod.mk.injEq] at H
    obtain ⟨rfl, rfl, rfl, rfl⟩ := H
    have hcz7_0 : wc.cell? ⟨gb542, 0, none⟩ = some (.int .i64 0) := (blk_cell BK542.out 0).trans rfl
    have hcz7_1 : wc.cell? ⟨gb542, 1, none⟩ = some (.int .i64 0) := (blk_cell BK542.out 1).trans rfl
    have hcz7_2 : wc.cell? ⟨gb542, 2, none⟩ = some (.int .i64 0) := (blk_cell BK542.out 2).trans rfl
    have hfz7_0 := blk_frozen BK542.out 0
    have hfz7_1 := blk_frozen BK542.out 1
    have hfz7_2 := blk_frozen BK542.out 2
    go_wp2
    refine bodyPost_ret (results_ct rfl _ _ gb542 38 #[.int .i64 0, .int .i64 0, .int .i64 0] (0, 0) _ rfl (by (with_reducible repeat (first | refine blk_drewN ?_ _ | refine blk_drew ?_ | refine blk_alloc ?_ _)); refine blk_put (cs := #[.int .i64 0, .int .i64 0, .int .i64 0]) ?_ 2 _ rfl; (with_reducible repeat (first | refine blk_drewN ?_ _ | refine blk_drew ?_ | refine blk_alloc ?_ _)); refine blk_put (cs := #[.int .i64 0, .int .i64 0, .int .i64 0]) ?_ 1 _ rfl; (with_reducible repeat (first | refine blk_drewN ?_ _ | refine blk_drew ?_ | refine blk_alloc ?_ _)); refine blk_put (cs := #[.int .i64 0, .int .i64 0, .int .i64 0]) ?_ 0 _ rfl; (with_reducible repeat (first | refine blk_drewN ?_ _ | refine blk_drew ?_ | refine blk_alloc ?_ _)); exact BK542.out) Try.underlying38 rfl (by kernel_rfl)) rfl ?_
    exact ⟨by first | rfl | (simp [errW_none, errW_some] <;> rfl) | (simp [*, errW_none, errW_some] <;> rfl), by with_reducible repeat (first | exact HB.out | apply below_alloc | apply pw_below_drewN | apply below_drew1 | refine below_set ?_ GE542.out)⟩
   ·replace c6 := Bool.eq_false_iff.mpr c6
    subst c6
    have H1 : (if 0 ≤ a1 then (if a1 < (l0.length : Int) then ((spec_l17HasX.f (wrap64 (Int.tdiv (wrap64 (rd l0 a1)) 5))).bind fun t546 => (if t546 = true then (if (wrap64 (a1 + 1)) ≥ (l0.length : Int) then (some (0, 0, 0, (-1))) else (if 0 ≤ (wrap64 (a1 + 1)) then (if (wrap64 (a1 + 1)) < (l0.length : Int) then ((spec_OpOk.f kj2 (wrap64 (Int.tdiv (wrap64 (rd l0 a1)) 5)) (Int.tmod (wrap64 (rd l0 a1)) 5) (wrap64 (rd l0 (wrap64 (a1 + 1))))).bind fun t548 => (if t548 = true then (some (wrap64 (Int.tdiv (wrap64 (rd l0 a1)) 5), Int.tmod (wrap64 (rd l0 a1)) 5, wrap64 (rd l0 (wrap64 (a1 + 1))), wrap64 ((wrap64 (a1 + 1)) + 1))) else (some (0, 0, 0, (-1))))) else (none)) else (none))) else ((spec_OpOk.f kj2 (wrap64 (Int.tdiv (wrap64 (rd l0 a1)) 5)) (Int.tmod (wrap64 (rd l0 a1)) 5) 0).bind fun t549 => (if t549 = true then (some (wrap64 (Int.tdiv (wrap64 (rd l0 a1)) 5), Int.tmod (wrap64 (rd l0 a1)) 5, 0, wrap64 (a1 + 1))) else (some (0, 0, 0, (-1))))))) else (none)) else (none)) = some (r1, r2, r3, r4) := by rw [if_neg (show ¬ (false = true) by decide)] at H; exact H
    clear H
    have H := H1
    clear H1
    by_cases c8 : 0 ≤ a1
    ·rw [if_pos c8] at H
     have c8b0 : decide (0 ≤ a1) = true := decide_eq_true c8
     clear c8
     by_cases c9 : a1 < (l0.length : Int)
     ·rw [if_pos c9] at H
      have c9b0 : decide (a1 < (l0.length : Int)) = true := decide_eq_true c9
      clear c9
      replace H := Option.bind_eq_some_iff.mp H
      obtain ⟨t546, A100, H⟩ := H
      replace H : (if t546 = true then (if (wrap64 (a1 + 1)) ≥ (l0.length : Int) then (some (0, 0, 0, (-1))) else (if 0 ≤ (wrap64 (a1 + 1)) then (if (wrap64 (a1 + 1)) < (l0.length : Int) then ((spec_OpOk.f kj2 (wrap64 (Int.tdiv (wrap64 (rd l0 a1)) 5)) (Int.tmod (wrap64 (rd l0 a1)) 5) (wrap64 (rd l0 (wrap64 (a1 + 1))))).bind fun t548 => (if t548 = true then (some (wrap64 (Int.tdiv (wrap64 (rd l0 a1)) 5), Int.tmod (wrap64 (rd l0 a1)) 5, wrap64 (rd l0 (wrap64 (a1 + 1))), wrap64 ((wrap64 (a1 + 1)) + 1))) else (some (0, 0, 0, (-1))))) else (none)) else (none))) else ((spec_OpOk.f kj2 (wrap64 (Int.tdiv (wrap64 (rd l0 a1)) 5)) (Int.tmod (wrap64 (rd l0 a1)) 5) 0).bind fun t549 => (if t549 = true then (some (wrap64 (Int.tdiv (wrap64 (rd l0 a1)) 5), Int.tmod (wrap64 (rd l0 a1)) 5, 0, wrap64 (a1 + 1))) else (some (0, 0, 0, (-1)))))) = some (r1, r2, r3, r4) := H
      have A10 := Aside0.mk A100
      clear A100
      have HH_ := Aside0.mk H
      clear H
      try go_wp2
      have n0_ := Aside0.mk (blk_drew BK542.out)
      have n1_ := Aside0.mk (below_drew1 HB.out)
      clear BK542
      clear HB
      have BK542 := n0_
      have HB := n1_
      clear n0_ n1_
      have p543 : 0 ≤ (a1 : Int) := of_decide_eq_true (by first | (with_reducible assumption) | assumption)
      have q543 : a1 < (l0.length : Int) := of_decide_eq_true (by first | (with_reducible assumption) | assumption)
      obtain ⟨ad543, e543, hx543_0⟩ := Kd.at_int HR0.out a1 p543 q543
      have hw543_0 := hx543_0
      cases e543
      replace hx543_0 := (HB.out.cell (World.block_lt_of_cell? w _ hx543_0)).trans hx543_0
      replace p543 := eq_true p543
      replace q543 := eq_true q543
      have p544 : 0 ≤ (a1 : Int) := of_decide_eq_true (by first | (with_reducible assumption) | assumption)
      have q544 : a1 < (l0.length : Int) := of_decide_eq_true (by first | (with_reducible assumption) | assumption)
      obtain ⟨ad544, e544, hx544_0⟩ := Kd.at_int HR0.out a1 p544 q544
      have hw544_0 := hx544_0
      obtain rfl : ad543 = ad544 := (by injection e544)
      replace hx544_0 := (HB.out.cell (World.block_lt_of_cell? w _ hx544_0)).trans hx544_0
      replace p544 := eq_true p544
      replace q544 := eq_true q544
      refine start_ (n := 15) (S := fun w' => w'.cell? (ad543.add (a1).toNat) = some (.int .u8 (rd l0 a1)) ∧ w'.cell? (ad543.add (a1).toNat) = some (.int .u8 (rd l0 a1))) (ds := []) #[false, false, false, false, false, false, false, false, false, false, false, false, false, false, false] (by kernel_rfl) rfl rfl ⟨((HB.out.cell (World.block_lt_of_cell? w _ hw543_0)).trans hw543_0), ((HB.out.cell (World.block_lt_of_cell? w _ hw544_0)).trans hw544_0)⟩ (fun hHeld => ?_); refine with_tabW spec_UnpackOp.tab3 spec_UnpackOp.bits3 (fun HT_ HW_ => ?_)
      generalize wc.drew = w13 at BK542 HB hx543_0 hx544_0 hHeld ⊢
      refine pure_ (i := 0) (N := some 17) (v := ?_) (a' := ?_) #[true, false, false, false, false, false, false, false, false, false, false, false, false, false, false] rfl rfl (any_of HT_.out (by kernel_rfl)) (fun _ _ _ h => h) (Or.inl ⟨by rfl, ?_⟩) ?_ ?_
      rotate_left
      ·intro w'
       go_simp
       with_reducible rfl
      rotate_left
      ·simp only [Act.put, List.setIfInBounds_toArray, List.set_cons_zero, List.set_cons_succ, i64_w, i32_w]
       rfl
      refine pure_ (i := 1) (N := some 18) (v := ?_) (a' := ?_) #[true, true, false, false, false, false, false, false, false, false, false, false, false, false, false] rfl rfl (any_of HT_.out (by kernel_rfl)) (fun _ _ _ h => h) (Or.inl ⟨by rfl, ?_⟩) ?_ ?_
      rotate_left
      ·intro w'
       go_simp
       with_reducible rfl
      rotate_left
      ·simp only [Act.put, List.setIfInBounds_toArray, List.set_cons_zero, List.set_cons_succ, i64_w, i32_w]
       rfl
      refine pure_ (i := 2) (N := some 19) (v := ?_) (a' := ?_) #[true, true, true, false, false, false, false, false, false, false, false, false, false, false, false] rfl rfl (any_of HT_.out (by kernel_rfl)) (fun _ _ _ h => h) (Or.inl ⟨by rfl, ?_⟩) ?_ ?_
      rotate_left
      ·intro w'
       go_simp
       with_reducible rfl
      rotate_left
      ·simp only [Act.put, List.setIfInBounds_toArray, List.set_cons_zero, List.set_cons_succ, i64_w, i32_w]
       rfl
      refine pure_ (i := 6) (N := some 23) (v := ?_) (a' := ?_) #[true, true, true, false, false, false, true, false, false, false, false, false, false, false, false] rfl rfl (any_of HT_.out (by kernel_rfl)) (fun _ _ _ h => h) (Or.inl ⟨by rfl, ?_⟩) ?_ ?_
      rotate_left
      ·intro w'
       go_simp
       with_reducible rfl
      rotate_left
      ·simp only [Act.put, List.setIfInBounds_toArray, List.set_cons_zero, List.set_cons_succ, i64_w, i32_w]
       rfl
      refine pure_ (i := 7) (N := some 24) (v := ?_) (a' := ?_) #[true, true, true, false, false, false, true, true, false, false, false, false, false, false, false] rfl rfl (any_of HT_.out (by kernel_rfl)) (fun _ _ _ h => h) (Or.inl ⟨by rfl, ?_⟩) ?_ ?_
      rotate_left
      ·intro w'
       go_simp
       with_reducible rfl
      rotate_left
      ·simp only [Act.put, List.setIfInBounds_toArray, List.set_cons_zero, List.set_cons_succ, i64_w, i32_w]
       rfl
      refine pure_ (i := 8) (N := some 25) (v := ?_) (a' := ?_) #[true, true, true, false, false, false, true, true, true, false, false, false, false, false, false] rfl rfl (any_of HT_.out (by kernel_rfl)) (fun _ _ _ h => h) (Or.inl ⟨by rfl, ?_⟩) ?_ ?_
      rotate_left
      ·intro w'
       go_simp
       with_reducible rfl
      rotate_left
      ·simp only [Act.put, List.setIfInBounds_toArray, List.set_cons_zero, List.set_cons_succ, i64_w, i32_w]
       rfl
      refine take_ (i := 3) (N := some 20) (v := ?_) (a' := ?_) #[true, true, true, true, false, false, true, true, true, false, false, false, false, false, false] rfl rfl (take_ofW HT_.out HW_.out (by kernel_rfl)) (fun _ _ _ h => h) (Or.inl ⟨by rfl, ?_⟩) hHeld ?_ ?_
      rotate_left
      ·rintro w' ⟨s0, s1⟩
       go_simp
       with_reducible rfl
      rotate_left
      ·simp only [Act.put, List.setIfInBounds_toArray, List.set_cons_zero, List.set_cons_succ, i64_w, i32_w]
       rfl
      refine pure_ (i := 4) (N := some 21) (v := ?_) (a' := ?_) #[true, true, true, true, true, false, true, true, true, false, false, false, false, false, false] rfl rfl (any_of HT_.out (by kernel_rfl)) (fun _ _ _ h => h) (Or.inl ⟨by rfl, ?_⟩) ?_ ?_
      rotate_left
      ·intro w'
       go_simp
       with_reducible rfl
      rotate_left
      ·simp only [Act.put, List.setIfInBounds_toArray, List.set_cons_zero, List.set_cons_succ, i64_w, i32_w]
       rfl
      refine pure_ (i := 5) (N := some 22) (v := ?_) (a' := ?_) #[true, true, true, true, true, true, true, true, true, false, false, false, false, false, false] rfl rfl (any_of HT_.out (by kernel_rfl)) (fun _ _ _ h => h) (Or.inl ⟨by rfl, ?_⟩) ?_ ?_
      rotate_left
      ·intro w'
       go_simp
       with_reducible rfl
      rotate_left
      ·simp only [Act.put, List.setIfInBounds_toArray, List.set_cons_zero, List.set_cons_succ, i64_w, i32_w]
       rfl
      refine take_ (i := 9) (N := some 26) (v := ?_) (a' := ?_) #[true, true, true, true, true, true, true, true, true, true, false, false, false, false, false] rfl rfl (take_ofW HT_.out HW_.out (by kernel_rfl)) (fun _ _ _ h => h) (Or.inl ⟨by rfl, ?_⟩) hHeld ?_ ?_
      rotate_left
      ·rintro w' ⟨s0, s1⟩
       go_simp
       with_reducible rfl
      rotate_left
      ·simp only [Act.put, List.setIfInBounds_toArray, List.set_cons_zero, List.set_cons_succ, i64_w, i32_w]
       rfl
      refine pure_ (i := 10) (N := some 27) (v := ?_) (a' := ?_) #[true, true, true, true, true, true, true, true, true, true, true, false, false, false, false] rfl rfl (any_of HT_.out (by kernel_rfl)) (fun _ _ _ h => h) (Or.inl ⟨by rfl, ?_⟩) ?_ ?_
      rotate_left
      ·intro w'
       go_simp
       with_reducible rfl
      rotate_left
      ·simp only [Act.put, List.setIfInBounds_toArray, List.set_cons_zero, List.set_cons_succ, i64_w, i32_w]
       rfl
      refine pure_ (i := 11) (N := some 28) (v := ?_) (a' := ?_) #[true, true, true, true, true, true, true, true, true, true, true, true, false, false, false] rfl rfl (any_of HT_.out (by kernel_rfl)) (fun _ _ _ h => h) (Or.inl ⟨by rfl, ?_⟩) ?_ ?_
      rotate_left
      ·intro w'
       go_simp
       with_reducible rfl
      rotate_left
      ·simp only [Act.put, List.setIfInBounds_toArray, List.set_cons_zero, List.set_cons_succ, i64_w, i32_w]
       rfl
      refine pure_ (i := 12) (N := some 29) (v := ?_) (a' := ?_) #[true, true, true, true, true, true, true, true, true, true, true, true, true, false, false] rfl rfl (any_of HT_.out (by kernel_rfl)) (fun _ _ _ h => h) (Or.inl ⟨by rfl, ?_⟩) ?_ ?_
      rotate_left
      ·intro w'
       go_simp
       with_reducible rfl
      rotate_left
      ·simp only [Act.put, List.setIfInBounds_toArray, List.set_cons_zero, List.set_cons_succ, i64_w, i32_w]
       rfl
      refine one_ (i := 13) (N := some 6) #[true, true, true, true, true, true, true, true, true, true, true, true, true, true, false] rfl rfl (one_of HT_.out (by kernel_rfl)) (by decide) (fun K hK => ?_)
      refine box_step ?hg (N := 6) ?hd (cs := #[.int .i64 0, .int .i64 0, .int .i64 0]) (t := 38) ?hr ?_; (case hd => rfl); (case hg => rfl); (case hr => first | (go_simp; done) | (go_simp; rfl))
      intro gb545 hg w14 hbox hb
      have n0_ := Aside0.mk (blk_below (g := gb542) (o := .cells #[.int .i64 0, .int .i64 0, .int .i64 0] 38 (0, 0)) (by (with_reducible repeat (first | refine blk_drewN ?_ _ | refine blk_drew ?_ | refine blk_alloc ?_ _)); exact BK542.out) hb)
      have n1_ := Aside0.mk (below_step (by with_reducible repeat (first | exact HB.out | apply below_alloc | apply pw_below_drewN | apply below_drew1 | refine below_set ?_ GE542.out)) hb)
      have n2_ := Aside0.mk (hbox)
      have n3_ := Aside0.mk ((by rw [hg]; exact (below_size (by with_reducible repeat (first | exact HB.out | apply below_alloc | apply pw_below_drewN | apply below_drew1 | refine below_set ?_ GE542.out))) : w.heap.size ≤ gb545))
      have n4_ := Aside0.mk ((by rw [hg]; exact (below_size (by with_reducible repeat (first | exact HB.out | apply below_alloc | apply pw_below_drewN | apply below_drew1 | refine below_set ?_ GE542.out))) : w.heap.size ≤ gb545))
      have n5_ := Aside0.mk ((by rw [hg]; exact Nat.ne_of_lt (blk_lt (g := gb542) (o := .cells #[.int .i64 0, .int .i64 0, .int .i64 0] 38 (0, 0)) (by (with_reducible repeat (first | refine blk_drewN ?_ _ | refine blk_drew ?_ | refine blk_alloc ?_ _)); exact BK542.out)) : gb542 ≠ gb545))
      have n6_ := Aside0.mk ((by rw [hg]; exact Nat.ne_of_gt (blk_lt (g := gb542) (o := .cells #[.int .i64 0, .int .i64 0, .int .i64 0] 38 (0, 0)) (by (with_reducible repeat (first | refine blk_drewN ?_ _ | refine blk_drew ?_ | refine blk_alloc ?_ _)); exact BK542.out)) : gb545 ≠ gb542))
      clear BK542
      clear HB
      have BK542 := n0_
      have HB := n1_
      have BK545 := n2_
      have GW545 := n3_
      have GE545 := n4_
      have NB542_545 := n5_
      have NB545_542 := n6_
      clear n0_ n1_ n2_ n3_ n4_ n5_ n6_
      clear hb hbox hg
      refine hK.out _ _ ⟨((HB.out.cell (World.block_lt_of_cell? w _ hw543_0)).trans hw543_0), ((HB.out.cell (World.block_lt_of_cell? w _ hw544_0)).trans hw544_0)⟩ (fun hHeld => ?_)
      clear hK K
      refine norm_ (a' := ?_) ?_ ?_
      rotate_left
      ·show Act.put _ (some 6) _ = _
       simp only [Act.put, List.setIfInBounds_toArray, List.set_cons_zero, List.set_cons_succ, i64_w, i32_w]
       rfl
      refine one_ (i := 14) (N := none) #[true, true, true, true, true, true, true, true, true, true, true, true, true, true, true] rfl rfl (one_of HT_.out (by kernel_rfl)) (by decide) (fun K hK => ?_)
      have hs15 : w14.cell? ⟨gb545, 0, none⟩ = some (.int .i64 0) := (blk_cell BK545.out 0).trans rfl
      have hfs15 := blk_frozen BK545.out 0
      have hns15_0 := NB542_545.out
      have hms15_0 := NB545_542.out
      have hs16 : w14.cell? ⟨gb545, 1, none⟩ = some (.int .i64 0) := (blk_cell BK545.out 1).trans rfl
      have hfs16 := blk_frozen BK545.out 1
      have hns16_0 := NB542_545.out
      have hms16_0 := NB545_542.out
      have hs17 : w14.cell? ⟨gb545, 2, none⟩ = some (.int .i64 0) := (blk_cell BK545.out 2).trans rfl
      have hfs17 := blk_frozen BK545.out 2
      have hns17_0 := NB542_545.out
      have hms17_0 := NB545_542.out
      refine skip_ (w1 := ?_) (by rfl) rfl ?_ ?_
      rotate_left
      ·go_simp
       rfl
      refine hK.out _ _ ⟨((cell_far (p := ⟨gb545, _, none⟩) (by first | exact Nat.ne_of_lt (Nat.lt_of_lt_of_le (by have := World.block_lt_of_cell? _ _ hw543_0; first | rwa [add_block] at this | exact this) GW545.out) | (rw [add_block]; exact Nat.ne_of_lt (Nat.lt_of_lt_of_le (by have := World.block_lt_of_cell? _ _ hw543_0; first | rwa [add_block] at this | exact this) GW545.out)) | (show (Addr.add _ _).block ≠ _; rw [add_block]; exact Nat.ne_of_lt (Nat.lt_of_lt_of_le (by have := World.block_lt_of_cell? _ _ hw543_0; first | rwa [add_block] at this | exact this) GW545.out)) | (dsimp only; exact Nat.ne_of_lt (Nat.lt_of_lt_of_le (by have := World.block_lt_of_cell? _ _ hw543_0; first | rwa [add_block] at this | exact this) GW545.out))) _).trans (((cell_far (p := ⟨gb545, _, none⟩) (by first | exact Nat.ne_of_lt (Nat.lt_of_lt_of_le (by have := World.block_lt_of_cell? _ _ hw543_0; first | rwa [add_block] at this | exact this) GW545.out) | (rw [add_block]; exact Nat.ne_of_lt (Nat.lt_of_lt_of_le (by have := World.block_lt_of_cell? _ _ hw543_0; first | rwa [add_block] at this | exact this) GW545.out)) | (show (Addr.add _ _).block ≠ _; rw [add_block]; exact Nat.ne_of_lt (Nat.lt_of_lt_of_le (by have := World.block_lt_of_cell? _ _ hw543_0; first | rwa [add_block] at this | exact this) GW545.out)) | (dsimp only; exact Nat.ne_of_lt (Nat.lt_of_lt_of_le (by have := World.block_lt_of_cell? _ _ hw543_0; first | rwa [add_block] at this | exact this) GW545.out))) _).trans (((cell_far (p := ⟨gb545, _, none⟩) (by first | exact Nat.ne_of_lt (Nat.lt_of_lt_of_le (by have := World.block_lt_of_cell? _ _ hw543_0; first | rwa [add_block] at this | exact this) GW545.out) | (rw [add_block]; exact Nat.ne_of_lt (Nat.lt_of_lt_of_le (by have := World.block_lt_of_cell? _ _ hw543_0; first | rwa [add_block] at this | exact this) GW545.out)) | (show (Addr.add _ _).block ≠ _; rw [add_block]; exact Nat.ne_of_lt (Nat.lt_of_lt_of_le (by have := World.block_lt_of_cell? _ _ hw543_0; first | rwa [add_block] at this | exact this) GW545.out)) | (dsimp only; exact Nat.ne_of_lt (Nat.lt_of_lt_of_le (by have := World.block_lt_of_cell? _ _ hw543_0; first | rwa [add_block] at this | exact this) GW545.out))) _).trans (hHeld.1)))))), ((cell_far (p := ⟨gb545, _, none⟩) (by first | exact Nat.ne_of_lt (Nat.lt_of_lt_of_le (by have := World.block_lt_of_cell? _ _ hw544_0; first | rwa [add_block] at this | exact this) GW545.out) | (rw [add_block]; exact Nat.ne_of_lt (Nat.lt_of_lt_of_le (by have := World.block_lt_of_cell? _ _ hw544_0; first | rwa [add_block] at this | exact this) GW545.out)) | (show (Addr.add _ _).block ≠ _; rw [add_block]; exact Nat.ne_of_lt (Nat.lt_of_lt_of_le (by have := World.block_lt_of_cell? _ _ hw544_0; first | rwa [add_block] at this | exact this) GW545.out)) | (dsimp only; exact Nat.ne_of_lt (Nat.lt_of_lt_of_le (by have := World.block_lt_of_cell? _ _ hw544_0; first | rwa [add_block] at this | exact this) GW545.out))) _).trans (((cell_far (p := ⟨gb545, _, none⟩) (by first | exact Nat.ne_of_lt (Nat.lt_of_lt_of_le (by have := World.block_lt_of_cell? _ _ hw544_0; first | rwa [add_block] at this | exact this) GW545.out) | (rw [add_block]; exact Nat.ne_of_lt (Nat.lt_of_lt_of_le (by have := World.block_lt_of_cell? _ _ hw544_0; first | rwa [add_block] at this | exact this) GW545.out)) | (show (Addr.add _ _).block ≠ _; rw [add_block]; exact Nat.ne_of_lt (Nat.lt_of_lt_of_le (by have := World.block_lt_of_cell? _ _ hw544_0; first | rwa [add_block] at this | exact this) GW545.out)) | (dsimp only; exact Nat.ne_of_lt (Nat.lt_of_lt_of_le (by have := World.block_lt_of_cell? _ _ hw544_0; first | rwa [add_block] at this | exact this) GW545.out))) _).trans (((cell_far (p := ⟨gb545, _, none⟩) (by first | exact Nat.ne_of_lt (Nat.lt_of_lt_of_le (by have := World.block_lt_of_cell? _ _ hw544_0; first | rwa [add_block] at this | exact this) GW545.out) | (rw [add_block]; exact Nat.ne_of_lt (Nat.lt_of_lt_of_le (by have := World.block_lt_of_cell? _ _ hw544_0; first | rwa [add_block] at this | exact this) GW545.out)) | (show (Addr.add _ _).block ≠ _; rw [add_block]; exact Nat.ne_of_lt (Nat.lt_of_lt_of_le (by have := World.block_lt_of_cell? _ _ hw544_0; first | rwa [add_block] at this | exact this) GW545.out)) | (dsimp only; exact Nat.ne_of_lt (Nat.lt_of_lt_of_le (by have := World.block_lt_of_cell? _ _ hw544_0; first | rwa [add_block] at this | exact this) GW545.out))) _).trans (hHeld.2))))))⟩ (fun hHeld => ?_)
      clear hK K
      refine done_ (done_of HT_.out (by kernel_rfl)) ?_
      have H := HH_.out
      clear HH_
      by_cases c11 : t546 = true
      ·subst c11
       have H1 : (if (wrap64 (a1 + 1)) ≥ (l0.length : Int) then (some (0, 0, 0, (-1))) else (if 0 ≤ (wrap64 (a1 + 1)) then (if (wrap64 (a1 + 1)) < (l0.length : Int) then ((spec_OpOk.f kj2 (wrap64 (Int.tdiv (wrap64 (rd l0 a1)) 5)) (Int.tmod (wrap64 (rd l0 a1)) 5) (wrap64 (rd l0 (wrap64 (a1 + 1))))).bind fun t548 => (if t548 = true then (some (wrap64 (Int.tdiv (wrap64 (rd l0 a1)) 5), Int.tmod (wrap64 (rd l0 a1)) 5, wrap64 (rd l0 (wrap64 (a1 + 1))), wrap64 ((wrap64 (a1 + 1)) + 1))) else (some (0, 0, 0, (-1))))) else (none)) else (none))) = some (r1, r2, r3, r4) := by rw [if_pos rfl] at H; exact H
       clear H
       have H := H1
       clear H1
       by_cases c12 : (wrap64 (a1 + 1)) ≥ (l0.length : Int)
       ·rw [if_pos c12] at H
        have c12b0 : decide ((l0.length : Int) ≤ (wrap64 (a1 + 1))) = true := decide_eq_true c12
        clear c12
        simp only [Option.some.injEq, Prod.mk.injEq] at H
        obtain ⟨rfl, rfl, rfl, rfl⟩ := H
        have hnb18 := NB545_542.out
        have hnc18 := NB542_545.out
        have hcz19_0 : w14.cell? ⟨gb545, 0, none⟩ = some (.int .i64 0) := (blk_cell BK545.out 0).trans rfl
        have hcz19_1 : w14.cell? ⟨gb545, 1, none⟩ = some (.int .i64 0) := (blk_cell BK545.out 1).trans rfl
        have hcz19_2 : w14.cell? ⟨gb545, 2, none⟩ = some (.int .i64 0) := (blk_cell BK545.out 2).trans rfl
        have hfz19_0 := blk_frozen BK545.out 0
        have hfz19_1 := blk_frozen BK545.out 1
        have hfz19_2 := blk_frozen BK545.out 2
        try go_wp2_with (first | (go_at_call 39; (with_reducible refine (spec_l17HasX.calls (wrap64 (Int.tdiv (wrap64 (rd l0 a1)) 5)) true _ A10.out).mono ?_); rintro e w' ⟨rfl, ⟨nd, rfl⟩⟩; have hcz20_0 : w14.cell? ⟨gb542, 0, none⟩ = some (.int .i64 0) := (blk_cell BK542.out 0).trans rfl; have hcz20_1 : w14.cell? ⟨gb542, 1, none⟩ = some (.int .i64 0) := (blk_cell BK542.out 1).trans rfl; have hcz20_2 : w14.cell? ⟨gb542, 2, none⟩ = some (.int .i64 0) := (blk_cell BK542.out 2).trans rfl; have hfz20_0 := blk_frozen BK542.out 0; have hfz20_1 := blk_frozen BK542.out 1; have hfz20_2 := blk_frozen BK542.out 2))
        refine bodyPost_ret (results_ct rfl _ _ gb542 38 #[.int .i64 0, .int .i64 0, .int .i64 0] (0, 0) _ rfl (by (with_reducible repeat (first | refine blk_drewN ?_ _ | refine blk_drew ?_ | refine blk_alloc ?_ _)); refine blk_put (cs := #[.int .i64 0, .int .i64 0, .int .i64 0]) ?_ 2 _ rfl; (with_reducible repeat (first | refine blk_drewN ?_ _ | refine blk_drew ?_ | refine blk_alloc ?_ _)); refine blk_put (cs := #[.int .i64 0, .int .i64 0, .int .i64 0]) ?_ 1 _ rfl; (with_reducible repeat (first | refine blk_drewN ?_ _ | refine blk_drew ?_ | refine blk_alloc ?_ _)); refine blk_put (cs := #[.int .i64 0, .int .i64 0, .int .i64 0]) ?_ 0 _ rfl; (with_reducible repeat (first | refine blk_drewN ?_ _ | refine blk_drew ?_ | refine blk_alloc ?_ _)); refine blk_far ?_ NB542_545.out _; (with_reducible repeat (first | refine blk_drewN ?_ _ | refine blk_drew ?_ | refine blk_alloc ?_ _)); refine blk_far ?_ NB542_545.out _; (with_reducible repeat (first | refine blk_drewN ?_ _ | refine blk_drew ?_ | refine blk_alloc ?_ _)); refine blk_far ?_ NB542_545.out _; (with_reducible repeat (first | refine blk_drewN ?_ _ | refine blk_drew ?_ | refine blk_alloc ?_ _)); exact BK542.out) Try.underlying38 rfl (by kernel_rfl)) rfl ?_
        exact ⟨by first | rfl | (simp [errW_none, errW_some] <;> rfl) | (simp [*, errW_none, errW_some] <;> rfl), by with_reducible repeat (first | exact HB.out | apply below_alloc | apply pw_below_drewN | apply below_drew1 | refine below_set ?_ GE542.out | refine below_set ?_ GE545.out)⟩
       ·rw [if_neg c12] at H
        have c12b0 : decide ((l0.length : Int) ≤ (wrap64 (a1 + 1))) = false := decide_eq_false c12
        clear c12
        obtain ⟨ji21, hji21⟩ : ∃ j_ : Int, (wrap64 (a1 + 1)) = j_ := ⟨_, rfl⟩
        replace H : (if 0 ≤ (ji21) then (if (ji21) < (l0.length : Int) then ((spec_OpOk.f kj2 (wrap64 (Int.tdiv (wrap64 (rd l0 a1)) 5)) (Int.tmod (wrap64 (rd l0 a1)) 5) (wrap64 (rd l0 (ji21)))).bind fun t548 => (if t548 = true then (some (wrap64 (Int.tdiv (wrap64 (rd l0 a1)) 5), Int.tmod (wrap64 (rd l0 a1)) 5, wrap64 (rd l0 (ji21)), wrap64 ((ji21) + 1))) else (some (0, 0, 0, (-1))))) else (none)) else (none)) = some (r1, r2, r3, r4) := by first | (rw [hji21] at H; exact H) | (simp only [hji21] at H ⊢; exact H)
        (try rw [hji21] at c12b0)
        (try rw [hji21] at A10)
        have hji21w : (IntKind.i64.wrap (a1 + 1)) = ji21 := (i64_w _).trans hji21
        by_cases c22 : 0 ≤ (ji21)
        ·rw [if_pos c22] at H
         have c22b0 : decide (0 ≤ (ji21)) = true := decide_eq_true c22
         clear c22
         by_cases c23 : (ji21) < (l0.length : Int)
         ·rw [if_pos c23] at H
          have c23b0 : decide ((ji21) < (l0.length : Int)) = true := decide_eq_true c23
          clear c23
          replace H := Option.bind_eq_some_iff.mp H
          obtain ⟨t548, A240, H⟩ := H
          replace H : (if t548 = true then (some (wrap64 (Int.tdiv (wrap64 (rd l0 a1)) 5), Int.tmod (wrap64 (rd l0 a1)) 5, wrap64 (rd l0 (ji21)), wrap64 ((ji21) + 1))) else (some (0, 0, 0, (-1)))) = some (r1, r2, r3, r4) := H
          have A24 := Aside0.mk A240
          clear A240
          by_cases c25 : t548 = true
          ·subst c25
           have H1 : (some (wrap64 (Int.tdiv (wrap64 (rd l0 a1)) 5), Int.tmod (wrap64 (rd l0 a1)) 5, wrap64 (rd l0 (ji21)), wrap64 ((ji21) + 1))) = some (r1, r2, r3, r4) := by rw [if_pos rfl] at H; exact H
           clear H
           have H := H1
           clear H1
           simp only [Option.some.injEq, Prod.mk.injEq] at H
           obtain ⟨rfl, rfl, rfl, rfl⟩ := H
           try rw [hji21]
           have hnb31 := NB545_542.out
           have hnc31 := NB542_545.out
           have hcz32_0 : w14.cell? ⟨gb545, 0, none⟩ = some (.int .i64 0) := (blk_cell BK545.out 0).trans rfl
           have hcz32_1 : w14.cell? ⟨gb545, 1, none⟩ = some (.int .i64 0) := (blk_cell BK545.out 1).trans rfl
           have hcz32_2 : w14.cell? ⟨gb545, 2, none⟩ = some (.int .i64 0) := (blk_cell BK545.out 2).trans rfl
           have hfz32_0 := blk_frozen BK545.out 0
           have hfz32_1 := blk_frozen BK545.out 1
           have hfz32_2 := blk_frozen BK545.out 2
           try go_wp2_with (first | (go_at_call 39; (with_reducible refine (spec_l17HasX.calls (wrap64 (Int.tdiv (wrap64 (rd l0 a1)) 5)) true _ A10.out).mono ?_); rintro e w' ⟨rfl, ⟨nd, rfl⟩⟩; have p547 : 0 ≤ ((ji21) : Int) := of_decide_eq_true (by first | (with_reducible assumption) | assumption); have q547 : (ji21) < (l0.length : Int) := of_decide_eq_true (by first | (with_reducible assumption) | assumption); obtain ⟨ad547, e547, hx547_0⟩ := Kd.at_int HR0.out (ji21) p547 q547; obtain rfl : ad543 = ad547 := (by injection e547); have hn547_0 : ad543.block ≠ gb545 := Nat.ne_of_lt (Nat.lt_of_lt_of_le (by have := World.block_lt_of_cell? _ _ hx547_0; first | rwa [add_block] at this | exact this) GW545.out); have hn547_1 : ad543.block ≠ gb545 := Nat.ne_of_lt (Nat.lt_of_lt_of_le (by have := World.block_lt_of_cell? _ _ hx547_0; first | rwa [add_block] at this | exact this) GW545.out); have hn547_2 : ad543.block ≠ gb545 := Nat.ne_of_lt (Nat.lt_of_lt_of_le (by have := World.block_lt_of_cell? _ _ hx547_0; first | rwa [add_block] at this | exact this) GW545.out); replace hx547_0 := (HB.out.cell (World.block_lt_of_cell? w _ hx547_0)).trans hx547_0; replace hx547_0 := (cell_far (p := ⟨gb545, 0, none⟩) (by first | (rw [add_block]; exact hn547_0) | (show (Addr.add _ _).block ≠ _; rw [add_block]; exact hn547_0) | exact hn547_0) (.int .i64 (wrap64 (Int.tdiv (wrap64 (rd l0 a1)) 5)))).trans hx547_0; replace hx547_0 := (cell_far (p := ⟨gb545, 1, none⟩) (by first | (rw [add_block]; exact hn547_1) | (show (Addr.add _ _).block ≠ _; rw [add_block]; exact hn547_1) | exact hn547_1) (.int .i64 (Int.tmod (wrap64 (rd l0 a1)) 5))).trans hx547_0; replace hx547_0 := (cell_far (p := ⟨gb545, 2, none⟩) (by first | (rw [add_block]; exact hn547_2) | (show (Addr.add _ _).block ≠ _; rw [add_block]; exact hn547_2) | exact hn547_2) (.int .i64 0)).trans hx547_0; clear hn547_0 hn547_1 hn547_2; replace p547 := eq_true p547; replace q547 := eq_true q547; have hcy_ : (World.setCell (World.drewN (World.setCell (World.setCell (World.setCell w14 ⟨gb545, 0, none⟩ (.int .i64 (wrap64 (Int.tdiv (wrap64 (rd l0 a1)) 5)))) ⟨gb545, 1, none⟩ (.int .i64 (Int.tmod (wrap64 (rd l0 a1)) 5))) ⟨gb545, 2, none⟩ (.int .i64 0)) nd) ⟨gb545, 2, none⟩ (.int .i64 (wrap64 (rd l0 (ji21))))).cell? ⟨gb545, 2, none⟩ = some (.int .i64 (wrap64 (rd l0 (ji21)))) := (blk_cell (t := 38) (cs := #[.int .i64 (wrap64 (Int.tdiv (wrap64 (rd l0 a1)) 5)), .int .i64 (Int.tmod (wrap64 (rd l0 a1)) 5), .int .i64 (wrap64 (rd l0 (ji21)))]) (blk_put (cs := #[.int .i64 (wrap64 (Int.tdiv (wrap64 (rd l0 a1)) 5)), .int .i64 (Int.tmod (wrap64 (rd l0 a1)) 5), .int .i64 0]) (blk_drewN (blk_put (cs := #[.int .i64 (wrap64 (Int.tdiv (wrap64 (rd l0 a1)) 5)), .int .i64 (Int.tmod (wrap64 (rd l0 a1)) 5), .int .i64 0]) (blk_put (cs := #[.int .i64 (wrap64 (Int.tdiv (wrap64 (rd l0 a1)) 5)), .int .i64 0, .int .i64 0]) (blk_put (cs := #[.int .i64 0, .int .i64 0, .int .i64 0]) BK545.out 0 (.int .i64 (wrap64 (Int.tdiv (wrap64 (rd l0 a1)) 5))) rfl) 1 (.int .i64 (Int.tmod (wrap64 (rd l0 a1)) 5)) rfl) 2 (.int .i64 0) rfl) nd) 2 (.int .i64 (wrap64 (rd l0 (ji21)))) rfl) 2).trans rfl) | ((with_reducible refine gate_callee (f := 18) rfl ?_); refine goesL_ (some 49) rfl rfl Try.func18 (by kernel_rfl) rfl #[.agg #[.int .i64 (wrap64 (Int.tdiv (wrap64 (rd l0 a1)) 5)), .int .i64 (Int.tmod (wrap64 (rd l0 a1)) 5), .int .i64 (wrap64 (rd l0 (ji21)))]] rfl (by (try simp only [List.map_toArray, List.map_cons, List.map_nil]); first | done | (simp only [hji21]; rfl) | rfl | (simp only [List.length_drop, List.length_take]; rfl)) ?_; (with_reducible refine (spec_OpOk.calls kj2 (wrap64 (Int.tdiv (wrap64 (rd l0 a1)) 5)) (Int.tmod (wrap64 (rd l0 a1)) 5) (wrap64 (rd l0 (ji21))) true _ A24.out).mono ?_); rintro e w33 ⟨rfl, hb⟩; refine ⟨_, rfl, ?_⟩; have n0_ := Aside0.mk (blk_below (g := gb542) (o := .cells #[.int .i64 0, .int .i64 0, .int .i64 0] 38 (0, 0)) (by (with_reducible repeat (first | refine blk_drewN ?_ _ | refine blk_drew ?_ | refine blk_alloc ?_ _)); refine blk_far ?_ NB542_545.out _; (with_reducible repeat (first | refine blk_drewN ?_ _ | refine blk_drew ?_ | refine blk_alloc ?_ _)); refine blk_far ?_ NB542_545.out _; (with_reducible repeat (first | refine blk_drewN ?_ _ | refine blk_drew ?_ | refine blk_alloc ?_ _)); refine blk_far ?_ NB542_545.out _; (with_reducible repeat (first | refine blk_drewN ?_ _ | refine blk_drew ?_ | refine blk_alloc ?_ _)); refine blk_far ?_ NB542_545.out _; (with_reducible repeat (first | refine blk_drewN ?_ _ | refine blk_drew ?_ | refine blk_alloc ?_ _)); exact BK542.out) hb); have n1_ := Aside0.mk (blk_below (g := gb545) (o := .cells #[.int .i64 (wrap64 (Int.tdiv (wrap64 (rd l0 a1)) 5)), .int .i64 (Int.tmod (wrap64 (rd l0 a1)) 5), .int .i64 (wrap64 (rd l0 (ji21)))] 38 (0, 0)) (by (with_reducible repeat (first | refine blk_drewN ?_ _ | refine blk_drew ?_ | refine blk_alloc ?_ _)); refine blk_put (cs := #[.int .i64 (wrap64 (Int.tdiv (wrap64 (rd l0 a1)) 5)), .int .i64 (Int.tmod (wrap64 (rd l0 a1)) 5), .int .i64 0]) ?_ 2 _ rfl; (with_reducible repeat (first | refine blk_drewN ?_ _ | refine blk_drew ?_ | refine blk_alloc ?_ _)); refine blk_put (cs := #[.int .i64 (wrap64 (Int.tdiv (wrap64 (rd l0 a1)) 5)), .int .i64 (Int.tmod (wrap64 (rd l0 a1)) 5), .int .i64 0]) ?_ 2 _ rfl; (with_reducible repeat (first | refine blk_drewN ?_ _ | refine blk_drew ?_ | refine blk_alloc ?_ _)); refine blk_put (cs := #[.int .i64 (wrap64 (Int.tdiv (wrap64 (rd l0 a1)) 5)), .int .i64 0, .int .i64 0]) ?_ 1 _ rfl; (with_reducible repeat (first | refine blk_drewN ?_ _ | refine blk_drew ?_ | refine blk_alloc ?_ _)); refine blk_put (cs := #[.int .i64 0, .int .i64 0, .int .i64 0]) ?_ 0 _ rfl; (with_reducible repeat (first | refine blk_drewN ?_ _ | refine blk_drew ?_ | refine blk_alloc ?_ _)); exact BK545.out) hb); have n2_ := Aside0.mk (below_step (by with_reducible repeat (first | exact HB.out | apply below_alloc | apply pw_below_drewN | apply below_drew1 | refine below_set ?_ GE542.out | refine below_set ?_ GE545.out)) hb); clear BK542 BK545 HB; have BK542 := n0_; have BK545 := n1_; have HB := n2_; clear n0_ n1_ n2_; clear hb; have hcz34_0 : w33.cell? ⟨gb545, 0, none⟩ = some (.int .i64 (wrap64 (Int.tdiv (wrap64 (rd l0 a1)) 5))) := (blk_cell BK545.out 0).trans rfl; have hcz34_1 : w33.cell? ⟨gb545, 1, none⟩ = some (.int .i64 (Int.tmod (wrap64 (rd l0 a1)) 5)) := (blk_cell BK545.out 1).trans rfl; have hcz34_2 : w33.cell? ⟨gb545, 2, none⟩ = some (.int .i64 (wrap64 (rd l0 (ji21)))) := (blk_cell BK545.out 2).trans rfl; have hfz34_0 := blk_frozen BK545.out 0; have hfz34_1 := blk_frozen BK545.out 1; have hfz34_2 := blk_frozen BK545.out 2; have hcz35_0 : w33.cell? ⟨gb542, 0, none⟩ = some (.int .i64 0) := (blk_cell BK542.out 0).trans rfl; have hcz35_1 : w33.cell? ⟨gb542, 1, none⟩ = some (.int .i64 0) := (blk_cell BK542.out 1).trans rfl; have hcz35_2 : w33.cell? ⟨gb542, 2, none⟩ = some (.int .i64 0) := (blk_cell BK542.out 2).trans rfl; have hfz35_0 := blk_frozen BK542.out 0; have hfz35_1 := blk_frozen BK542.out 1; have hfz35_2 := blk_frozen BK542.out 2))
           refine bodyPost_ret (results_ct rfl _ _ gb542 38 #[.int .i64 (wrap64 (Int.tdiv (wrap64 (rd l0 a1)) 5)), .int .i64 (Int.tmod (wrap64 (rd l0 a1)) 5), .int .i64 (wrap64 (rd l0 (ji21)))] (0, 0) _ rfl (by (with_reducible repeat (first | refine blk_drewN ?_ _ | refine blk_drew ?_ | refine blk_alloc ?_ _)); refine blk_put (cs := #[.int .i64 (wrap64 (Int.tdiv (wrap64 (rd l0 a1)) 5)), .int .i64 (Int.tmod (wrap64 (rd l0 a1)) 5), .int .i64 0]) ?_ 2 _ rfl; (with_reducible repeat (first | refine blk_drewN ?_ _ | refine blk_drew ?_ | refine blk_alloc ?_ _)); refine blk_put (cs := #[.int .i64 (wrap64 (Int.tdiv (wrap64 (rd l0 a1)) 5)), .int .i64 0, .int .i64 0]) ?_ 1 _ rfl; (with_reducible repeat (first | refine blk_drewN ?_ _ | refine blk_drew ?_ | refine blk_alloc ?_ _)); refine blk_put (cs := #[.int .i64 0, .int .i64 0, .int .i64 0]) ?_ 0 _ rfl; (with_reducible repeat (first | refine blk_drewN ?_ _ | refine blk_drew ?_ | refine blk_alloc ?_ _)); exact BK542.out) Try.underlying38 rfl (by kernel_rfl)) rfl ?_
           exact ⟨by first | rfl | (simp [errW_none, errW_some] <;> rfl) | (simp only [← hji21]; first | rfl | (simp [errW_none, errW_some] <;> rfl)) | (simp [*, errW_none, errW_some] <;> rfl), by with_reducible repeat (first | exact HB.out | apply below_alloc | apply pw_below_drewN | apply below_drew1 | refine below_set ?_ GE542.out | refine below_set ?_ GE545.out)⟩
          ·replace c25 := Bool.eq_false_iff.mpr c25
           subst c25
           have H1 : (some (0, 0, 0, (-1))) = some (r1, r2, r3, r4) := by rw [if_neg (show ¬ (false = true) by decide)] at H; exact H
           clear H
           have H := H1
           clear H1
           simp only [Option.some.injEq, Prod.mk.injEq] at H
           obtain ⟨rfl, rfl, rfl, rfl⟩ := H
           try rw [hji21]
           have hnb41 := NB545_542.out
           have hnc41 := NB542_545.out
           have hcz42_0 : w14.cell? ⟨gb545, 0, none⟩ = some (.int .i64 0) := (blk_cell BK545.out 0).trans rfl
           have hcz42_1 : w14.cell? ⟨gb545, 1, none⟩ = some (.int .i64 0) := (blk_cell BK545.out 1).trans rfl
           have hcz42_2 : w14.cell? ⟨gb545, 2, none⟩ = some (.int .i64 0) := (blk_cell BK545.out 2).trans rfl
           have hfz42_0 := blk_frozen BK545.out 0
           have hfz42_1 := blk_frozen BK545.out 1
           have hfz42_2 := blk_frozen BK545.out 2
           try go_wp2_with (first | (go_at_call 39; (with_reducible refine (spec_l17HasX.calls (wrap64 (Int.tdiv (wrap64 (rd l0 a1)) 5)) true _ A10.out).mono ?_); rintro e w' ⟨rfl, ⟨nd, rfl⟩⟩; have p547 : 0 ≤ ((ji21) : Int) := of_decide_eq_true (by first | (with_reducible assumption) | assumption); have q547 : (ji21) < (l0.length : Int) := of_decide_eq_true (by first | (with_reducible assumption) | assumption); obtain ⟨ad547, e547, hx547_0⟩ := Kd.at_int HR0.out (ji21) p547 q547; obtain rfl : ad543 = ad547 := (by injection e547); have hn547_0 : ad543.block ≠ gb545 := Nat.ne_of_lt (Nat.lt_of_lt_of_le (by have := World.block_lt_of_cell? _ _ hx547_0; first | rwa [add_block] at this | exact this) GW545.out); have hn547_1 : ad543.block ≠ gb545 := Nat.ne_of_lt (Nat.lt_of_lt_of_le (by have := World.block_lt_of_cell? _ _ hx547_0; first | rwa [add_block] at this | exact this) GW545.out); have hn547_2 : ad543.block ≠ gb545 := Nat.ne_of_lt (Nat.lt_of_lt_of_le (by have := World.block_lt_of_cell? _ _ hx547_0; first | rwa [add_block] at this | exact this) GW545.out); replace hx547_0 := (HB.out.cell (World.block_lt_of_cell? w _ hx547_0)).trans hx547_0; replace hx547_0 := (cell_far (p := ⟨gb545, 0, none⟩) (by first | (rw [add_block]; exact hn547_0) | (show (Addr.add _ _).block ≠ _; rw [add_block]; exact hn547_0) | exact hn547_0) (.int .i64 (wrap64 (Int.tdiv (wrap64 (rd l0 a1)) 5)))).trans hx547_0; replace hx547_0 := (cell_far (p := ⟨gb545, 1, none⟩) (by first | (rw [add_block]; exact hn547_1) | (show (Addr.add _ _).block ≠ _; rw [add_block]; exact hn547_1) | exact hn547_1) (.int .i64 (Int.tmod (wrap64 (rd l0 a1)) 5))).trans hx547_0; replace hx547_0 := (cell_far (p := ⟨gb545, 2, none⟩) (by first | (rw [add_block]; exact hn547_2) | (show (Addr.add _ _).block ≠ _; rw [add_block]; exact hn547_2) | exact hn547_2) (.int .i64 0)).trans hx547_0; clear hn547_0 hn547_1 hn547_2; replace p547 := eq_true p547; replace q547 := eq_true q547; have hcy_ : (World.setCell (World.drewN (World.setCell (World.setCell (World.setCell w14 ⟨gb545, 0, none⟩ (.int .i64 (wrap64 (Int.tdiv (wrap64 (rd l0 a1)) 5)))) ⟨gb545, 1, none⟩ (.int .i64 (Int.tmod (wrap64 (rd l0 a1)) 5))) ⟨gb545, 2, none⟩ (.int .i64 0)) nd) ⟨gb545, 2, none⟩ (.int .i64 (wrap64 (rd l0 (ji21))))).cell? ⟨gb545, 2, none⟩ = some (.int .i64 (wrap64 (rd l0 (ji21)))) := (blk_cell (t := 38) (cs := #[.int .i64 (wrap64 (Int.tdiv (wrap64 (rd l0 a1)) 5)), .int .i64 (Int.tmod (wrap64 (rd l0 a1)) 5), .int .i64 (wrap64 (rd l0 (ji21)))]) (blk_put (cs := #[.int .i64 (wrap64 (Int.tdiv (wrap64 (rd l0 a1)) 5)), .int .i64 (Int.tmod (wrap64 (rd l0 a1)) 5), .int .i64 0]) (blk_drewN (blk_put (cs := #[.int .i64 (wrap64 (Int.tdiv (wrap64 (rd l0 a1)) 5)), .int .i64 (Int.tmod (wrap64 (rd l0 a1)) 5), .int .i64 0]) (blk_put (cs := #[.int .i64 (wrap64 (Int.tdiv (wrap64 (rd l0 a1)) 5)), .int .i64 0, .int .i64 0]) (blk_put (cs := #[.int .i64 0, .int .i64 0, .int .i64 0]) BK545.out 0 (.int .i64 (wrap64 (Int.tdiv (wrap64 (rd l0 a1)) 5))) rfl) 1 (.int .i64 (Int.tmod (wrap64 (rd l0 a1)) 5)) rfl) 2 (.int .i64 0) rfl) nd) 2 (.int .i64 (wrap64 (rd l0 (ji21)))) rfl) 2).trans rfl) | ((with_reducible refine gate_callee (f := 18) rfl ?_); refine goesL_ (some 49) rfl rfl Try.func18 (by kernel_rfl) rfl #[.agg #[.int .i64 (wrap64 (Int.tdiv (wrap64 (rd l0 a1)) 5)), .int .i64 (Int.tmod (wrap64 (rd l0 a1)) 5), .int .i64 (wrap64 (rd l0 (ji21)))]] rfl (by (try simp only [List.map_toArray, List.map_cons, List.map_nil]); first | done | (simp only [hji21]; rfl) | rfl | (simp only [List.length_drop, List.length_take]; rfl)) ?_; (with_reducible refine (spec_OpOk.calls kj2 (wrap64 (Int.tdiv (wrap64 (rd l0 a1)) 5)) (Int.tmod (wrap64 (rd l0 a1)) 5) (wrap64 (rd l0 (ji21))) false _ A24.out).mono ?_); rintro e w43 ⟨rfl, hb⟩; refine ⟨_, rfl, ?_⟩; have n0_ := Aside0.mk (blk_below (g := gb542) (o := .cells #[.int .i64 0, .int .i64 0, .int .i64 0] 38 (0, 0)) (by (with_reducible repeat (first | refine blk_drewN ?_ _ | refine blk_drew ?_ | refine blk_alloc ?_ _)); refine blk_far ?_ NB542_545.out _; (with_reducible repeat (first | refine blk_drewN ?_ _ | refine blk_drew ?_ | refine blk_alloc ?_ _)); refine blk_far ?_ NB542_545.out _; (with_reducible repeat (first | refine blk_drewN ?_ _ | refine blk_drew ?_ | refine blk_alloc ?_ _)); refine blk_far ?_ NB542_545.out _; (with_reducible repeat (first | refine blk_drewN ?_ _ | refine blk_drew ?_ | refine blk_alloc ?_ _)); refine blk_far ?_ NB542_545.out _; (with_reducible repeat (first | refine blk_drewN ?_ _ | refine blk_drew ?_ | refine blk_alloc ?_ _)); exact BK542.out) hb); have n1_ := Aside0.mk (blk_below (g := gb545) (o := .cells #[.int .i64 (wrap64 (Int.tdiv (wrap64 (rd l0 a1)) 5)), .int .i64 (Int.tmod (wrap64 (rd l0 a1)) 5), .int .i64 (wrap64 (rd l0 (ji21)))] 38 (0, 0)) (by (with_reducible repeat (first | refine blk_drewN ?_ _ | refine blk_drew ?_ | refine blk_alloc ?_ _)); refine blk_put (cs := #[.int .i64 (wrap64 (Int.tdiv (wrap64 (rd l0 a1)) 5)), .int .i64 (Int.tmod (wrap64 (rd l0 a1)) 5), .int .i64 0]) ?_ 2 _ rfl; (with_reducible repeat (first | refine blk_drewN ?_ _ | refine blk_drew ?_ | refine blk_alloc ?_ _)); refine blk_put (cs := #[.int .i64 (wrap64 (Int.tdiv (wrap64 (rd l0 a1)) 5)), .int .i64 (Int.tmod (wrap64 (rd l0 a1)) 5), .int .i64 0]) ?_ 2 _ rfl; (with_reducible repeat (first | refine blk_drewN ?_ _ | refine blk_drew ?_ | refine blk_alloc ?_ _)); refine blk_put (cs := #[.int .i64 (wrap64 (Int.tdiv (wrap64 (rd l0 a1)) 5)), .int .i64 0, .int .i64 0]) ?_ 1 _ rfl; (with_reducible repeat (first | refine blk_drewN ?_ _ | refine blk_drew ?_ | refine blk_alloc ?_ _)); refine blk_put (cs := #[.int .i64 0, .int .i64 0, .int .i64 0]) ?_ 0 _ rfl; (with_reducible repeat (first | refine blk_drewN ?_ _ | refine blk_drew ?_ | refine blk_alloc ?_ _)); exact BK545.out) hb); have n2_ := Aside0.mk (below_step (by with_reducible repeat (first | exact HB.out | apply below_alloc | apply pw_below_drewN | apply below_drew1 | refine below_set ?_ GE542.out | refine below_set ?_ GE545.out)) hb); clear BK542 BK545 HB; have BK542 := n0_; have BK545 := n1_; have HB := n2_; clear n0_ n1_ n2_; clear hb; have hcz44_0 : w43.cell? ⟨gb542, 0, none⟩ = some (.int .i64 0) := (blk_cell BK542.out 0).trans rfl; have hcz44_1 : w43.cell? ⟨gb542, 1, none⟩ = some (.int .i64 0) := (blk_cell BK542.out 1).trans rfl; have hcz44_2 : w43.cell? ⟨gb542, 2, none⟩ = some (.int .i64 0) := (blk_cell BK542.out 2).trans rfl; have hfz44_0 := blk_frozen BK542.out 0; have hfz44_1 := blk_frozen BK542.out 1; have hfz44_2 := blk_frozen BK542.out 2))
           refine bodyPost_ret (results_ct rfl _ _ gb542 38 #[.int .i64 0, .int .i64 0, .int .i64 0] (0, 0) _ rfl (by (with_reducible repeat (first | refine blk_drewN ?_ _ | refine blk_drew ?_ | refine blk_alloc ?_ _)); refine blk_put (cs := #[.int .i64 0, .int .i64 0, .int .i64 0]) ?_ 2 _ rfl; (with_reducible repeat (first | refine blk_drewN ?_ _ | refine blk_drew ?_ | refine blk_alloc ?_ _)); refine blk_put (cs := #[.int .i64 0, .int .i64 0, .int .i64 0]) ?_ 1 _ rfl; (with_reducible repeat (first | refine blk_drewN ?_ _ | refine blk_drew ?_ | refine blk_alloc ?_ _)); refine blk_put (cs := #[.int .i64 0, .int .i64 0, .int .i64 0]) ?_ 0 _ rfl; (with_reducible repeat (first | refine blk_drewN ?_ _ | refine blk_drew ?_ | refine blk_alloc ?_ _)); exact BK542.out) Try.underlying38 rfl (by kernel_rfl)) rfl ?_
           exact ⟨by first | rfl | (simp [errW_none, errW_some] <;> rfl) | (simp only [← hji21]; first | rfl | (simp [errW_none, errW_some] <;> rfl)) | (simp [*, errW_none, errW_some] <;> rfl), by with_reducible repeat (first | exact HB.out | apply below_alloc | apply pw_below_drewN | apply below_drew1 | refine below_set ?_ GE542.out | refine below_set ?_ GE545.out)⟩
         ·rw [if_neg c23] at H
          exact absurd H (by simp)
        ·rw [if_neg c22] at H
         exact absurd H (by simp)
      ·replace c11 := Bool.eq_false_iff.mpr c11
       subst c11
       have H1 : ((spec_OpOk.f kj2 (wrap64 (Int.tdiv (wrap64 (rd l0 a1)) 5)) (Int.tmod (wrap64 (rd l0 a1)) 5) 0).bind fun t549 => (if t549 = true then (some (wrap64 (Int.tdiv (wrap64 (rd l0 a1)) 5), Int.tmod (wrap64 (rd l0 a1)) 5, 0, wrap64 (a1 + 1))) else (some (0, 0, 0, (-1))))) = some (r1, r2, r3, r4) := by rw [if_neg (show ¬ (false = true) by decide)] at H; exact H
       clear H
       have H := H1
       clear H1
       replace H := Option.bind_eq_some_iff.mp H
       obtain ⟨t549, A450, H⟩ := H
       replace H : (if t549 = true then (some (wrap64 (Int.tdiv (wrap64 (rd l0 a1)) 5), Int.tmod (wrap64 (rd l0 a1)) 5, 0, wrap64 (a1 + 1))) else (some (0, 0, 0, (-1)))) = some (r1, r2, r3, r4) := H
       have A45 := Aside0.mk A450
       clear A450
       by_cases c46 : t549 = true
       ·subst c46
        have H1 : (some (wrap64 (Int.tdiv (wrap64 (rd l0 a1)) 5), Int.tmod (wrap64 (rd l0 a1)) 5, 0, wrap64 (a1 + 1))) = some (r1, r2, r3, r4) := by rw [if_pos rfl] at H; exact H
        clear H
        have H := H1
        clear H1
        simp only [Option.some.injEq, Prod.mk.injEq] at H
        obtain ⟨rfl, rfl, rfl, rfl⟩ := H
        have hnb52 := NB545_542.out
        have hnc52 := NB542_545.out
        have hcz53_0 : w14.cell? ⟨gb545, 0, none⟩ = some (.int .i64 0) := (blk_cell BK545.out 0).trans rfl
        have hcz53_1 : w14.cell? ⟨gb545, 1, none⟩ = some (.int .i64 0) := (blk_cell BK545.out 1).trans rfl
        have hcz53_2 : w14.cell? ⟨gb545, 2, none⟩ = some (.int .i64 0) := (blk_cell BK545.out 2).trans rfl
        have hfz53_0 := blk_frozen BK545.out 0
        have hfz53_1 := blk_frozen BK545.out 1
        have hfz53_2 := blk_frozen BK545.out 2
        try go_wp2_with (first | (go_at_call 39; (with_reducible refine (spec_l17HasX.calls (wrap64 (Int.tdiv (wrap64 (rd l0 a1)) 5)) false _ A10.out).mono ?_); rintro e w' ⟨rfl, ⟨nd, rfl⟩⟩) | (go_at_call 18; (with_reducible refine (spec_OpOk.calls kj2 (wrap64 (Int.tdiv (wrap64 (rd l0 a1)) 5)) (Int.tmod (wrap64 (rd l0 a1)) 5) 0 true _ A45.out).mono ?_); rintro e w54 ⟨rfl, hb⟩; have n0_ := Aside0.mk (blk_below (g := gb542) (o := .cells #[.int .i64 0, .int .i64 0, .int .i64 0] 38 (0, 0)) (by (with_reducible repeat (first | refine blk_drewN ?_ _ | refine blk_drew ?_ | refine blk_alloc ?_ _)); refine blk_far ?_ NB542_545.out _; (with_reducible repeat (first | refine blk_drewN ?_ _ | refine blk_drew ?_ | refine blk_alloc ?_ _)); refine blk_far ?_ NB542_545.out _; (with_reducible repeat (first | refine blk_drewN ?_ _ | refine blk_drew ?_ | refine blk_alloc ?_ _)); refine blk_far ?_ NB542_545.out _; (with_reducible repeat (first | refine blk_drewN ?_ _ | refine blk_drew ?_ | refine blk_alloc ?_ _)); exact BK542.out) hb); have n1_ := Aside0.mk (blk_below (g := gb545) (o := .cells #[.int .i64 (wrap64 (Int.tdiv (wrap64 (rd l0 a1)) 5)), .int .i64 (Int.tmod (wrap64 (rd l0 a1)) 5), .int .i64 0] 38 (0, 0)) (by (with_reducible repeat (first | refine blk_drewN ?_ _ | refine blk_drew ?_ | refine blk_alloc ?_ _)); refine blk_put (cs := #[.int .i64 (wrap64 (Int.tdiv (wrap64 (rd l0 a1)) 5)), .int .i64 (Int.tmod (wrap64 (rd l0 a1)) 5), .int .i64 0]) ?_ 2 _ rfl; (with_reducible repeat (first | refine blk_drewN ?_ _ | refine blk_drew ?_ | refine blk_alloc ?_ _)); refine blk_put (cs := #[.int .i64 (wrap64 (Int.tdiv (wrap64 (rd l0 a1)) 5)), .int .i64 0, .int .i64 0]) ?_ 1 _ rfl; (with_reducible repeat (first | refine blk_drewN ?_ _ | refine blk_drew ?_ | refine blk_alloc ?_ _)); refine blk_put (cs := #[.int .i64 0, .int .i64 0, .int .i64 0]) ?_ 0 _ rfl; (with_reducible repeat (first | refine blk_drewN ?_ _ | refine blk_drew ?_ | refine blk_alloc ?_ _)); exact BK545.out) hb); have n2_ := Aside0.mk (below_step (by with_reducible repeat (first | exact HB.out | apply below_alloc | apply pw_below_drewN | apply below_drew1 | refine below_set ?_ GE542.out | refine below_set ?_ GE545.out)) hb); clear BK542 BK545 HB; have BK542 := n0_; have BK545 := n1_; have HB := n2_; clear n0_ n1_ n2_; clear hb; have hcz55_0 : w54.cell? ⟨gb545, 0, none⟩ = some (.int .i64 (wrap64 (Int.tdiv (wrap64 (rd l0 a1)) 5))) := (blk_cell BK545.out 0).trans rfl; have hcz55_1 : w54.cell? ⟨gb545, 1, none⟩ = some (.int .i64 (Int.tmod (wrap64 (rd l0 a1)) 5)) := (blk_cell BK545.out 1).trans rfl; have hcz55_2 : w54.cell? ⟨gb545, 2, none⟩ = some (.int .i64 0) := (blk_cell BK545.out 2).trans rfl; have hfz55_0 := blk_frozen BK545.out 0; have hfz55_1 := blk_frozen BK545.out 1; have hfz55_2 := blk_frozen BK545.out 2; have hcz56_0 : w54.cell? ⟨gb542, 0, none⟩ = some (.int .i64 0) := (blk_cell BK542.out 0).trans rfl; have hcz56_1 : w54.cell? ⟨gb542, 1, none⟩ = some (.int .i64 0) := (blk_cell BK542.out 1).trans rfl; have hcz56_2 : w54.cell? ⟨gb542, 2, none⟩ = some (.int .i64 0) := (blk_cell BK542.out 2).trans rfl; have hfz56_0 := blk_frozen BK542.out 0; have hfz56_1 := blk_frozen BK542.out 1; have hfz56_2 := blk_frozen BK542.out 2))
        refine bodyPost_ret (results_ct rfl _ _ gb542 38 #[.int .i64 (wrap64 (Int.tdiv (wrap64 (rd l0 a1)) 5)), .int .i64 (Int.tmod (wrap64 (rd l0 a1)) 5), .int .i64 0] (0, 0) _ rfl (by (with_reducible repeat (first | refine blk_drewN ?_ _ | refine blk_drew ?_ | refine blk_alloc ?_ _)); refine blk_put (cs := #[.int .i64 (wrap64 (Int.tdiv (wrap64 (rd l0 a1)) 5)), .int .i64 (Int.tmod (wrap64 (rd l0 a1)) 5), .int .i64 0]) ?_ 2 _ rfl; (with_reducible repeat (first | refine blk_drewN ?_ _ | refine blk_drew ?_ | refine blk_alloc ?_ _)); refine blk_put (cs := #[.int .i64 (wrap64 (Int.tdiv (wrap64 (rd l0 a1)) 5)), .int .i64 0, .int .i64 0]) ?_ 1 _ rfl; (with_reducible repeat (first | refine blk_drewN ?_ _ | refine blk_drew ?_ | refine blk_alloc ?_ _)); refine blk_put (cs := #[.int .i64 0, .int .i64 0, .int .i64 0]) ?_ 0 _ rfl; (with_reducible repeat (first | refine blk_drewN ?_ _ | refine blk_drew ?_ | refine blk_alloc ?_ _)); exact BK542.out) Try.underlying38 rfl (by kernel_rfl)) rfl ?_
        exact ⟨by first | rfl | (simp [errW_none, errW_some] <;> rfl) | (simp [*, errW_none, errW_some] <;> rfl), by with_reducible repeat (first | exact HB.out | apply below_alloc | apply pw_below_drewN | apply below_drew1 | refine below_set ?_ GE542.out | refine below_set ?_ GE545.out)⟩
       ·replace c46 := Bool.eq_false_iff.mpr c46
        subst c46
        have H1 : (some (0, 0, 0, (-1))) = some (r1, r2, r3, r4) := by rw [if_neg (show ¬ (false = true) by decide)] at H; exact H
        clear H
        have H := H1
        clear H1
        simp only [Option.some.injEq, Prod.mk.injEq] at H
        obtain ⟨rfl, rfl, rfl, rfl⟩ := H
        have hnb62 := NB545_542.out
        have hnc62 := NB542_545.out
        have hcz63_0 : w14.cell? ⟨gb545, 0, none⟩ = some (.int .i64 0) := (blk_cell BK545.out 0).trans rfl
        have hcz63_1 : w14.cell? ⟨gb545, 1, none⟩ = some (.int .i64 0) := (blk_cell BK545.out 1).trans rfl
        have hcz63_2 : w14.cell? ⟨gb545, 2, none⟩ = some (.int .i64 0) := (blk_cell BK545.out 2).trans rfl
        have hfz63_0 := blk_frozen BK545.out 0
        have hfz63_1 := blk_frozen BK545.out 1
        have hfz63_2 := blk_frozen BK545.out 2
        try go_wp2_with (first | (go_at_call 39; (with_reducible refine (spec_l17HasX.calls (wrap64 (Int.tdiv (wrap64 (rd l0 a1)) 5)) false _ A10.out).mono ?_); rintro e w' ⟨rfl, ⟨nd, rfl⟩⟩) | (go_at_call 18; (with_reducible refine (spec_OpOk.calls kj2 (wrap64 (Int.tdiv (wrap64 (rd l0 a1)) 5)) (Int.tmod (wrap64 (rd l0 a1)) 5) 0 false _ A45.out).mono ?_); rintro e w64 ⟨rfl, hb⟩; have n0_ := Aside0.mk (blk_below (g := gb542) (o := .cells #[.int .i64 0, .int .i64 0, .int .i64 0] 38 (0, 0)) (by (with_reducible repeat (first | refine blk_drewN ?_ _ | refine blk_drew ?_ | refine blk_alloc ?_ _)); refine blk_far ?_ NB542_545.out _; (with_reducible repeat (first | refine blk_drewN ?_ _ | refine blk_drew ?_ | refine blk_alloc ?_ _)); refine blk_far ?_ NB542_545.out _; (with_reducible repeat (first | refine blk_drewN ?_ _ | refine blk_drew ?_ | refine blk_alloc ?_ _)); refine blk_far ?_ NB542_545.out _; (with_reducible repeat (first | refine blk_drewN ?_ _ | refine blk_drew ?_ | refine blk_alloc ?_ _)); exact BK542.out) hb); have n1_ := Aside0.mk (blk_below (g := gb545) (o := .cells #[.int .i64 (wrap64 (Int.tdiv (wrap64 (rd l0 a1)) 5)), .int .i64 (Int.tmod (wrap64 (rd l0 a1)) 5), .int .i64 0] 38 (0, 0)) (by (with_reducible repeat (first | refine blk_drewN ?_ _ | refine blk_drew ?_ | refine blk_alloc ?_ _)); refine blk_put (cs := #[.int .i64 (wrap64 (Int.tdiv (wrap64 (rd l0 a1)) 5)), .int .i64 (Int.tmod (wrap64 (rd l0 a1)) 5), .int .i64 0]) ?_ 2 _ rfl; (with_reducible repeat (first | refine blk_drewN ?_ _ | refine blk_drew ?_ | refine blk_alloc ?_ _)); refine blk_put (cs := #[.int .i64 (wrap64 (Int.tdiv (wrap64 (rd l0 a1)) 5)), .int .i64 0, .int .i64 0]) ?_ 1 _ rfl; (with_reducible repeat (first | refine blk_drewN ?_ _ | refine blk_drew ?_ | refine blk_alloc ?_ _)); refine blk_put (cs := #[.int .i64 0, .int .i64 0, .int .i64 0]) ?_ 0 _ rfl; (with_reducible repeat (first | refine blk_drewN ?_ _ | refine blk_drew ?_ | refine blk_alloc ?_ _)); exact BK545.out) hb); have n2_ := Aside0.mk (below_step (by with_reducible repeat (first | exact HB.out | apply below_alloc | apply pw_below_drewN | apply below_drew1 | refine below_set ?_ GE542.out | refine below_set ?_ GE545.out)) hb); clear BK542 BK545 HB; have BK542 := n0_; have BK545 := n1_; have HB := n2_; clear n0_ n1_ n2_; clear hb; have hcz65_0 : w64.cell? ⟨gb542, 0, none⟩ = some (.int .i64 0) := (blk_cell BK542.out 0).trans rfl; have hcz65_1 : w64.cell? ⟨gb542, 1, none⟩ = some (.int .i64 0) := (blk_cell BK542.out 1).trans rfl; have hcz65_2 : w64.cell? ⟨gb542, 2, none⟩ = some (.int .i64 0) := (blk_cell BK542.out 2).trans rfl; have hfz65_0 := blk_frozen BK542.out 0; have hfz65_1 := blk_frozen BK542.out 1; have hfz65_2 := blk_frozen BK542.out 2))
        refine bodyPost_ret (results_ct rfl _ _ gb542 38 #[.int .i64 0, .int .i64 0, .int .i64 0] (0, 0) _ rfl (by (with_reducible repeat (first | refine blk_drewN ?_ _ | refine blk_drew ?_ | refine blk_alloc ?_ _)); refine blk_put (cs := #[.int .i64 0, .int .i64 0, .int .i64 0]) ?_ 2 _ rfl; (with_reducible repeat (first | refine blk_drewN ?_ _ | refine blk_drew ?_ | refine blk_alloc ?_ _)); refine blk_put (cs := #[.int .i64 0, .int .i64 0, .int .i64 0]) ?_ 1 _ rfl; (with_reducible repeat (first | refine blk_drewN ?_ _ | refine blk_drew ?_ | refine blk_alloc ?_ _)); refine blk_put (cs := #[.int .i64 0, .int .i64 0, .int .i64 0]) ?_ 0 _ rfl; (with_reducible repeat (first | refine blk_drewN ?_ _ | refine blk_drew ?_ | refine blk_alloc ?_ _)); exact BK542.out) Try.underlying38 rfl (by kernel_rfl)) rfl ?_
        exact ⟨by first | rfl | (simp [errW_none, errW_some] <;> rfl) | (simp [*, errW_none, errW_some] <;> rfl), by with_reducible repeat (first | exact HB.out | apply below_alloc | apply pw_below_drewN | apply below_drew1 | refine below_set ?_ GE542.out | refine below_set ?_ GE545.out)⟩
     ·rw [if_neg c9] at H
      exact absurd H (by simp)
    ·rw [if_neg c8] at H
     exact absurd H (by simp)

end Go.Proofs.Ytbjhaaibmjlhhaa.Q
