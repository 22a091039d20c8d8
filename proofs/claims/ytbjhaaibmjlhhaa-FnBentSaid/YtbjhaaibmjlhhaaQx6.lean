-- Written by a program of this session (qprint.py) over the kit's print: Lean checks every line.
import Derived.Test.YtbjhaaibmjlhhaaQx0
import Derived.Test.YtbjhaaibmjlhhaaQx4
import Derived.Test.YtbjhaaibmjlhhaaQx5
namespace Go.Proofs.Ytbjhaaibmjlhhaa.Q
open Go.RowKit Go.Proofs.YtbjhaaibmjlhhaaW.PrintWords Go.Proofs.YtbjhaaibmjlhhaaW.PrintLast Go.Proofs.YtbjhaaibmjlhhaaW.PrintMore
attribute [local go_sem] max2_int min2_int max_two min_two max_three min_three max_four min_four   -- for this text's walks alone
set_option linter.unusedVariables false
set_option linter.unusedSimpArgs false

/-! ### impl_UnpackOp: function 46 -/
def impl_UnpackOp.f (k : Nat) (l0 : List Int) (a1 : Int) : Option (Int × Int × Int × Int) := (impl_within.f a1 0 (wrap64 ((l0.length : Int) - 1))).bind fun t329 => (if t329 = true then (if 0 ≤ a1 then (if a1 < (l0.length : Int) then ((impl_hasX.f (wrap64 (Int.tdiv (wrap64 (rd l0 a1)) 5))).bind fun t333 => (if t333 = true then (if (wrap64 (a1 + 1)) = (l0.length : Int) then (some (0, 0, 0, (-1))) else (if 0 ≤ (wrap64 (a1 + 1)) then (if (wrap64 (a1 + 1)) < (l0.length : Int) then ((impl_OpOk.f k (wrap64 (Int.tdiv (wrap64 (rd l0 a1)) 5)) (Int.tmod (wrap64 (rd l0 a1)) 5) (wrap64 (rd l0 (wrap64 (a1 + 1))))).bind fun t335 => (if t335 = true then (some (wrap64 (Int.tdiv (wrap64 (rd l0 a1)) 5), Int.tmod (wrap64 (rd l0 a1)) 5, wrap64 (rd l0 (wrap64 (a1 + 1))), wrap64 ((wrap64 (a1 + 1)) + 1))) else (some (0, 0, 0, (-1))))) else (none)) else (none))) else ((impl_OpOk.f k (wrap64 (Int.tdiv (wrap64 (rd l0 a1)) 5)) (Int.tmod (wrap64 (rd l0 a1)) 5) 0).bind fun t336 => (if t336 = true then (some (wrap64 (Int.tdiv (wrap64 (rd l0 a1)) 5), Int.tmod (wrap64 (rd l0 a1)) 5, 0, wrap64 (a1 + 1))) else (some (0, 0, 0, (-1))))))) else (none)) else (none)) else (some (0, 0, 0, (-1))))
theorem impl_UnpackOp.mono : ∀ a0 a1 k, LeO (impl_UnpackOp.f k a0 a1) (impl_UnpackOp.f (k + 1) a0 a1) := by
 intro a0 a1 k
 unfold impl_UnpackOp.f
 repeat' first
   | (with_reducible exact impl_OpOk.mono _ _ _ _)
   | (with_reducible exact LeO.refl _)
   | (with_reducible exact LeO.none _)
   | (with_reducible refine LeO.ite ?_ ?_)
   | (with_reducible refine LeO.bind ?_ (fun _ => ?_))
def impl_UnpackOp.T3 : Bool × List (List Nat × List Nat) := (true, [([], []), ([], []), ([0, 1], [0, 1]), ([2], [2]), ([3], [3]), ([4], [4]), ([], []), ([], []), ([6, 7], [6, 7]), ([8], [8]), ([9], [9]), ([10], [10]), ([5, 11], [5, 11]), ([], []), ([13], [13]), ([], []), ([15, 12, 0, 1, 2, 3, 4, 5, 6, 7, 8, 9, 10, 11, 12, 15], [12, 15]), ([14, 16, 0, 1, 2, 3, 4, 5, 6, 7, 8, 9, 10, 11, 12, 13, 14, 15, 16], [14])])
def impl_UnpackOp.B3 : List Nat := [0, 0, 3, 7, 15, 31, 0, 0, 192, 448, 960, 1984, 4095, 0, 8192, 0, 40959, 131071]
theorem impl_UnpackOp.tab3 : rtab .any (opsOf Try.f46 3) = impl_UnpackOp.T3 := by kernel_rfl
theorem impl_UnpackOp.bits3 : waitsOk impl_UnpackOp.T3.2 impl_UnpackOp.B3 = true := by kernel_rfl
set_option maxHeartbeats 8000000 in
set_option maxRecDepth 100000 in
theorem impl_UnpackOp.calls (k : Nat) (A0 : Option Addr) (c0 : Nat) (l0 : List Int) (a1 : Int) (r1 : Int) (r2 : Int) (r3 : Int) (r4 : Int) (w : World) (hr0 : Kd.C (Kd.int .u8) w A0 l0.length l0) (hc0 : l0.length ≤ c0) (h : impl_UnpackOp.f k l0 a1 = some (r1, r2, r3, r4)) :
  Calls Try.prog 46 #[.slice A0 l0.length c0, .int .i64 a1] w fun e w' => e = .returned (.tuple #[.agg #[.int .i64 r1, .int .i64 r2, .int .i64 r3], .int .i64 r4]) ∧ Below w.heap.size w w' := by
 have hu38 := Try.underlying38
 have HR0 := Aside0.mk hr0
 have HC0 := Aside0.mk hc0
 clear hr0 hc0
 have HB := Aside0.mk (Below.refl w.heap.size w)
 have H : ((impl_within.f a1 0 (wrap64 ((l0.length : Int) - 1))).bind fun t329 => (if t329 = true then (if 0 ≤ a1 then (if a1 < (l0.length : Int) then ((impl_hasX.f (wrap64 (Int.tdiv (wrap64 (rd l0 a1)) 5))).bind fun t333 => (if t333 = true then (if (wrap64 (a1 + 1)) = (l0.length : Int) then (some (0, 0, 0, (-1))) else (if 0 ≤ (wrap64 (a1 + 1)) then (if (wrap64 (a1 + 1)) < (l0.length : Int) then ((impl_OpOk.f k (wrap64 (Int.tdiv (wrap64 (rd l0 a1)) 5)) (Int.tmod (wrap64 (rd l0 a1)) 5) (wrap64 (rd l0 (wrap64 (a1 + 1))))).bind fun t335 => (if t335 = true then (some (wrap64 (Int.tdiv (wrap64 (rd l0 a1)) 5), Int.tmod (wrap64 (rd l0 a1)) 5, wrap64 (rd l0 (wrap64 (a1 + 1))), wrap64 ((wrap64 (a1 + 1)) + 1))) else (some (0, 0, 0, (-1))))) else (none)) else (none))) else ((impl_OpOk.f k (wrap64 (Int.tdiv (wrap64 (rd l0 a1)) 5)) (Int.tmod (wrap64 (rd l0 a1)) 5) 0).bind fun t336 => (if t336 = true then (some (wrap64 (Int.tdiv (wrap64 (rd l0 a1)) 5), Int.tmod (wrap64 (rd l0 a1)) 5, 0, wrap64 (a1 + 1))) else (some (0, 0, 0, (-1))))))) else (none)) else (none)) else (some (0, 0, 0, (-1))))) = some (r1, r2, r3, r4) := h
 clear h
 replace H := Option.bind_eq_some_iff.mp H
 obtain ⟨t329, A30, H⟩ := H
 replace H : (if t329 = true then (if 0 ≤ a1 then (if a1 < (l0.length : Int) then ((impl_hasX.f (wrap64 (Int.tdiv (wrap64 (rd l0 a1)) 5))).bind fun t333 => (if t333 = true then (if (wrap64 (a1 + 1)) = (l0.length : Int) then (some (0, 0, 0, (-1))) else (if 0 ≤ (wrap64 (a1 + 1)) then (if (wrap64 (a1 + 1)) < (l0.length : Int) then ((impl_OpOk.f k (wrap64 (Int.tdiv (wrap64 (rd l0 a1)) 5)) (Int.tmod (wrap64 (rd l0 a1)) 5) (wrap64 (rd l0 (wrap64 (a1 + 1))))).bind fun t335 => (if t335 = true then (some (wrap64 (Int.tdiv (wrap64 (rd l0 a1)) 5), Int.tmod (wrap64 (rd l0 a1)) 5, wrap64 (rd l0 (wrap64 (a1 + 1))), wrap64 ((wrap64 (a1 + 1)) + 1))) else (some (0, 0, 0, (-1))))) else (none)) else (none))) else ((impl_OpOk.f k (wrap64 (Int.tdiv (wrap64 (rd l0 a1)) 5)) (Int.tmod (wrap64 (rd l0 a1)) 5) 0).bind fun t336 => (if t336 = true then (some (wrap64 (Int.tdiv (wrap64 (rd l0 a1)) 5), Int.tmod (wrap64 (rd l0 a1)) 5, 0, wrap64 (a1 + 1))) else (some (0, 0, 0, (-1))))))) else (none)) else (none)) else (some (0, 0, 0, (-1)))) = some (r1, r2, r3, r4) := H
 have A3 := Aside0.mk A30
 clear A30
 by_cases c4 : t329 = true
 ·subst c4
  have H1 : (if 0 ≤ a1 then (if a1 < (l0.length : Int) then ((impl_hasX.f (wrap64 (Int.tdiv (wrap64 (rd l0 a1)) 5))).bind fun t333 => (if t333 = true then (if (wrap64 (a1 + 1)) = (l0.length : Int) then (some (0, 0, 0, (-1))) else (if 0 ≤ (wrap64 (a1 + 1)) then (if (wrap64 (a1 + 1)) < (l0.length : Int) then ((impl_OpOk.f k (wrap64 (Int.tdiv (wrap64 (rd l0 a1)) 5)) (Int.tmod (wrap64 (rd l0 a1)) 5) (wrap64 (rd l0 (wrap64 (a1 + 1))))).bind fun t335 => (if t335 = true then (some (wrap64 (Int.tdiv (wrap64 (rd l0 a1)) 5), Int.tmod (wrap64 (rd l0 a1)) 5, wrap64 (rd l0 (wrap64 (a1 + 1))), wrap64 ((wrap64 (a1 + 1)) + 1))) else (some (0, 0, 0, (-1))))) else (none)) else (none))) else ((impl_OpOk.f k (wrap64 (Int.tdiv (wrap64 (rd l0 a1)) 5)) (Int.tmod (wrap64 (rd l0 a1)) 5) 0).bind fun t336 => (if t336 = true then (some (wrap64 (Int.tdiv (wrap64 (rd l0 a1)) 5), Int.tmod (wrap64 (rd l0 a1)) 5, 0, wrap64 (a1 + 1))) else (some (0, 0, 0, (-1))))))) else (none)) else (none)) = some (r1, r2, r3, r4) := by rw [if_pos rfl] at H; exact H
  clear H
  have H := H1
  clear H1
  by_cases c5 : 0 ≤ a1
  ·rw [if_pos c5] at H
   have c5b0 : decide (0 ≤ a1) = true := decide_eq_true c5
   clear c5
   by_cases c6 : a1 < (l0.length : Int)
   ·rw [if_pos c6] at H
    have c6b0 : decide (a1 < (l0.length : Int)) = true := decide_eq_true c6
    clear c6
    replace H := Option.bind_eq_some_iff.mp H
    obtain ⟨t333, A70, H⟩ := H
    replace H : (if t333 = true then (if (wrap64 (a1 + 1)) = (l0.length : Int) then (some (0, 0, 0, (-1))) else (if 0 ≤ (wrap64 (a1 + 1)) then (if (wrap64 (a1 + 1)) < (l0.length : Int) then ((impl_OpOk.f k (wrap64 (Int.tdiv (wrap64 (rd l0 a1)) 5)) (Int.tmod (wrap64 (rd l0 a1)) 5) (wrap64 (rd l0 (wrap64 (a1 + 1))))).bind fun t335 => (if t335 = true then (some (wrap64 (Int.tdiv (wrap64 (rd l0 a1)) 5), Int.tmod (wrap64 (rd l0 a1)) 5, wrap64 (rd l0 (wrap64 (a1 + 1))), wrap64 ((wrap64 (a1 + 1)) + 1))) else (some (0, 0, 0, (-1))))) else (none)) else (none))) else ((impl_OpOk.f k (wrap64 (Int.tdiv (wrap64 (rd l0 a1)) 5)) (Int.tmod (wrap64 (rd l0 a1)) 5) 0).bind fun t336 => (if t336 = true then (some (wrap64 (Int.tdiv (wrap64 (rd l0 a1)) 5), Int.tmod (wrap64 (rd l0 a1)) 5, 0, wrap64 (a1 + 1))) else (some (0, 0, 0, (-1)))))) = some (r1, r2, r3, r4) := H
    have A7 := Aside0.mk A70
    clear A70
    have HH_ := Aside0.mk H
    clear H
    go_enter Try.func46, Try.ntmps46
    try go_wp2_with (first | ((with_reducible refine gate_dst (N := 4) rfl ?_); refine box_event ?hg (N := 4) ?hd (cs := #[.int .i64 0, .int .i64 0, .int .i64 0]) (t := 38) ?hr ?_; (case hd => rfl); (case hg => rfl); (case hr => first | (go_simp; done) | (go_simp; rfl)); intro gb328 hg w10 hbox hb; have n0_ := Aside0.mk (below_step (by with_reducible repeat (first | exact HB.out | apply below_alloc | apply pw_below_drewN | apply below_drew1)) hb); have n1_ := Aside0.mk (hbox); have n2_ := Aside0.mk ((by rw [hg]; exact (below_size (by with_reducible repeat (first | exact HB.out | apply below_alloc | apply pw_below_drewN | apply below_drew1))) : w.heap.size ≤ gb328)); have n3_ := Aside0.mk ((by rw [hg]; exact (below_size (by with_reducible repeat (first | exact HB.out | apply below_alloc | apply pw_below_drewN | apply below_drew1))) : w.heap.size ≤ gb328)); clear HB; have HB := n0_; have BK328 := n1_; have GW328 := n2_; have GE328 := n3_; clear n0_ n1_ n2_ n3_; clear hb hbox hg) | (go_at_call 28; (with_reducible refine (impl_within.calls a1 0 (wrap64 ((l0.length : Int) - 1)) true _ A3.out).mono ?_); rintro e w' ⟨rfl, ⟨nd, rfl⟩⟩; (try (rw [drewN_self w10]; generalize hq_ : World.drewN w10 _ = w10; have n0_ : Aside0 (w10.heap[gb328]? = some (.cells #[.int .i64 0, .int .i64 0, .int .i64 0] 38 (0, 0))) := ⟨by rw [← hq_]; exact (by (with_reducible repeat (first | refine blk_drewN ?_ _ | refine blk_drew ?_ | refine blk_alloc ?_ _)); exact BK328.out)⟩; have n1_ : Aside0 (Below w.heap.size w w10) := ⟨by rw [← hq_]; exact (by with_reducible repeat (first | exact HB.out | apply below_alloc | apply pw_below_drewN | apply below_drew1 | refine below_set ?_ GE328.out))⟩; clear BK328 HB hq_; have BK328 := n0_; have HB := n1_; clear n0_ n1_))))
    have n0_ := Aside0.mk (blk_drew BK328.out)
    have n1_ := Aside0.mk (below_drew1 HB.out)
    clear BK328
    clear HB
    have BK328 := n0_
    have HB := n1_
    clear n0_ n1_
    have p330 : 0 ≤ (a1 : Int) := of_decide_eq_true (by first | (with_reducible assumption) | assumption)
    have q330 : a1 < (l0.length : Int) := of_decide_eq_true (by first | (with_reducible assumption) | assumption)
    obtain ⟨ad330, e330, hx330_0⟩ := Kd.at_int HR0.out a1 p330 q330
    have hw330_0 := hx330_0
    cases e330
    replace hx330_0 := (HB.out.cell (World.block_lt_of_cell? w _ hx330_0)).trans hx330_0
    replace p330 := eq_true p330
    replace q330 := eq_true q330
    have p331 : 0 ≤ (a1 : Int) := of_decide_eq_true (by first | (with_reducible assumption) | assumption)
    have q331 : a1 < (l0.length : Int) := of_decide_eq_true (by first | (with_reducible assumption) | assumption)
    obtain ⟨ad331, e331, hx331_0⟩ := Kd.at_int HR0.out a1 p331 q331
    have hw331_0 := hx331_0
    obtain rfl : ad330 = ad331 := (by injection e331)
    replace hx331_0 := (HB.out.cell (World.block_lt_of_cell? w _ hx331_0)).trans hx331_0
    replace p331 := eq_true p331
    replace q331 := eq_true q331
    refine start_ (n := 18) (S := fun w' => w'.cell? (ad330.add (a1).toNat) = some (.int .u8 (rd l0 a1)) ∧ w'.cell? (ad330.add (a1).toNat) = some (.int .u8 (rd l0 a1))) (ds := []) #[false, false, false, false, false, false, false, false, false, false, false, false, false, false, false, false, false, false] (by kernel_rfl) rfl rfl ⟨((HB.out.cell (World.block_lt_of_cell? w _ hw330_0)).trans hw330_0), ((HB.out.cell (World.block_lt_of_cell? w _ hw331_0)).trans hw331_0)⟩ (fun hHeld => ?_); refine with_tabW impl_UnpackOp.tab3 impl_UnpackOp.bits3 (fun HT_ HW_ => ?_)
    generalize w10.drew = w11 at BK328 HB hx330_0 hx331_0 hHeld ⊢
    refine pure_ (i := 0) (N := some 15) (v := ?_) (a' := ?_) #[true, false, false, false, false, false, false, false, false, false, false, false, false, false, false, false, false, false] rfl rfl (any_of HT_.out (by kernel_rfl)) (fun _ _ _ h => h) (Or.inl ⟨by rfl, ?_⟩) ?_ ?_
    rotate_left
    ·intro w'
     go_simp
     with_reducible rfl
    rotate_left
    ·simp only [Act.put, List.setIfInBounds_toArray, List.set_cons_zero, List.set_cons_succ, i64_w, i32_w]
     rfl
    refine pure_ (i := 1) (N := some 16) (v := ?_) (a' := ?_) #[true, true, false, false, false, false, false, false, false, false, false, false, false, false, false, false, false, false] rfl rfl (any_of HT_.out (by kernel_rfl)) (fun _ _ _ h => h) (Or.inl ⟨by rfl, ?_⟩) ?_ ?_
    rotate_left
    ·intro w'
     go_simp
     with_reducible rfl
    rotate_left
    ·simp only [Act.put, List.setIfInBounds_toArray, List.set_cons_zero, List.set_cons_succ, i64_w, i32_w]
     rfl
    refine pure_ (i := 2) (N := some 17) (v := ?_) (a' := ?_) #[true, true, true, false, false, false, false, false, false, false, false, false, false, false, false, false, false, false] rfl rfl (any_of HT_.out (by kernel_rfl)) (fun _ _ _ h => h) (Or.inl ⟨by rfl, ?_⟩) ?_ ?_
    rotate_left
    ·intro w'
     go_simp
     with_reducible rfl
    rotate_left
    ·simp only [Act.put, List.setIfInBounds_toArray, List.set_cons_zero, List.set_cons_succ, i64_w, i32_w]
     rfl
    refine pure_ (i := 6) (N := some 21) (v := ?_) (a' := ?_) #[true, true, true, false, false, false, true, false, false, false, false, false, false, false, false, false, false, false] rfl rfl (any_of HT_.out (by kernel_rfl)) (fun _ _ _ h => h) (Or.inl ⟨by rfl, ?_⟩) ?_ ?_
    rotate_left
    ·intro w'
     go_simp
     with_reducible rfl
    rotate_left
    ·simp only [Act.put, List.setIfInBounds_toArray, List.set_cons_zero, List.set_cons_succ, i64_w, i32_w]
     rfl
    refine pure_ (i := 7) (N := some 22) (v := ?_) (a' := ?_) #[true, true, true, false, false, false, true, true, false, false, false, false, false, false, false, false, false, false] rfl rfl (any_of HT_.out (by kernel_rfl)) (fun _ _ _ h => h) (Or.inl ⟨by rfl, ?_⟩) ?_ ?_
    rotate_left
    ·intro w'
     go_simp
     with_reducible rfl
    rotate_left
    ·simp only [Act.put, List.setIfInBounds_toArray, List.set_cons_zero, List.set_cons_succ, i64_w, i32_w]
     rfl
    refine pure_ (i := 8) (N := some 23) (v := ?_) (a' := ?_) #[true, true, true, false, false, false, true, true, true, false, false, false, false, false, false, false, false, false] rfl rfl (any_of HT_.out (by kernel_rfl)) (fun _ _ _ h => h) (Or.inl ⟨by rfl, ?_⟩) ?_ ?_
    rotate_left
    ·intro w'
     go_simp
     with_reducible rfl
    rotate_left
    ·simp only [Act.put, List.setIfInBounds_toArray, List.set_cons_zero, List.set_cons_succ, i64_w, i32_w]
     rfl
    refine pure_ (i := 13) (N := some 28) (v := ?_) (a' := ?_) #[true, true, true, false, false, false, true, true, true, false, false, false, false, true, false, false, false, false] rfl rfl (any_of HT_.out (by kernel_rfl)) (fun _ _ _ h => h) (Or.inl ⟨by rfl, ?_⟩) ?_ ?_
    rotate_left
    ·intro w'
     go_simp
     with_reducible rfl
    rotate_left
    ·simp only [Act.put, List.setIfInBounds_toArray, List.set_cons_zero, List.set_cons_succ, i64_w, i32_w]
     rfl
    refine pure_ (i := 14) (N := some 29) (v := ?_) (a' := ?_) #[true, true, true, false, false, false, true, true, true, false, false, false, false, true, true, false, false, false] rfl rfl (any_of HT_.out (by kernel_rfl)) (fun _ _ _ h => h) (Or.inl ⟨by rfl, ?_⟩) ?_ ?_
    rotate_left
    ·intro w'
     go_simp
     with_reducible rfl
    rotate_left
    ·simp only [Act.put, List.setIfInBounds_toArray, List.set_cons_zero, List.set_cons_succ, i64_w, i32_w]
     rfl
    refine take_ (i := 3) (N := some 18) (v := ?_) (a' := ?_) #[true, true, true, true, false, false, true, true, true, false, false, false, false, true, true, false, false, false] rfl rfl (take_ofW HT_.out HW_.out (by kernel_rfl)) (fun _ _ _ h => h) (Or.inl ⟨by rfl, ?_⟩) hHeld ?_ ?_
    rotate_left
    ·rintro w' ⟨s0, s1⟩
     go_simp
     with_reducible rfl
    rotate_left
    ·simp only [Act.put, List.setIfInBounds_toArray, List.set_cons_zero, List.set_cons_succ, i64_w, i32_w]
     rfl
    refine pure_ (i := 4) (N := some 19) (v := ?_) (a' := ?_) #[true, true, true, true, true, false, true, true, true, false, false, false, false, true, true, false, false, false] rfl rfl (any_of HT_.out (by kernel_rfl)) (fun _ _ _ h => h) (Or.inl ⟨by rfl, ?_⟩) ?_ ?_
    rotate_left
    ·intro w'
     go_simp
     with_reducible rfl
    rotate_left
    ·simp only [Act.put, List.setIfInBounds_toArray, List.set_cons_zero, List.set_cons_succ, i64_w, i32_w]
     rfl
    refine pure_ (i := 5) (N := some 20) (v := ?_) (a' := ?_) #[true, true, true, true, true, true, true, true, true, false, false, false, false, true, true, false, false, false] rfl rfl (any_of HT_.out (by kernel_rfl)) (fun _ _ _ h => h) (Or.inl ⟨by rfl, ?_⟩) ?_ ?_
    rotate_left
    ·intro w'
     go_simp
     with_reducible rfl
    rotate_left
    ·simp only [Act.put, List.setIfInBounds_toArray, List.set_cons_zero, List.set_cons_succ, i64_w, i32_w]
     rfl
    refine take_ (i := 9) (N := some 24) (v := ?_) (a' := ?_) #[true, true, true, true, true, true, true, true, true, true, false, false, false, true, true, false, false, false] rfl rfl (take_ofW HT_.out HW_.out (by kernel_rfl)) (fun _ _ _ h => h) (Or.inl ⟨by rfl, ?_⟩) hHeld ?_ ?_
    rotate_left
    ·rintro w' ⟨s0, s1⟩
     go_simp
     with_reducible rfl
    rotate_left
    ·simp only [Act.put, List.setIfInBounds_toArray, List.set_cons_zero, List.set_cons_succ, i64_w, i32_w]
     rfl
    refine pure_ (i := 10) (N := some 25) (v := ?_) (a' := ?_) #[true, true, true, true, true, true, true, true, true, true, true, false, false, true, true, false, false, false] rfl rfl (any_of HT_.out (by kernel_rfl)) (fun _ _ _ h => h) (Or.inl ⟨by rfl, ?_⟩) ?_ ?_
    rotate_left
    ·intro w'
     go_simp
     with_reducible rfl
    rotate_left
    ·simp only [Act.put, List.setIfInBounds_toArray, List.set_cons_zero, List.set_cons_succ, i64_w, i32_w]
     rfl
    refine pure_ (i := 11) (N := some 26) (v := ?_) (a' := ?_) #[true, true, true, true, true, true, true, true, true, true, true, true, false, true, true, false, false, false] rfl rfl (any_of HT_.out (by kernel_rfl)) (fun _ _ _ h => h) (Or.inl ⟨by rfl, ?_⟩) ?_ ?_
    rotate_left
    ·intro w'
     go_simp
     with_reducible rfl
    rotate_left
    ·simp only [Act.put, List.setIfInBounds_toArray, List.set_cons_zero, List.set_cons_succ, i64_w, i32_w]
     rfl
    refine pure_ (i := 12) (N := some 27) (v := ?_) (a' := ?_) #[true, true, true, true, true, true, true, true, true, true, true, true, true, true, true, false, false, false] rfl rfl (any_of HT_.out (by kernel_rfl)) (fun _ _ _ h => h) (Or.inl ⟨by rfl, ?_⟩) ?_ ?_
    rotate_left
    ·intro w'
     go_simp
     with_reducible rfl
    rotate_left
    ·simp only [Act.put, List.setIfInBounds_toArray, List.set_cons_zero, List.set_cons_succ, i64_w, i32_w]
     rfl
    refine one_ (i := 15) (N := some 6) #[true, true, true, true, true, true, true, true, true, true, true, true, true, true, true, true, false, false] rfl rfl (one_of HT_.out (by kernel_rfl)) (by decide) (fun K hK => ?_)
    refine box_step ?hg (N := 6) ?hd (cs := #[.int .i64 0, .int .i64 0, .int .i64 0]) (t := 38) ?hr ?_; (case hd => rfl); (case hg => rfl); (case hr => first | (go_simp; done) | (go_simp; rfl))
    intro gb332 hg w12 hbox hb
    have n0_ := Aside0.mk (blk_below (g := gb328) (o := .cells #[.int .i64 0, .int .i64 0, .int .i64 0] 38 (0, 0)) (by (with_reducible repeat (first | refine blk_drewN ?_ _ | refine blk_drew ?_ | refine blk_alloc ?_ _)); exact BK328.out) hb)
    have n1_ := Aside0.mk (below_step (by with_reducible repeat (first | exact HB.out | apply below_alloc | apply pw_below_drewN | apply below_drew1 | refine below_set ?_ GE328.out)) hb)
    have n2_ := Aside0.mk (hbox)
    have n3_ := Aside0.mk ((by rw [hg]; exact (below_size (by with_reducible repeat (first | exact HB.out | apply below_alloc | apply pw_below_drewN | apply below_drew1 | refine below_set ?_ GE328.out))) : w.heap.size ≤ gb332))
    have n4_ := Aside0.mk ((by rw [hg]; exact (below_size (by with_reducible repeat (first | exact HB.out | apply below_alloc | apply pw_below_drewN | apply below_drew1 | refine below_set ?_ GE328.out))) : w.heap.size ≤ gb332))
    have n5_ := Aside0.mk ((by rw [hg]; exact Nat.ne_of_lt (blk_lt (g := gb328) (o := .cells #[.int .i64 0, .int .i64 0, .int .i64 0] 38 (0, 0)) (by (with_reducible repeat (first | refine blk_drewN ?_ _ | refine blk_drew ?_ | refine blk_alloc ?_ _)); exact BK328.out)) : gb328 ≠ gb332))
    have n6_ := Aside0.mk ((by rw [hg]; exact Nat.ne_of_gt (blk_lt (g := gb328) (o := .cells #[.int .i64 0, .int .i64 0, .int .i64 0] 38 (0, 0)) (by (with_reducible repeat (first | refine blk_drewN ?_ _ | refine blk_drew ?_ | refine blk_alloc ?_ _)); exact BK328.out)) : gb332 ≠ gb328))
    clear BK328
    clear HB
    have BK328 := n0_
    have HB := n1_
    have BK332 := n2_
    have GW332 := n3_
    have GE332 := n4_
    have NB328_332 := n5_
    have NB332_328 := n6_
    clear n0_ n1_ n2_ n3_ n4_ n5_ n6_
    clear hb hbox hg
    refine hK.out _ _ ⟨((HB.out.cell (World.block_lt_of_cell? w _ hw330_0)).trans hw330_0), ((HB.out.cell (World.block_lt_of_cell? w _ hw331_0)).trans hw331_0)⟩ (fun hHeld => ?_)
    clear hK K
    refine norm_ (a' := ?_) ?_ ?_
    rotate_left
    ·show Act.put _ (some 6) _ = _
     simp only [Act.put, List.setIfInBounds_toArray, List.set_cons_zero, List.set_cons_succ, i64_w, i32_w]
     rfl
    refine one_ (i := 16) (N := none) #[true, true, true, true, true, true, true, true, true, true, true, true, true, true, true, true, true, false] rfl rfl (one_of HT_.out (by kernel_rfl)) (by decide) (fun K hK => ?_)
    have hs13 : w12.cell? ⟨gb332, 0, none⟩ = some (.int .i64 0) := (blk_cell BK332.out 0).trans rfl
    have hfs13 := blk_frozen BK332.out 0
    have hns13_0 := NB328_332.out
    have hms13_0 := NB332_328.out
    have hs14 : w12.cell? ⟨gb332, 1, none⟩ = some (.int .i64 0) := (blk_cell BK332.out 1).trans rfl
    have hfs14 := blk_frozen BK332.out 1
    have hns14_0 := NB328_332.out
    have hms14_0 := NB332_328.out
    have hs15 : w12.cell? ⟨gb332, 2, none⟩ = some (.int .i64 0) := (blk_cell BK332.out 2).trans rfl
    have hfs15 := blk_frozen BK332.out 2
    have hns15_0 := NB328_332.out
    have hms15_0 := NB332_328.out
    refine skip_ (w1 := ?_) (by rfl) rfl ?_ ?_
    rotate_left
    ·go_simp
     rfl
    refine hK.out _ _ ⟨((cell_far (p := ⟨gb332, _, none⟩) (by first | exact Nat.ne_of_lt (Nat.lt_of_lt_of_le (by have := World.block_lt_of_cell? _ _ hw330_0; first | rwa [add_block] at this | exact this) GW332.out) | (rw [add_block]; exact Nat.ne_of_lt (Nat.lt_of_lt_of_le (by have := World.block_lt_of_cell? _ _ hw330_0; first | rwa [add_block] at this | exact this) GW332.out)) | (show (Addr.add _ _).block ≠ _; rw [add_block]; exact Nat.ne_of_lt (Nat.lt_of_lt_of_le (by have := World.block_lt_of_cell? _ _ hw330_0; first | rwa [add_block] at this | exact this) GW332.out)) | (dsimp only; exact Nat.ne_of_lt (Nat.lt_of_lt_of_le (by have := World.block_lt_of_cell? _ _ hw330_0; first | rwa [add_block] at this | exact this) GW332.out))) _).trans (((cell_far (p := ⟨gb332, _, none⟩) (by first | exact Nat.ne_of_lt (Nat.lt_of_lt_of_le (by have := World.block_lt_of_cell? _ _ hw330_0; first | rwa [add_block] at this | exact this) GW332.out) | (rw [add_block]; exact Nat.ne_of_lt (Nat.lt_of_lt_of_le (by have := World.block_lt_of_cell? _ _ hw330_0; first | rwa [add_block] at this | exact this) GW332.out)) | (show (Addr.add _ _).block ≠ _; rw [add_block]; exact Nat.ne_of_lt (Nat.lt_of_lt_of_le (by have := World.block_lt_of_cell? _ _ hw330_0; first | rwa [add_block] at this | exact this) GW332.out)) | (dsimp only; exact Nat.ne_of_lt (Nat.lt_of_lt_of_le (by have := World.block_lt_of_cell? _ _ hw330_0; first | rwa [add_block] at this | exact this) GW332.out))) _).trans (((cell_far (p := ⟨gb332, _, none⟩) (by first | exact Nat.ne_of_lt (Nat.lt_of_lt_of_le (by have := World.block_lt_of_cell? _ _ hw330_0; first | rwa [add_block] at this | exact this) GW332.out) | (rw [add_block]; exact Nat.ne_of_lt (Nat.lt_of_lt_of_le (by have := World.block_lt_of_cell? _ _ hw330_0; first | rwa [add_block] at this | exact this) GW332.out)) | (show (Addr.add _ _).block ≠ _; rw [add_block]; exact Nat.ne_of_lt (Nat.lt_of_lt_of_le (by have := World.block_lt_of_cell? _ _ hw330_0; first | rwa [add_block] at this | exact this) GW332.out)) | (dsimp only; exact Nat.ne_of_lt (Nat.lt_of_lt_of_le (by have := World.block_lt_of_cell? _ _ hw330_0; first | rwa [add_block] at this | exact this) GW332.out))) _).trans (hHeld.1)))))), ((cell_far (p := ⟨gb332, _, none⟩) (by first | exact Nat.ne_of_lt (Nat.lt_of_lt_of_le (by have := World.block_lt_of_cell? _ _ hw331_0; first | rwa [add_block] at this | exact this) GW332.out) | (rw [add_block]; exact Nat.ne_of_lt (Nat.lt_of_lt_of_le (by have := World.block_lt_of_cell? _ _ hw331_0; first | rwa [add_block] at this | exact this) GW332.out)) | (show (Addr.add _ _).block ≠ _; rw [add_block]; exact Nat.ne_of_lt (Nat.lt_of_lt_of_le (by have := World.block_lt_of_cell? _ _ hw331_0; first | rwa [add_block] at this | exact this) GW332.out)) | (dsimp only; exact Nat.ne_of_lt (Nat.lt_of_lt_of_le (by have := World.block_lt_of_cell? _ _ hw331_0; first | rwa [add_block] at this | exact this) GW332.out))) _).trans (((cell_far (p := ⟨gb332, _, none⟩) (by first | exact Nat.ne_of_lt (Nat.lt_of_lt_of_le (by have := World.block_lt_of_cell? _ _ hw331_0; first | rwa [add_block] at this | exact this) GW332.out) | (rw [add_block]; exact Nat.ne_of_lt (Nat.lt_of_lt_of_le (by have := World.block_lt_of_cell? _ _ hw331_0; first | rwa [add_block] at this | exact this) GW332.out)) | (show (Addr.add _ _).block ≠ _; rw [add_block]; exact Nat.ne_of_lt (Nat.lt_of_lt_of_le (by have := World.block_lt_of_cell? _ _ hw331_0; first | rwa [add_block] at this | exact this) GW332.out)) | (dsimp only; exact Nat.ne_of_lt (Nat.lt_of_lt_of_le (by have := World.block_lt_of_cell? _ _ hw331_0; first | rwa [add_block] at this | exact this) GW332.out))) _).trans (((cell_far (p := ⟨gb332, _, none⟩) (by first | exact Nat.ne_of_lt (Nat.lt_of_lt_of_le (by have := World.block_lt_of_cell? _ _ hw331_0; first | rwa [add_block] at this | exact this) GW332.out) | (rw [add_block]; exact Nat.ne_of_lt (Nat.lt_of_lt_of_le (by have := World.block_lt_of_cell? _ _ hw331_0; first | rwa [add_block] at this | exact this) GW332.out)) | (show (Addr.add _ _).block ≠ _; rw [add_block]; exact Nat.ne_of_lt (Nat.lt_of_lt_of_le (by have := World.block_lt_of_cell? _ _ hw331_0; first | rwa [add_block] at this | exact this) GW332.out)) | (dsimp only; exact Nat.ne_of_lt (Nat.lt_of_lt_of_le (by have := World.block_lt_of_cell? _ _ hw331_0; first | rwa [add_block] at this | exact this) GW332.out))) _).trans (hHeld.2))))))⟩ (fun hHeld => ?_)
    clear hK K
    refine pure_ (i := 17) (N := some 7) (v := ?_) (a' := ?_) #[true, true, true, true, true, true, true, true, true, true, true, true, true, true, true, true, true, true] rfl rfl (any_of HT_.out (by kernel_rfl)) (fun _ _ _ h => h) (Or.inl ⟨by rfl, ?_⟩) ?_ ?_
    rotate_left
    ·intro w'
     go_simp
     with_reducible rfl
    rotate_left
    ·simp only [Act.put, List.setIfInBounds_toArray, List.set_cons_zero, List.set_cons_succ, i64_w, i32_w]
     rfl
    refine done_ (done_of HT_.out (by kernel_rfl)) ?_
    have H := HH_.out
    clear HH_
    by_cases c8 : t333 = true
    ·subst c8
     have H1 : (if (wrap64 (a1 + 1)) = (l0.length : Int) then (some (0, 0, 0, (-1))) else (if 0 ≤ (wrap64 (a1 + 1)) then (if (wrap64 (a1 + 1)) < (l0.length : Int) then ((impl_OpOk.f k (wrap64 (Int.tdiv (wrap64 (rd l0 a1)) 5)) (Int.tmod (wrap64 (rd l0 a1)) 5) (wrap64 (rd l0 (wrap64 (a1 + 1))))).bind fun t335 => (if t335 = true then (some (wrap64 (Int.tdiv (wrap64 (rd l0 a1)) 5), Int.tmod (wrap64 (rd l0 a1)) 5, wrap64 (rd l0 (wrap64 (a1 + 1))), wrap64 ((wrap64 (a1 + 1)) + 1))) else (some (0, 0, 0, (-1))))) else (none)) else (none))) = some (r1, r2, r3, r4) := by rw [if_pos rfl] at H; exact H
     clear H
     have H := H1
     clear H1
     by_cases c9 : (wrap64 (a1 + 1)) = (l0.length : Int)
     ·rw [if_pos c9] at H
      have c9b0 : ((wrap64 (a1 + 1)) == (l0.length : Int)) = true := beq_iff_eq.mpr c9
      have c9b1 : ((wrap64 (a1 + 1)) != (l0.length : Int)) = false := bne_eq_false_iff_eq.mpr c9
      clear c9
      simp only [Option.some.injEq, Prod.mk.injEq] at H
      obtain ⟨rfl, rfl, rfl, rfl⟩ := H
      have hnb16 := NB332_328.out
      have hnc16 := NB328_332.out
      have hcz17_0 : w12.cell? ⟨gb332, 0, none⟩ = some (.int .i64 0) := (blk_cell BK332.out 0).trans rfl
      have hcz17_1 : w12.cell? ⟨gb332, 1, none⟩ = some (.int .i64 0) := (blk_cell BK332.out 1).trans rfl
      have hcz17_2 : w12.cell? ⟨gb332, 2, none⟩ = some (.int .i64 0) := (blk_cell BK332.out 2).trans rfl
      have hfz17_0 := blk_frozen BK332.out 0
      have hfz17_1 := blk_frozen BK332.out 1
      have hfz17_2 := blk_frozen BK332.out 2
      try go_wp2_with (first | (go_at_call 43; (with_reducible refine (impl_hasX.calls (wrap64 (Int.tdiv (wrap64 (rd l0 a1)) 5)) true _ A7.out).mono ?_); rintro e w' ⟨rfl, ⟨nd, rfl⟩⟩; have hcz18_0 : w12.cell? ⟨gb328, 0, none⟩ = some (.int .i64 0) := (blk_cell BK328.out 0).trans rfl; have hcz18_1 : w12.cell? ⟨gb328, 1, none⟩ = some (.int .i64 0) := (blk_cell BK328.out 1).trans rfl; have hcz18_2 : w12.cell? ⟨gb328, 2, none⟩ = some (.int .i64 0) := (blk_cell BK328.out 2).trans rfl; have hfz18_0 := blk_frozen BK328.out 0; have hfz18_1 := blk_frozen BK328.out 1; have hfz18_2 := blk_frozen BK328.out 2))
      refine bodyPost_ret (results_ct rfl _ _ gb328 38 #[.int .i64 0, .int .i64 0, .int .i64 0] (0, 0) _ rfl (by (with_reducible repeat (first | refine blk_drewN ?_ _ | refine blk_drew ?_ | refine blk_alloc ?_ _)); refine blk_put (cs := #[.int .i64 0, .int .i64 0, .int .i64 0]) ?_ 2 _ rfl; (with_reducible repeat (first | refine blk_drewN ?_ _ | refine blk_drew ?_ | refine blk_alloc ?_ _)); refine blk_put (cs := #[.int .i64 0, .int .i64 0, .int .i64 0]) ?_ 1 _ rfl; (with_reducible repeat (first | refine blk_drewN ?_ _ | refine blk_drew ?_ | refine blk_alloc ?_ _)); refine blk_put (cs := #[.int .i64 0, .int .i64 0, .int .i64 0]) ?_ 0 _ rfl; (with_reducible repeat (first | refine blk_drewN ?_ _ | refine blk_drew ?_ | refine blk_alloc ?_ _)); refine blk_far ?_ NB328_332.out _; (with_reducible repeat (first | refine blk_drewN ?_ _ | refine blk_drew ?_ | refine blk_alloc ?_ _)); refine blk_far ?_ NB328_332.out _; (with_reducible repeat (first | refine blk_drewN ?_ _ | refine blk_drew ?_ | refine blk_alloc ?_ _)); refine blk_far ?_ NB328_332.out _; (with_reducible repeat (first | refine blk_drewN ?_ _ | refine blk_drew ?_ | refine blk_alloc ?_ _)); exact BK328.out) Try.underlying38 rfl (by kernel_rfl)) rfl ?_
      exact ⟨by first | rfl | (simp [errW_none, errW_some] <;> rfl) | (simp [*, errW_none, errW_some] <;> rfl), by with_reducible repeat (first | exact HB.out | apply below_alloc | apply pw_below_drewN | apply below_drew1 | refine below_set ?_ GE328.out | refine below_set ?_ GE332.out)⟩
     ·rw [if_neg c9] at H
      have c9b0 : ((wrap64 (a1 + 1)) == (l0.length : Int)) = false := beq_eq_false_iff_ne.mpr c9
      have c9b1 : ((wrap64 (a1 + 1)) != (l0.length : Int)) = true := bne_iff_ne.mpr c9
      obtain ⟨ji19, hji19⟩ : ∃ j_ : Int, (wrap64 (a1 + 1)) = j_ := ⟨_, rfl⟩
      replace H : (if 0 ≤ (ji19) then (if (ji19) < (l0.length : Int) then ((impl_OpOk.f k (wrap64 (Int.tdiv (wrap64 (rd l0 a1)) 5)) (Int.tmod (wrap64 (rd l0 a1)) 5) (wrap64 (rd l0 (ji19)))).bind fun t335 => (if t335 = true then (some (wrap64 (Int.tdiv (wrap64 (rd l0 a1)) 5), Int.tmod (wrap64 (rd l0 a1)) 5, wrap64 (rd l0 (ji19)), wrap64 ((ji19) + 1))) else (some (0, 0, 0, (-1))))) else (none)) else (none)) = some (r1, r2, r3, r4) := by first | (rw [hji19] at H; exact H) | (simp only [hji19] at H ⊢; exact H)
      (try rw [hji19] at c9b0)
      (try rw [hji19] at c9b1)
      (try rw [hji19] at A3)
      (try rw [hji19] at A7)
      have hji19w : (IntKind.i64.wrap (a1 + 1)) = ji19 := (i64_w _).trans hji19
      by_cases c20 : 0 ≤ (ji19)
      ·rw [if_pos c20] at H
       have c20b0 : decide (0 ≤ (ji19)) = true := decide_eq_true c20
       clear c20
       by_cases c21 : (ji19) < (l0.length : Int)
       ·rw [if_pos c21] at H
        have c21b0 : decide ((ji19) < (l0.length : Int)) = true := decide_eq_true c21
        clear c21
        replace H := Option.bind_eq_some_iff.mp H
        obtain ⟨t335, A220, H⟩ := H
        replace H : (if t335 = true then (some (wrap64 (Int.tdiv (wrap64 (rd l0 a1)) 5), Int.tmod (wrap64 (rd l0 a1)) 5, wrap64 (rd l0 (ji19)), wrap64 ((ji19) + 1))) else (some (0, 0, 0, (-1)))) = some (r1, r2, r3, r4) := H
        have A22 := Aside0.mk A220
        clear A220
        by_cases c23 : t335 = true
        ·subst c23
         have H1 : (some (wrap64 (Int.tdiv (wrap64 (rd l0 a1)) 5), Int.tmod (wrap64 (rd l0 a1)) 5, wrap64 (rd l0 (ji19)), wrap64 ((ji19) + 1))) = some (r1, r2, r3, r4) := by rw [if_pos rfl] at H; exact H
         clear H
         have H := H1
         clear H1
         simp only [Option.some.injEq, Prod.mk.injEq] at H
         obtain ⟨rfl, rfl, rfl, rfl⟩ := H
         try rw [hji19]
         have hnb30 := NB332_328.out
         have hnc30 := NB328_332.out
         have hcz31_0 : w12.cell? ⟨gb332, 0, none⟩ = some (.int .i64 0) := (blk_cell BK332.out 0).trans rfl
         have hcz31_1 : w12.cell? ⟨gb332, 1, none⟩ = some (.int .i64 0) := (blk_cell BK332.out 1).trans rfl
         have hcz31_2 : w12.cell? ⟨gb332, 2, none⟩ = some (.int .i64 0) := (blk_cell BK332.out 2).trans rfl
         have hfz31_0 := blk_frozen BK332.out 0
         have hfz31_1 := blk_frozen BK332.out 1
         have hfz31_2 := blk_frozen BK332.out 2
         try go_wp2_with (first | (go_at_call 43; (with_reducible refine (impl_hasX.calls (wrap64 (Int.tdiv (wrap64 (rd l0 a1)) 5)) true _ A7.out).mono ?_); rintro e w' ⟨rfl, ⟨nd, rfl⟩⟩; have p334 : 0 ≤ ((ji19) : Int) := of_decide_eq_true (by first | (with_reducible assumption) | assumption); have q334 : (ji19) < (l0.length : Int) := of_decide_eq_true (by first | (with_reducible assumption) | assumption); obtain ⟨ad334, e334, hx334_0⟩ := Kd.at_int HR0.out (ji19) p334 q334; obtain rfl : ad330 = ad334 := (by injection e334); have hn334_0 : ad330.block ≠ gb332 := Nat.ne_of_lt (Nat.lt_of_lt_of_le (by have := World.block_lt_of_cell? _ _ hx334_0; first | rwa [add_block] at this | exact this) GW332.out); have hn334_1 : ad330.block ≠ gb332 := Nat.ne_of_lt (Nat.lt_of_lt_of_le (by have := World.block_lt_of_cell? _ _ hx334_0; first | rwa [add_block] at this | exact this) GW332.out); have hn334_2 : ad330.block ≠ gb332 := Nat.ne_of_lt (Nat.lt_of_lt_of_le (by have := World.block_lt_of_cell? _ _ hx334_0; first | rwa [add_block] at this | exact this) GW332.out); replace hx334_0 := (HB.out.cell (World.block_lt_of_cell? w _ hx334_0)).trans hx334_0; replace hx334_0 := (cell_far (p := ⟨gb332, 0, none⟩) (by first | (rw [add_block]; exact hn334_0) | (show (Addr.add _ _).block ≠ _; rw [add_block]; exact hn334_0) | exact hn334_0) (.int .i64 (wrap64 (Int.tdiv (wrap64 (rd l0 a1)) 5)))).trans hx334_0; replace hx334_0 := (cell_far (p := ⟨gb332, 1, none⟩) (by first | (rw [add_block]; exact hn334_1) | (show (Addr.add _ _).block ≠ _; rw [add_block]; exact hn334_1) | exact hn334_1) (.int .i64 (Int.tmod (wrap64 (rd l0 a1)) 5))).trans hx334_0; replace hx334_0 := (cell_far (p := ⟨gb332, 2, none⟩) (by first | (rw [add_block]; exact hn334_2) | (show (Addr.add _ _).block ≠ _; rw [add_block]; exact hn334_2) | exact hn334_2) (.int .i64 0)).trans hx334_0; clear hn334_0 hn334_1 hn334_2; replace p334 := eq_true p334; replace q334 := eq_true q334; have hcy_ : (World.setCell (World.drewN (World.setCell (World.setCell (World.setCell w12 ⟨gb332, 0, none⟩ (.int .i64 (wrap64 (Int.tdiv (wrap64 (rd l0 a1)) 5)))) ⟨gb332, 1, none⟩ (.int .i64 (Int.tmod (wrap64 (rd l0 a1)) 5))) ⟨gb332, 2, none⟩ (.int .i64 0)) nd) ⟨gb332, 2, none⟩ (.int .i64 (wrap64 (rd l0 (ji19))))).cell? ⟨gb332, 2, none⟩ = some (.int .i64 (wrap64 (rd l0 (ji19)))) := (blk_cell (t := 38) (cs := #[.int .i64 (wrap64 (Int.tdiv (wrap64 (rd l0 a1)) 5)), .int .i64 (Int.tmod (wrap64 (rd l0 a1)) 5), .int .i64 (wrap64 (rd l0 (ji19)))]) (blk_put (cs := #[.int .i64 (wrap64 (Int.tdiv (wrap64 (rd l0 a1)) 5)), .int .i64 (Int.tmod (wrap64 (rd l0 a1)) 5), .int .i64 0]) (blk_drewN (blk_put (cs := #[.int .i64 (wrap64 (Int.tdiv (wrap64 (rd l0 a1)) 5)), .int .i64 (Int.tmod (wrap64 (rd l0 a1)) 5), .int .i64 0]) (blk_put (cs := #[.int .i64 (wrap64 (Int.tdiv (wrap64 (rd l0 a1)) 5)), .int .i64 0, .int .i64 0]) (blk_put (cs := #[.int .i64 0, .int .i64 0, .int .i64 0]) BK332.out 0 (.int .i64 (wrap64 (Int.tdiv (wrap64 (rd l0 a1)) 5))) rfl) 1 (.int .i64 (Int.tmod (wrap64 (rd l0 a1)) 5)) rfl) 2 (.int .i64 0) rfl) nd) 2 (.int .i64 (wrap64 (rd l0 (ji19)))) rfl) 2).trans rfl) | ((with_reducible refine gate_callee (f := 24) rfl ?_); refine goesL_ (some 47) rfl rfl Try.func24 (by kernel_rfl) rfl #[.agg #[.int .i64 (wrap64 (Int.tdiv (wrap64 (rd l0 a1)) 5)), .int .i64 (Int.tmod (wrap64 (rd l0 a1)) 5), .int .i64 (wrap64 (rd l0 (ji19)))]] rfl (by (try simp only [List.map_toArray, List.map_cons, List.map_nil]); first | done | (simp only [hji19]; rfl) | rfl | (simp only [List.length_drop, List.length_take]; rfl)) ?_; (with_reducible refine (impl_OpOk.calls k (wrap64 (Int.tdiv (wrap64 (rd l0 a1)) 5)) (Int.tmod (wrap64 (rd l0 a1)) 5) (wrap64 (rd l0 (ji19))) true _ A22.out).mono ?_); rintro e w32 ⟨rfl, hb⟩; refine ⟨_, rfl, ?_⟩; have n0_ := Aside0.mk (blk_below (g := gb328) (o := .cells #[.int .i64 0, .int .i64 0, .int .i64 0] 38 (0, 0)) (by (with_reducible repeat (first | refine blk_drewN ?_ _ | refine blk_drew ?_ | refine blk_alloc ?_ _)); refine blk_far ?_ NB328_332.out _; (with_reducible repeat (first | refine blk_drewN ?_ _ | refine blk_drew ?_ | refine blk_alloc ?_ _)); refine blk_far ?_ NB328_332.out _; (with_reducible repeat (first | refine blk_drewN ?_ _ | refine blk_drew ?_ | refine blk_alloc ?_ _)); refine blk_far ?_ NB328_332.out _; (with_reducible repeat (first | refine blk_drewN ?_ _ | refine blk_drew ?_ | refine blk_alloc ?_ _)); refine blk_far ?_ NB328_332.out _; (with_reducible repeat (first | refine blk_drewN ?_ _ | refine blk_drew ?_ | refine blk_alloc ?_ _)); exact BK328.out) hb); have n1_ := Aside0.mk (blk_below (g := gb332) (o := .cells #[.int .i64 (wrap64 (Int.tdiv (wrap64 (rd l0 a1)) 5)), .int .i64 (Int.tmod (wrap64 (rd l0 a1)) 5), .int .i64 (wrap64 (rd l0 (ji19)))] 38 (0, 0)) (by (with_reducible repeat (first | refine blk_drewN ?_ _ | refine blk_drew ?_ | refine blk_alloc ?_ _)); refine blk_put (cs := #[.int .i64 (wrap64 (Int.tdiv (wrap64 (rd l0 a1)) 5)), .int .i64 (Int.tmod (wrap64 (rd l0 a1)) 5), .int .i64 0]) ?_ 2 _ rfl; (with_reducible repeat (first | refine blk_drewN ?_ _ | refine blk_drew ?_ | refine blk_alloc ?_ _)); refine blk_put (cs := #[.int .i64 (wrap64 (Int.tdiv (wrap64 (rd l0 a1)) 5)), .int .i64 (Int.tmod (wrap64 (rd l0 a1)) 5), .int .i64 0]) ?_ 2 _ rfl; (with_reducible repeat (first | refine blk_drewN ?_ _ | refine blk_drew ?_ | refine blk_alloc ?_ _)); refine blk_put (cs := #[.int .i64 (wrap64 (Int.tdiv (wrap64 (rd l0 a1)) 5)), .int .i64 0, .int .i64 0]) ?_ 1 _ rfl; (with_reducible repeat (first | refine blk_drewN ?_ _ | refine blk_drew ?_ | refine blk_alloc ?_ _)); refine blk_put (cs := #[.int .i64 0, .int .i64 0, .int .i64 0]) ?_ 0 _ rfl; (with_reducible repeat (first | refine blk_drewN ?_ _ | refine blk_drew ?_ | refine blk_alloc ?_ _)); exact BK332.out) hb); have n2_ := Aside0.mk (below_step (by with_reducible repeat (first | exact HB.out | apply below_alloc | apply pw_below_drewN | apply below_drew1 | refine below_set ?_ GE328.out | refine below_set ?_ GE332.out)) hb); clear BK328 BK332 HB; have BK328 := n0_; have BK332 := n1_; have HB := n2_; clear n0_ n1_ n2_; clear hb; have hcz33_0 : w32.cell? ⟨gb332, 0, none⟩ = some (.int .i64 (wrap64 (Int.tdiv (wrap64 (rd l0 a1)) 5))) := (blk_cell BK332.out 0).trans rfl; have hcz33_1 : w32.cell? ⟨gb332, 1, none⟩ = some (.int .i64 (Int.tmod (wrap64 (rd l0 a1)) 5)) := (blk_cell BK332.out 1).trans rfl; have hcz33_2 : w32.cell? ⟨gb332, 2, none⟩ = some (.int .i64 (wrap64 (rd l0 (ji19)))) := (blk_cell BK332.out 2).trans rfl; have hfz33_0 := blk_frozen BK332.out 0; have hfz33_1 := blk_frozen BK332.out 1; have hfz33_2 := blk_frozen BK332.out 2; have hcz34_0 : w32.cell? ⟨gb328, 0, none⟩ = some (.int .i64 0) := (blk_cell BK328.out 0).trans rfl; have hcz34_1 : w32.cell? ⟨gb328, 1, none⟩ = some (.int .i64 0) := (blk_cell BK328.out 1).trans rfl; have hcz34_2 : w32.cell? ⟨gb328, 2, none⟩ = some (.int .i64 0) := (blk_cell BK328.out 2).trans rfl; have hfz34_0 := blk_frozen BK328.out 0; have hfz34_1 := blk_frozen BK328.out 1; have hfz34_2 := blk_frozen BK328.out 2))
         refine bodyPost_ret (results_ct rfl _ _ gb328 38 #[.int .i64 (wrap64 (Int.tdiv (wrap64 (rd l0 a1)) 5)), .int .i64 (Int.tmod (wrap64 (rd l0 a1)) 5), .int .i64 (wrap64 (rd l0 (ji19)))] (0, 0) _ rfl (by (with_reducible repeat (first | refine blk_drewN ?_ _ | refine blk_drew ?_ | refine blk_alloc ?_ _)); refine blk_put (cs := #[.int .i64 (wrap64 (Int.tdiv (wrap64 (rd l0 a1)) 5)), .int .i64 (Int.tmod (wrap64 (rd l0 a1)) 5), .int .i64 0]) ?_ 2 _ rfl; (with_reducible repeat (first | refine blk_drewN ?_ _ | refine blk_drew ?_ | refine blk_alloc ?_ _)); refine blk_put (cs := #[.int .i64 (wrap64 (Int.tdiv (wrap64 (rd l0 a1)) 5)), .int .i64 0, .int .i64 0]) ?_ 1 _ rfl; (with_reducible repeat (first | refine blk_drewN ?_ _ | refine blk_drew ?_ | refine blk_alloc ?_ _)); refine blk_put (cs := #[.int .i64 0, .int .i64 0, .int .i64 0]) ?_ 0 _ rfl; (with_reducible repeat (first | refine blk_drewN ?_ _ | refine blk_drew ?_ | refine blk_alloc ?_ _)); exact BK328.out) Try.underlying38 rfl (by kernel_rfl)) rfl ?_
         exact ⟨by first | rfl | (simp [errW_none, errW_some] <;> rfl) | (simp only [← hji19]; first | rfl | (simp [errW_none, errW_some] <;> rfl)) | (simp [*, errW_none, errW_some] <;> rfl), by with_reducible repeat (first | exact HB.out | apply below_alloc | apply pw_below_drewN | apply below_drew1 | refine below_set ?_ GE328.out | refine below_set ?_ GE332.out)⟩
        ·replace c23 := Bool.eq_false_iff.mpr c23
         subst c23
         have H1 : (some (0, 0, 0, (-1))) = some (r1, r2, r3, r4) := by rw [if_neg (show ¬ (false = true) by decide)] at H; exact H
         clear H
         have H := H1
         clear H1
         simp only [Option.some.injEq, Prod.mk.injEq] at H
         obtain ⟨rfl, rfl, rfl, rfl⟩ := H
         try rw [hji19]
         have hnb41 := NB332_328.out
         have hnc41 := NB328_332.out
         have hcz42_0 : w12.cell? ⟨gb332, 0, none⟩ = some (.int .i64 0) := (blk_cell BK332.out 0).trans rfl
         have hcz42_1 : w12.cell? ⟨gb332, 1, none⟩ = some (.int .i64 0) := (blk_cell BK332.out 1).trans rfl
         have hcz42_2 : w12.cell? ⟨gb332, 2, none⟩ = some (.int .i64 0) := (blk_cell BK332.out 2).trans rfl
         have hfz42_0 := blk_frozen BK332.out 0
         have hfz42_1 := blk_frozen BK332.out 1
         have hfz42_2 := blk_frozen BK332.out 2
         try go_wp2_with (first | (go_at_call 43; (with_reducible refine (impl_hasX.calls (wrap64 (Int.tdiv (wrap64 (rd l0 a1)) 5)) true _ A7.out).mono ?_); rintro e w' ⟨rfl, ⟨nd, rfl⟩⟩; have p334 : 0 ≤ ((ji19) : Int) := of_decide_eq_true (by first | (with_reducible assumption) | assumption); have q334 : (ji19) < (l0.length : Int) := of_decide_eq_true (by first | (with_reducible assumption) | assumption); obtain ⟨ad334, e334, hx334_0⟩ := Kd.at_int HR0.out (ji19) p334 q334; obtain rfl : ad330 = ad334 := (by injection e334); have hn334_0 : ad330.block ≠ gb332 := Nat.ne_of_lt (Nat.lt_of_lt_of_le (by have := World.block_lt_of_cell? _ _ hx334_0; first | rwa [add_block] at this | exact this) GW332.out); have hn334_1 : ad330.block ≠ gb332 := Nat.ne_of_lt (Nat.lt_of_lt_of_le (by have := World.block_lt_of_cell? _ _ hx334_0; first | rwa [add_block] at this | exact this) GW332.out); have hn334_2 : ad330.block ≠ gb332 := Nat.ne_of_lt (Nat.lt_of_lt_of_le (by have := World.block_lt_of_cell? _ _ hx334_0; first | rwa [add_block] at this | exact this) GW332.out); replace hx334_0 := (HB.out.cell (World.block_lt_of_cell? w _ hx334_0)).trans hx334_0; replace hx334_0 := (cell_far (p := ⟨gb332, 0, none⟩) (by first | (rw [add_block]; exact hn334_0) | (show (Addr.add _ _).block ≠ _; rw [add_block]; exact hn334_0) | exact hn334_0) (.int .i64 (wrap64 (Int.tdiv (wrap64 (rd l0 a1)) 5)))).trans hx334_0; replace hx334_0 := (cell_far (p := ⟨gb332, 1, none⟩) (by first | (rw [add_block]; exact hn334_1) | (show (Addr.add _ _).block ≠ _; rw [add_block]; exact hn334_1) | exact hn334_1) (.int .i64 (Int.tmod (wrap64 (rd l0 a1)) 5))).trans hx334_0; replace hx334_0 := (cell_far (p := ⟨gb332, 2, none⟩) (by first | (rw [add_block]; exact hn334_2) | (show (Addr.add _ _).block ≠ _; rw [add_block]; exact hn334_2) | exact hn334_2) (.int .i64 0)).trans hx334_0; clear hn334_0 hn334_1 hn334_2; replace p334 := eq_true p334; replace q334 := eq_true q334; have hcy_ : (World.setCell (World.drewN (World.setCell (World.setCell (World.setCell w12 ⟨gb332, 0, none⟩ (.int .i64 (wrap64 (Int.tdiv (wrap64 (rd l0 a1)) 5)))) ⟨gb332, 1, none⟩ (.int .i64 (Int.tmod (wrap64 (rd l0 a1)) 5))) ⟨gb332, 2, none⟩ (.int .i64 0)) nd) ⟨gb332, 2, none⟩ (.int .i64 (wrap64 (rd l0 (ji19))))).cell? ⟨gb332, 2, none⟩ = some (.int .i64 (wrap64 (rd l0 (ji19)))) := (blk_cell (t := 38) (cs := #[.int .i64 (wrap64 (Int.tdiv (wrap64 (rd l0 a1)) 5)), .int .i64 (Int.tmod (wrap64 (rd l0 a1)) 5), .int .i64 (wrap64 (rd l0 (ji19)))]) (blk_put (cs := #[.int .i64 (wrap64 (Int.tdiv (wrap64 (rd l0 a1)) 5)), .int .i64 (Int.tmod (wrap64 (rd l0 a1)) 5), .int .i64 0]) (blk_drewN (blk_put (cs := #[.int .i64 (wrap64 (Int.tdiv (wrap64 (rd l0 a1)) 5)), .int .i64 (Int.tmod (wrap64 (rd l0 a1)) 5), .int .i64 0]) (blk_put (cs := #[.int .i64 (wrap64 (Int.tdiv (wrap64 (rd l0 a1)) 5)), .int .i64 0, .int .i64 0]) (blk_put (cs := #[.int .i64 0, .int .i64 0, .int .i64 0]) BK332.out 0 (.int .i64 (wrap64 (Int.tdiv (wrap64 (rd l0 a1)) 5))) rfl) 1 (.int .i64 (Int.tmod (wrap64 (rd l0 a1)) 5)) rfl) 2 (.int .i64 0) rfl) nd) 2 (.int .i64 (wrap64 (rd l0 (ji19)))) rfl) 2).trans rfl) | ((with_reducible refine gate_callee (f := 24) rfl ?_); refine goesL_ (some 47) rfl rfl Try.func24 (by kernel_rfl) rfl #[.agg #[.int .i64 (wrap64 (Int.tdiv (wrap64 (rd l0 a1)) 5)), .int .i64 (Int.tmod (wrap64 (rd l0 a1)) 5), .int .i64 (wrap64 (rd l0 (ji19)))]] rfl (by (try simp only [List.map_toArray, List.map_cons, List.map_nil]); first | done | (simp only [hji19]; rfl) | rfl | (simp only [List.length_drop, List.length_take]; rfl)) ?_; (with_reducible refine (impl_OpOk.calls k (wrap64 (Int.tdiv (wrap64 (rd l0 a1)) 5)) (Int.tmod (wrap64 (rd l0 a1)) 5) (wrap64 (rd l0 (ji19))) false _ A22.out).mono ?_); rintro e w43 ⟨rfl, hb⟩; refine ⟨_, rfl, ?_⟩; have n0_ := Aside0.mk (blk_below (g := gb328) (o := .cells #[.int .i64 0, .int .i64 0, .int .i64 0] 38 (0, 0)) (by (with_reducible repeat (first | refine blk_drewN ?_ _ | refine blk_drew ?_ | refine blk_alloc ?_ _)); refine blk_far ?_ NB328_332.out _; (with_reducible repeat (first | refine blk_drewN ?_ _ | refine blk_drew ?_ | refine blk_alloc ?_ _)); refine blk_far ?_ NB328_332.out _; (with_reducible repeat (first | refine blk_drewN ?_ _ | refine blk_drew ?_ | refine blk_alloc ?_ _)); refine blk_far ?_ NB328_332.out _; (with_reducible repeat (first | refine blk_drewN ?_ _ | refine blk_drew ?_ | refine blk_alloc ?_ _)); refine blk_far ?_ NB328_332.out _; (with_reducible repeat (first | refine blk_drewN ?_ _ | refine blk_drew ?_ | refine blk_alloc ?_ _)); exact BK328.out) hb); have n1_ := Aside0.mk (blk_below (g := gb332) (o := .cells #[.int .i64 (wrap64 (Int.tdiv (wrap64 (rd l0 a1)) 5)), .int .i64 (Int.tmod (wrap64 (rd l0 a1)) 5), .int .i64 (wrap64 (rd l0 (ji19)))] 38 (0, 0)) (by (with_reducible repeat (first | refine blk_drewN ?_ _ | refine blk_drew ?_ | refine blk_alloc ?_ _)); refine blk_put (cs := #[.int .i64 (wrap64 (Int.tdiv (wrap64 (rd l0 a1)) 5)), .int .i64 (Int.tmod (wrap64 (rd l0 a1)) 5), .int .i64 0]) ?_ 2 _ rfl; (with_reducible repeat (first | refine blk_drewN ?_ _ | refine blk_drew ?_ | refine blk_alloc ?_ _)); refine blk_put (cs := #[.int .i64 (wrap64 (Int.tdiv (wrap64 (rd l0 a1)) 5)), .int .i64 (Int.tmod (wrap64 (rd l0 a1)) 5), .int .i64 0]) ?_ 2 _ rfl; (with_reducible repeat (first | refine blk_drewN ?_ _ | refine blk_drew ?_ | refine blk_alloc ?_ _)); refine blk_put (cs := #[.int .i64 (wrap64 (Int.tdiv (wrap64 (rd l0 a1)) 5)), .int .i64 0, .int .i64 0]) ?_ 1 _ rfl; (with_reducible repeat (first | refine blk_drewN ?_ _ | refine blk_drew ?_ | refine blk_alloc ?_ _)); refine blk_put (cs := #[.int .i64 0, .int .i64 0, .int .i64 0]) ?_ 0 _ rfl; (with_reducible repeat (first | refine blk_drewN ?_ _ | refine blk_drew ?_ | refine blk_alloc ?_ _)); exact BK332.out) hb); have n2_ := Aside0.mk (below_step (by with_reducible repeat (first | exact HB.out | apply below_alloc | apply pw_below_drewN | apply below_drew1 | refine below_set ?_ GE328.out | refine below_set ?_ GE332.out)) hb); clear BK328 BK332 HB; have BK328 := n0_; have BK332 := n1_; have HB := n2_; clear n0_ n1_ n2_; clear hb; have hcz44_0 : w43.cell? ⟨gb328, 0, none⟩ = some (.int .i64 0) := (blk_cell BK328.out 0).trans rfl; have hcz44_1 : w43.cell? ⟨gb328, 1, none⟩ = some (.int .i64 0) := (blk_cell BK328.out 1).trans rfl; have hcz44_2 : w43.cell? ⟨gb328, 2, none⟩ = some (.int .i64 0) := (blk_cell BK328.out 2).trans rfl; have hfz44_0 := blk_frozen BK328.out 0; have hfz44_1 := blk_frozen BK328.out 1; have hfz44_2 := blk_frozen BK328.out 2))
         refine bodyPost_ret (results_ct rfl _ _ gb328 38 #[.int .i64 0, .int .i64 0, .int .i64 0] (0, 0) _ rfl (by (with_reducible repeat (first | refine blk_drewN ?_ _ | refine blk_drew ?_ | refine blk_alloc ?_ _)); refine blk_put (cs := #[.int .i64 0, .int .i64 0, .int .i64 0]) ?_ 2 _ rfl; (with_reducible repeat (first | refine blk_drewN ?_ _ | refine blk_drew ?_ | refine blk_alloc ?_ _)); refine blk_put (cs := #[.int .i64 0, .int .i64 0, .int .i64 0]) ?_ 1 _ rfl; (with_reducible repeat (first | refine blk_drewN ?_ _ | refine blk_drew ?_ | refine blk_alloc ?_ _)); refine blk_put (cs := #[.int .i64 0, .int .i64 0, .int .i64 0]) ?_ 0 _ rfl; (with_reducible repeat (first | refine blk_drewN ?_ _ | refine blk_drew ?_ | refine blk_alloc ?_ _)); exact BK328.out) Try.underlying38 rfl (by kernel_rfl)) rfl ?_
         exact ⟨by first | rfl | (simp [errW_none, errW_some] <;> rfl) | (simp only [← hji19]; first | rfl | (simp [errW_none, errW_some] <;> rfl)) | (simp [*, errW_none, errW_some] <;> rfl), by with_reducible repeat (first | exact HB.out | apply below_alloc | apply pw_below_drewN | apply below_drew1 | refine below_set ?_ GE328.out | refine below_set ?_ GE332.out)⟩
       ·rw [if_neg c21] at H
        exact absurd H (by simp)
      ·rw [if_neg c20] at H
       exact absurd H (by simp)
    ·replace c8 := Bool.eq_false_iff.mpr c8
     subst c8
     have H1 : ((impl_OpOk.f k (wrap64 (Int.tdiv (wrap64 (rd l0 a1)) 5)) (Int.tmod (wrap64 (rd l0 a1)) 5) 0).bind fun t336 => (if t336 = true then (some (wrap64 (Int.tdiv (wrap64 (rd l0 a1)) 5), Int.tmod (wrap64 (rd l0 a1)) 5, 0, wrap64 (a1 + 1))) else (some (0, 0, 0, (-1))))) = some (r1, r2, r3, r4) := by rw [if_neg (show ¬ (false = true) by decide)] at H; exact H
     clear H
     have H := H1
     clear H1
     replace H := Option.bind_eq_some_iff.mp H
     obtain ⟨t336, A450, H⟩ := H
     replace H : (if t336 = true then (some (wrap64 (Int.tdiv (wrap64 (rd l0 a1)) 5), Int.tmod (wrap64 (rd l0 a1)) 5, 0, wrap64 (a1 + 1))) else (some (0, 0, 0, (-1)))) = some (r1, r2, r3, r4) := H
     have A45 := Aside0.mk A450
     clear A450
     by_cases c46 : t336 = true
     ·subst c46
      have H1 : (some (wrap64 (Int.tdiv (wrap64 (rd l0 a1)) 5), Int.tmod (wrap64 (rd l0 a1)) 5, 0, wrap64 (a1 + 1))) = some (r1, r2, r3, r4) := by rw [if_pos rfl] at H; exact H
      clear H
      have H := H1
      clear H1
      simp only [Option.some.injEq, Prod.mk.injEq] at H
      obtain ⟨rfl, rfl, rfl, rfl⟩ := H
      have hnb53 := NB332_328.out
      have hnc53 := NB328_332.out
      have hcz54_0 : w12.cell? ⟨gb332, 0, none⟩ = some (.int .i64 0) := (blk_cell BK332.out 0).trans rfl
      have hcz54_1 : w12.cell? ⟨gb332, 1, none⟩ = some (.int .i64 0) := (blk_cell BK332.out 1).trans rfl
      have hcz54_2 : w12.cell? ⟨gb332, 2, none⟩ = some (.int .i64 0) := (blk_cell BK332.out 2).trans rfl
      have hfz54_0 := blk_frozen BK332.out 0
      have hfz54_1 := blk_frozen BK332.out 1
      have hfz54_2 := blk_frozen BK332.out 2
      try go_wp2_with (first | (go_at_call 43; (with_reducible refine (impl_hasX.calls (wrap64 (Int.tdiv (wrap64 (rd l0 a1)) 5)) false _ A7.out).mono ?_); rintro e w' ⟨rfl, ⟨nd, rfl⟩⟩) | (go_at_call 24; (with_reducible refine (impl_OpOk.calls k (wrap64 (Int.tdiv (wrap64 (rd l0 a1)) 5)) (Int.tmod (wrap64 (rd l0 a1)) 5) 0 true _ A45.out).mono ?_); rintro e w55 ⟨rfl, hb⟩; have n0_ := Aside0.mk (blk_below (g := gb328) (o := .cells #[.int .i64 0, .int .i64 0, .int .i64 0] 38 (0, 0)) (by (with_reducible repeat (first | refine blk_drewN ?_ _ | refine blk_drew ?_ | refine blk_alloc ?_ _)); refine blk_far ?_ NB328_332.out _; (with_reducible repeat (first | refine blk_drewN ?_ _ | refine blk_drew ?_ | refine blk_alloc ?_ _)); refine blk_far ?_ NB328_332.out _; (with_reducible repeat (first | refine blk_drewN ?_ _ | refine blk_drew ?_ | refine blk_alloc ?_ _)); refine blk_far ?_ NB328_332.out _; (with_reducible repeat (first | refine blk_drewN ?_ _ | refine blk_drew ?_ | refine blk_alloc ?_ _)); exact BK328.out) hb); have n1_ := Aside0.mk (blk_below (g := gb332) (o := .cells #[.int .i64 (wrap64 (Int.tdiv (wrap64 (rd l0 a1)) 5)), .int .i64 (Int.tmod (wrap64 (rd l0 a1)) 5), .int .i64 0] 38 (0, 0)) (by (with_reducible repeat (first | refine blk_drewN ?_ _ | refine blk_drew ?_ | refine blk_alloc ?_ _)); refine blk_put (cs := #[.int .i64 (wrap64 (Int.tdiv (wrap64 (rd l0 a1)) 5)), .int .i64 (Int.tmod (wrap64 (rd l0 a1)) 5), .int .i64 0]) ?_ 2 _ rfl; (with_reducible repeat (first | refine blk_drewN ?_ _ | refine blk_drew ?_ | refine blk_alloc ?_ _)); refine blk_put (cs := #[.int .i64 (wrap64 (Int.tdiv (wrap64 (rd l0 a1)) 5)), .int .i64 0, .int .i64 0]) ?_ 1 _ rfl; (with_reducible repeat (first | refine blk_drewN ?_ _ | refine blk_drew ?_ | refine blk_alloc ?_ _)); refine blk_put (cs := #[.int .i64 0, .int .i64 0, .int .i64 0]) ?_ 0 _ rfl; (with_reducible repeat (first | refine blk_drewN ?_ _ | refine blk_drew ?_ | refine blk_alloc ?_ _)); exact BK332.out) hb); have n2_ := Aside0.mk (below_step (by with_reducible repeat (first | exact HB.out | apply below_alloc | apply pw_below_drewN | apply below_drew1 | refine below_set ?_ GE328.out | refine below_set ?_ GE332.out)) hb); clear BK328 BK332 HB; have BK328 := n0_; have BK332 := n1_; have HB := n2_; clear n0_ n1_ n2_; clear hb; have hcz56_0 : w55.cell? ⟨gb332, 0, none⟩ = some (.int .i64 (wrap64 (Int.tdiv (wrap64 (rd l0 a1)) 5))) := (blk_cell BK332.out 0).trans rfl; have hcz56_1 : w55.cell? ⟨gb332, 1, none⟩ = some (.int .i64 (Int.tmod (wrap64 (rd l0 a1)) 5)) := (blk_cell BK332.out 1).trans rfl; have hcz56_2 : w55.cell? ⟨gb332, 2, none⟩ = some (.int .i64 0) := (blk_cell BK332.out 2).trans rfl; have hfz56_0 := blk_frozen BK332.out 0; have hfz56_1 := blk_frozen BK332.out 1; have hfz56_2 := blk_frozen BK332.out 2; have hcz57_0 : w55.cell? ⟨gb328, 0, none⟩ = some (.int .i64 0) := (blk_cell BK328.out 0).trans rfl; have hcz57_1 : w55.cell? ⟨gb328, 1, none⟩ = some (.int .i64 0) := (blk_cell BK328.out 1).trans rfl; have hcz57_2 : w55.cell? ⟨gb328, 2, none⟩ = some (.int .i64 0) := (blk_cell BK328.out 2).trans rfl; have hfz57_0 := blk_frozen BK328.out 0; have hfz57_1 := blk_frozen BK328.out 1; have hfz57_2 := blk_frozen BK328.out 2))
      refine bodyPost_ret (results_ct rfl _ _ gb328 38 #[.int .i64 (wrap64 (Int.tdiv (wrap64 (rd l0 a1)) 5)), .int .i64 (Int.tmod (wrap64 (rd l0 a1)) 5), .int .i64 0] (0, 0) _ rfl (by (with_reducible repeat (first | refine blk_drewN ?_ _ | refine blk_drew ?_ | refine blk_alloc ?_ _)); refine blk_put (cs := #[.int .i64 (wrap64 (Int.tdiv (wrap64 (rd l0 a1)) 5)), .int .i64 (Int.tmod (wrap64 (rd l0 a1)) 5), .int .i64 0]) ?_ 2 _ rfl; (with_reducible repeat (first | refine blk_drewN ?_ _ | refine blk_drew ?_ | refine blk_alloc ?_ _)); refine blk_put (cs := #[.int .i64 (wrap64 (Int.tdiv (wrap64 (rd l0 a1)) 5)), .int .i64 0, .int .i64 0]) ?_ 1 _ rfl; (with_reducible repeat (first | refine blk_drewN ?_ _ | refine blk_drew ?_ | refine blk_alloc ?_ _)); refine blk_put (cs := #[.int .i64 0, .int .i64 0, .int .i64 0]) ?_ 0 _ rfl; (with_reducible repeat (first | refine blk_drewN ?_ _ | refine blk_drew ?_ | refine blk_alloc ?_ _)); exact BK328.out) Try.underlying38 rfl (by kernel_rfl)) rfl ?_
      exact ⟨by first | rfl | (simp [errW_none, errW_some] <;> rfl) | (simp [*, errW_none, errW_some] <;> rfl), by with_reducible repeat (first | exact HB.out | apply below_alloc | apply pw_below_drewN | apply below_drew1 | refine below_set ?_ GE328.out | refine below_set ?_ GE332.out)⟩
     ·replace c46 := Bool.eq_false_iff.mpr c46
      subst c46
      have H1 : (some (0, 0, 0, (-1))) = some (r1, r2, r3, r4) := by rw [if_neg (show ¬ (false = true) by decide)] at H; exact H
      clear H
      have H := H1
      clear H1
      simp only [Option.some.injEq, Prod.mk.injEq] at H
      obtain ⟨rfl, rfl, rfl, rfl⟩ := H
      have hnb64 := NB332_328.out
      have hnc64 := NB328_332.out
      have hcz65_0 : w12.cell? ⟨gb332, 0, none⟩ = some (.int .i64 0) := (blk_cell BK332.out 0).trans rfl
      have hcz65_1 : w12.cell? ⟨gb332, 1, none⟩ = some (.int .i64 0) := (blk_cell BK332.out 1).trans rfl
      have hcz65_2 : w12.cell? ⟨gb332, 2, none⟩ = some (.int .i64 0) := (blk_cell BK332.out 2).trans rfl
      have hfz65_0 := blk_frozen BK332.out 0
      have hfz65_1 := blk_frozen BK332.out 1
      have hfz65_2 := blk_frozen BK332.out 2
      try go_wp2_with (first | (go_at_call 43; (with_reducible refine (impl_hasX.calls (wrap64 (Int.tdiv (wrap64 (rd l0 a1)) 5)) false _ A7.out).mono ?_); rintro e w' ⟨rfl, ⟨nd, rfl⟩⟩) | (go_at_call 24; (with_reducible refine (impl_OpOk.calls k (wrap64 (Int.tdiv (wrap64 (rd l0 a1)) 5)) (Int.tmod (wrap64 (rd l0 a1)) 5) 0 false _ A45.out).mono ?_); rintro e w66 ⟨rfl, hb⟩; have n0_ := Aside0.mk (blk_below (g := gb328) (o := .cells #[.int .i64 0, .int .i64 0, .int .i64 0] 38 (0, 0)) (by (with_reducible repeat (first | refine blk_drewN ?_ _ | refine blk_drew ?_ | refine blk_alloc ?_ _)); refine blk_far ?_ NB328_332.out _; (with_reducible repeat (first | refine blk_drewN ?_ _ | refine blk_drew ?_ | refine blk_alloc ?_ _)); refine blk_far ?_ NB328_332.out _; (with_reducible repeat (first | refine blk_drewN ?_ _ | refine blk_drew ?_ | refine blk_alloc ?_ _)); refine blk_far ?_ NB328_332.out _; (with_reducible repeat (first | refine blk_drewN ?_ _ | refine blk_drew ?_ | refine blk_alloc ?_ _)); exact BK328.out) hb); have n1_ := Aside0.mk (blk_below (g := gb332) (o := .cells #[.int .i64 (wrap64 (Int.tdiv (wrap64 (rd l0 a1)) 5)), .int .i64 (Int.tmod (wrap64 (rd l0 a1)) 5), .int .i64 0] 38 (0, 0)) (by (with_reducible repeat (first | refine blk_drewN ?_ _ | refine blk_drew ?_ | refine blk_alloc ?_ _)); refine blk_put (cs := #[.int .i64 (wrap64 (Int.tdiv (wrap64 (rd l0 a1)) 5)), .int .i64 (Int.tmod (wrap64 (rd l0 a1)) 5), .int .i64 0]) ?_ 2 _ rfl; (with_reducible repeat (first | refine blk_drewN ?_ _ | refine blk_drew ?_ | refine blk_alloc ?_ _)); refine blk_put (cs := #[.int .i64 (wrap64 (Int.tdiv (wrap64 (rd l0 a1)) 5)), .int .i64 0, .int .i64 0]) ?_ 1 _ rfl; (with_reducible repeat (first | refine blk_drewN ?_ _ | refine blk_drew ?_ | refine blk_alloc ?_ _)); refine blk_put (cs := #[.int .i64 0, .int .i64 0, .int .i64 0]) ?_ 0 _ rfl; (with_reducible repeat (first | refine blk_drewN ?_ _ | refine blk_drew ?_ | refine blk_alloc ?_ _)); exact BK332.out) hb); have n2_ := Aside0.mk (below_step (by with_reducible repeat (first | exact HB.out | apply below_alloc | apply pw_below_drewN | apply below_drew1 | refine below_set ?_ GE328.out | refine below_set ?_ GE332.out)) hb); clear BK328 BK332 HB; have BK328 := n0_; have BK332 := n1_; have HB := n2_; clear n0_ n1_ n2_; clear hb; have hcz67_0 : w66.cell? ⟨gb328, 0, none⟩ = some (.int .i64 0) := (blk_cell BK328.out 0).trans rfl; have hcz67_1 : w66.cell? ⟨gb328, 1, none⟩ = some (.int .i64 0) := (blk_cell BK328.out 1).trans rfl; have hcz67_2 : w66.cell? ⟨gb328, 2, none⟩ = some (.int .i64 0) := (blk_cell BK328.out 2).trans rfl; have hfz67_0 := blk_frozen BK328.out 0; have hfz67_1 := blk_frozen BK328.out 1; have hfz67_2 := blk_frozen BK328.out 2))
      refine bodyPost_ret (results_ct rfl _ _ gb328 38 #[.int .i64 0, .int .i64 0, .int .i64 0] (0, 0) _ rfl (by (with_reducible repeat (first | refine blk_drewN ?_ _ | refine blk_drew ?_ | refine blk_alloc ?_ _)); refine blk_put (cs := #[.int .i64 0, .int .i64 0, .int .i64 0]) ?_ 2 _ rfl; (with_reducible repeat (first | refine blk_drewN ?_ _ | refine blk_drew ?_ | refine blk_alloc ?_ _)); refine blk_put (cs := #[.int .i64 0, .int .i64 0, .int .i64 0]) ?_ 1 _ rfl; (with_reducible repeat (first | refine blk_drewN ?_ _ | refine blk_drew ?_ | refine blk_alloc ?_ _)); refine blk_put (cs := #[.int .i64 0, .int .i64 0, .int .i64 0]) ?_ 0 _ rfl; (with_reducible repeat (first | refine blk_drewN ?_ _ | refine blk_drew ?_ | refine blk_alloc ?_ _)); exact BK328.out) Try.underlying38 rfl (by kernel_rfl)) rfl ?_
      exact ⟨by first | rfl | (simp [errW_none, errW_some] <;> rfl) | (simp [*, errW_none, errW_some] <;> rfl), by with_reducible repeat (first | exact HB.out | apply below_alloc | apply pw_below_drewN | apply below_drew1 | refine below_set ?_ GE328.out | refine below_set ?_ GE332.out)⟩
   ·rw [if_neg c6] at H
    exact absurd H (by simp)
  ·rw [if_neg c5] at H
   exact absurd H (by simp)
 ·replace c4 := Bool.eq_false_iff.mpr c4
  subst c4
  have H1 : (some (0, 0, 0, (-1))) = some (r1, r2, r3, r4) := by rw [if_neg (show ¬ (false = true) by decide)] at H; exact H
  clear H
  have H := H1
  clear H1
  simp only [Option.some.injEq, Prod.mk.injEq] at H
  obtain ⟨rfl, rfl, rfl, rfl⟩ := H
  go_enter Try.func46, Try.ntmps46
  go_wp2_with (first | ((with_reducible refine gate_dst (N := 4) rfl ?_); refine box_event ?hg (N := 4) ?hd (cs := #[.int .i64 0, .int .i64 0, .int .i64 0]) (t := 38) ?hr ?_; (case hd => rfl); (case hg => rfl); (case hr => first | (go_simp; done) | (go_simp; rfl)); intro gb328 hg w68 hbox hb; have n0_ := Aside0.mk (below_step (by with_reducible repeat (first | exact HB.out | apply below_alloc | apply pw_below_drewN | apply below_drew1)) hb); have n1_ := Aside0.mk (hbox); have n2_ := Aside0.mk ((by rw [hg]; exact (below_size (by with_reducible repeat (first | exact HB.out | apply below_alloc | apply pw_below_drewN | apply below_drew1))) : w.heap.size ≤ gb328)); have n3_ := Aside0.mk ((by rw [hg]; exact (below_size (by with_reducible repeat (first | exact HB.out | apply below_alloc | apply pw_below_drewN | apply below_drew1))) : w.heap.size ≤ gb328)); clear HB; have HB := n0_; have BK328 := n1_; have GW328 := n2_; have GE328 := n3_; clear n0_ n1_ n2_ n3_; clear hb hbox hg) | (go_at_call 28; (with_reducible refine (impl_within.calls a1 0 (wrap64 ((l0.length : Int) - 1)) false _ A3.out).mono ?_); rintro e w' ⟨rfl, ⟨nd, rfl⟩⟩; (try (rw [drewN_self w68]; generalize hq_ : World.drewN w68 _ = w68; have n0_ : Aside0 (w68.heap[gb328]? = some (.cells #[.int .i64 0, .int .i64 0, .int .i64 0] 38 (0, 0))) := ⟨by rw [← hq_]; exact (by (with_reducible repeat (first | refine blk_drewN ?_ _ | refine blk_drew ?_ | refine blk_alloc ?_ _)); exact BK328.out)⟩; have n1_ : Aside0 (Below w.heap.size w w68) := ⟨by rw [← hq_]; exact (by with_reducible repeat (first | exact HB.out | apply below_alloc | apply pw_below_drewN | apply below_drew1 | refine below_set ?_ GE328.out))⟩; clear BK328 HB hq_; have BK328 := n0_; have HB := n1_; clear n0_ n1_)); have hcz69_0 : w68.cell? ⟨gb328, 0, none⟩ = some (.int .i64 0) := (blk_cell BK328.out 0).trans rfl; have hcz69_1 : w68.cell? ⟨gb328, 1, none⟩ = some (.int .i64 0) := (blk_cell BK328.out 1).trans rfl; have hcz69_2 : w68.cell? ⟨gb328, 2, none⟩ = some (.int .i64 0) := (blk_cell BK328.out 2).trans rfl; have hfz69_0 := blk_frozen BK328.out 0; have hfz69_1 := blk_frozen BK328.out 1; have hfz69_2 := blk_frozen BK328.out 2))
  refine bodyPost_ret (results_ct rfl _ _ gb328 38 #[.int .i64 0, .int .i64 0, .int .i64 0] (0, 0) _ rfl (by (with_reducible repeat (first | refine blk_drewN ?_ _ | refine blk_drew ?_ | refine blk_alloc ?_ _)); refine blk_put (cs := #[.int .i64 0, .int .i64 0, .int .i64 0]) ?_ 2 _ rfl; (with_reducible repeat (first | refine blk_drewN ?_ _ | refine blk_drew ?_ | refine blk_alloc ?_ _)); refine blk_put (cs := #[.int .i64 0, .int .i64 0, .int .i64 0]) ?_ 1 _ rfl; (with_reducible repeat (first | refine blk_drewN ?_ _ | refine blk_drew ?_ | refine blk_alloc ?_ _)); refine blk_put (cs := #[.int .i64 0, .int .i64 0, .int .i64 0]) ?_ 0 _ rfl; (with_reducible repeat (first | refine blk_drewN ?_ _ | refine blk_drew ?_ | refine blk_alloc ?_ _)); exact BK328.out) Try.underlying38 rfl (by kernel_rfl)) rfl ?_
  exact ⟨by first | rfl | (simp [errW_none, errW_some] <;> rfl) | (simp [*, errW_none, errW_some] <;> rfl), by with_reducible repeat (first | exact HB.out | apply below_alloc | apply pw_below_drewN | apply below_drew1 | refine below_set ?_ GE328.out)⟩

end Go.Proofs.Ytbjhaaibmjlhhaa.Q
