-- Written by a program of this session (qprint.py) over the kit's print: Lean checks every line.
import Derived.Test.YthhfkicmgneokaaQx0
import Derived.Test.YthhfkicmgneokaaQx2
import Derived.Test.YthhfkicmgneokaaQx9
import Derived.Test.YthhfkicmgneokaaQx12
import Derived.Test.YthhfkicmgneokaaQx19
import Derived.Test.YthhfkicmgneokaaQx25
import Derived.Test.YthhfkicmgneokaaHa
import Derived.Test.YthhfkicmgneokaaHe
import Derived.Test.YthhfkicmgneokaaHf
import Derived.Test.YthhfkicmgneokaaHg
import Derived.Test.YthhfkicmgneokaaHh
import Derived.Test.YthhfkicmgneokaaHi
namespace Go.Proofs.Ythhfkicmgneokaa.Q
open Go.RowKit Go.Proofs.YthhfkicmgneokaaW.PrintWords Go.Proofs.YthhfkicmgneokaaW.PrintLast Go.Proofs.YthhfkicmgneokaaW.PrintMore
attribute [local go_sem] max2_int min2_int max_two min_two max_three min_three max_four min_four   -- for this text's walks alone
set_option linter.unusedVariables false
set_option linter.unusedSimpArgs false

/-! ### impl_InRow: function 26 -/
def impl_InRow.l0 : Nat → List (S55) → Int → Option (Bool)
 | 0, _, _ => none
 | k + 1, x0, x3 => if x3 < (x0.length : Int) then (if 0 ≤ (wrap64 (x3 - 1)) then (if (wrap64 (x3 - 1)) < (x0.length : Int) then (if 0 ≤ x3 then ((impl_Ahead.f k ((rd_T55 x0 (wrap64 (x3 - 1))).f0) ((rd_T55 x0 (wrap64 (x3 - 1))).f1) ((rd_T55 x0 (wrap64 (x3 - 1))).f2) ((rd_T55 x0 (wrap64 (x3 - 1))).f3) ((rd_T55 x0 (wrap64 (x3 - 1))).f4) ((rd_T55 x0 x3).f0) ((rd_T55 x0 x3).f1) ((rd_T55 x0 x3).f2) ((rd_T55 x0 x3).f3) ((rd_T55 x0 x3).f4)).bind fun t416 => (if t416 = true then (impl_InRow.l0 k x0 (wrap64 (x3 + 1))) else (some false))) else (none)) else (none)) else (none)) else ((impl_areCalls.f x0).bind fun t417 => (some t417))
def impl_InRow.f (k : Nat) (l0 : List (S55)) : Option (Bool) := impl_InRow.l0 k l0 1
theorem impl_InRow.mono_l : ∀ k, (∀ y0 y1, LeO (impl_InRow.l0 k y0 y1) (impl_InRow.l0 (k + 1) y0 y1))
 | 0 => fun _ _ r h => by simp [impl_InRow.l0] at h
 | k + 1 => by
  have ih0 := impl_InRow.mono_l k
  ·intro y0 y1
   unfold impl_InRow.l0
   repeat' first
   | (with_reducible exact ih0 _ _)
   | (with_reducible exact impl_Ahead.mono _ _ _ _ _ _ _ _ _ _ _)
   | (with_reducible exact LeO.refl _)
   | (with_reducible exact LeO.none _)
   | (with_reducible refine LeO.ite ?_ ?_)
   | (with_reducible refine LeO.bind ?_ (fun _ => ?_))
theorem impl_InRow.mono : ∀ a0 k, LeO (impl_InRow.f k a0) (impl_InRow.f (k + 1) a0) := by
 intro a0 k
 have ih0 := impl_InRow.mono_l k
 unfold impl_InRow.f
 repeat' first
   | (with_reducible exact ih0 _ _)
   | (with_reducible exact impl_Ahead.mono _ _ _ _ _ _ _ _ _ _ _)
   | (with_reducible exact LeO.refl _)
   | (with_reducible exact LeO.none _)
   | (with_reducible refine LeO.ite ?_ ?_)
   | (with_reducible refine LeO.bind ?_ (fun _ => ?_))
def impl_InRow.T4 : Bool × List (List Nat × List Nat) := (true, [([], []), ([], []), ([1], [1]), ([0, 2], [0, 2]), ([3], [3]), ([], []), ([], []), ([5, 6], [5, 6]), ([7], [7]), ([4, 8], [4, 8]), ([9], [9])])
def impl_InRow.B4 : List Nat := [0, 0, 2, 7, 15, 0, 0, 96, 224, 511, 1023]
theorem impl_InRow.tab4 : rtab .any (opsOf Try.f26 4) = impl_InRow.T4 := by kernel_rfl
theorem impl_InRow.bits4 : waitsOk impl_InRow.T4.2 impl_InRow.B4 = true := by kernel_rfl
set_option maxHeartbeats 8000000 in
set_option maxRecDepth 100000 in
theorem impl_InRow.calls (k : Nat) (A0 : Option Addr) (c0 : Nat) (l0 : List (S55)) (r : Bool) (w : World) (hr0 : Kd.C k55 w A0 l0.length l0) (hc0 : l0.length ≤ c0) (h : impl_InRow.f k l0 = some r) :
  Calls Try.prog 26 #[.slice A0 l0.length c0] w fun e w' => e = .returned (.bool r) ∧ Below w.heap.size w w' := by
 have hu55 := Try.underlying55
 have HR0 := Aside0.mk hr0
 have HC0 := Aside0.mk hc0
 clear hr0 hc0
 have HB := Aside0.mk (Below.refl w.heap.size w)
 have H : (impl_InRow.l0 k l0 1) = some r := h
 clear h
 have H' := Aside0.mk H
 clear H
 go_enter Try.func26, Try.ntmps26
 go_wp2
 go_loopg [3] k (fun kq v3 w' => ∃ (x3_1 : Int), v3 = .int .i64 x3_1 ∧ Aside0 (impl_InRow.l0 kq l0 x3_1 = some r) ∧ Aside0 (kq ≤ k) ∧ Aside0 (Below w.heap.size w w'))
 case atStart => exact ⟨(1), (by first | rfl | simp | simp [*]), H', ⟨Nat.le_refl _⟩, ⟨by with_reducible repeat (first | exact HB.out | apply below_alloc | apply pw_below_drewN | apply below_drew1)⟩⟩
 case round =>
  clear H'
  obtain ⟨x3_1, rfl, HA, HK1, HB⟩ := hrel
  cases gk with
  | zero => exact absurd HA.out (by simp [impl_InRow.l0])
  | succ k1 =>
   have H := HA.out
   clear HA
   simp only [impl_InRow.l0] at H
   by_cases c2 : x3_1 < (l0.length : Int)
   ·rw [if_pos c2] at H
    have c2b0 : decide (x3_1 < (l0.length : Int)) = true := decide_eq_true c2
    clear c2
    obtain ⟨ji3, hji3⟩ : ∃ j_ : Int, (wrap64 (x3_1 - 1)) = j_ := ⟨_, rfl⟩
    replace H : (if 0 ≤ (ji3) then (if (ji3) < (l0.length : Int) then (if 0 ≤ x3_1 then ((impl_Ahead.f k1 ((rd_T55 l0 (ji3)).f0) ((rd_T55 l0 (ji3)).f1) ((rd_T55 l0 (ji3)).f2) ((rd_T55 l0 (ji3)).f3) ((rd_T55 l0 (ji3)).f4) ((rd_T55 l0 x3_1).f0) ((rd_T55 l0 x3_1).f1) ((rd_T55 l0 x3_1).f2) ((rd_T55 l0 x3_1).f3) ((rd_T55 l0 x3_1).f4)).bind fun t416 => (if t416 = true then (impl_InRow.l0 k1 l0 (wrap64 (x3_1 + 1))) else (some false))) else (none)) else (none)) else (none)) = some r := by first | (rw [hji3] at H; exact H) | (simp only [hji3] at H ⊢; exact H)
    have hji3w : (IntKind.i64.wrap (x3_1 - 1)) = ji3 := (i64_w _).trans hji3
    by_cases c4 : 0 ≤ (ji3)
    ·rw [if_pos c4] at H
     have c4b0 : decide (0 ≤ (ji3)) = true := decide_eq_true c4
     clear c4
     by_cases c5 : (ji3) < (l0.length : Int)
     ·rw [if_pos c5] at H
      have c5b0 : decide ((ji3) < (l0.length : Int)) = true := decide_eq_true c5
      clear c5
      by_cases c6 : 0 ≤ x3_1
      ·rw [if_pos c6] at H
       have c6b0 : decide (0 ≤ x3_1) = true := decide_eq_true c6
       clear c6
       replace H := Option.bind_eq_some_iff.mp H
       obtain ⟨t416, A70, H⟩ := H
       replace H : (if t416 = true then (impl_InRow.l0 k1 l0 (wrap64 (x3_1 + 1))) else (some false)) = some r := H
       have A7 := Aside0.mk A70
       clear A70
       by_cases c8 : t416 = true
       ·subst c8
        have H1 : (impl_InRow.l0 k1 l0 (wrap64 (x3_1 + 1))) = some r := by rw [if_pos rfl] at H; exact H
        clear H
        have H := H1
        clear H1
        have H' := Aside0.mk H
        clear H
        try go_wp2
        have n0_ := Aside0.mk (below_drew1 HB.out)
        clear HB
        have HB := n0_
        clear n0_
        have p414 : 0 ≤ ((ji3) : Int) := of_decide_eq_true (by first | (with_reducible assumption) | assumption)
        have q414 : (ji3) < (l0.length : Int) := of_decide_eq_true (by first | (with_reducible assumption) | assumption)
        obtain ⟨ad414, e414, hx414_0, hx414_1, hx414_2, hx414_3, hx414_4⟩ := at_T55 HR0.out (ji3) p414 q414
        have hw414_4 := hx414_4
        have hw414_3 := hx414_3
        have hw414_2 := hx414_2
        have hw414_1 := hx414_1
        have hw414_0 := hx414_0
        cases e414
        replace hx414_0 := (HB.out.cell (World.block_lt_of_cell? w _ hx414_0)).trans hx414_0
        replace hx414_1 := (HB.out.cell (World.block_lt_of_cell? w _ hx414_1)).trans hx414_1
        replace hx414_2 := (HB.out.cell (World.block_lt_of_cell? w _ hx414_2)).trans hx414_2
        replace hx414_3 := (HB.out.cell (World.block_lt_of_cell? w _ hx414_3)).trans hx414_3
        replace hx414_4 := (HB.out.cell (World.block_lt_of_cell? w _ hx414_4)).trans hx414_4
        replace p414 := eq_true p414
        replace q414 := eq_true q414
        have p415 : 0 ≤ (x3_1 : Int) := of_decide_eq_true (by first | (with_reducible assumption) | assumption)
        have q415 : x3_1 < (l0.length : Int) := of_decide_eq_true (by first | (with_reducible assumption) | assumption)
        obtain ⟨ad415, e415, hx415_0, hx415_1, hx415_2, hx415_3, hx415_4⟩ := at_T55 HR0.out x3_1 p415 q415
        have hw415_4 := hx415_4
        have hw415_3 := hx415_3
        have hw415_2 := hx415_2
        have hw415_1 := hx415_1
        have hw415_0 := hx415_0
        obtain rfl : ad414 = ad415 := (by injection e415)
        replace hx415_0 := (HB.out.cell (World.block_lt_of_cell? w _ hx415_0)).trans hx415_0
        replace hx415_1 := (HB.out.cell (World.block_lt_of_cell? w _ hx415_1)).trans hx415_1
        replace hx415_2 := (HB.out.cell (World.block_lt_of_cell? w _ hx415_2)).trans hx415_2
        replace hx415_3 := (HB.out.cell (World.block_lt_of_cell? w _ hx415_3)).trans hx415_3
        replace hx415_4 := (HB.out.cell (World.block_lt_of_cell? w _ hx415_4)).trans hx415_4
        replace p415 := eq_true p415
        replace q415 := eq_true q415
        refine start_ (n := 11) (S := fun w' => w'.cell? (ad414.add (((ji3)).toNat * 5)) = some (.bool ((rd_T55 l0 (ji3)).f0)) ∧ w'.cell? ⟨(ad414.add (((ji3)).toNat * 5)).block, (ad414.add (((ji3)).toNat * 5)).off + 1, none⟩ = some (.int .i64 ((rd_T55 l0 (ji3)).f1)) ∧ w'.cell? ⟨(ad414.add (((ji3)).toNat * 5)).block, (ad414.add (((ji3)).toNat * 5)).off + 2, none⟩ = some (.int .i64 ((rd_T55 l0 (ji3)).f2)) ∧ w'.cell? ⟨(ad414.add (((ji3)).toNat * 5)).block, (ad414.add (((ji3)).toNat * 5)).off + 3, none⟩ = some (.int .i64 ((rd_T55 l0 (ji3)).f3)) ∧ w'.cell? ⟨(ad414.add (((ji3)).toNat * 5)).block, (ad414.add (((ji3)).toNat * 5)).off + 4, none⟩ = some (.int .i64 ((rd_T55 l0 (ji3)).f4)) ∧ w'.cell? (ad414.add ((x3_1).toNat * 5)) = some (.bool ((rd_T55 l0 x3_1).f0)) ∧ w'.cell? ⟨(ad414.add ((x3_1).toNat * 5)).block, (ad414.add ((x3_1).toNat * 5)).off + 1, none⟩ = some (.int .i64 ((rd_T55 l0 x3_1).f1)) ∧ w'.cell? ⟨(ad414.add ((x3_1).toNat * 5)).block, (ad414.add ((x3_1).toNat * 5)).off + 2, none⟩ = some (.int .i64 ((rd_T55 l0 x3_1).f2)) ∧ w'.cell? ⟨(ad414.add ((x3_1).toNat * 5)).block, (ad414.add ((x3_1).toNat * 5)).off + 3, none⟩ = some (.int .i64 ((rd_T55 l0 x3_1).f3)) ∧ w'.cell? ⟨(ad414.add ((x3_1).toNat * 5)).block, (ad414.add ((x3_1).toNat * 5)).off + 4, none⟩ = some (.int .i64 ((rd_T55 l0 x3_1).f4))) (ds := []) #[false, false, false, false, false, false, false, false, false, false, false] (by kernel_rfl) rfl rfl ⟨((HB.out.cell (World.block_lt_of_cell? w _ hw414_0)).trans hw414_0), ((HB.out.cell (World.block_lt_of_cell? w _ hw414_1)).trans hw414_1), ((HB.out.cell (World.block_lt_of_cell? w _ hw414_2)).trans hw414_2), ((HB.out.cell (World.block_lt_of_cell? w _ hw414_3)).trans hw414_3), ((HB.out.cell (World.block_lt_of_cell? w _ hw414_4)).trans hw414_4), ((HB.out.cell (World.block_lt_of_cell? w _ hw415_0)).trans hw415_0), ((HB.out.cell (World.block_lt_of_cell? w _ hw415_1)).trans hw415_1), ((HB.out.cell (World.block_lt_of_cell? w _ hw415_2)).trans hw415_2), ((HB.out.cell (World.block_lt_of_cell? w _ hw415_3)).trans hw415_3), ((HB.out.cell (World.block_lt_of_cell? w _ hw415_4)).trans hw415_4)⟩ (fun hHeld => ?_); refine with_tabW impl_InRow.tab4 impl_InRow.bits4 (fun HT_ HW_ => ?_)
        generalize wr.drew = w9 at HB hx414_0 hx414_1 hx414_2 hx414_3 hx414_4 hx415_0 hx415_1 hx415_2 hx415_3 hx415_4 hHeld ⊢
        refine pure_ (i := 0) (N := some 10) (v := ?_) (a' := ?_) #[true, false, false, false, false, false, false, false, false, false, false] rfl rfl (any_of HT_.out (by kernel_rfl)) (fun _ _ _ h => h) (Or.inl ⟨by rfl, ?_⟩) ?_ ?_
        rotate_left
        ·intro w'
         go_simp
         with_reducible rfl
        rotate_left
        ·simp only [Act.put, List.setIfInBounds_toArray, List.set_cons_zero, List.set_cons_succ, i64_w, i32_w]
         rfl
        refine pure_ (i := 1) (N := some 11) (v := ?_) (a' := ?_) #[true, true, false, false, false, false, false, false, false, false, false] rfl rfl (any_of HT_.out (by kernel_rfl)) (fun _ _ _ h => h) (Or.inl ⟨by rfl, ?_⟩) ?_ ?_
        rotate_left
        ·intro w'
         go_simp
         with_reducible rfl
        rotate_left
        ·simp only [Act.put, List.setIfInBounds_toArray, List.set_cons_zero, List.set_cons_succ, i64_w, i32_w]
         rfl
        refine pure_ (i := 2) (N := some 12) (v := ?_) (a' := ?_) #[true, true, true, false, false, false, false, false, false, false, false] rfl rfl (any_of HT_.out (by kernel_rfl)) (fun _ _ _ h => h) (Or.inl ⟨by rfl, ?_⟩) ?_ ?_
        rotate_left
        ·intro w'
         go_simp
         with_reducible rfl
        rotate_left
        ·simp only [Act.put, List.setIfInBounds_toArray, List.set_cons_zero, List.set_cons_succ, i64_w, i32_w]
         rfl
        refine pure_ (i := 3) (N := some 13) (v := ?_) (a' := ?_) #[true, true, true, true, false, false, false, false, false, false, false] rfl rfl (any_of HT_.out (by kernel_rfl)) (fun _ _ _ h => h) (Or.inl ⟨by rfl, ?_⟩) ?_ ?_
        rotate_left
        ·intro w'
         go_simp
         with_reducible rfl
        rotate_left
        ·simp only [Act.put, List.setIfInBounds_toArray, List.set_cons_zero, List.set_cons_succ, i64_w, i32_w]
         rfl
        refine pure_ (i := 5) (N := some 15) (v := ?_) (a' := ?_) #[true, true, true, true, false, true, false, false, false, false, false] rfl rfl (any_of HT_.out (by kernel_rfl)) (fun _ _ _ h => h) (Or.inl ⟨by rfl, ?_⟩) ?_ ?_
        rotate_left
        ·intro w'
         go_simp
         with_reducible rfl
        rotate_left
        ·simp only [Act.put, List.setIfInBounds_toArray, List.set_cons_zero, List.set_cons_succ, i64_w, i32_w]
         rfl
        refine pure_ (i := 6) (N := some 16) (v := ?_) (a' := ?_) #[true, true, true, true, false, true, true, false, false, false, false] rfl rfl (any_of HT_.out (by kernel_rfl)) (fun _ _ _ h => h) (Or.inl ⟨by rfl, ?_⟩) ?_ ?_
        rotate_left
        ·intro w'
         go_simp
         with_reducible rfl
        rotate_left
        ·simp only [Act.put, List.setIfInBounds_toArray, List.set_cons_zero, List.set_cons_succ, i64_w, i32_w]
         rfl
        refine pure_ (i := 7) (N := some 17) (v := ?_) (a' := ?_) #[true, true, true, true, false, true, true, true, false, false, false] rfl rfl (any_of HT_.out (by kernel_rfl)) (fun _ _ _ h => h) (Or.inl ⟨by rfl, ?_⟩) ?_ ?_
        rotate_left
        ·intro w'
         go_simp
         with_reducible rfl
        rotate_left
        ·simp only [Act.put, List.setIfInBounds_toArray, List.set_cons_zero, List.set_cons_succ, i64_w, i32_w]
         rfl
        refine take_ (i := 4) (N := some 14) (v := ?_) (a' := ?_) #[true, true, true, true, true, true, true, true, false, false, false] rfl rfl (take_ofW HT_.out HW_.out (by kernel_rfl)) (fun _ _ _ h => h) (Or.inl ⟨by rfl, ?_⟩) hHeld ?_ ?_
        rotate_left
        ·rintro w' ⟨s0, s1, s2, s3, s4, s5, s6, s7, s8, s9⟩
         go_simp
         with_reducible rfl
        rotate_left
        ·simp only [Act.put, List.setIfInBounds_toArray, List.set_cons_zero, List.set_cons_succ, i64_w, i32_w]
         rfl
        refine take_ (i := 8) (N := some 18) (v := ?_) (a' := ?_) #[true, true, true, true, true, true, true, true, true, false, false] rfl rfl (take_ofW HT_.out HW_.out (by kernel_rfl)) (fun _ _ _ h => h) (Or.inl ⟨by rfl, ?_⟩) hHeld ?_ ?_
        rotate_left
        ·rintro w' ⟨s0, s1, s2, s3, s4, s5, s6, s7, s8, s9⟩
         go_simp
         with_reducible rfl
        rotate_left
        ·simp only [Act.put, List.setIfInBounds_toArray, List.set_cons_zero, List.set_cons_succ, i64_w, i32_w]
         rfl
        refine one_ (i := 9) (N := some 19) #[true, true, true, true, true, true, true, true, true, true, false] rfl rfl (one_of HT_.out (by kernel_rfl)) (by decide) (fun K hK => ?_)
        refine goes_ Try.func51 (by kernel_rfl) rfl #[.agg #[.bool ((rd_T55 l0 (ji3)).f0), .int .i64 ((rd_T55 l0 (ji3)).f1), .int .i64 ((rd_T55 l0 (ji3)).f2), .int .i64 ((rd_T55 l0 (ji3)).f3), .int .i64 ((rd_T55 l0 (ji3)).f4)], .agg #[.bool ((rd_T55 l0 x3_1).f0), .int .i64 ((rd_T55 l0 x3_1).f1), .int .i64 ((rd_T55 l0 x3_1).f2), .int .i64 ((rd_T55 l0 x3_1).f3), .int .i64 ((rd_T55 l0 x3_1).f4)]] (by rfl) rfl rfl (by (try simp only [List.map_toArray, List.map_cons, List.map_nil]); first | done | (simp only [hji3]; rfl) | rfl | (simp only [List.length_drop, List.length_take]; rfl)) ?_
        with_reducible refine (impl_Ahead.calls k1 ((rd_T55 l0 (ji3)).f0) ((rd_T55 l0 (ji3)).f1) ((rd_T55 l0 (ji3)).f2) ((rd_T55 l0 (ji3)).f3) ((rd_T55 l0 (ji3)).f4) ((rd_T55 l0 x3_1).f0) ((rd_T55 l0 x3_1).f1) ((rd_T55 l0 x3_1).f2) ((rd_T55 l0 x3_1).f3) ((rd_T55 l0 x3_1).f4) true _ A7.out).mono ?_
        rintro e w10 ⟨rfl, hb⟩
        refine ⟨_, rfl, ?_⟩
        have n0_ := Aside0.mk (below_step (by with_reducible repeat (first | exact HB.out | apply below_alloc | apply pw_below_drewN | apply below_drew1)) hb)
        clear HB
        have HB := n0_
        clear n0_
        (try clear hb)
        (try clear hb2)
        (try clear hk)
        (try clear hi)
        refine hK.out _ _ ⟨((HB.out.cell (World.block_lt_of_cell? w _ hw414_0)).trans hw414_0), ((HB.out.cell (World.block_lt_of_cell? w _ hw414_1)).trans hw414_1), ((HB.out.cell (World.block_lt_of_cell? w _ hw414_2)).trans hw414_2), ((HB.out.cell (World.block_lt_of_cell? w _ hw414_3)).trans hw414_3), ((HB.out.cell (World.block_lt_of_cell? w _ hw414_4)).trans hw414_4), ((HB.out.cell (World.block_lt_of_cell? w _ hw415_0)).trans hw415_0), ((HB.out.cell (World.block_lt_of_cell? w _ hw415_1)).trans hw415_1), ((HB.out.cell (World.block_lt_of_cell? w _ hw415_2)).trans hw415_2), ((HB.out.cell (World.block_lt_of_cell? w _ hw415_3)).trans hw415_3), ((HB.out.cell (World.block_lt_of_cell? w _ hw415_4)).trans hw415_4)⟩ (fun hHeld => ?_)
        clear hK K
        refine norm_ (a' := ?_) ?_ ?_
        rotate_left
        ·show Act.put _ (some 19) _ = _
         simp only [Act.put, List.setIfInBounds_toArray, List.set_cons_zero, List.set_cons_succ, i64_w, i32_w]
         rfl
        refine pure_ (i := 10) (N := some 20) (v := ?_) (a' := ?_) #[true, true, true, true, true, true, true, true, true, true, true] rfl rfl (any_of HT_.out (by kernel_rfl)) (fun _ _ _ h => h) (Or.inl ⟨by rfl, ?_⟩) ?_ ?_
        rotate_left
        ·intro w'
         go_simp
         with_reducible rfl
        rotate_left
        ·simp only [Act.put, List.setIfInBounds_toArray, List.set_cons_zero, List.set_cons_succ, i64_w, i32_w]
         rfl
        refine done_ (done_of HT_.out (by kernel_rfl)) ?_
        try go_wp2
        go_roundg k1
        case measure => have := HK1.out; omega
        case rel => exact ⟨(wrap64 (x3_1 + 1)), (by first | rfl | simp | simp [*]), H', ⟨by have := HK1.out; omega⟩, ⟨by with_reducible repeat (first | exact HB.out | apply below_alloc | apply pw_below_drewN | apply below_drew1)⟩⟩
       ·replace c8 := Bool.eq_false_iff.mpr c8
        subst c8
        have H1 : (some false) = some r := by rw [if_neg (show ¬ (false = true) by decide)] at H; exact H
        clear H
        have H := H1
        clear H1
        obtain rfl := Option.some.inj H
        try go_wp2
        have n0_ := Aside0.mk (below_drew1 HB.out)
        clear HB
        have HB := n0_
        clear n0_
        have p414 : 0 ≤ ((ji3) : Int) := of_decide_eq_true (by first | (with_reducible assumption) | assumption)
        have q414 : (ji3) < (l0.length : Int) := of_decide_eq_true (by first | (with_reducible assumption) | assumption)
        obtain ⟨ad414, e414, hx414_0, hx414_1, hx414_2, hx414_3, hx414_4⟩ := at_T55 HR0.out (ji3) p414 q414
        have hw414_4 := hx414_4
        have hw414_3 := hx414_3
        have hw414_2 := hx414_2
        have hw414_1 := hx414_1
        have hw414_0 := hx414_0
        cases e414
        replace hx414_0 := (HB.out.cell (World.block_lt_of_cell? w _ hx414_0)).trans hx414_0
        replace hx414_1 := (HB.out.cell (World.block_lt_of_cell? w _ hx414_1)).trans hx414_1
        replace hx414_2 := (HB.out.cell (World.block_lt_of_cell? w _ hx414_2)).trans hx414_2
        replace hx414_3 := (HB.out.cell (World.block_lt_of_cell? w _ hx414_3)).trans hx414_3
        replace hx414_4 := (HB.out.cell (World.block_lt_of_cell? w _ hx414_4)).trans hx414_4
        replace p414 := eq_true p414
        replace q414 := eq_true q414
        have p415 : 0 ≤ (x3_1 : Int) := of_decide_eq_true (by first | (with_reducible assumption) | assumption)
        have q415 : x3_1 < (l0.length : Int) := of_decide_eq_true (by first | (with_reducible assumption) | assumption)
        obtain ⟨ad415, e415, hx415_0, hx415_1, hx415_2, hx415_3, hx415_4⟩ := at_T55 HR0.out x3_1 p415 q415
        have hw415_4 := hx415_4
        have hw415_3 := hx415_3
        have hw415_2 := hx415_2
        have hw415_1 := hx415_1
        have hw415_0 := hx415_0
        obtain rfl : ad414 = ad415 := (by injection e415)
        replace hx415_0 := (HB.out.cell (World.block_lt_of_cell? w _ hx415_0)).trans hx415_0
        replace hx415_1 := (HB.out.cell (World.block_lt_of_cell? w _ hx415_1)).trans hx415_1
        replace hx415_2 := (HB.out.cell (World.block_lt_of_cell? w _ hx415_2)).trans hx415_2
        replace hx415_3 := (HB.out.cell (World.block_lt_of_cell? w _ hx415_3)).trans hx415_3
        replace hx415_4 := (HB.out.cell (World.block_lt_of_cell? w _ hx415_4)).trans hx415_4
        replace p415 := eq_true p415
        replace q415 := eq_true q415
        refine start_ (n := 11) (S := fun w' => w'.cell? (ad414.add (((ji3)).toNat * 5)) = some (.bool ((rd_T55 l0 (ji3)).f0)) ∧ w'.cell? ⟨(ad414.add (((ji3)).toNat * 5)).block, (ad414.add (((ji3)).toNat * 5)).off + 1, none⟩ = some (.int .i64 ((rd_T55 l0 (ji3)).f1)) ∧ w'.cell? ⟨(ad414.add (((ji3)).toNat * 5)).block, (ad414.add (((ji3)).toNat * 5)).off + 2, none⟩ = some (.int .i64 ((rd_T55 l0 (ji3)).f2)) ∧ w'.cell? ⟨(ad414.add (((ji3)).toNat * 5)).block, (ad414.add (((ji3)).toNat * 5)).off + 3, none⟩ = some (.int .i64 ((rd_T55 l0 (ji3)).f3)) ∧ w'.cell? ⟨(ad414.add (((ji3)).toNat * 5)).block, (ad414.add (((ji3)).toNat * 5)).off + 4, none⟩ = some (.int .i64 ((rd_T55 l0 (ji3)).f4)) ∧ w'.cell? (ad414.add ((x3_1).toNat * 5)) = some (.bool ((rd_T55 l0 x3_1).f0)) ∧ w'.cell? ⟨(ad414.add ((x3_1).toNat * 5)).block, (ad414.add ((x3_1).toNat * 5)).off + 1, none⟩ = some (.int .i64 ((rd_T55 l0 x3_1).f1)) ∧ w'.cell? ⟨(ad414.add ((x3_1).toNat * 5)).block, (ad414.add ((x3_1).toNat * 5)).off + 2, none⟩ = some (.int .i64 ((rd_T55 l0 x3_1).f2)) ∧ w'.cell? ⟨(ad414.add ((x3_1).toNat * 5)).block, (ad414.add ((x3_1).toNat * 5)).off + 3, none⟩ = some (.int .i64 ((rd_T55 l0 x3_1).f3)) ∧ w'.cell? ⟨(ad414.add ((x3_1).toNat * 5)).block, (ad414.add ((x3_1).toNat * 5)).off + 4, none⟩ = some (.int .i64 ((rd_T55 l0 x3_1).f4))) (ds := []) #[false, false, false, false, false, false, false, false, false, false, false] (by kernel_rfl) rfl rfl ⟨((HB.out.cell (World.block_lt_of_cell? w _ hw414_0)).trans hw414_0), ((HB.out.cell (World.block_lt_of_cell? w _ hw414_1)).trans hw414_1), ((HB.out.cell (World.block_lt_of_cell? w _ hw414_2)).trans hw414_2), ((HB.out.cell (World.block_lt_of_cell? w _ hw414_3)).trans hw414_3), ((HB.out.cell (World.block_lt_of_cell? w _ hw414_4)).trans hw414_4), ((HB.out.cell (World.block_lt_of_cell? w _ hw415_0)).trans hw415_0), ((HB.out.cell (World.block_lt_of_cell? w _ hw415_1)).trans hw415_1), ((HB.out.cell (World.block_lt_of_cell? w _ hw415_2)).trans hw415_2), ((HB.out.cell (World.block_lt_of_cell? w _ hw415_3)).trans hw415_3), ((HB.out.cell (World.block_lt_of_cell? w _ hw415_4)).trans hw415_4)⟩ (fun hHeld => ?_); refine with_tabW impl_InRow.tab4 impl_InRow.bits4 (fun HT_ HW_ => ?_)
        generalize wr.drew = w11 at HB hx414_0 hx414_1 hx414_2 hx414_3 hx414_4 hx415_0 hx415_1 hx415_2 hx415_3 hx415_4 hHeld ⊢
        refine pure_ (i := 0) (N := some 10) (v := ?_) (a' := ?_) #[true, false, false, false, false, false, false, false, false, false, false] rfl rfl (any_of HT_.out (by kernel_rfl)) (fun _ _ _ h => h) (Or.inl ⟨by rfl, ?_⟩) ?_ ?_
        rotate_left
        ·intro w'
         go_simp
         with_reducible rfl
        rotate_left
        ·simp only [Act.put, List.setIfInBounds_toArray, List.set_cons_zero, List.set_cons_succ, i64_w, i32_w]
         rfl
        refine pure_ (i := 1) (N := some 11) (v := ?_) (a' := ?_) #[true, true, false, false, false, false, false, false, false, false, false] rfl rfl (any_of HT_.out (by kernel_rfl)) (fun _ _ _ h => h) (Or.inl ⟨by rfl, ?_⟩) ?_ ?_
        rotate_left
        ·intro w'
         go_simp
         with_reducible rfl
        rotate_left
        ·simp only [Act.put, List.setIfInBounds_toArray, List.set_cons_zero, List.set_cons_succ, i64_w, i32_w]
         rfl
        refine pure_ (i := 2) (N := some 12) (v := ?_) (a' := ?_) #[true, true, true, false, false, false, false, false, false, false, false] rfl rfl (any_of HT_.out (by kernel_rfl)) (fun _ _ _ h => h) (Or.inl ⟨by rfl, ?_⟩) ?_ ?_
        rotate_left
        ·intro w'
         go_simp
         with_reducible rfl
        rotate_left
        ·simp only [Act.put, List.setIfInBounds_toArray, List.set_cons_zero, List.set_cons_succ, i64_w, i32_w]
         rfl
        refine pure_ (i := 3) (N := some 13) (v := ?_) (a' := ?_) #[true, true, true, true, false, false, false, false, false, false, false] rfl rfl (any_of HT_.out (by kernel_rfl)) (fun _ _ _ h => h) (Or.inl ⟨by rfl, ?_⟩) ?_ ?_
        rotate_left
        ·intro w'
         go_simp
         with_reducible rfl
        rotate_left
        ·simp only [Act.put, List.setIfInBounds_toArray, List.set_cons_zero, List.set_cons_succ, i64_w, i32_w]
         rfl
        refine pure_ (i := 5) (N := some 15) (v := ?_) (a' := ?_) #[true, true, true, true, false, true, false, false, false, false, false] rfl rfl (any_of HT_.out (by kernel_rfl)) (fun _ _ _ h => h) (Or.inl ⟨by rfl, ?_⟩) ?_ ?_
        rotate_left
        ·intro w'
         go_simp
         with_reducible rfl
        rotate_left
        ·simp only [Act.put, List.setIfInBounds_toArray, List.set_cons_zero, List.set_cons_succ, i64_w, i32_w]
         rfl
        refine pure_ (i := 6) (N := some 16) (v := ?_) (a' := ?_) #[true, true, true, true, false, true, true, false, false, false, false] rfl rfl (any_of HT_.out (by kernel_rfl)) (fun _ _ _ h => h) (Or.inl ⟨by rfl, ?_⟩) ?_ ?_
        rotate_left
        ·intro w'
         go_simp
         with_reducible rfl
        rotate_left
        ·simp only [Act.put, List.setIfInBounds_toArray, List.set_cons_zero, List.set_cons_succ, i64_w, i32_w]
         rfl
        refine pure_ (i := 7) (N := some 17) (v := ?_) (a' := ?_) #[true, true, true, true, false, true, true, true, false, false, false] rfl rfl (any_of HT_.out (by kernel_rfl)) (fun _ _ _ h => h) (Or.inl ⟨by rfl, ?_⟩) ?_ ?_
        rotate_left
        ·intro w'
         go_simp
         with_reducible rfl
        rotate_left
        ·simp only [Act.put, List.setIfInBounds_toArray, List.set_cons_zero, List.set_cons_succ, i64_w, i32_w]
         rfl
        refine take_ (i := 4) (N := some 14) (v := ?_) (a' := ?_) #[true, true, true, true, true, true, true, true, false, false, false] rfl rfl (take_ofW HT_.out HW_.out (by kernel_rfl)) (fun _ _ _ h => h) (Or.inl ⟨by rfl, ?_⟩) hHeld ?_ ?_
        rotate_left
        ·rintro w' ⟨s0, s1, s2, s3, s4, s5, s6, s7, s8, s9⟩
         go_simp
         with_reducible rfl
        rotate_left
        ·simp only [Act.put, List.setIfInBounds_toArray, List.set_cons_zero, List.set_cons_succ, i64_w, i32_w]
         rfl
        refine take_ (i := 8) (N := some 18) (v := ?_) (a' := ?_) #[true, true, true, true, true, true, true, true, true, false, false] rfl rfl (take_ofW HT_.out HW_.out (by kernel_rfl)) (fun _ _ _ h => h) (Or.inl ⟨by rfl, ?_⟩) hHeld ?_ ?_
        rotate_left
        ·rintro w' ⟨s0, s1, s2, s3, s4, s5, s6, s7, s8, s9⟩
         go_simp
         with_reducible rfl
        rotate_left
        ·simp only [Act.put, List.setIfInBounds_toArray, List.set_cons_zero, List.set_cons_succ, i64_w, i32_w]
         rfl
        refine one_ (i := 9) (N := some 19) #[true, true, true, true, true, true, true, true, true, true, false] rfl rfl (one_of HT_.out (by kernel_rfl)) (by decide) (fun K hK => ?_)
        refine goes_ Try.func51 (by kernel_rfl) rfl #[.agg #[.bool ((rd_T55 l0 (ji3)).f0), .int .i64 ((rd_T55 l0 (ji3)).f1), .int .i64 ((rd_T55 l0 (ji3)).f2), .int .i64 ((rd_T55 l0 (ji3)).f3), .int .i64 ((rd_T55 l0 (ji3)).f4)], .agg #[.bool ((rd_T55 l0 x3_1).f0), .int .i64 ((rd_T55 l0 x3_1).f1), .int .i64 ((rd_T55 l0 x3_1).f2), .int .i64 ((rd_T55 l0 x3_1).f3), .int .i64 ((rd_T55 l0 x3_1).f4)]] (by rfl) rfl rfl (by (try simp only [List.map_toArray, List.map_cons, List.map_nil]); first | done | (simp only [hji3]; rfl) | rfl | (simp only [List.length_drop, List.length_take]; rfl)) ?_
        with_reducible refine (impl_Ahead.calls k1 ((rd_T55 l0 (ji3)).f0) ((rd_T55 l0 (ji3)).f1) ((rd_T55 l0 (ji3)).f2) ((rd_T55 l0 (ji3)).f3) ((rd_T55 l0 (ji3)).f4) ((rd_T55 l0 x3_1).f0) ((rd_T55 l0 x3_1).f1) ((rd_T55 l0 x3_1).f2) ((rd_T55 l0 x3_1).f3) ((rd_T55 l0 x3_1).f4) false _ A7.out).mono ?_
        rintro e w12 ⟨rfl, hb⟩
        refine ⟨_, rfl, ?_⟩
        have n0_ := Aside0.mk (below_step (by with_reducible repeat (first | exact HB.out | apply below_alloc | apply pw_below_drewN | apply below_drew1)) hb)
        clear HB
        have HB := n0_
        clear n0_
        (try clear hb)
        (try clear hb2)
        (try clear hk)
        (try clear hi)
        refine hK.out _ _ ⟨((HB.out.cell (World.block_lt_of_cell? w _ hw414_0)).trans hw414_0), ((HB.out.cell (World.block_lt_of_cell? w _ hw414_1)).trans hw414_1), ((HB.out.cell (World.block_lt_of_cell? w _ hw414_2)).trans hw414_2), ((HB.out.cell (World.block_lt_of_cell? w _ hw414_3)).trans hw414_3), ((HB.out.cell (World.block_lt_of_cell? w _ hw414_4)).trans hw414_4), ((HB.out.cell (World.block_lt_of_cell? w _ hw415_0)).trans hw415_0), ((HB.out.cell (World.block_lt_of_cell? w _ hw415_1)).trans hw415_1), ((HB.out.cell (World.block_lt_of_cell? w _ hw415_2)).trans hw415_2), ((HB.out.cell (World.block_lt_of_cell? w _ hw415_3)).trans hw415_3), ((HB.out.cell (World.block_lt_of_cell? w _ hw415_4)).trans hw415_4)⟩ (fun hHeld => ?_)
        clear hK K
        refine norm_ (a' := ?_) ?_ ?_
        rotate_left
        ·show Act.put _ (some 19) _ = _
         simp only [Act.put, List.setIfInBounds_toArray, List.set_cons_zero, List.set_cons_succ, i64_w, i32_w]
         rfl
        refine pure_ (i := 10) (N := some 20) (v := ?_) (a' := ?_) #[true, true, true, true, true, true, true, true, true, true, true] rfl rfl (any_of HT_.out (by kernel_rfl)) (fun _ _ _ h => h) (Or.inl ⟨by rfl, ?_⟩) ?_ ?_
        rotate_left
        ·intro w'
         go_simp
         with_reducible rfl
        rotate_left
        ·simp only [Act.put, List.setIfInBounds_toArray, List.set_cons_zero, List.set_cons_succ, i64_w, i32_w]
         rfl
        refine done_ (done_of HT_.out (by kernel_rfl)) ?_
        try go_wp2
        go_ret
        exact ⟨by first | rfl | (simp [errW_none, errW_some] <;> rfl) | (simp only [← hji3]; first | rfl | (simp [errW_none, errW_some] <;> rfl)) | (simp [*, errW_none, errW_some] <;> rfl), by with_reducible repeat (first | exact HB.out | apply below_alloc | apply pw_below_drewN | apply below_drew1)⟩
      ·rw [if_neg c6] at H
       exact absurd H (by simp)
     ·rw [if_neg c5] at H
      exact absurd H (by simp)
    ·rw [if_neg c4] at H
     exact absurd H (by simp)
   ·rw [if_neg c2] at H
    have c2b0 : decide (x3_1 < (l0.length : Int)) = false := decide_eq_false c2
    clear c2
    replace H := Option.bind_eq_some_iff.mp H
    obtain ⟨t417, A130, H⟩ := H
    replace H : (some t417) = some r := H
    have A13 := Aside0.mk A130
    clear A130
    obtain rfl := Option.some.inj H
    go_wp2_with (first | (go_at_call 42; (with_reducible refine (impl_areCalls.calls _ _ l0 t417 _ ?side1 ?side2 A13.out).mono ?_); (case side1 => repeat (first | exact (Kd.C_below HR0.out HB.out) | (with_reducible refine Kd.C_alloc ?_ _) | (with_reducible refine Kd.C_drewN ?_ _) | (with_reducible refine Kd.C_drew ?_))); (case side2 => exact HC0.out); rintro e w14 ⟨rfl, hb⟩; have n0_ := Aside0.mk (below_step (by with_reducible repeat (first | exact HB.out | apply below_alloc | apply pw_below_drewN | apply below_drew1)) hb); clear HB; have HB := n0_; clear n0_; clear hb))
    go_ret
    exact ⟨by first | rfl | (simp [errW_none, errW_some] <;> rfl) | (simp [*, errW_none, errW_some] <;> rfl), by with_reducible repeat (first | exact HB.out | apply below_alloc | apply pw_below_drewN | apply below_drew1)⟩

/-! ### laws_FnExplained: function 6 -/
mutual
def laws_FnExplained.j0 : Nat → List Int → List (S55) → Bool → List Int → Int → Bool → Option (Bool)
 | 0, _, _, _, _, _, _ => none
 | k + 1, x0, x3, x5, x6, x8, x41 => if x41 = true then (some false) else (if x5 = true then (if x8 < 1 then (laws_FnExplained.j1 k x0 x3 x6 x8 true) else ((impl_Explains.f x3 x6).bind fun t434 => (if t434 = true then ((impl_InRow.f k x3).bind fun t435 => (if t435 = true then (laws_FnExplained.j1 k x0 x3 x6 x8 (x8 != 1)) else (laws_FnExplained.j1 k x0 x3 x6 x8 false))) else (laws_FnExplained.j1 k x0 x3 x6 x8 true)))) else (some (decide (x8 ≤ 0))))
def laws_FnExplained.j1 : Nat → List Int → List (S55) → List Int → Int → Bool → Option (Bool)
 | 0, _, _, _, _, _ => none
 | k + 1, x0, x3, x6, x8, x61 => if x61 = true then (some false) else ((laws_at.f x0 0).bind fun t436 => ((impl_Widen.f k x3 (Int.tmod t436 9)).bind fun bt437 => (if bt437.2 = true then ((impl_Explains.f bt437.1 x6).bind fun t441 => (if t441 = true then ((impl_CountOrders.f bt437.1).bind fun t442 => (some (decide (t442 ≥ x8)))) else (some false))) else (some false))))
end
def laws_FnExplained.f (k : Nat) (l0 : List Int) : Option (Bool) := (laws_big.f l0).bind fun t419 => (if t419 = true then (some true) else ((spec_DrawExplain.f k l0).bind fun t420 => ((spec_Explain.f k t420).bind fun bt423 => ((impl_Explain.f t420).bind fun bt427 => ((impl_CountOrders.f t420).bind fun t431 => (if (bt427.2 != bt423.2) = true then (laws_FnExplained.j0 k l0 t420 bt423.2 bt427.1 t431 true) else ((laws_same.f k bt427.1 bt423.1).bind fun t432 => (if t432 = true then ((spec_CountOrders.f k t420).bind fun t433 => (laws_FnExplained.j0 k l0 t420 bt423.2 bt427.1 t431 (t431 != t433))) else (laws_FnExplained.j0 k l0 t420 bt423.2 bt427.1 t431 true)))))))))
theorem laws_FnExplained.mono_l : ∀ k, (∀ y0 y1 y2 y3 y4 y5, LeO (laws_FnExplained.j0 k y0 y1 y2 y3 y4 y5) (laws_FnExplained.j0 (k + 1) y0 y1 y2 y3 y4 y5)) ∧ (∀ y0 y1 y2 y3 y4, LeO (laws_FnExplained.j1 k y0 y1 y2 y3 y4) (laws_FnExplained.j1 (k + 1) y0 y1 y2 y3 y4))
 | 0 => ⟨fun _ _ _ _ _ _ r h => by simp [laws_FnExplained.j0] at h, fun _ _ _ _ _ r h => by simp [laws_FnExplained.j1] at h⟩
 | k + 1 => by
  obtain ⟨ih0, ih1⟩ := laws_FnExplained.mono_l k
  refine ⟨?_, ?_⟩
  ·intro y0 y1 y2 y3 y4 y5
   unfold laws_FnExplained.j0
   repeat' first
   | (with_reducible exact ih0 _ _ _ _ _ _)
   | (with_reducible exact ih1 _ _ _ _ _)
   | (with_reducible exact impl_InRow.mono _ _)
   | (with_reducible exact impl_Widen.mono _ _ _)
   | (with_reducible exact laws_same.mono _ _ _)
   | (with_reducible exact spec_CountOrders.mono _ _)
   | (with_reducible exact spec_DrawExplain.mono _ _)
   | (with_reducible exact spec_Explain.mono _ _)
   | (with_reducible exact LeO.refl _)
   | (with_reducible exact LeO.none _)
   | (with_reducible refine LeO.ite ?_ ?_)
   | (with_reducible refine LeO.bind ?_ (fun _ => ?_))
  ·intro y0 y1 y2 y3 y4
   unfold laws_FnExplained.j1
   repeat' first
   | (with_reducible exact ih0 _ _ _ _ _ _)
   | (with_reducible exact ih1 _ _ _ _ _)
   | (with_reducible exact impl_InRow.mono _ _)
   | (with_reducible exact impl_Widen.mono _ _ _)
   | (with_reducible exact laws_same.mono _ _ _)
   | (with_reducible exact spec_CountOrders.mono _ _)
   | (with_reducible exact spec_DrawExplain.mono _ _)
   | (with_reducible exact spec_Explain.mono _ _)
   | (with_reducible exact LeO.refl _)
   | (with_reducible exact LeO.none _)
   | (with_reducible refine LeO.ite ?_ ?_)
   | (with_reducible refine LeO.bind ?_ (fun _ => ?_))
theorem laws_FnExplained.mono : ∀ a0 k, LeO (laws_FnExplained.f k a0) (laws_FnExplained.f (k + 1) a0) := by
 intro a0 k
 obtain ⟨ih0, ih1⟩ := laws_FnExplained.mono_l k
 unfold laws_FnExplained.f
 repeat' first
   | (with_reducible exact ih0 _ _ _ _ _ _)
   | (with_reducible exact ih1 _ _ _ _ _)
   | (with_reducible exact impl_InRow.mono _ _)
   | (with_reducible exact impl_Widen.mono _ _ _)
   | (with_reducible exact laws_same.mono _ _ _)
   | (with_reducible exact spec_CountOrders.mono _ _)
   | (with_reducible exact spec_DrawExplain.mono _ _)
   | (with_reducible exact spec_Explain.mono _ _)
   | (with_reducible exact LeO.refl _)
   | (with_reducible exact LeO.none _)
   | (with_reducible refine LeO.ite ?_ ?_)
   | (with_reducible refine LeO.bind ?_ (fun _ => ?_))
set_option maxHeartbeats 8000000 in
set_option maxRecDepth 100000 in
theorem laws_FnExplained.calls (k : Nat) (A0 : Option Addr) (c0 : Nat) (l0 : List Int) (r : Bool) (w : World) (hr0 : Kd.C (Kd.int .u8) w A0 l0.length l0) (hc0 : l0.length ≤ c0) (h : laws_FnExplained.f k l0 = some r) :
  Calls Try.prog 6 #[.slice A0 l0.length c0] w fun e w' => e = .returned (.bool r) ∧ Below w.heap.size w w' := by
 have HR0 := Aside0.mk hr0
 have HC0 := Aside0.mk hc0
 clear hr0 hc0
 have HB := Aside0.mk (Below.refl w.heap.size w)
 have H : ((laws_big.f l0).bind fun t419 => (if t419 = true then (some true) else ((spec_DrawExplain.f k l0).bind fun t420 => ((spec_Explain.f k t420).bind fun bt423 => ((impl_Explain.f t420).bind fun bt427 => ((impl_CountOrders.f t420).bind fun t431 => (if (bt427.2 != bt423.2) = true then (laws_FnExplained.j0 k l0 t420 bt423.2 bt427.1 t431 true) else ((laws_same.f k bt427.1 bt423.1).bind fun t432 => (if t432 = true then ((spec_CountOrders.f k t420).bind fun t433 => (laws_FnExplained.j0 k l0 t420 bt423.2 bt427.1 t431 (t431 != t433))) else (laws_FnExplained.j0 k l0 t420 bt423.2 bt427.1 t431 true)))))))))) = some r := h
 clear h
 replace H := Option.bind_eq_some_iff.mp H
 obtain ⟨t419, A20, H⟩ := H
 replace H : (if t419 = true then (some true) else ((spec_DrawExplain.f k l0).bind fun t420 => ((spec_Explain.f k t420).bind fun bt423 => ((impl_Explain.f t420).bind fun bt427 => ((impl_CountOrders.f t420).bind fun t431 => (if (bt427.2 != bt423.2) = true then (laws_FnExplained.j0 k l0 t420 bt423.2 bt427.1 t431 true) else ((laws_same.f k bt427.1 bt423.1).bind fun t432 => (if t432 = true then ((spec_CountOrders.f k t420).bind fun t433 => (laws_FnExplained.j0 k l0 t420 bt423.2 bt427.1 t431 (t431 != t433))) else (laws_FnExplained.j0 k l0 t420 bt423.2 bt427.1 t431 true))))))))) = some r := H
 have A2 := Aside0.mk A20
 clear A20
 by_cases c3 : t419 = true
 ·subst c3
  have H1 : (some true) = some r := by rw [if_pos rfl] at H; exact H
  clear H
  have H := H1
  clear H1
  obtain rfl := Option.some.inj H
  go_enter Try.func6, Try.ntmps6
  go_wp2_with (first | (go_at_call 23; (with_reducible refine (laws_big.calls _ _ l0 true _ ?side1 ?side2 A2.out).mono ?_); (case side1 => repeat (first | exact HR0.out | (with_reducible refine Kd.C_alloc ?_ _) | (with_reducible refine Kd.C_drewN ?_ _) | (with_reducible refine Kd.C_drew ?_))); (case side2 => exact HC0.out); rintro e w' ⟨rfl, ⟨nd, rfl⟩⟩))
  go_ret
  exact ⟨by first | rfl | (simp [errW_none, errW_some] <;> rfl) | (simp [*, errW_none, errW_some] <;> rfl), by with_reducible repeat (first | exact HB.out | apply below_alloc | apply pw_below_drewN | apply below_drew1)⟩
 ·replace c3 := Bool.eq_false_iff.mpr c3
  subst c3
  have H1 : ((spec_DrawExplain.f k l0).bind fun t420 => ((spec_Explain.f k t420).bind fun bt423 => ((impl_Explain.f t420).bind fun bt427 => ((impl_CountOrders.f t420).bind fun t431 => (if (bt427.2 != bt423.2) = true then (laws_FnExplained.j0 k l0 t420 bt423.2 bt427.1 t431 true) else ((laws_same.f k bt427.1 bt423.1).bind fun t432 => (if t432 = true then ((spec_CountOrders.f k t420).bind fun t433 => (laws_FnExplained.j0 k l0 t420 bt423.2 bt427.1 t431 (t431 != t433))) else (laws_FnExplained.j0 k l0 t420 bt423.2 bt427.1 t431 true)))))))) = some r := by rw [if_neg (show ¬ (false = true) by decide)] at H; exact H
  clear H
  have H := H1
  clear H1
  replace H := Option.bind_eq_some_iff.mp H
  obtain ⟨t420, A40, H⟩ := H
  replace H : ((spec_Explain.f k t420).bind fun bt423 => ((impl_Explain.f t420).bind fun bt427 => ((impl_CountOrders.f t420).bind fun t431 => (if (bt427.2 != bt423.2) = true then (laws_FnExplained.j0 k l0 t420 bt423.2 bt427.1 t431 true) else ((laws_same.f k bt427.1 bt423.1).bind fun t432 => (if t432 = true then ((spec_CountOrders.f k t420).bind fun t433 => (laws_FnExplained.j0 k l0 t420 bt423.2 bt427.1 t431 (t431 != t433))) else (laws_FnExplained.j0 k l0 t420 bt423.2 bt427.1 t431 true))))))) = some r := H
  have A4 := Aside0.mk A40
  clear A40
  replace H := Option.bind_eq_some_iff.mp H
  obtain ⟨⟨t423, t426⟩, A50, H⟩ := H
  replace H : ((impl_Explain.f t420).bind fun bt427 => ((impl_CountOrders.f t420).bind fun t431 => (if (bt427.2 != t426) = true then (laws_FnExplained.j0 k l0 t420 t426 bt427.1 t431 true) else ((laws_same.f k bt427.1 t423).bind fun t432 => (if t432 = true then ((spec_CountOrders.f k t420).bind fun t433 => (laws_FnExplained.j0 k l0 t420 t426 bt427.1 t431 (t431 != t433))) else (laws_FnExplained.j0 k l0 t420 t426 bt427.1 t431 true)))))) = some r := H
  have A5 := Aside0.mk A50
  clear A50
  replace H := Option.bind_eq_some_iff.mp H
  obtain ⟨⟨t427, t428⟩, A60, H⟩ := H
  replace H : ((impl_CountOrders.f t420).bind fun t431 => (if (t428 != t426) = true then (laws_FnExplained.j0 k l0 t420 t426 t427 t431 true) else ((laws_same.f k t427 t423).bind fun t432 => (if t432 = true then ((spec_CountOrders.f k t420).bind fun t433 => (laws_FnExplained.j0 k l0 t420 t426 t427 t431 (t431 != t433))) else (laws_FnExplained.j0 k l0 t420 t426 t427 t431 true))))) = some r := H
  have A6 := Aside0.mk A60
  clear A60
  replace H := Option.bind_eq_some_iff.mp H
  obtain ⟨t431, A70, H⟩ := H
  replace H : (if (t428 != t426) = true then (laws_FnExplained.j0 k l0 t420 t426 t427 t431 true) else ((laws_same.f k t427 t423).bind fun t432 => (if t432 = true then ((spec_CountOrders.f k t420).bind fun t433 => (laws_FnExplained.j0 k l0 t420 t426 t427 t431 (t431 != t433))) else (laws_FnExplained.j0 k l0 t420 t426 t427 t431 true)))) = some r := H
  have A7 := Aside0.mk A70
  clear A70
  have HC8 := Aside0.mk H
  clear H
  go_enter Try.func6, Try.ntmps6
  go_upto_region 7 with (first | (go_at_call 23; (with_reducible refine (laws_big.calls _ _ l0 false _ ?side1 ?side2 A2.out).mono ?_); (case side1 => repeat (first | exact HR0.out | (with_reducible refine Kd.C_alloc ?_ _) | (with_reducible refine Kd.C_drewN ?_ _) | (with_reducible refine Kd.C_drew ?_))); (case side2 => exact HC0.out); rintro e w' ⟨rfl, ⟨nd, rfl⟩⟩) | (go_at_call 24; (with_reducible refine (spec_DrawExplain.calls k _ _ l0 t420 _ ?side1 ?side2 A4.out).mono ?_); (case side1 => repeat (first | exact HR0.out | (with_reducible refine Kd.C_alloc ?_ _) | (with_reducible refine Kd.C_drewN ?_ _) | (with_reducible refine Kd.C_drew ?_))); (case side2 => exact HC0.out); rintro e w9 ⟨v421, rfl, ho0, hb⟩; have n0_ := Aside0.mk (Kd.R_lower ho0 (below_size (by with_reducible repeat (first | exact HB.out | apply below_alloc | apply pw_below_drewN | apply below_drew1)))); have n1_ := Aside0.mk (below_step (by with_reducible repeat (first | exact HB.out | apply below_alloc | apply pw_below_drewN | apply below_drew1)) hb); clear HB; have HO422 := n0_; have HB := n1_; clear n0_ n1_; clear hb ho0; obtain ⟨Ao10, co10, eo10⟩ := Kd.R_slice HO422.out; subst eo10) | (go_at_call 18; (with_reducible refine (spec_Explain.calls k _ _ t420 t423 t426 _ ?side1 ?side2 A5.out).mono ?_); (case side1 => repeat (first | exact (Kd.R_reads' HO422.out).2.2 | (with_reducible refine Kd.C_alloc ?_ _) | (with_reducible refine Kd.C_drewN ?_ _) | (with_reducible refine Kd.C_drew ?_))); (case side2 => exact (Kd.R_reads' HO422.out).2.1); rintro e w11 ⟨v424, rfl, ho0, hb⟩; have n0_ := Aside0.mk (Kd.R_below (by (with_reducible repeat (first | apply Kd.R_alloc | apply Kd.R_drewN | apply Kd.R_drew)); exact HO422.out) hb); have n1_ := Aside0.mk (Kd.V_lower (Kd.V_mono (ok' := fun k_ => some k_ ≠ (.slice Ao10 t420.length co10 : Value).ownBlock) ho0 (fun k_ hk_ => (Kd.fresh' (Kd.R_lt (by (with_reducible repeat (first | apply Kd.R_alloc | apply Kd.R_drewN | apply Kd.R_drew)); exact HO422.out)) k_ hk_))) (below_size (by with_reducible repeat (first | exact HB.out | apply below_alloc | apply pw_below_drewN | apply below_drew1)))); have n2_ := Aside0.mk (below_step (by with_reducible repeat (first | exact HB.out | apply below_alloc | apply pw_below_drewN | apply below_drew1)) hb); clear HO422 HB; have HO422 := n0_; have HO425 := n1_; have HB := n2_; clear n0_ n1_ n2_; clear hb ho0) | (go_at_call 19; (with_reducible refine (impl_Explain.calls _ _ t420 t427 t428 _ ?side1 ?side2 A6.out).mono ?_); (case side1 => repeat (first | exact (Kd.R_reads' HO422.out).2.2 | (with_reducible refine Kd.C_alloc ?_ _) | (with_reducible refine Kd.C_drewN ?_ _) | (with_reducible refine Kd.C_drew ?_))); (case side2 => exact (Kd.R_reads' HO422.out).2.1); rintro e w12 ⟨v429, rfl, ho0, hb⟩; have n0_ := Aside0.mk (Kd.R_below (by (with_reducible repeat (first | apply Kd.R_alloc | apply Kd.R_drewN | apply Kd.R_drew)); exact HO422.out) hb); have n1_ := Aside0.mk (Kd.V_elder' (by (with_reducible repeat (first | apply Kd.V_alloc | apply Kd.V_drewN | apply Kd.V_drew)); exact HO425.out) (Kd.R_base ho0) hb); have n2_ := Aside0.mk (Kd.R_lower ho0 (below_size (by with_reducible repeat (first | exact HB.out | apply below_alloc | apply pw_below_drewN | apply below_drew1)))); have n3_ := Aside0.mk (below_step (by with_reducible repeat (first | exact HB.out | apply below_alloc | apply pw_below_drewN | apply below_drew1)) hb); clear HO422 HO425 HB; have HO422 := n0_; have HO425 := n1_; have HO430 := n2_; have HB := n3_; clear n0_ n1_ n2_ n3_; clear hb ho0) | (go_at_call 17; (with_reducible refine (impl_CountOrders.calls _ _ t420 t431 _ ?side1 ?side2 A7.out).mono ?_); (case side1 => repeat (first | exact (Kd.R_reads' HO422.out).2.2 | (with_reducible refine Kd.C_alloc ?_ _) | (with_reducible refine Kd.C_drewN ?_ _) | (with_reducible refine Kd.C_drew ?_))); (case side2 => exact (Kd.R_reads' HO422.out).2.1); rintro e w13 ⟨rfl, hb⟩; have n0_ := Aside0.mk (Kd.R_below (by (with_reducible repeat (first | apply Kd.R_alloc | apply Kd.R_drewN | apply Kd.R_drew)); exact HO422.out) hb); have n1_ := Aside0.mk (Kd.V_below (by (with_reducible repeat (first | apply Kd.V_alloc | apply Kd.V_drewN | apply Kd.V_drew)); exact HO425.out) hb); have n2_ := Aside0.mk (Kd.R_below (by (with_reducible repeat (first | apply Kd.R_alloc | apply Kd.R_drewN | apply Kd.R_drew)); exact HO430.out) hb); have n3_ := Aside0.mk (below_step (by with_reducible repeat (first | exact HB.out | apply below_alloc | apply pw_below_drewN | apply below_drew1)) hb); clear HO422 HO425 HO430 HB; have HO422 := n0_; have HO425 := n1_; have HO430 := n2_; have HB := n3_; clear n0_ n1_ n2_ n3_; clear hb))
  (try simp only [Act.put, List.setIfInBounds_toArray, List.set_cons_zero, List.set_cons_succ])
  go_cut [41] (fun v41 wc => ∃ (kq : Nat) (x41_7 : Bool), v41 = .bool x41_7 ∧ Aside0 (laws_FnExplained.j0 kq l0 t420 t426 t427 t431 x41_7 = some r) ∧ Aside0 (kq ≤ k) ∧ Aside0 (Kd.R k55 55 wc w.heap.size (fun _ => True) (.slice Ao10 t420.length co10) t420) ∧ Aside0 (Kd.R (Kd.int .i64) 3 wc w.heap.size (fun _ => True) v429 t427) ∧ Aside0 (Below w.heap.size w wc))
  case first =>
   have H := HC8.out
   clear HC8
   by_cases c14 : (t428 != t426) = true
   ·rw [if_pos c14] at H
    have c14b0 : (t428 != t426) = true := c14
    (try (have c14b1 : decide (t428 = t426) = false := by simpa using c14))
    (try (have c14b2 : (t428 == t426) = false := by simpa using c14))
    (try (have c14b3 : ¬ (t428 = t426) := by simpa using c14))
    clear c14
    (first | rw [c14b0] | rw [c14b1] | (simp only [i64_w, i32_w]; rw [c14b0]) | skip)
    have H' := Aside0.mk H
    clear H
    go_wp2
    go_meet
    case rel => exact ⟨_, (true), (by first | rfl | simp | simp [*]), H', ⟨by first | omega | exact Nat.le_refl _⟩, ⟨by (with_reducible repeat (first | apply Kd.R_alloc | apply Kd.R_drewN | apply Kd.R_drew)); exact HO422.out⟩, ⟨by (with_reducible repeat (first | apply Kd.R_alloc | apply Kd.R_drewN | apply Kd.R_drew)); exact HO430.out⟩, ⟨by with_reducible repeat (first | exact HB.out | apply below_alloc | apply pw_below_drewN | apply below_drew1)⟩⟩
   ·rw [if_neg c14] at H
    have c14b0 : (t428 != t426) = false := by simpa using c14
    (try (have c14b1 : decide (t428 = t426) = true := by simpa using c14))
    (try (have c14b2 : (t428 == t426) = true := by simpa using c14))
    clear c14
    (first | rw [c14b0] | rw [c14b1] | (simp only [i64_w, i32_w]; rw [c14b0]) | skip)
    replace H := Option.bind_eq_some_iff.mp H
    obtain ⟨t432, A150, H⟩ := H
    replace H : (if t432 = true then ((spec_CountOrders.f k t420).bind fun t433 => (laws_FnExplained.j0 k l0 t420 t426 t427 t431 (t431 != t433))) else (laws_FnExplained.j0 k l0 t420 t426 t427 t431 true)) = some r := H
    have A15 := Aside0.mk A150
    clear A150
    by_cases c16 : t432 = true
    ·subst c16
     have H1 : ((spec_CountOrders.f k t420).bind fun t433 => (laws_FnExplained.j0 k l0 t420 t426 t427 t431 (t431 != t433))) = some r := by rw [if_pos rfl] at H; exact H
     clear H
     have H := H1
     clear H1
     replace H := Option.bind_eq_some_iff.mp H
     obtain ⟨t433, A170, H⟩ := H
     replace H : (laws_FnExplained.j0 k l0 t420 t426 t427 t431 (t431 != t433)) = some r := H
     have A17 := Aside0.mk A170
     clear A170
     have H' := Aside0.mk H
     clear H
     obtain ⟨Ao18, co18, eo18⟩ := Kd.R_slice HO430.out
     subst eo18
     obtain ⟨Ao19, co19, eo19⟩ := Kd.V_slice HO425.out
     subst eo19
     go_wp2_with (first | (go_at_call 25; (with_reducible refine (laws_same.calls k _ _ t427 _ _ t423 true _ ?side1 ?side2 ?side3 ?side4 A15.out).mono ?_); (case side1 => repeat (first | exact (Kd.R_reads' HO430.out).2.2 | (with_reducible refine Kd.C_alloc ?_ _) | (with_reducible refine Kd.C_drewN ?_ _) | (with_reducible refine Kd.C_drew ?_))); (case side2 => exact (Kd.R_reads' HO430.out).2.1); (case side3 => repeat (first | exact (Kd.V_reads' HO425.out).2.2 | (with_reducible refine Kd.C_alloc ?_ _) | (with_reducible refine Kd.C_drewN ?_ _) | (with_reducible refine Kd.C_drew ?_))); (case side4 => exact (Kd.V_reads' HO425.out).2.1); rintro e w' ⟨rfl, ⟨nd, rfl⟩⟩) | (go_at_call 16; (with_reducible refine (spec_CountOrders.calls k _ _ t420 t433 _ ?side1 ?side2 A17.out).mono ?_); (case side1 => repeat (first | exact (Kd.R_reads' HO422.out).2.2 | (with_reducible refine Kd.C_alloc ?_ _) | (with_reducible refine Kd.C_drewN ?_ _) | (with_reducible refine Kd.C_drew ?_))); (case side2 => exact (Kd.R_reads' HO422.out).2.1); rintro e w20 ⟨rfl, hb⟩; have n0_ := Aside0.mk (Kd.R_below (by (with_reducible repeat (first | apply Kd.R_alloc | apply Kd.R_drewN | apply Kd.R_drew)); exact HO422.out) hb); have n1_ := Aside0.mk (Kd.V_below (by (with_reducible repeat (first | apply Kd.V_alloc | apply Kd.V_drewN | apply Kd.V_drew)); exact HO425.out) hb); have n2_ := Aside0.mk (Kd.R_below (by (with_reducible repeat (first | apply Kd.R_alloc | apply Kd.R_drewN | apply Kd.R_drew)); exact HO430.out) hb); have n3_ := Aside0.mk (below_step (by with_reducible repeat (first | exact HB.out | apply below_alloc | apply pw_below_drewN | apply below_drew1)) hb); clear HO422 HO425 HO430 HB; have HO422 := n0_; have HO425 := n1_; have HO430 := n2_; have HB := n3_; clear n0_ n1_ n2_ n3_; clear hb))
     go_meet
     case rel => exact ⟨_, ((t431 != t433)), (by first | rfl | simp | simp [*]), H', ⟨by first | omega | exact Nat.le_refl _⟩, ⟨by (with_reducible repeat (first | apply Kd.R_alloc | apply Kd.R_drewN | apply Kd.R_drew)); exact HO422.out⟩, ⟨by (with_reducible repeat (first | apply Kd.R_alloc | apply Kd.R_drewN | apply Kd.R_drew)); exact HO430.out⟩, ⟨by with_reducible repeat (first | exact HB.out | apply below_alloc | apply pw_below_drewN | apply below_drew1)⟩⟩
    ·replace c16 := Bool.eq_false_iff.mpr c16
     subst c16
     have H1 : (laws_FnExplained.j0 k l0 t420 t426 t427 t431 true) = some r := by rw [if_neg (show ¬ (false = true) by decide)] at H; exact H
     clear H
     have H := H1
     clear H1
     have H' := Aside0.mk H
     clear H
     obtain ⟨Ao21, co21, eo21⟩ := Kd.R_slice HO430.out
     subst eo21
     obtain ⟨Ao22, co22, eo22⟩ := Kd.V_slice HO425.out
     subst eo22
     go_wp2_with (first | (go_at_call 25; (with_reducible refine (laws_same.calls k _ _ t427 _ _ t423 false _ ?side1 ?side2 ?side3 ?side4 A15.out).mono ?_); (case side1 => repeat (first | exact (Kd.R_reads' HO430.out).2.2 | (with_reducible refine Kd.C_alloc ?_ _) | (with_reducible refine Kd.C_drewN ?_ _) | (with_reducible refine Kd.C_drew ?_))); (case side2 => exact (Kd.R_reads' HO430.out).2.1); (case side3 => repeat (first | exact (Kd.V_reads' HO425.out).2.2 | (with_reducible refine Kd.C_alloc ?_ _) | (with_reducible refine Kd.C_drewN ?_ _) | (with_reducible refine Kd.C_drew ?_))); (case side4 => exact (Kd.V_reads' HO425.out).2.1); rintro e w' ⟨rfl, ⟨nd, rfl⟩⟩))
     go_meet
     case rel => exact ⟨_, (true), (by first | rfl | simp | simp [*]), H', ⟨by first | omega | exact Nat.le_refl _⟩, ⟨by (with_reducible repeat (first | apply Kd.R_alloc | apply Kd.R_drewN | apply Kd.R_drew)); exact HO422.out⟩, ⟨by (with_reducible repeat (first | apply Kd.R_alloc | apply Kd.R_drewN | apply Kd.R_drew)); exact HO430.out⟩, ⟨by with_reducible repeat (first | exact HB.out | apply below_alloc | apply pw_below_drewN | apply below_drew1)⟩⟩
  case rest =>
   clear HC8
   try clear c1
   try clear c2
   try clear p2
   try clear c3
   try clear c6
   try clear c14
   try clear c14b0
   try clear c14b1
   try clear c14b2
   try clear c16
   try clear c17
   try clear c18
   try clear c19
   obtain ⟨kq, x41_7, rfl, HA, HJ7, HO_3, HO_6, HB⟩ := hcut
   cases kq with
   | zero => exact absurd HA.out (by simp [laws_FnExplained.j0])
   | succ kj7 =>
    have H := HA.out
    clear HA
    simp only [laws_FnExplained.j0] at H
    by_cases c23 : x41_7 = true
    ·subst c23
     have H1 : (some false) = some r := by rw [if_pos rfl] at H; exact H
     clear H
     have H := H1
     clear H1
     obtain rfl := Option.some.inj H
     go_wp2
     go_ret
     exact ⟨by first | rfl | (simp [errW_none, errW_some] <;> rfl) | (simp [*, errW_none, errW_some] <;> rfl), by with_reducible repeat (first | exact HB.out | apply below_alloc | apply pw_below_drewN | apply below_drew1)⟩
    ·replace c23 := Bool.eq_false_iff.mpr c23
     subst c23
     have H1 : (if t426 = true then (if t431 < 1 then (laws_FnExplained.j1 kj7 l0 t420 t427 t431 true) else ((impl_Explains.f t420 t427).bind fun t434 => (if t434 = true then ((impl_InRow.f kj7 t420).bind fun t435 => (if t435 = true then (laws_FnExplained.j1 kj7 l0 t420 t427 t431 (t431 != 1)) else (laws_FnExplained.j1 kj7 l0 t420 t427 t431 false))) else (laws_FnExplained.j1 kj7 l0 t420 t427 t431 true)))) else (some (decide (t431 ≤ 0)))) = some r := by rw [if_neg (show ¬ (false = true) by decide)] at H; exact H
     clear H
     have H := H1
     clear H1
     by_cases c24 : t426 = true
     ·subst c24
      have H1 : (if t431 < 1 then (laws_FnExplained.j1 kj7 l0 t420 t427 t431 true) else ((impl_Explains.f t420 t427).bind fun t434 => (if t434 = true then ((impl_InRow.f kj7 t420).bind fun t435 => (if t435 = true then (laws_FnExplained.j1 kj7 l0 t420 t427 t431 (t431 != 1)) else (laws_FnExplained.j1 kj7 l0 t420 t427 t431 false))) else (laws_FnExplained.j1 kj7 l0 t420 t427 t431 true)))) = some r := by rw [if_pos rfl] at H; exact H
      clear H
      have H := H1
      clear H1
      have HC25 := Aside0.mk H
      clear H
      go_upto_region 11 with (fail)
      go_cut [61] (fun v61 wc => ∃ (kq : Nat) (x61_24 : Bool), v61 = .bool x61_24 ∧ Aside0 (laws_FnExplained.j1 kq l0 t420 t427 t431 x61_24 = some r) ∧ Aside0 (kq ≤ kj7) ∧ Aside0 (Kd.R k55 55 wc w.heap.size (fun _ => True) (.slice Ao10 t420.length co10) t420) ∧ Aside0 (Kd.R (Kd.int .i64) 3 wc w.heap.size (fun _ => True) v429 t427) ∧ Aside0 (Below w.heap.size w wc))
      case first =>
       have H := HC25.out
       clear HC25
       by_cases c26 : t431 < 1
       ·rw [if_pos c26] at H
        have c26b0 : decide (t431 < 1) = true := decide_eq_true c26
        clear c26
        (first | rw [c26b0] | rw [c26b1] | (simp only [i64_w, i32_w]; rw [c26b0]) | skip)
        have H' := Aside0.mk H
        clear H
        go_wp2
        go_meet
        case rel => exact ⟨_, (true), (by first | rfl | simp | simp [*]), H', ⟨by have := HJ7.out; first | omega | exact Nat.le_refl _⟩, ⟨by (with_reducible repeat (first | apply Kd.R_alloc | apply Kd.R_drewN | apply Kd.R_drew)); exact HO_3.out⟩, ⟨by (with_reducible repeat (first | apply Kd.R_alloc | apply Kd.R_drewN | apply Kd.R_drew)); exact HO_6.out⟩, ⟨by with_reducible repeat (first | exact HB.out | apply below_alloc | apply pw_below_drewN | apply below_drew1)⟩⟩
       ·rw [if_neg c26] at H
        have c26b0 : decide (t431 < 1) = false := decide_eq_false c26
        clear c26
        (first | rw [c26b0] | rw [c26b1] | (simp only [i64_w, i32_w]; rw [c26b0]) | skip)
        replace H := Option.bind_eq_some_iff.mp H
        obtain ⟨t434, A270, H⟩ := H
        replace H : (if t434 = true then ((impl_InRow.f kj7 t420).bind fun t435 => (if t435 = true then (laws_FnExplained.j1 kj7 l0 t420 t427 t431 (t431 != 1)) else (laws_FnExplained.j1 kj7 l0 t420 t427 t431 false))) else (laws_FnExplained.j1 kj7 l0 t420 t427 t431 true)) = some r := H
        have A27 := Aside0.mk A270
        clear A270
        by_cases c28 : t434 = true
        ·subst c28
         have H1 : ((impl_InRow.f kj7 t420).bind fun t435 => (if t435 = true then (laws_FnExplained.j1 kj7 l0 t420 t427 t431 (t431 != 1)) else (laws_FnExplained.j1 kj7 l0 t420 t427 t431 false))) = some r := by rw [if_pos rfl] at H; exact H
         clear H
         have H := H1
         clear H1
         replace H := Option.bind_eq_some_iff.mp H
         obtain ⟨t435, A290, H⟩ := H
         replace H : (if t435 = true then (laws_FnExplained.j1 kj7 l0 t420 t427 t431 (t431 != 1)) else (laws_FnExplained.j1 kj7 l0 t420 t427 t431 false)) = some r := H
         have A29 := Aside0.mk A290
         clear A290
         by_cases c30 : t435 = true
         ·subst c30
          have H1 : (laws_FnExplained.j1 kj7 l0 t420 t427 t431 (t431 != 1)) = some r := by rw [if_pos rfl] at H; exact H
          clear H
          have H := H1
          clear H1
          have H' := Aside0.mk H
          clear H
          obtain ⟨Ao31, co31, eo31⟩ := Kd.R_slice HO_6.out
          subst eo31
          go_wp2_with (first | (go_at_call 13; (with_reducible refine (impl_Explains.calls _ _ t420 _ _ t427 true _ ?side1 ?side2 ?side3 ?side4 A27.out).mono ?_); (case side1 => repeat (first | exact (Kd.R_reads' HO_3.out).2.2 | (with_reducible refine Kd.C_alloc ?_ _) | (with_reducible refine Kd.C_drewN ?_ _) | (with_reducible refine Kd.C_drew ?_))); (case side2 => exact (Kd.R_reads' HO_3.out).2.1); (case side3 => repeat (first | exact (Kd.R_reads' HO_6.out).2.2 | (with_reducible refine Kd.C_alloc ?_ _) | (with_reducible refine Kd.C_drewN ?_ _) | (with_reducible refine Kd.C_drew ?_))); (case side4 => exact (Kd.R_reads' HO_6.out).2.1); rintro e w32 ⟨rfl, hb⟩; have n0_ := Aside0.mk (Kd.R_below (by (with_reducible repeat (first | apply Kd.R_alloc | apply Kd.R_drewN | apply Kd.R_drew)); exact HO_3.out) hb); have n1_ := Aside0.mk (Kd.R_below (by (with_reducible repeat (first | apply Kd.R_alloc | apply Kd.R_drewN | apply Kd.R_drew)); exact HO_6.out) hb); have n2_ := Aside0.mk (below_step (by with_reducible repeat (first | exact HB.out | apply below_alloc | apply pw_below_drewN | apply below_drew1)) hb); clear HO_3 HO_6 HB; have HO_3 := n0_; have HO_6 := n1_; have HB := n2_; clear n0_ n1_ n2_; clear hb) | (go_at_call 26; (with_reducible refine (impl_InRow.calls kj7 _ _ t420 true _ ?side1 ?side2 A29.out).mono ?_); (case side1 => repeat (first | exact (Kd.R_reads' HO_3.out).2.2 | (with_reducible refine Kd.C_alloc ?_ _) | (with_reducible refine Kd.C_drewN ?_ _) | (with_reducible refine Kd.C_drew ?_))); (case side2 => exact (Kd.R_reads' HO_3.out).2.1); rintro e w33 ⟨rfl, hb⟩; have n0_ := Aside0.mk (Kd.R_below (by (with_reducible repeat (first | apply Kd.R_alloc | apply Kd.R_drewN | apply Kd.R_drew)); exact HO_3.out) hb); have n1_ := Aside0.mk (Kd.R_below (by (with_reducible repeat (first | apply Kd.R_alloc | apply Kd.R_drewN | apply Kd.R_drew)); exact HO_6.out) hb); have n2_ := Aside0.mk (below_step (by with_reducible repeat (first | exact HB.out | apply below_alloc | apply pw_below_drewN | apply below_drew1)) hb); clear HO_3 HO_6 HB; have HO_3 := n0_; have HO_6 := n1_; have HB := n2_; clear n0_ n1_ n2_; clear hb))
          go_meet
          case rel => exact ⟨_, ((t431 != 1)), (by first | rfl | simp | simp [*]), H', ⟨by have := HJ7.out; first | omega | exact Nat.le_refl _⟩, ⟨by (with_reducible repeat (first | apply Kd.R_alloc | apply Kd.R_drewN | apply Kd.R_drew)); exact HO_3.out⟩, ⟨by (with_reducible repeat (first | apply Kd.R_alloc | apply Kd.R_drewN | apply Kd.R_drew)); exact HO_6.out⟩, ⟨by with_reducible repeat (first | exact HB.out | apply below_alloc | apply pw_below_drewN | apply below_drew1)⟩⟩
         ·replace c30 := Bool.eq_false_iff.mpr c30
          subst c30
          have H1 : (laws_FnExplained.j1 kj7 l0 t420 t427 t431 false) = some r := by rw [if_neg (show ¬ (false = true) by decide)] at H; exact H
          clear H
          have H := H1
          clear H1
          have H' := Aside0.mk H
          clear H
          obtain ⟨Ao34, co34, eo34⟩ := Kd.R_slice HO_6.out
          subst eo34
          go_wp2_with (first | (go_at_call 13; (with_reducible refine (impl_Explains.calls _ _ t420 _ _ t427 true _ ?side1 ?side2 ?side3 ?side4 A27.out).mono ?_); (case side1 => repeat (first | exact (Kd.R_reads' HO_3.out).2.2 | (with_reducible refine Kd.C_alloc ?_ _) | (with_reducible refine Kd.C_drewN ?_ _) | (with_reducible refine Kd.C_drew ?_))); (case side2 => exact (Kd.R_reads' HO_3.out).2.1); (case side3 => repeat (first | exact (Kd.R_reads' HO_6.out).2.2 | (with_reducible refine Kd.C_alloc ?_ _) | (with_reducible refine Kd.C_drewN ?_ _) | (with_reducible refine Kd.C_drew ?_))); (case side4 => exact (Kd.R_reads' HO_6.out).2.1); rintro e w35 ⟨rfl, hb⟩; have n0_ := Aside0.mk (Kd.R_below (by (with_reducible repeat (first | apply Kd.R_alloc | apply Kd.R_drewN | apply Kd.R_drew)); exact HO_3.out) hb); have n1_ := Aside0.mk (Kd.R_below (by (with_reducible repeat (first | apply Kd.R_alloc | apply Kd.R_drewN | apply Kd.R_drew)); exact HO_6.out) hb); have n2_ := Aside0.mk (below_step (by with_reducible repeat (first | exact HB.out | apply below_alloc | apply pw_below_drewN | apply below_drew1)) hb); clear HO_3 HO_6 HB; have HO_3 := n0_; have HO_6 := n1_; have HB := n2_; clear n0_ n1_ n2_; clear hb) | (go_at_call 26; (with_reducible refine (impl_InRow.calls kj7 _ _ t420 false _ ?side1 ?side2 A29.out).mono ?_); (case side1 => repeat (first | exact (Kd.R_reads' HO_3.out).2.2 | (with_reducible refine Kd.C_alloc ?_ _) | (with_reducible refine Kd.C_drewN ?_ _) | (with_reducible refine Kd.C_drew ?_))); (case side2 => exact (Kd.R_reads' HO_3.out).2.1); rintro e w36 ⟨rfl, hb⟩; have n0_ := Aside0.mk (Kd.R_below (by (with_reducible repeat (first | apply Kd.R_alloc | apply Kd.R_drewN | apply Kd.R_drew)); exact HO_3.out) hb); have n1_ := Aside0.mk (Kd.R_below (by (with_reducible repeat (first | apply Kd.R_alloc | apply Kd.R_drewN | apply Kd.R_drew)); exact HO_6.out) hb); have n2_ := Aside0.mk (below_step (by with_reducible repeat (first | exact HB.out | apply below_alloc | apply pw_below_drewN | apply below_drew1)) hb); clear HO_3 HO_6 HB; have HO_3 := n0_; have HO_6 := n1_; have HB := n2_; clear n0_ n1_ n2_; clear hb))
          go_meet
          case rel => exact ⟨_, (false), (by first | rfl | simp | simp [*]), H', ⟨by have := HJ7.out; first | omega | exact Nat.le_refl _⟩, ⟨by (with_reducible repeat (first | apply Kd.R_alloc | apply Kd.R_drewN | apply Kd.R_drew)); exact HO_3.out⟩, ⟨by (with_reducible repeat (first | apply Kd.R_alloc | apply Kd.R_drewN | apply Kd.R_drew)); exact HO_6.out⟩, ⟨by with_reducible repeat (first | exact HB.out | apply below_alloc | apply pw_below_drewN | apply below_drew1)⟩⟩
        ·replace c28 := Bool.eq_false_iff.mpr c28
         subst c28
         have H1 : (laws_FnExplained.j1 kj7 l0 t420 t427 t431 true) = some r := by rw [if_neg (show ¬ (false = true) by decide)] at H; exact H
         clear H
         have H := H1
         clear H1
         have H' := Aside0.mk H
         clear H
         obtain ⟨Ao37, co37, eo37⟩ := Kd.R_slice HO_6.out
         subst eo37
         go_wp2_with (first | (go_at_call 13; (with_reducible refine (impl_Explains.calls _ _ t420 _ _ t427 false _ ?side1 ?side2 ?side3 ?side4 A27.out).mono ?_); (case side1 => repeat (first | exact (Kd.R_reads' HO_3.out).2.2 | (with_reducible refine Kd.C_alloc ?_ _) | (with_reducible refine Kd.C_drewN ?_ _) | (with_reducible refine Kd.C_drew ?_))); (case side2 => exact (Kd.R_reads' HO_3.out).2.1); (case side3 => repeat (first | exact (Kd.R_reads' HO_6.out).2.2 | (with_reducible refine Kd.C_alloc ?_ _) | (with_reducible refine Kd.C_drewN ?_ _) | (with_reducible refine Kd.C_drew ?_))); (case side4 => exact (Kd.R_reads' HO_6.out).2.1); rintro e w38 ⟨rfl, hb⟩; have n0_ := Aside0.mk (Kd.R_below (by (with_reducible repeat (first | apply Kd.R_alloc | apply Kd.R_drewN | apply Kd.R_drew)); exact HO_3.out) hb); have n1_ := Aside0.mk (Kd.R_below (by (with_reducible repeat (first | apply Kd.R_alloc | apply Kd.R_drewN | apply Kd.R_drew)); exact HO_6.out) hb); have n2_ := Aside0.mk (below_step (by with_reducible repeat (first | exact HB.out | apply below_alloc | apply pw_below_drewN | apply below_drew1)) hb); clear HO_3 HO_6 HB; have HO_3 := n0_; have HO_6 := n1_; have HB := n2_; clear n0_ n1_ n2_; clear hb))
         go_meet
         case rel => exact ⟨_, (true), (by first | rfl | simp | simp [*]), H', ⟨by have := HJ7.out; first | omega | exact Nat.le_refl _⟩, ⟨by (with_reducible repeat (first | apply Kd.R_alloc | apply Kd.R_drewN | apply Kd.R_drew)); exact HO_3.out⟩, ⟨by (with_reducible repeat (first | apply Kd.R_alloc | apply Kd.R_drewN | apply Kd.R_drew)); exact HO_6.out⟩, ⟨by with_reducible repeat (first | exact HB.out | apply below_alloc | apply pw_below_drewN | apply below_drew1)⟩⟩
      case rest =>
       clear HC25
       try clear c1
       try clear c2
       try clear p2
       try clear c3
       try clear c6
       try clear c14
       try clear c14b0
       try clear c14b1
       try clear c14b2
       try clear c16
       try clear c17
       try clear c18
       try clear c19
       try clear c23
       try clear c24
       try clear c26
       try clear c26b0
       try clear c28
       try clear c30
       try clear p2
       obtain ⟨kq, x61_24, rfl, HA, HJ24, HO_3, HO_6, HB⟩ := hcut
       cases kq with
       | zero => exact absurd HA.out (by simp [laws_FnExplained.j1])
       | succ kj24 =>
        have H := HA.out
        clear HA
        simp only [laws_FnExplained.j1] at H
        by_cases c39 : x61_24 = true
        ·subst c39
         have H1 : (some false) = some r := by rw [if_pos rfl] at H; exact H
         clear H
         have H := H1
         clear H1
         obtain rfl := Option.some.inj H
         go_wp2
         go_ret
         exact ⟨by first | rfl | (simp [errW_none, errW_some] <;> rfl) | (simp [*, errW_none, errW_some] <;> rfl), by with_reducible repeat (first | exact HB.out | apply below_alloc | apply pw_below_drewN | apply below_drew1)⟩
        ·replace c39 := Bool.eq_false_iff.mpr c39
         subst c39
         have H1 : ((laws_at.f l0 0).bind fun t436 => ((impl_Widen.f kj24 t420 (Int.tmod t436 9)).bind fun bt437 => (if bt437.2 = true then ((impl_Explains.f bt437.1 t427).bind fun t441 => (if t441 = true then ((impl_CountOrders.f bt437.1).bind fun t442 => (some (decide (t442 ≥ t431)))) else (some false))) else (some false)))) = some r := by rw [if_neg (show ¬ (false = true) by decide)] at H; exact H
         clear H
         have H := H1
         clear H1
         replace H := Option.bind_eq_some_iff.mp H
         obtain ⟨t436, A400, H⟩ := H
         replace H : ((impl_Widen.f kj24 t420 (Int.tmod t436 9)).bind fun bt437 => (if bt437.2 = true then ((impl_Explains.f bt437.1 t427).bind fun t441 => (if t441 = true then ((impl_CountOrders.f bt437.1).bind fun t442 => (some (decide (t442 ≥ t431)))) else (some false))) else (some false))) = some r := H
         have A40 := Aside0.mk A400
         clear A400
         replace H := Option.bind_eq_some_iff.mp H
         obtain ⟨⟨t437, t438⟩, A410, H⟩ := H
         replace H : (if t438 = true then ((impl_Explains.f t437 t427).bind fun t441 => (if t441 = true then ((impl_CountOrders.f t437).bind fun t442 => (some (decide (t442 ≥ t431)))) else (some false))) else (some false)) = some r := H
         have A41 := Aside0.mk A410
         clear A410
         by_cases c42 : t438 = true
         ·subst c42
          have H1 : ((impl_Explains.f t437 t427).bind fun t441 => (if t441 = true then ((impl_CountOrders.f t437).bind fun t442 => (some (decide (t442 ≥ t431)))) else (some false))) = some r := by rw [if_pos rfl] at H; exact H
          clear H
          have H := H1
          clear H1
          replace H := Option.bind_eq_some_iff.mp H
          obtain ⟨t441, A430, H⟩ := H
          replace H : (if t441 = true then ((impl_CountOrders.f t437).bind fun t442 => (some (decide (t442 ≥ t431)))) else (some false)) = some r := H
          have A43 := Aside0.mk A430
          clear A430
          by_cases c44 : t441 = true
          ·subst c44
           have H1 : ((impl_CountOrders.f t437).bind fun t442 => (some (decide (t442 ≥ t431)))) = some r := by rw [if_pos rfl] at H; exact H
           clear H
           have H := H1
           clear H1
           replace H := Option.bind_eq_some_iff.mp H
           obtain ⟨t442, A450, H⟩ := H
           replace H : (some (decide (t442 ≥ t431))) = some r := H
           have A45 := Aside0.mk A450
           clear A450
           obtain rfl := Option.some.inj H
           go_wp2_with (first | (go_at_call 28; (with_reducible refine (laws_at.calls _ _ l0 0 t436 _ ?side1 ?side2 A40.out).mono ?_); (case side1 => repeat (first | exact (Kd.C_below HR0.out HB.out) | (with_reducible refine Kd.C_alloc ?_ _) | (with_reducible refine Kd.C_drewN ?_ _) | (with_reducible refine Kd.C_drew ?_))); (case side2 => exact HC0.out); rintro e w' ⟨rfl, ⟨nd, rfl⟩⟩) | (go_at_call 27; (with_reducible refine (impl_Widen.calls kj24 _ _ t420 (Int.tmod t436 9) t437 true _ ?side1 ?side2 A41.out).mono ?_); (case side1 => repeat (first | exact (Kd.R_reads' HO_3.out).2.2 | (with_reducible refine Kd.C_alloc ?_ _) | (with_reducible refine Kd.C_drewN ?_ _) | (with_reducible refine Kd.C_drew ?_))); (case side2 => exact (Kd.R_reads' HO_3.out).2.1); rintro e w46 ⟨v439, rfl, ho0, hb⟩; have n0_ := Aside0.mk (Kd.R_elder' (by (with_reducible repeat (first | apply Kd.R_alloc | apply Kd.R_drewN | apply Kd.R_drew)); exact HO_3.out) (Kd.R_base ho0) hb); have n1_ := Aside0.mk (Kd.R_below (by (with_reducible repeat (first | apply Kd.R_alloc | apply Kd.R_drewN | apply Kd.R_drew)); exact HO_6.out) hb); have n2_ := Aside0.mk (Kd.R_lower (Kd.R_new' ho0 (Kd.R_lt (by (with_reducible repeat (first | apply Kd.R_alloc | apply Kd.R_drewN | apply Kd.R_drew)); exact HO_3.out))) (below_size (by with_reducible repeat (first | exact HB.out | apply below_alloc | apply pw_below_drewN | apply below_drew1)))); have n3_ := Aside0.mk (below_step (by with_reducible repeat (first | exact HB.out | apply below_alloc | apply pw_below_drewN | apply below_drew1)) hb); clear HO_3 HO_6 HB; have HO_3 := n0_; have HO_6 := n1_; have HO440 := n2_; have HB := n3_; clear n0_ n1_ n2_ n3_; clear hb ho0; obtain ⟨Ao47, co47, eo47⟩ := Kd.R_slice HO440.out; subst eo47; obtain ⟨Ao48, co48, eo48⟩ := Kd.R_slice HO_6.out; subst eo48) | (go_at_call 13; (with_reducible refine (impl_Explains.calls _ _ t437 _ _ t427 true _ ?side1 ?side2 ?side3 ?side4 A43.out).mono ?_); (case side1 => repeat (first | exact (Kd.R_reads' HO440.out).2.2 | (with_reducible refine Kd.C_alloc ?_ _) | (with_reducible refine Kd.C_drewN ?_ _) | (with_reducible refine Kd.C_drew ?_))); (case side2 => exact (Kd.R_reads' HO440.out).2.1); (case side3 => repeat (first | exact (Kd.R_reads' HO_6.out).2.2 | (with_reducible refine Kd.C_alloc ?_ _) | (with_reducible refine Kd.C_drewN ?_ _) | (with_reducible refine Kd.C_drew ?_))); (case side4 => exact (Kd.R_reads' HO_6.out).2.1); rintro e w49 ⟨rfl, hb⟩; have n0_ := Aside0.mk (Kd.R_below (by (with_reducible repeat (first | apply Kd.R_alloc | apply Kd.R_drewN | apply Kd.R_drew)); exact HO_3.out) hb); have n1_ := Aside0.mk (Kd.R_below (by (with_reducible repeat (first | apply Kd.R_alloc | apply Kd.R_drewN | apply Kd.R_drew)); exact HO_6.out) hb); have n2_ := Aside0.mk (Kd.R_below (by (with_reducible repeat (first | apply Kd.R_alloc | apply Kd.R_drewN | apply Kd.R_drew)); exact HO440.out) hb); have n3_ := Aside0.mk (below_step (by with_reducible repeat (first | exact HB.out | apply below_alloc | apply pw_below_drewN | apply below_drew1)) hb); clear HO_3 HO_6 HO440 HB; have HO_3 := n0_; have HO_6 := n1_; have HO440 := n2_; have HB := n3_; clear n0_ n1_ n2_ n3_; clear hb) | (go_at_call 17; (with_reducible refine (impl_CountOrders.calls _ _ t437 t442 _ ?side1 ?side2 A45.out).mono ?_); (case side1 => repeat (first | exact (Kd.R_reads' HO440.out).2.2 | (with_reducible refine Kd.C_alloc ?_ _) | (with_reducible refine Kd.C_drewN ?_ _) | (with_reducible refine Kd.C_drew ?_))); (case side2 => exact (Kd.R_reads' HO440.out).2.1); rintro e w50 ⟨rfl, hb⟩; have n0_ := Aside0.mk (Kd.R_below (by (with_reducible repeat (first | apply Kd.R_alloc | apply Kd.R_drewN | apply Kd.R_drew)); exact HO_3.out) hb); have n1_ := Aside0.mk (Kd.R_below (by (with_reducible repeat (first | apply Kd.R_alloc | apply Kd.R_drewN | apply Kd.R_drew)); exact HO_6.out) hb); have n2_ := Aside0.mk (Kd.R_below (by (with_reducible repeat (first | apply Kd.R_alloc | apply Kd.R_drewN | apply Kd.R_drew)); exact HO440.out) hb); have n3_ := Aside0.mk (below_step (by with_reducible repeat (first | exact HB.out | apply below_alloc | apply pw_below_drewN | apply below_drew1)) hb); clear HO_3 HO_6 HO440 HB; have HO_3 := n0_; have HO_6 := n1_; have HO440 := n2_; have HB := n3_; clear n0_ n1_ n2_ n3_; clear hb))
           go_ret
           exact ⟨by first | rfl | (simp [errW_none, errW_some] <;> rfl) | (simp [*, errW_none, errW_some] <;> rfl), by with_reducible repeat (first | exact HB.out | apply below_alloc | apply pw_below_drewN | apply below_drew1)⟩
          ·replace c44 := Bool.eq_false_iff.mpr c44
           subst c44
           have H1 : (some false) = some r := by rw [if_neg (show ¬ (false = true) by decide)] at H; exact H
           clear H
           have H := H1
           clear H1
           obtain rfl := Option.some.inj H
           go_wp2_with (first | (go_at_call 28; (with_reducible refine (laws_at.calls _ _ l0 0 t436 _ ?side1 ?side2 A40.out).mono ?_); (case side1 => repeat (first | exact (Kd.C_below HR0.out HB.out) | (with_reducible refine Kd.C_alloc ?_ _) | (with_reducible refine Kd.C_drewN ?_ _) | (with_reducible refine Kd.C_drew ?_))); (case side2 => exact HC0.out); rintro e w' ⟨rfl, ⟨nd, rfl⟩⟩) | (go_at_call 27; (with_reducible refine (impl_Widen.calls kj24 _ _ t420 (Int.tmod t436 9) t437 true _ ?side1 ?side2 A41.out).mono ?_); (case side1 => repeat (first | exact (Kd.R_reads' HO_3.out).2.2 | (with_reducible refine Kd.C_alloc ?_ _) | (with_reducible refine Kd.C_drewN ?_ _) | (with_reducible refine Kd.C_drew ?_))); (case side2 => exact (Kd.R_reads' HO_3.out).2.1); rintro e w51 ⟨v439, rfl, ho0, hb⟩; have n0_ := Aside0.mk (Kd.R_elder' (by (with_reducible repeat (first | apply Kd.R_alloc | apply Kd.R_drewN | apply Kd.R_drew)); exact HO_3.out) (Kd.R_base ho0) hb); have n1_ := Aside0.mk (Kd.R_below (by (with_reducible repeat (first | apply Kd.R_alloc | apply Kd.R_drewN | apply Kd.R_drew)); exact HO_6.out) hb); have n2_ := Aside0.mk (Kd.R_lower (Kd.R_new' ho0 (Kd.R_lt (by (with_reducible repeat (first | apply Kd.R_alloc | apply Kd.R_drewN | apply Kd.R_drew)); exact HO_3.out))) (below_size (by with_reducible repeat (first | exact HB.out | apply below_alloc | apply pw_below_drewN | apply below_drew1)))); have n3_ := Aside0.mk (below_step (by with_reducible repeat (first | exact HB.out | apply below_alloc | apply pw_below_drewN | apply below_drew1)) hb); clear HO_3 HO_6 HB; have HO_3 := n0_; have HO_6 := n1_; have HO440 := n2_; have HB := n3_; clear n0_ n1_ n2_ n3_; clear hb ho0; obtain ⟨Ao52, co52, eo52⟩ := Kd.R_slice HO440.out; subst eo52; obtain ⟨Ao53, co53, eo53⟩ := Kd.R_slice HO_6.out; subst eo53) | (go_at_call 13; (with_reducible refine (impl_Explains.calls _ _ t437 _ _ t427 false _ ?side1 ?side2 ?side3 ?side4 A43.out).mono ?_); (case side1 => repeat (first | exact (Kd.R_reads' HO440.out).2.2 | (with_reducible refine Kd.C_alloc ?_ _) | (with_reducible refine Kd.C_drewN ?_ _) | (with_reducible refine Kd.C_drew ?_))); (case side2 => exact (Kd.R_reads' HO440.out).2.1); (case side3 => repeat (first | exact (Kd.R_reads' HO_6.out).2.2 | (with_reducible refine Kd.C_alloc ?_ _) | (with_reducible refine Kd.C_drewN ?_ _) | (with_reducible refine Kd.C_drew ?_))); (case side4 => exact (Kd.R_reads' HO_6.out).2.1); rintro e w54 ⟨rfl, hb⟩; have n0_ := Aside0.mk (Kd.R_below (by (with_reducible repeat (first | apply Kd.R_alloc | apply Kd.R_drewN | apply Kd.R_drew)); exact HO_3.out) hb); have n1_ := Aside0.mk (Kd.R_below (by (with_reducible repeat (first | apply Kd.R_alloc | apply Kd.R_drewN | apply Kd.R_drew)); exact HO_6.out) hb); have n2_ := Aside0.mk (Kd.R_below (by (with_reducible repeat (first | apply Kd.R_alloc | apply Kd.R_drewN | apply Kd.R_drew)); exact HO440.out) hb); have n3_ := Aside0.mk (below_step (by with_reducible repeat (first | exact HB.out | apply below_alloc | apply pw_below_drewN | apply below_drew1)) hb); clear HO_3 HO_6 HO440 HB; have HO_3 := n0_; have HO_6 := n1_; have HO440 := n2_; have HB := n3_; clear n0_ n1_ n2_ n3_; clear hb))
           go_ret
           exact ⟨by first | rfl | (simp [errW_none, errW_some] <;> rfl) | (simp [*, errW_none, errW_some] <;> rfl), by with_reducible repeat (first | exact HB.out | apply below_alloc | apply pw_below_drewN | apply below_drew1)⟩
         ·replace c42 := Bool.eq_false_iff.mpr c42
          subst c42
          have H1 : (some false) = some r := by rw [if_neg (show ¬ (false = true) by decide)] at H; exact H
          clear H
          have H := H1
          clear H1
          obtain rfl := Option.some.inj H
          go_wp2_with (first | (go_at_call 28; (with_reducible refine (laws_at.calls _ _ l0 0 t436 _ ?side1 ?side2 A40.out).mono ?_); (case side1 => repeat (first | exact (Kd.C_below HR0.out HB.out) | (with_reducible refine Kd.C_alloc ?_ _) | (with_reducible refine Kd.C_drewN ?_ _) | (with_reducible refine Kd.C_drew ?_))); (case side2 => exact HC0.out); rintro e w' ⟨rfl, ⟨nd, rfl⟩⟩) | (go_at_call 27; (with_reducible refine (impl_Widen.calls kj24 _ _ t420 (Int.tmod t436 9) t437 false _ ?side1 ?side2 A41.out).mono ?_); (case side1 => repeat (first | exact (Kd.R_reads' HO_3.out).2.2 | (with_reducible refine Kd.C_alloc ?_ _) | (with_reducible refine Kd.C_drewN ?_ _) | (with_reducible refine Kd.C_drew ?_))); (case side2 => exact (Kd.R_reads' HO_3.out).2.1); rintro e w55 ⟨v439, rfl, ho0, hb⟩; have n0_ := Aside0.mk (Kd.R_elder' (by (with_reducible repeat (first | apply Kd.R_alloc | apply Kd.R_drewN | apply Kd.R_drew)); exact HO_3.out) (Kd.R_base ho0) hb); have n1_ := Aside0.mk (Kd.R_below (by (with_reducible repeat (first | apply Kd.R_alloc | apply Kd.R_drewN | apply Kd.R_drew)); exact HO_6.out) hb); have n2_ := Aside0.mk (Kd.R_lower (Kd.R_new' ho0 (Kd.R_lt (by (with_reducible repeat (first | apply Kd.R_alloc | apply Kd.R_drewN | apply Kd.R_drew)); exact HO_3.out))) (below_size (by with_reducible repeat (first | exact HB.out | apply below_alloc | apply pw_below_drewN | apply below_drew1)))); have n3_ := Aside0.mk (below_step (by with_reducible repeat (first | exact HB.out | apply below_alloc | apply pw_below_drewN | apply below_drew1)) hb); clear HO_3 HO_6 HB; have HO_3 := n0_; have HO_6 := n1_; have HO440 := n2_; have HB := n3_; clear n0_ n1_ n2_ n3_; clear hb ho0))
          go_ret
          exact ⟨by first | rfl | (simp [errW_none, errW_some] <;> rfl) | (simp [*, errW_none, errW_some] <;> rfl), by with_reducible repeat (first | exact HB.out | apply below_alloc | apply pw_below_drewN | apply below_drew1)⟩
     ·replace c24 := Bool.eq_false_iff.mpr c24
      subst c24
      have H1 : (some (decide (t431 ≤ 0))) = some r := by rw [if_neg (show ¬ (false = true) by decide)] at H; exact H
      clear H
      have H := H1
      clear H1
      obtain rfl := Option.some.inj H
      go_wp2
      go_ret
      exact ⟨by first | rfl | (simp [errW_none, errW_some] <;> rfl) | (simp [*, errW_none, errW_some] <;> rfl), by with_reducible repeat (first | exact HB.out | apply below_alloc | apply pw_below_drewN | apply below_drew1)⟩

/-- THE ONE PURE STATEMENT of laws_FnExplained: yours. -/
def laws_FnExplained.Pure : Prop := ∀ (l0 : List Int), l0.length ≤ maxLen → l0.length * 1 ≤ 140737488351232 → (∀ x ∈ l0, (Lit.int .u8 x).wf = true) → ∃ k, laws_FnExplained.f k l0 = some true
theorem laws_FnExplained.walk (P : laws_FnExplained.Pure) (a0 : Option Addr) (len0 cap0 : Nat) (z0 : List Int) (w : World) (w0 : (a0 = none ∧ len0 = 0 ∧ cap0 = 0 ∧ z0 = []) ∨ ∃ x, a0 = some x ∧ len0 ≤ cap0 ∧ cap0 ≤ maxLen ∧ z0.length = cap0 ∧ (∀ i, i < z0.length → w.cell? (x.add i) = some (.int .u8 (z0.getD i 0))) ∧ ∀ n ∈ z0, (Lit.int .u8 n).wf = true) (y0 : len0 * 1 ≤ 140737488351232) :
  Calls Try.prog 6 #[.slice a0 len0 cap0] w fun e w' => e = .returned (.bool true) ∧ Below w.heap.size w w' := by
 obtain ⟨l0, rfl, hr0, hm0, hw0, hc0⟩ := ReadsInt.ofRowC w0
 obtain ⟨k, h⟩ := P l0 hm0 y0 hw0
 refine (laws_FnExplained.calls k _ _ l0 true w (Kd.C_of_reads (d := (0 : Int)) (h1 := fun _ => rfl) hr0) hc0 h).mono ?_
 rintro e w' ⟨rfl, hd⟩
 exact ⟨rfl, hd⟩

end Go.Proofs.Ythhfkicmgneokaa.Q
