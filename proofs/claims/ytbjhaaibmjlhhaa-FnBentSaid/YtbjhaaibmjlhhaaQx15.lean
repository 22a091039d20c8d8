-- Written by a program of this session (qprint.py) over the kit's print: Lean checks every line.
import Derived.Test.YtbjhaaibmjlhhaaQx0
import Derived.Test.YtbjhaaibmjlhhaaQx4
import Derived.Test.YtbjhaaibmjlhhaaQx14
namespace Go.Proofs.Ytbjhaaibmjlhhaa.Q
open Go.RowKit Go.Proofs.YtbjhaaibmjlhhaaW.PrintWords Go.Proofs.YtbjhaaibmjlhhaaW.PrintLast Go.Proofs.YtbjhaaibmjlhhaaW.PrintMore
attribute [local go_sem] max2_int min2_int max_two min_two max_three min_three max_four min_four   -- for this text's walks alone
set_option linter.unusedVariables false
set_option linter.unusedSimpArgs false

/-! ### impl_ScanOps: function 13 -/
def impl_ScanOps.l0 : Nat → List Int → List (S38) → Int → Option ((List (S38)) × Int × Int)
 | 0, _, _, _ => none
 | k + 1, x0, x5, x6 => if 0 ≤ x6 then (if x6 ≤ (x0.length : Int) then ((impl_block.f k (x0.drop (x6 : Int).toNat)).bind fun bt364 => (if bt364.2 = 0 then (if ((x0.drop (x6 : Int).toNat).length : Int) = 0 then (some (x5, x6, 0)) else (if ((x0.drop (x6 : Int).toNat).length : Int) < 2 then (some (x5, x6, 1)) else (if 0 < ((x0.drop (x6 : Int).toNat).length : Int) then ((impl_within.f (wrap64 (rd (x0.drop (x6 : Int).toNat) 0)) 1 16).bind fun t373 => (if t373 = true then (if 1 < ((x0.drop (x6 : Int).toNat).length : Int) then ((impl_within.f (wrap64 (rd (x0.drop (x6 : Int).toNat) 1)) 1 32).bind fun t375 => (if t375 = true then (if ((x0.drop (x6 : Int).toNat).length : Int) < (wrap64 ((wrap64 (rd (x0.drop (x6 : Int).toNat) 1)) + 4)) then (some (x5, x6, 1)) else (some (x5, x6, 2))) else (some (x5, x6, 2)))) else (none)) else (some (x5, x6, 2)))) else (none)))) else (if x5.length + bt364.1.length < 5864062014805 then (impl_ScanOps.l0 k x0 (x5 ++ bt364.1) (wrap64 (x6 + bt364.2))) else (none)))) else (none)) else (none)
def impl_ScanOps.f (k : Nat) (l0 : List Int) : Option ((List (S38)) × Int × Int) := if (l0.length : Int) > 4000 then (some (([] : List (S38)), 0, 2)) else (impl_ScanOps.l0 k l0 (([] : List (S38))) 0)
theorem impl_ScanOps.mono_l : ∀ k, (∀ y0 y1 y2, LeO (impl_ScanOps.l0 k y0 y1 y2) (impl_ScanOps.l0 (k + 1) y0 y1 y2))
 | 0 => fun _ _ _ r h => by simp [impl_ScanOps.l0] at h
 | k + 1 => by
  have ih0 := impl_ScanOps.mono_l k
  ·intro y0 y1 y2
   unfold impl_ScanOps.l0
   repeat' first
   | (with_reducible exact ih0 _ _ _)
   | (with_reducible exact impl_block.mono _ _)
   | (with_reducible exact LeO.refl _)
   | (with_reducible exact LeO.none _)
   | (with_reducible refine LeO.ite ?_ ?_)
   | (with_reducible refine LeO.bind ?_ (fun _ => ?_))
theorem impl_ScanOps.mono : ∀ a0 k, LeO (impl_ScanOps.f k a0) (impl_ScanOps.f (k + 1) a0) := by
 intro a0 k
 have ih0 := impl_ScanOps.mono_l k
 unfold impl_ScanOps.f
 repeat' first
   | (with_reducible exact ih0 _ _ _)
   | (with_reducible exact impl_block.mono _ _)
   | (with_reducible exact LeO.refl _)
   | (with_reducible exact LeO.none _)
   | (with_reducible refine LeO.ite ?_ ?_)
   | (with_reducible refine LeO.bind ?_ (fun _ => ?_))
set_option maxHeartbeats 8000000 in
set_option maxRecDepth 100000 in
theorem impl_ScanOps.calls (k : Nat) (A0 : Option Addr) (c0 : Nat) (l0 : List Int) (r1 : List (S38)) (r2 : Int) (r3 : Int) (w : World) (hr0 : Kd.C (Kd.int .u8) w A0 l0.length l0) (hc0 : l0.length ≤ c0) (h : impl_ScanOps.f k l0 = some (r1, r2, r3)) :
  Calls Try.prog 13 #[.slice A0 l0.length c0] w fun e w' => ∃ v0_ : Value, e = .returned (.tuple #[v0_, .int .i64 r2, .int .i64 r3]) ∧ Kd.R k38 38 w' w.heap.size (fun _ => True) v0_ r1 ∧ Below w.heap.size w w' := by
 have HR0 := Aside0.mk hr0
 have HC0 := Aside0.mk hc0
 clear hr0 hc0
 have HB := Aside0.mk (Below.refl w.heap.size w)
 have H : (if (l0.length : Int) > 4000 then (some (([] : List (S38)), 0, 2)) else (impl_ScanOps.l0 k l0 (([] : List (S38))) 0)) = some (r1, r2, r3) := h
 clear h
 by_cases c2 : (l0.length : Int) > 4000
 ·rw [if_pos c2] at H
  have c2b0 : decide (4000 < (l0.length : Int)) = true := decide_eq_true c2
  have c2b1 : decide (4000 < l0.length) = true := decide_eq_true (by omega)
  clear c2
  simp only [Option.some.injEq, Prod.mk.injEq] at H
  obtain ⟨rfl, rfl, rfl⟩ := H
  go_enter Try.func13, Try.ntmps13
  go_wp2
  go_ret3
  exact ⟨_, by first | rfl | (simp [errW_none, errW_some] <;> rfl) | (simp [*, errW_none, errW_some] <;> rfl), by first | exact Kd.R_nil _ _ _ _ _ | exact Kd.N_nil _ _ _ _ _ | exact Kd.V_nil _ _ _ _ _ | exact Kd.Q_nil _ _ _ _ _ | exact Kd.S_nil _ _ _ _ _, by with_reducible repeat (first | exact HB.out | apply below_alloc | apply pw_below_drewN | apply below_drew1)⟩
 ·rw [if_neg c2] at H
  have c2b0 : decide (4000 < (l0.length : Int)) = false := decide_eq_false c2
  have c2b1 : decide (4000 < l0.length) = false := decide_eq_false (by omega)
  clear c2
  obtain ⟨y360, hy360⟩ : ∃ y_ : List (S38), y_ = (([] : List (S38))) := ⟨_, rfl⟩
  replace H : (impl_ScanOps.l0 k l0 y360 0) = some (r1, r2, r3) := by first | (rw [hy360]; exact H) | exact H
  have Ny360 := Aside0.mk hy360
  clear hy360
  have H' := Aside0.mk H
  clear H
  go_enter Try.func13, Try.ntmps13
  go_wp2_with (first | ((with_reducible refine gate_dst (N := 13) rfl ?_); (try (refine gate_guard (by rfl) ?_; dsimp only)); refine Kd.R_lit k38 _ 38 ?hg (N := 13) ?hd (xs := ([] : List (S38))) (inner := []) (ok := fun _ => True) (okp := fun _ => True) ?hr ?hp (fun _ hk => hk) trivial (Below.refl _ _) (Nat.le_refl _) (by simp) ?_; (case hd => rfl); (case hg => rfl); (case hr => first | (go_simp; done) | (go_simp; rfl)); (case hp => exact (Reps.none _ _)); intro v361 w3 ho4 hb hg_ hnew_; clear hg_ hnew_; (first | rw [← Ny360.out] at ho4 | (simp only [Int.reduceToNat] at ho4; rw [← Ny360.out] at ho4)); have n0_ := Aside0.mk (Kd.R_lower ho4 (below_size (by with_reducible repeat (first | exact HB.out | apply below_alloc | apply pw_below_drewN | apply below_drew1)))); have n1_ := Aside0.mk (below_step (by with_reducible repeat (first | exact HB.out | apply below_alloc | apply pw_below_drewN | apply below_drew1)) hb); clear HB; have HO362 := n0_; have HB := n1_; clear n0_ n1_; clear hb ho4))
  go_loopg [5, 6] k (fun kq v5 v6 w' => ∃ (x5_1 : List (S38)) (x6_1 : Int), v6 = .int .i64 x6_1 ∧ Aside0 (impl_ScanOps.l0 kq l0 x5_1 x6_1 = some (r1, r2, r3)) ∧ Aside0 (kq ≤ k) ∧ Aside0 (Kd.R k38 38 w' w.heap.size (fun _ => True) v5 x5_1) ∧ Aside0 (Below w.heap.size w w'))
  case atStart => exact ⟨(y360), (0), (by first | rfl | simp | simp [*]), H', ⟨Nat.le_refl _⟩, ⟨by (with_reducible repeat (first | apply Kd.R_alloc | apply Kd.R_drewN | apply Kd.R_drew)); exact HO362.out⟩, ⟨by with_reducible repeat (first | exact HB.out | apply below_alloc | apply pw_below_drewN | apply below_drew1)⟩⟩
  case round =>
   clear H'
   try clear c1
   try clear c2
   try clear c2b0
   try clear c2b1
   try clear p2
   obtain ⟨x5_1, x6_1, rfl, HA, HK1, HO_5, HB⟩ := hrel
   cases gk with
   | zero => exact absurd HA.out (by simp [impl_ScanOps.l0])
   | succ k1 =>
    have H := HA.out
    clear HA
    simp only [impl_ScanOps.l0] at H
    by_cases c5 : 0 ≤ x6_1
    ·rw [if_pos c5] at H
     have c5b0 := eq_true c5
     have c5b1 : decide (0 ≤ x6_1) = true := decide_eq_true c5
     clear c5
     by_cases c6 : x6_1 ≤ (l0.length : Int)
     ·rw [if_pos c6] at H
      have c6b0 := eq_true c6
      have c6b1 : decide (x6_1 ≤ (l0.length : Int)) = true := decide_eq_true c6
      clear c6
      replace H := Option.bind_eq_some_iff.mp H
      obtain ⟨⟨t364, t365⟩, A70, H⟩ := H
      replace H : (if t365 = 0 then (if ((l0.drop (x6_1 : Int).toNat).length : Int) = 0 then (some (x5_1, x6_1, 0)) else (if ((l0.drop (x6_1 : Int).toNat).length : Int) < 2 then (some (x5_1, x6_1, 1)) else (if 0 < ((l0.drop (x6_1 : Int).toNat).length : Int) then ((impl_within.f (wrap64 (rd (l0.drop (x6_1 : Int).toNat) 0)) 1 16).bind fun t373 => (if t373 = true then (if 1 < ((l0.drop (x6_1 : Int).toNat).length : Int) then ((impl_within.f (wrap64 (rd (l0.drop (x6_1 : Int).toNat) 1)) 1 32).bind fun t375 => (if t375 = true then (if ((l0.drop (x6_1 : Int).toNat).length : Int) < (wrap64 ((wrap64 (rd (l0.drop (x6_1 : Int).toNat) 1)) + 4)) then (some (x5_1, x6_1, 1)) else (some (x5_1, x6_1, 2))) else (some (x5_1, x6_1, 2)))) else (none)) else (some (x5_1, x6_1, 2)))) else (none)))) else (if x5_1.length + t364.length < 5864062014805 then (impl_ScanOps.l0 k1 l0 (x5_1 ++ t364) (wrap64 (x6_1 + t365))) else (none))) = some (r1, r2, r3) := H
      have A7 := Aside0.mk A70
      clear A70
      by_cases c8 : t365 = 0
      ·rw [if_pos c8] at H
       have c8b0 : (t365 == 0) = true := beq_iff_eq.mpr c8
       have c8b1 : (t365 != 0) = false := bne_eq_false_iff_eq.mpr c8
       clear c8
       have c9b0 := eq_true (of_decide_eq_true (by first | (with_reducible assumption) | assumption) : 0 ≤ x6_1)
       have c10b0 := eq_true (of_decide_eq_true (by first | (with_reducible assumption) | assumption) : x6_1 ≤ (l0.length : Int))
       by_cases c11 : ((l0.drop (x6_1 : Int).toNat).length : Int) = 0
       ·rw [if_pos c11] at H
        have c11b0 : (((l0.drop (x6_1 : Int).toNat).length : Int) == 0) = true := beq_iff_eq.mpr c11
        have c11b0n : (((l0.length - (x6_1 : Int).toNat : Nat) : Int) == 0) = true := by have h_ := c11b0; rw [List.length_drop] at h_; exact h_
        have c11b1 : (((l0.drop (x6_1 : Int).toNat).length : Int) != 0) = false := bne_eq_false_iff_eq.mpr c11
        have c11b1n : (((l0.length - (x6_1 : Int).toNat : Nat) : Int) != 0) = false := by have h_ := c11b1; rw [List.length_drop] at h_; exact h_
        clear c11
        simp only [Option.some.injEq, Prod.mk.injEq] at H
        obtain ⟨rfl, rfl, rfl⟩ := H
        obtain ⟨i012, hi012, _, hsz12, _⟩ := info_parts info5
        obtain ⟨A12, hcut12, hA12, hC12⟩ := print_drop_of (P := Try.prog) (Value.int .u8) 0 22 5 .i64 Try.underlying22 hi012 hsz12 A0 c0 l0 x6_1 (of_decide_eq_true (by first | (with_reducible assumption) | assumption)) (of_decide_eq_true (by first | (with_reducible assumption) | assumption)) HC0.out
        have HR363 := Aside0.mk (Kd.C_of_reads (h1 := fun _ => rfl) (hA12 _ (Kd.reads_of_C HR0.out)))
        have HC363 := Aside0.mk hC12
        clear hA12 hC12 hi012 hsz12
        go_wp2_with (first | ((with_reducible refine gate_callee (f := 27) rfl ?_); refine goesL_ (some 18) rfl rfl Try.func27 (by kernel_rfl) rfl #[.slice A12 (l0.drop (x6_1 : Int).toNat).length (c0 - x6_1.toNat)] rfl (by (try simp only [List.map_toArray, List.map_cons, List.map_nil]); first | done | (rw [show (l0.drop (x6_1 : Int).toNat).length = (l0.length - x6_1.toNat) from List.length_drop] <;> rfl) | rfl | (simp only [List.length_drop, List.length_take]; rfl)) ?_; (with_reducible refine (impl_block.calls k1 _ _ (l0.drop (x6_1 : Int).toNat) t364 t365 _ ?side1 ?side2 A7.out).mono ?_); (case side1 => repeat (first | exact (Kd.C_below HR363.out HB.out) | (with_reducible refine Kd.C_alloc ?_ _) | (with_reducible refine Kd.C_drewN ?_ _) | (with_reducible refine Kd.C_drew ?_))); (case side2 => exact HC363.out); rintro e w13 ⟨v366, rfl, ho0, hb⟩; refine ⟨_, rfl, ?_⟩; have n0_ := Aside0.mk (Kd.R_elder' (by (with_reducible repeat (first | apply Kd.R_alloc | apply Kd.R_drewN | apply Kd.R_drew)); exact HO_5.out) (Kd.R_base ho0) hb); have n1_ := Aside0.mk (Kd.R_lower (Kd.R_new' ho0 (Kd.R_lt (by (with_reducible repeat (first | apply Kd.R_alloc | apply Kd.R_drewN | apply Kd.R_drew)); exact HO_5.out))) (below_size (by with_reducible repeat (first | exact HB.out | apply below_alloc | apply pw_below_drewN | apply below_drew1)))); have n2_ := Aside0.mk (below_step (by with_reducible repeat (first | exact HB.out | apply below_alloc | apply pw_below_drewN | apply below_drew1)) hb); clear HO_5 HB; have HO_5 := n0_; have HO367 := n1_; have HB := n2_; clear n0_ n1_ n2_; (try clear hb); (try clear hb2); (try clear hk); (try clear hi); (try clear ho0); have HR371 := HR363; have HC371 := HC363))
        go_ret3
        exact ⟨_, by first | rfl | (simp [errW_none, errW_some] <;> rfl) | (simp [*, errW_none, errW_some] <;> rfl), by (with_reducible repeat (first | apply Kd.R_alloc | apply Kd.R_drewN | apply Kd.R_drew)); exact Kd.R_mono HO_5.out (fun _ hk => trivial), by with_reducible repeat (first | exact HB.out | apply below_alloc | apply pw_below_drewN | apply below_drew1)⟩
       ·rw [if_neg c11] at H
        have c11b0 : (((l0.drop (x6_1 : Int).toNat).length : Int) == 0) = false := beq_eq_false_iff_ne.mpr c11
        have c11b0n : (((l0.length - (x6_1 : Int).toNat : Nat) : Int) == 0) = false := by have h_ := c11b0; rw [List.length_drop] at h_; exact h_
        have c11b1 : (((l0.drop (x6_1 : Int).toNat).length : Int) != 0) = true := bne_iff_ne.mpr c11
        have c11b1n : (((l0.length - (x6_1 : Int).toNat : Nat) : Int) != 0) = true := by have h_ := c11b1; rw [List.length_drop] at h_; exact h_
        have c11b2 : ¬ ((l0.drop (x6_1 : Int).toNat) = []) := fun h_ => c11 (by rw [h_]; rfl)
        by_cases c15 : ((l0.drop (x6_1 : Int).toNat).length : Int) < 2
        ·rw [if_pos c15] at H
         have c15b0 : decide (((l0.drop (x6_1 : Int).toNat).length : Int) < 2) = true := decide_eq_true c15
         have c15b0n : decide (((l0.length - (x6_1 : Int).toNat : Nat) : Int) < 2) = true := by have h_ := c15b0; rw [List.length_drop] at h_; exact h_
         have c15b1 : decide ((l0.drop (x6_1 : Int).toNat).length < 2) = true := decide_eq_true (by omega)
         have c15b1n : decide ((l0.length - (x6_1 : Int).toNat : Nat) < 2) = true := by have h_ := c15b1; rw [List.length_drop] at h_; exact h_
         clear c15
         simp only [Option.some.injEq, Prod.mk.injEq] at H
         obtain ⟨rfl, rfl, rfl⟩ := H
         obtain ⟨i016, hi016, _, hsz16, _⟩ := info_parts info5
         obtain ⟨A16, hcut16, hA16, hC16⟩ := print_drop_of (P := Try.prog) (Value.int .u8) 0 22 5 .i64 Try.underlying22 hi016 hsz16 A0 c0 l0 x6_1 (of_decide_eq_true (by first | (with_reducible assumption) | assumption)) (of_decide_eq_true (by first | (with_reducible assumption) | assumption)) HC0.out
         have HR363 := Aside0.mk (Kd.C_of_reads (h1 := fun _ => rfl) (hA16 _ (Kd.reads_of_C HR0.out)))
         have HC363 := Aside0.mk hC16
         clear hA16 hC16 hi016 hsz16
         go_wp2_with (first | ((with_reducible refine gate_callee (f := 27) rfl ?_); refine goesL_ (some 18) rfl rfl Try.func27 (by kernel_rfl) rfl #[.slice A16 (l0.drop (x6_1 : Int).toNat).length (c0 - x6_1.toNat)] rfl (by (try simp only [List.map_toArray, List.map_cons, List.map_nil]); first | done | (rw [show (l0.drop (x6_1 : Int).toNat).length = (l0.length - x6_1.toNat) from List.length_drop] <;> rfl) | rfl | (simp only [List.length_drop, List.length_take]; rfl)) ?_; (with_reducible refine (impl_block.calls k1 _ _ (l0.drop (x6_1 : Int).toNat) t364 t365 _ ?side1 ?side2 A7.out).mono ?_); (case side1 => repeat (first | exact (Kd.C_below HR363.out HB.out) | (with_reducible refine Kd.C_alloc ?_ _) | (with_reducible refine Kd.C_drewN ?_ _) | (with_reducible refine Kd.C_drew ?_))); (case side2 => exact HC363.out); rintro e w17 ⟨v366, rfl, ho0, hb⟩; refine ⟨_, rfl, ?_⟩; have n0_ := Aside0.mk (Kd.R_elder' (by (with_reducible repeat (first | apply Kd.R_alloc | apply Kd.R_drewN | apply Kd.R_drew)); exact HO_5.out) (Kd.R_base ho0) hb); have n1_ := Aside0.mk (Kd.R_lower (Kd.R_new' ho0 (Kd.R_lt (by (with_reducible repeat (first | apply Kd.R_alloc | apply Kd.R_drewN | apply Kd.R_drew)); exact HO_5.out))) (below_size (by with_reducible repeat (first | exact HB.out | apply below_alloc | apply pw_below_drewN | apply below_drew1)))); have n2_ := Aside0.mk (below_step (by with_reducible repeat (first | exact HB.out | apply below_alloc | apply pw_below_drewN | apply below_drew1)) hb); clear HO_5 HB; have HO_5 := n0_; have HO367 := n1_; have HB := n2_; clear n0_ n1_ n2_; (try clear hb); (try clear hb2); (try clear hk); (try clear hi); (try clear ho0); have HR371 := HR363; have HC371 := HC363))
         go_ret3
         exact ⟨_, by first | rfl | (simp [errW_none, errW_some] <;> rfl) | (simp [*, errW_none, errW_some] <;> rfl), by (with_reducible repeat (first | apply Kd.R_alloc | apply Kd.R_drewN | apply Kd.R_drew)); exact Kd.R_mono HO_5.out (fun _ hk => trivial), by with_reducible repeat (first | exact HB.out | apply below_alloc | apply pw_below_drewN | apply below_drew1)⟩
        ·rw [if_neg c15] at H
         have c15b0 : decide (((l0.drop (x6_1 : Int).toNat).length : Int) < 2) = false := decide_eq_false c15
         have c15b0n : decide (((l0.length - (x6_1 : Int).toNat : Nat) : Int) < 2) = false := by have h_ := c15b0; rw [List.length_drop] at h_; exact h_
         have c15b1 : decide ((l0.drop (x6_1 : Int).toNat).length < 2) = false := decide_eq_false (by omega)
         have c15b1n : decide ((l0.length - (x6_1 : Int).toNat : Nat) < 2) = false := by have h_ := c15b1; rw [List.length_drop] at h_; exact h_
         clear c15
         by_cases c19 : 0 < ((l0.drop (x6_1 : Int).toNat).length : Int)
         ·rw [if_pos c19] at H
          have c19b0 : decide (0 < ((l0.drop (x6_1 : Int).toNat).length : Int)) = true := decide_eq_true c19
          have c19b0n : decide (0 < ((l0.length - (x6_1 : Int).toNat : Nat) : Int)) = true := by have h_ := c19b0; rw [List.length_drop] at h_; exact h_
          have c19b1 : decide (0 < (l0.drop (x6_1 : Int).toNat).length) = true := decide_eq_true (by omega)
          have c19b1n : decide (0 < (l0.length - (x6_1 : Int).toNat : Nat)) = true := by have h_ := c19b1; rw [List.length_drop] at h_; exact h_
          clear c19
          replace H := Option.bind_eq_some_iff.mp H
          obtain ⟨t373, A200, H⟩ := H
          replace H : (if t373 = true then (if 1 < ((l0.drop (x6_1 : Int).toNat).length : Int) then ((impl_within.f (wrap64 (rd (l0.drop (x6_1 : Int).toNat) 1)) 1 32).bind fun t375 => (if t375 = true then (if ((l0.drop (x6_1 : Int).toNat).length : Int) < (wrap64 ((wrap64 (rd (l0.drop (x6_1 : Int).toNat) 1)) + 4)) then (some (x5_1, x6_1, 1)) else (some (x5_1, x6_1, 2))) else (some (x5_1, x6_1, 2)))) else (none)) else (some (x5_1, x6_1, 2))) = some (r1, r2, r3) := H
          have A20 := Aside0.mk A200
          clear A200
          by_cases c21 : t373 = true
          ·subst c21
           have H1 : (if 1 < ((l0.drop (x6_1 : Int).toNat).length : Int) then ((impl_within.f (wrap64 (rd (l0.drop (x6_1 : Int).toNat) 1)) 1 32).bind fun t375 => (if t375 = true then (if ((l0.drop (x6_1 : Int).toNat).length : Int) < (wrap64 ((wrap64 (rd (l0.drop (x6_1 : Int).toNat) 1)) + 4)) then (some (x5_1, x6_1, 1)) else (some (x5_1, x6_1, 2))) else (some (x5_1, x6_1, 2)))) else (none)) = some (r1, r2, r3) := by rw [if_pos rfl] at H; exact H
           clear H
           have H := H1
           clear H1
           by_cases c22 : 1 < ((l0.drop (x6_1 : Int).toNat).length : Int)
           ·rw [if_pos c22] at H
            have c22b0 : decide (1 < ((l0.drop (x6_1 : Int).toNat).length : Int)) = true := decide_eq_true c22
            have c22b0n : decide (1 < ((l0.length - (x6_1 : Int).toNat : Nat) : Int)) = true := by have h_ := c22b0; rw [List.length_drop] at h_; exact h_
            have c22b1 : decide (1 < (l0.drop (x6_1 : Int).toNat).length) = true := decide_eq_true (by omega)
            have c22b1n : decide (1 < (l0.length - (x6_1 : Int).toNat : Nat)) = true := by have h_ := c22b1; rw [List.length_drop] at h_; exact h_
            clear c22
            replace H := Option.bind_eq_some_iff.mp H
            obtain ⟨t375, A230, H⟩ := H
            replace H : (if t375 = true then (if ((l0.drop (x6_1 : Int).toNat).length : Int) < (wrap64 ((wrap64 (rd (l0.drop (x6_1 : Int).toNat) 1)) + 4)) then (some (x5_1, x6_1, 1)) else (some (x5_1, x6_1, 2))) else (some (x5_1, x6_1, 2))) = some (r1, r2, r3) := H
            have A23 := Aside0.mk A230
            clear A230
            by_cases c24 : t375 = true
            ·subst c24
             have H1 : (if ((l0.drop (x6_1 : Int).toNat).length : Int) < (wrap64 ((wrap64 (rd (l0.drop (x6_1 : Int).toNat) 1)) + 4)) then (some (x5_1, x6_1, 1)) else (some (x5_1, x6_1, 2))) = some (r1, r2, r3) := by rw [if_pos rfl] at H; exact H
             clear H
             have H := H1
             clear H1
             by_cases c25 : ((l0.drop (x6_1 : Int).toNat).length : Int) < (wrap64 ((wrap64 (rd (l0.drop (x6_1 : Int).toNat) 1)) + 4))
             ·rw [if_pos c25] at H
              have c25b0 : decide (((l0.drop (x6_1 : Int).toNat).length : Int) < (wrap64 ((wrap64 (rd (l0.drop (x6_1 : Int).toNat) 1)) + 4))) = true := decide_eq_true c25
              have c25b0n : decide (((l0.length - (x6_1 : Int).toNat : Nat) : Int) < (wrap64 ((wrap64 (rd (l0.drop (x6_1 : Int).toNat) 1)) + 4))) = true := by have h_ := c25b0; rw [List.length_drop] at h_; exact h_
              clear c25
              simp only [Option.some.injEq, Prod.mk.injEq] at H
              obtain ⟨rfl, rfl, rfl⟩ := H
              obtain ⟨i026, hi026, _, hsz26, _⟩ := info_parts info5
              obtain ⟨A26, hcut26, hA26, hC26⟩ := print_drop_of (P := Try.prog) (Value.int .u8) 0 22 5 .i64 Try.underlying22 hi026 hsz26 A0 c0 l0 x6_1 (of_decide_eq_true (by first | (with_reducible assumption) | assumption)) (of_decide_eq_true (by first | (with_reducible assumption) | assumption)) HC0.out
              have HR363 := Aside0.mk (Kd.C_of_reads (h1 := fun _ => rfl) (hA26 _ (Kd.reads_of_C HR0.out)))
              have HC363 := Aside0.mk hC26
              clear hA26 hC26 hi026 hsz26
              go_wp2_with (first | ((with_reducible refine gate_callee (f := 27) rfl ?_); refine goesL_ (some 18) rfl rfl Try.func27 (by kernel_rfl) rfl #[.slice A26 (l0.drop (x6_1 : Int).toNat).length (c0 - x6_1.toNat)] rfl (by (try simp only [List.map_toArray, List.map_cons, List.map_nil]); first | done | (rw [show (l0.drop (x6_1 : Int).toNat).length = (l0.length - x6_1.toNat) from List.length_drop] <;> rfl) | rfl | (simp only [List.length_drop, List.length_take]; rfl)) ?_; (with_reducible refine (impl_block.calls k1 _ _ (l0.drop (x6_1 : Int).toNat) t364 t365 _ ?side1 ?side2 A7.out).mono ?_); (case side1 => repeat (first | exact (Kd.C_below HR363.out HB.out) | (with_reducible refine Kd.C_alloc ?_ _) | (with_reducible refine Kd.C_drewN ?_ _) | (with_reducible refine Kd.C_drew ?_))); (case side2 => exact HC363.out); rintro e w27 ⟨v366, rfl, ho0, hb⟩; refine ⟨_, rfl, ?_⟩; have n0_ := Aside0.mk (Kd.R_elder' (by (with_reducible repeat (first | apply Kd.R_alloc | apply Kd.R_drewN | apply Kd.R_drew)); exact HO_5.out) (Kd.R_base ho0) hb); have n1_ := Aside0.mk (Kd.R_lower (Kd.R_new' ho0 (Kd.R_lt (by (with_reducible repeat (first | apply Kd.R_alloc | apply Kd.R_drewN | apply Kd.R_drew)); exact HO_5.out))) (below_size (by with_reducible repeat (first | exact HB.out | apply below_alloc | apply pw_below_drewN | apply below_drew1)))); have n2_ := Aside0.mk (below_step (by with_reducible repeat (first | exact HB.out | apply below_alloc | apply pw_below_drewN | apply below_drew1)) hb); clear HO_5 HB; have HO_5 := n0_; have HO367 := n1_; have HB := n2_; clear n0_ n1_ n2_; clear hb ho0; have HR371 := HR363; have HC371 := HC363; have p372 : 0 ≤ (0 : Int) := (by omega); have q372 : 0 < ((l0.drop (x6_1 : Int).toNat).length : Int) := of_decide_eq_true (by first | (with_reducible assumption) | assumption); obtain ⟨ad372, e372, hx372_0⟩ := Kd.at_int HR371.out 0 p372 q372; cases e372; have qi372 : (0 < (l0.drop (x6_1 : Int).toNat).length) = True := eq_true (by omega); have qj372 : (0 < (l0.length - (x6_1 : Int).toNat : Nat)) = True := (by have h_ := qi372; rw [List.length_drop] at h_; exact h_); have qk372 : (0 < ((l0.length - (x6_1 : Int).toNat : Nat) : Int)) = True := (by have h_ := qj372; rw [eq_iff_iff, iff_true] at h_ ⊢; omega); (try rw [show ((0 : Int)).toNat = 0 from rfl] at hx372_0); (try rw [Addr.add_zero'] at hx372_0); replace hx372_0 := (HB.out.cell (World.block_lt_of_cell? w _ hx372_0)).trans hx372_0; replace p372 := eq_true p372; replace q372 := eq_true q372) | (go_at_call 28; (with_reducible refine (impl_within.calls (wrap64 (rd (l0.drop (x6_1 : Int).toNat) 0)) 1 16 true _ A20.out).mono ?_); rintro e w' ⟨rfl, ⟨nd, rfl⟩⟩; have p374 : 0 ≤ (1 : Int) := (by omega); have q374 : 1 < ((l0.drop (x6_1 : Int).toNat).length : Int) := of_decide_eq_true (by first | (with_reducible assumption) | assumption); obtain ⟨ad374, e374, hx374_0⟩ := Kd.at_int HR371.out 1 p374 q374; obtain rfl : ad372 = ad374 := (by injection e374); (try simp only [show (1 : Int).toNat = 1 from rfl, Nat.reduceMul, Nat.reduceEqDiff, Go.Addr.add, ↓reduceIte] at hx374_0); have qi374 : (1 < (l0.drop (x6_1 : Int).toNat).length) = True := eq_true (by omega); have qj374 : (1 < (l0.length - (x6_1 : Int).toNat : Nat)) = True := (by have h_ := qi374; rw [List.length_drop] at h_; exact h_); have qk374 : (1 < ((l0.length - (x6_1 : Int).toNat : Nat) : Int)) = True := (by have h_ := qj374; rw [eq_iff_iff, iff_true] at h_ ⊢; omega); (try rw [show ((1 : Int)).toNat = 1 from rfl] at hx374_0); replace hx374_0 := (HB.out.cell (World.block_lt_of_cell? w _ hx374_0)).trans hx374_0; replace p374 := eq_true p374; replace q374 := eq_true q374) | (go_at_call 28; (with_reducible refine (impl_within.calls (wrap64 (rd (l0.drop (x6_1 : Int).toNat) 1)) 1 32 true _ A23.out).mono ?_); rintro e w' ⟨rfl, ⟨nd, rfl⟩⟩; have p376 : 0 ≤ (1 : Int) := (by omega); have q376 : 1 < ((l0.drop (x6_1 : Int).toNat).length : Int) := of_decide_eq_true (by first | (with_reducible assumption) | assumption); obtain ⟨ad376, e376, hx376_0⟩ := Kd.at_int HR371.out 1 p376 q376; obtain rfl : ad372 = ad376 := (by injection e376); (try simp only [show (1 : Int).toNat = 1 from rfl, Nat.reduceMul, Nat.reduceEqDiff, Go.Addr.add, ↓reduceIte] at hx376_0); have qi376 : (1 < (l0.drop (x6_1 : Int).toNat).length) = True := eq_true (by omega); have qj376 : (1 < (l0.length - (x6_1 : Int).toNat : Nat)) = True := (by have h_ := qi376; rw [List.length_drop] at h_; exact h_); have qk376 : (1 < ((l0.length - (x6_1 : Int).toNat : Nat) : Int)) = True := (by have h_ := qj376; rw [eq_iff_iff, iff_true] at h_ ⊢; omega); (try rw [show ((1 : Int)).toNat = 1 from rfl] at hx376_0); replace hx376_0 := (HB.out.cell (World.block_lt_of_cell? w _ hx376_0)).trans hx376_0; replace p376 := eq_true p376; replace q376 := eq_true q376))
              go_ret3
              exact ⟨_, by first | rfl | (simp [errW_none, errW_some] <;> rfl) | (simp [*, errW_none, errW_some] <;> rfl), by (with_reducible repeat (first | apply Kd.R_alloc | apply Kd.R_drewN | apply Kd.R_drew)); exact Kd.R_mono HO_5.out (fun _ hk => trivial), by with_reducible repeat (first | exact HB.out | apply below_alloc | apply pw_below_drewN | apply below_drew1)⟩
             ·rw [if_neg c25] at H
              have c25b0 : decide (((l0.drop (x6_1 : Int).toNat).length : Int) < (wrap64 ((wrap64 (rd (l0.drop (x6_1 : Int).toNat) 1)) + 4))) = false := decide_eq_false c25
              have c25b0n : decide (((l0.length - (x6_1 : Int).toNat : Nat) : Int) < (wrap64 ((wrap64 (rd (l0.drop (x6_1 : Int).toNat) 1)) + 4))) = false := by have h_ := c25b0; rw [List.length_drop] at h_; exact h_
              clear c25
              simp only [Option.some.injEq, Prod.mk.injEq] at H
              obtain ⟨rfl, rfl, rfl⟩ := H
              obtain ⟨i029, hi029, _, hsz29, _⟩ := info_parts info5
              obtain ⟨A29, hcut29, hA29, hC29⟩ := print_drop_of (P := Try.prog) (Value.int .u8) 0 22 5 .i64 Try.underlying22 hi029 hsz29 A0 c0 l0 x6_1 (of_decide_eq_true (by first | (with_reducible assumption) | assumption)) (of_decide_eq_true (by first | (with_reducible assumption) | assumption)) HC0.out
              have HR363 := Aside0.mk (Kd.C_of_reads (h1 := fun _ => rfl) (hA29 _ (Kd.reads_of_C HR0.out)))
              have HC363 := Aside0.mk hC29
              clear hA29 hC29 hi029 hsz29
              go_wp2_with (first | ((with_reducible refine gate_callee (f := 27) rfl ?_); refine goesL_ (some 18) rfl rfl Try.func27 (by kernel_rfl) rfl #[.slice A29 (l0.drop (x6_1 : Int).toNat).length (c0 - x6_1.toNat)] rfl (by (try simp only [List.map_toArray, List.map_cons, List.map_nil]); first | done | (rw [show (l0.drop (x6_1 : Int).toNat).length = (l0.length - x6_1.toNat) from List.length_drop] <;> rfl) | rfl | (simp only [List.length_drop, List.length_take]; rfl)) ?_; (with_reducible refine (impl_block.calls k1 _ _ (l0.drop (x6_1 : Int).toNat) t364 t365 _ ?side1 ?side2 A7.out).mono ?_); (case side1 => repeat (first | exact (Kd.C_below HR363.out HB.out) | (with_reducible refine Kd.C_alloc ?_ _) | (with_reducible refine Kd.C_drewN ?_ _) | (with_reducible refine Kd.C_drew ?_))); (case side2 => exact HC363.out); rintro e w30 ⟨v366, rfl, ho0, hb⟩; refine ⟨_, rfl, ?_⟩; have n0_ := Aside0.mk (Kd.R_elder' (by (with_reducible repeat (first | apply Kd.R_alloc | apply Kd.R_drewN | apply Kd.R_drew)); exact HO_5.out) (Kd.R_base ho0) hb); have n1_ := Aside0.mk (Kd.R_lower (Kd.R_new' ho0 (Kd.R_lt (by (with_reducible repeat (first | apply Kd.R_alloc | apply Kd.R_drewN | apply Kd.R_drew)); exact HO_5.out))) (below_size (by with_reducible repeat (first | exact HB.out | apply below_alloc | apply pw_below_drewN | apply below_drew1)))); have n2_ := Aside0.mk (below_step (by with_reducible repeat (first | exact HB.out | apply below_alloc | apply pw_below_drewN | apply below_drew1)) hb); clear HO_5 HB; have HO_5 := n0_; have HO367 := n1_; have HB := n2_; clear n0_ n1_ n2_; clear hb ho0; have HR371 := HR363; have HC371 := HC363; have p372 : 0 ≤ (0 : Int) := (by omega); have q372 : 0 < ((l0.drop (x6_1 : Int).toNat).length : Int) := of_decide_eq_true (by first | (with_reducible assumption) | assumption); obtain ⟨ad372, e372, hx372_0⟩ := Kd.at_int HR371.out 0 p372 q372; cases e372; have qi372 : (0 < (l0.drop (x6_1 : Int).toNat).length) = True := eq_true (by omega); have qj372 : (0 < (l0.length - (x6_1 : Int).toNat : Nat)) = True := (by have h_ := qi372; rw [List.length_drop] at h_; exact h_); have qk372 : (0 < ((l0.length - (x6_1 : Int).toNat : Nat) : Int)) = True := (by have h_ := qj372; rw [eq_iff_iff, iff_true] at h_ ⊢; omega); (try rw [show ((0 : Int)).toNat = 0 from rfl] at hx372_0); (try rw [Addr.add_zero'] at hx372_0); replace hx372_0 := (HB.out.cell (World.block_lt_of_cell? w _ hx372_0)).trans hx372_0; replace p372 := eq_true p372; replace q372 := eq_true q372) | (go_at_call 28; (with_reducible refine (impl_within.calls (wrap64 (rd (l0.drop (x6_1 : Int).toNat) 0)) 1 16 true _ A20.out).mono ?_); rintro e w' ⟨rfl, ⟨nd, rfl⟩⟩; have p374 : 0 ≤ (1 : Int) := (by omega); have q374 : 1 < ((l0.drop (x6_1 : Int).toNat).length : Int) := of_decide_eq_true (by first | (with_reducible assumption) | assumption); obtain ⟨ad374, e374, hx374_0⟩ := Kd.at_int HR371.out 1 p374 q374; obtain rfl : ad372 = ad374 := (by injection e374); (try simp only [show (1 : Int).toNat = 1 from rfl, Nat.reduceMul, Nat.reduceEqDiff, Go.Addr.add, ↓reduceIte] at hx374_0); have qi374 : (1 < (l0.drop (x6_1 : Int).toNat).length) = True := eq_true (by omega); have qj374 : (1 < (l0.length - (x6_1 : Int).toNat : Nat)) = True := (by have h_ := qi374; rw [List.length_drop] at h_; exact h_); have qk374 : (1 < ((l0.length - (x6_1 : Int).toNat : Nat) : Int)) = True := (by have h_ := qj374; rw [eq_iff_iff, iff_true] at h_ ⊢; omega); (try rw [show ((1 : Int)).toNat = 1 from rfl] at hx374_0); replace hx374_0 := (HB.out.cell (World.block_lt_of_cell? w _ hx374_0)).trans hx374_0; replace p374 := eq_true p374; replace q374 := eq_true q374) | (go_at_call 28; (with_reducible refine (impl_within.calls (wrap64 (rd (l0.drop (x6_1 : Int).toNat) 1)) 1 32 true _ A23.out).mono ?_); rintro e w' ⟨rfl, ⟨nd, rfl⟩⟩; have p376 : 0 ≤ (1 : Int) := (by omega); have q376 : 1 < ((l0.drop (x6_1 : Int).toNat).length : Int) := of_decide_eq_true (by first | (with_reducible assumption) | assumption); obtain ⟨ad376, e376, hx376_0⟩ := Kd.at_int HR371.out 1 p376 q376; obtain rfl : ad372 = ad376 := (by injection e376); (try simp only [show (1 : Int).toNat = 1 from rfl, Nat.reduceMul, Nat.reduceEqDiff, Go.Addr.add, ↓reduceIte] at hx376_0); have qi376 : (1 < (l0.drop (x6_1 : Int).toNat).length) = True := eq_true (by omega); have qj376 : (1 < (l0.length - (x6_1 : Int).toNat : Nat)) = True := (by have h_ := qi376; rw [List.length_drop] at h_; exact h_); have qk376 : (1 < ((l0.length - (x6_1 : Int).toNat : Nat) : Int)) = True := (by have h_ := qj376; rw [eq_iff_iff, iff_true] at h_ ⊢; omega); (try rw [show ((1 : Int)).toNat = 1 from rfl] at hx376_0); replace hx376_0 := (HB.out.cell (World.block_lt_of_cell? w _ hx376_0)).trans hx376_0; replace p376 := eq_true p376; replace q376 := eq_true q376))
              go_ret3
              exact ⟨_, by first | rfl | (simp [errW_none, errW_some] <;> rfl) | (simp [*, errW_none, errW_some] <;> rfl), by (with_reducible repeat (first | apply Kd.R_alloc | apply Kd.R_drewN | apply Kd.R_drew)); exact Kd.R_mono HO_5.out (fun _ hk => trivial), by with_reducible repeat (first | exact HB.out | apply below_alloc | apply pw_below_drewN | apply below_drew1)⟩
            ·replace c24 := Bool.eq_false_iff.mpr c24
             subst c24
             have H1 : (some (x5_1, x6_1, 2)) = some (r1, r2, r3) := by rw [if_neg (show ¬ (false = true) by decide)] at H; exact H
             clear H
             have H := H1
             clear H1
             simp only [Option.some.injEq, Prod.mk.injEq] at H
             obtain ⟨rfl, rfl, rfl⟩ := H
             obtain ⟨i032, hi032, _, hsz32, _⟩ := info_parts info5
             obtain ⟨A32, hcut32, hA32, hC32⟩ := print_drop_of (P := Try.prog) (Value.int .u8) 0 22 5 .i64 Try.underlying22 hi032 hsz32 A0 c0 l0 x6_1 (of_decide_eq_true (by first | (with_reducible assumption) | assumption)) (of_decide_eq_true (by first | (with_reducible assumption) | assumption)) HC0.out
             have HR363 := Aside0.mk (Kd.C_of_reads (h1 := fun _ => rfl) (hA32 _ (Kd.reads_of_C HR0.out)))
             have HC363 := Aside0.mk hC32
             clear hA32 hC32 hi032 hsz32
             go_wp2_with (first | ((with_reducible refine gate_callee (f := 27) rfl ?_); refine goesL_ (some 18) rfl rfl Try.func27 (by kernel_rfl) rfl #[.slice A32 (l0.drop (x6_1 : Int).toNat).length (c0 - x6_1.toNat)] rfl (by (try simp only [List.map_toArray, List.map_cons, List.map_nil]); first | done | (rw [show (l0.drop (x6_1 : Int).toNat).length = (l0.length - x6_1.toNat) from List.length_drop] <;> rfl) | rfl | (simp only [List.length_drop, List.length_take]; rfl)) ?_; (with_reducible refine (impl_block.calls k1 _ _ (l0.drop (x6_1 : Int).toNat) t364 t365 _ ?side1 ?side2 A7.out).mono ?_); (case side1 => repeat (first | exact (Kd.C_below HR363.out HB.out) | (with_reducible refine Kd.C_alloc ?_ _) | (with_reducible refine Kd.C_drewN ?_ _) | (with_reducible refine Kd.C_drew ?_))); (case side2 => exact HC363.out); rintro e w33 ⟨v366, rfl, ho0, hb⟩; refine ⟨_, rfl, ?_⟩; have n0_ := Aside0.mk (Kd.R_elder' (by (with_reducible repeat (first | apply Kd.R_alloc | apply Kd.R_drewN | apply Kd.R_drew)); exact HO_5.out) (Kd.R_base ho0) hb); have n1_ := Aside0.mk (Kd.R_lower (Kd.R_new' ho0 (Kd.R_lt (by (with_reducible repeat (first | apply Kd.R_alloc | apply Kd.R_drewN | apply Kd.R_drew)); exact HO_5.out))) (below_size (by with_reducible repeat (first | exact HB.out | apply below_alloc | apply pw_below_drewN | apply below_drew1)))); have n2_ := Aside0.mk (below_step (by with_reducible repeat (first | exact HB.out | apply below_alloc | apply pw_below_drewN | apply below_drew1)) hb); clear HO_5 HB; have HO_5 := n0_; have HO367 := n1_; have HB := n2_; clear n0_ n1_ n2_; clear hb ho0; have HR371 := HR363; have HC371 := HC363; have p372 : 0 ≤ (0 : Int) := (by omega); have q372 : 0 < ((l0.drop (x6_1 : Int).toNat).length : Int) := of_decide_eq_true (by first | (with_reducible assumption) | assumption); obtain ⟨ad372, e372, hx372_0⟩ := Kd.at_int HR371.out 0 p372 q372; cases e372; have qi372 : (0 < (l0.drop (x6_1 : Int).toNat).length) = True := eq_true (by omega); have qj372 : (0 < (l0.length - (x6_1 : Int).toNat : Nat)) = True := (by have h_ := qi372; rw [List.length_drop] at h_; exact h_); have qk372 : (0 < ((l0.length - (x6_1 : Int).toNat : Nat) : Int)) = True := (by have h_ := qj372; rw [eq_iff_iff, iff_true] at h_ ⊢; omega); (try rw [show ((0 : Int)).toNat = 0 from rfl] at hx372_0); (try rw [Addr.add_zero'] at hx372_0); replace hx372_0 := (HB.out.cell (World.block_lt_of_cell? w _ hx372_0)).trans hx372_0; replace p372 := eq_true p372; replace q372 := eq_true q372) | (go_at_call 28; (with_reducible refine (impl_within.calls (wrap64 (rd (l0.drop (x6_1 : Int).toNat) 0)) 1 16 true _ A20.out).mono ?_); rintro e w' ⟨rfl, ⟨nd, rfl⟩⟩; have p374 : 0 ≤ (1 : Int) := (by omega); have q374 : 1 < ((l0.drop (x6_1 : Int).toNat).length : Int) := of_decide_eq_true (by first | (with_reducible assumption) | assumption); obtain ⟨ad374, e374, hx374_0⟩ := Kd.at_int HR371.out 1 p374 q374; obtain rfl : ad372 = ad374 := (by injection e374); (try simp only [show (1 : Int).toNat = 1 from rfl, Nat.reduceMul, Nat.reduceEqDiff, Go.Addr.add, ↓reduceIte] at hx374_0); have qi374 : (1 < (l0.drop (x6_1 : Int).toNat).length) = True := eq_true (by omega); have qj374 : (1 < (l0.length - (x6_1 : Int).toNat : Nat)) = True := (by have h_ := qi374; rw [List.length_drop] at h_; exact h_); have qk374 : (1 < ((l0.length - (x6_1 : Int).toNat : Nat) : Int)) = True := (by have h_ := qj374; rw [eq_iff_iff, iff_true] at h_ ⊢; omega); (try rw [show ((1 : Int)).toNat = 1 from rfl] at hx374_0); replace hx374_0 := (HB.out.cell (World.block_lt_of_cell? w _ hx374_0)).trans hx374_0; replace p374 := eq_true p374; replace q374 := eq_true q374) | (go_at_call 28; (with_reducible refine (impl_within.calls (wrap64 (rd (l0.drop (x6_1 : Int).toNat) 1)) 1 32 false _ A23.out).mono ?_); rintro e w' ⟨rfl, ⟨nd, rfl⟩⟩))
             go_ret3
             exact ⟨_, by first | rfl | (simp [errW_none, errW_some] <;> rfl) | (simp [*, errW_none, errW_some] <;> rfl), by (with_reducible repeat (first | apply Kd.R_alloc | apply Kd.R_drewN | apply Kd.R_drew)); exact Kd.R_mono HO_5.out (fun _ hk => trivial), by with_reducible repeat (first | exact HB.out | apply below_alloc | apply pw_below_drewN | apply below_drew1)⟩
           ·rw [if_neg c22] at H
            exact absurd H (by simp)
          ·replace c21 := Bool.eq_false_iff.mpr c21
           subst c21
           have H1 : (some (x5_1, x6_1, 2)) = some (r1, r2, r3) := by rw [if_neg (show ¬ (false = true) by decide)] at H; exact H
           clear H
           have H := H1
           clear H1
           simp only [Option.some.injEq, Prod.mk.injEq] at H
           obtain ⟨rfl, rfl, rfl⟩ := H
           obtain ⟨i035, hi035, _, hsz35, _⟩ := info_parts info5
           obtain ⟨A35, hcut35, hA35, hC35⟩ := print_drop_of (P := Try.prog) (Value.int .u8) 0 22 5 .i64 Try.underlying22 hi035 hsz35 A0 c0 l0 x6_1 (of_decide_eq_true (by first | (with_reducible assumption) | assumption)) (of_decide_eq_true (by first | (with_reducible assumption) | assumption)) HC0.out
           have HR363 := Aside0.mk (Kd.C_of_reads (h1 := fun _ => rfl) (hA35 _ (Kd.reads_of_C HR0.out)))
           have HC363 := Aside0.mk hC35
           clear hA35 hC35 hi035 hsz35
           go_wp2_with (first | ((with_reducible refine gate_callee (f := 27) rfl ?_); refine goesL_ (some 18) rfl rfl Try.func27 (by kernel_rfl) rfl #[.slice A35 (l0.drop (x6_1 : Int).toNat).length (c0 - x6_1.toNat)] rfl (by (try simp only [List.map_toArray, List.map_cons, List.map_nil]); first | done | (rw [show (l0.drop (x6_1 : Int).toNat).length = (l0.length - x6_1.toNat) from List.length_drop] <;> rfl) | rfl | (simp only [List.length_drop, List.length_take]; rfl)) ?_; (with_reducible refine (impl_block.calls k1 _ _ (l0.drop (x6_1 : Int).toNat) t364 t365 _ ?side1 ?side2 A7.out).mono ?_); (case side1 => repeat (first | exact (Kd.C_below HR363.out HB.out) | (with_reducible refine Kd.C_alloc ?_ _) | (with_reducible refine Kd.C_drewN ?_ _) | (with_reducible refine Kd.C_drew ?_))); (case side2 => exact HC363.out); rintro e w36 ⟨v366, rfl, ho0, hb⟩; refine ⟨_, rfl, ?_⟩; have n0_ := Aside0.mk (Kd.R_elder' (by (with_reducible repeat (first | apply Kd.R_alloc | apply Kd.R_drewN | apply Kd.R_drew)); exact HO_5.out) (Kd.R_base ho0) hb); have n1_ := Aside0.mk (Kd.R_lower (Kd.R_new' ho0 (Kd.R_lt (by (with_reducible repeat (first | apply Kd.R_alloc | apply Kd.R_drewN | apply Kd.R_drew)); exact HO_5.out))) (below_size (by with_reducible repeat (first | exact HB.out | apply below_alloc | apply pw_below_drewN | apply below_drew1)))); have n2_ := Aside0.mk (below_step (by with_reducible repeat (first | exact HB.out | apply below_alloc | apply pw_below_drewN | apply below_drew1)) hb); clear HO_5 HB; have HO_5 := n0_; have HO367 := n1_; have HB := n2_; clear n0_ n1_ n2_; clear hb ho0; have HR371 := HR363; have HC371 := HC363; have p372 : 0 ≤ (0 : Int) := (by omega); have q372 : 0 < ((l0.drop (x6_1 : Int).toNat).length : Int) := of_decide_eq_true (by first | (with_reducible assumption) | assumption); obtain ⟨ad372, e372, hx372_0⟩ := Kd.at_int HR371.out 0 p372 q372; cases e372; have qi372 : (0 < (l0.drop (x6_1 : Int).toNat).length) = True := eq_true (by omega); have qj372 : (0 < (l0.length - (x6_1 : Int).toNat : Nat)) = True := (by have h_ := qi372; rw [List.length_drop] at h_; exact h_); have qk372 : (0 < ((l0.length - (x6_1 : Int).toNat : Nat) : Int)) = True := (by have h_ := qj372; rw [eq_iff_iff, iff_true] at h_ ⊢; omega); (try rw [show ((0 : Int)).toNat = 0 from rfl] at hx372_0); (try rw [Addr.add_zero'] at hx372_0); replace hx372_0 := (HB.out.cell (World.block_lt_of_cell? w _ hx372_0)).trans hx372_0; replace p372 := eq_true p372; replace q372 := eq_true q372) | (go_at_call 28; (with_reducible refine (impl_within.calls (wrap64 (rd (l0.drop (x6_1 : Int).toNat) 0)) 1 16 false _ A20.out).mono ?_); rintro e w' ⟨rfl, ⟨nd, rfl⟩⟩))
           go_ret3
           exact ⟨_, by first | rfl | (simp [errW_none, errW_some] <;> rfl) | (simp [*, errW_none, errW_some] <;> rfl), by (with_reducible repeat (first | apply Kd.R_alloc | apply Kd.R_drewN | apply Kd.R_drew)); exact Kd.R_mono HO_5.out (fun _ hk => trivial), by with_reducible repeat (first | exact HB.out | apply below_alloc | apply pw_below_drewN | apply below_drew1)⟩
         ·rw [if_neg c19] at H
          exact absurd H (by simp)
      ·rw [if_neg c8] at H
       have c8b0 : (t365 == 0) = false := beq_eq_false_iff_ne.mpr c8
       have c8b1 : (t365 != 0) = true := bne_iff_ne.mpr c8
       by_cases c38 : x5_1.length + t364.length < 5864062014805
       ·rw [if_pos c38] at H
        have LMc38 := Aside0.mk c38
        clear c38
        obtain ⟨y368, hy368⟩ : ∃ y_ : List (S38), y_ = (x5_1 ++ t364) := ⟨_, rfl⟩
        replace H : (impl_ScanOps.l0 k1 l0 y368 (wrap64 (x6_1 + t365))) = some (r1, r2, r3) := by first | (rw [hy368]; exact H) | exact H
        have Ny368 := Aside0.mk hy368
        clear hy368
        have H' := Aside0.mk H
        clear H
        obtain ⟨i039, hi039, _, hsz39, _⟩ := info_parts info5
        obtain ⟨A39, hcut39, hA39, hC39⟩ := print_drop_of (P := Try.prog) (Value.int .u8) 0 22 5 .i64 Try.underlying22 hi039 hsz39 A0 c0 l0 x6_1 (of_decide_eq_true (by first | (with_reducible assumption) | assumption)) (of_decide_eq_true (by first | (with_reducible assumption) | assumption)) HC0.out
        have HR363 := Aside0.mk (Kd.C_of_reads (h1 := fun _ => rfl) (hA39 _ (Kd.reads_of_C HR0.out)))
        have HC363 := Aside0.mk hC39
        clear hA39 hC39 hi039 hsz39
        go_wp2_with (first | ((with_reducible refine gate_callee (f := 27) rfl ?_); refine goesL_ (some 18) rfl rfl Try.func27 (by kernel_rfl) rfl #[.slice A39 (l0.drop (x6_1 : Int).toNat).length (c0 - x6_1.toNat)] rfl (by (try simp only [List.map_toArray, List.map_cons, List.map_nil]); first | done | (rw [show (l0.drop (x6_1 : Int).toNat).length = (l0.length - x6_1.toNat) from List.length_drop] <;> rfl) | rfl | (simp only [List.length_drop, List.length_take]; rfl)) ?_; (with_reducible refine (impl_block.calls k1 _ _ (l0.drop (x6_1 : Int).toNat) t364 t365 _ ?side1 ?side2 A7.out).mono ?_); (case side1 => repeat (first | exact (Kd.C_below HR363.out HB.out) | (with_reducible refine Kd.C_alloc ?_ _) | (with_reducible refine Kd.C_drewN ?_ _) | (with_reducible refine Kd.C_drew ?_))); (case side2 => exact HC363.out); rintro e w40 ⟨v366, rfl, ho0, hb⟩; refine ⟨_, rfl, ?_⟩; have n0_ := Aside0.mk (Kd.R_elder' (by (with_reducible repeat (first | apply Kd.R_alloc | apply Kd.R_drewN | apply Kd.R_drew)); exact HO_5.out) (Kd.R_base ho0) hb); have n1_ := Aside0.mk (Kd.R_lower (Kd.R_new' ho0 (Kd.R_lt (by (with_reducible repeat (first | apply Kd.R_alloc | apply Kd.R_drewN | apply Kd.R_drew)); exact HO_5.out))) (below_size (by with_reducible repeat (first | exact HB.out | apply below_alloc | apply pw_below_drewN | apply below_drew1)))); have n2_ := Aside0.mk (below_step (by with_reducible repeat (first | exact HB.out | apply below_alloc | apply pw_below_drewN | apply below_drew1)) hb); clear HO_5 HB; have HO_5 := n0_; have HO367 := n1_; have HB := n2_; clear n0_ n1_ n2_; (try clear hb); (try clear hb2); (try clear hk); (try clear hi); (try clear ho0); obtain ⟨Ao42, co42, eo42⟩ := Kd.R_slice HO367.out; subst eo42) | ((with_reducible refine gate_builtin (b := .append) (xs := #[.tmp 23, .tmp 24]) rfl ?_); (try (refine gate_guard (by rfl) ?_; dsimp only)); at_builtin; refine Kd.R_append_rows k38 (w0 := w) w.heap.size rfl (.tmp 23) (.tmp 24) 24 38 (.agg #[(.int .i64 0), (.int .i64 0), (.int .i64 0)]) 24 rfl Try.underlying24 info38 rfl (by decide) (by omega) u5 x5_1 t364 _ _ _ (fun k_ => some k_ ≠ (.slice Ao42 t364.length co42 : Value).ownBlock) (fun _ => False) rfl rfl ?aO ?aR (fun _ _ h => h) (fun _ h => h.elim) ?aF ?aB ?aS ?aL ?_; (case aR => repeat (first | exact (Kd.R_reads' HO367.out).2.2 | (with_reducible refine Kd.C_alloc ?_ _) | (with_reducible refine Kd.C_drewN ?_ _) | (with_reducible refine Kd.C_drew ?_))); (case aB => exact (by with_reducible repeat (first | exact HB.out | apply below_alloc | apply pw_below_drewN | apply below_drew1))); (case aF => exact (fun k_ hk => Kd.fresh' (Kd.R_lt (by (with_reducible repeat (first | apply Kd.R_alloc | apply Kd.R_drewN | apply Kd.R_drew)); exact HO367.out)) k_ hk)); (case aO => exact (by (with_reducible repeat (first | apply Kd.R_alloc | apply Kd.R_drewN | apply Kd.R_drew)); exact Kd.R_mono HO_5.out (fun _ hk => hk.2))); (case aS => exact (below_size (by with_reducible repeat (first | exact HB.out | apply below_alloc | apply pw_below_drewN | apply below_drew1)))); (case aL => have := LMc38.out; omega); intro v369 w41 ho hb hg hat; rw [← Ny368.out] at ho; have n0_ := Aside0.mk (Kd.R_after (ok := (fun _ => True)) (by (with_reducible repeat (first | apply Kd.R_alloc | apply Kd.R_drewN | apply Kd.R_drew)); exact HO367.out) hg hat); have n1_ := Aside0.mk (hb); have n2_ := Aside0.mk (ho); clear HO367 HB HO_5; have HO367 := n0_; have HB := n1_; have HO370 := n2_; clear n0_ n1_ n2_; clear ho hb hg hat))
        go_roundg k1
        case measure => have := HK1.out; omega
        case rel => exact ⟨(y368), (wrap64 (x6_1 + t365)), (by first | rfl | simp | simp [*]), H', ⟨by have := HK1.out; omega⟩, ⟨by (with_reducible repeat (first | apply Kd.R_alloc | apply Kd.R_drewN | apply Kd.R_drew)); exact Kd.R_mono HO370.out (fun _ hk => trivial)⟩, ⟨by with_reducible repeat (first | exact HB.out | apply below_alloc | apply pw_below_drewN | apply below_drew1)⟩⟩
       ·rw [if_neg c38] at H
        exact absurd H (by simp)
     ·rw [if_neg c6] at H
      exact absurd H (by simp)
    ·rw [if_neg c5] at H
     exact absurd H (by simp)

end Go.Proofs.Ytbjhaaibmjlhhaa.Q
