-- Written by a program of this session (qprint.py) over the kit's print: Lean checks every line.
import Derived.Test.YtbjhaaibmjlhhaaQx0
import Derived.Test.YtbjhaaibmjlhhaaQx2
import Derived.Test.YtbjhaaibmjlhhaaQx4
import Derived.Test.YtbjhaaibmjlhhaaQx7
import Derived.Test.YtbjhaaibmjlhhaaQx12
import Derived.Test.YtbjhaaibmjlhhaaQx15
import Derived.Test.YtbjhaaibmjlhhaaQx17
import Derived.Test.YtbjhaaibmjlhhaaRb
namespace Go.Proofs.Ytbjhaaibmjlhhaa.Q
open Go.RowKit Go.Proofs.YtbjhaaibmjlhhaaW.PrintWords Go.Proofs.YtbjhaaibmjlhhaaW.PrintLast Go.Proofs.YtbjhaaibmjlhhaaW.PrintMore
attribute [local go_sem] max2_int min2_int max_two min_two max_three min_three max_four min_four   -- for this text's walks alone
set_option linter.unusedVariables false
set_option linter.unusedSimpArgs false

/-! ### laws_FnPacked: function 3 -/
mutual
def laws_FnPacked.j0 : Nat → List Int → List (S38) → Bool → List Int → Bool → Option (Bool)
 | 0, _, _, _, _, _ => none
 | k + 1, x0, x3, x5, x6, x36 => if x36 = true then (some false) else (if x5 = true then ((impl_UnpackOps.f k x6).bind fun bt411 => (if bt411.2 = true then ((laws_sameOps.f k bt411.1 x3).bind fun t415 => (laws_FnPacked.j1 k x0 x3 x6 (!t415))) else (laws_FnPacked.j1 k x0 x3 x6 true))) else (some true))
def laws_FnPacked.j1 : Nat → List Int → List (S38) → List Int → Bool → Option (Bool)
 | 0, _, _, _, _ => none
 | k + 1, x0, x3, x6, x51 => if x51 = true then (some false) else ((laws_at.f x0 0).bind fun t416 => ((laws_at.f x0 1).bind fun t417 => (if (wrap64 ((x6.length : Int) + 1)) = 0 then (none) else (if 0 ≤ (Int.tmod (wrap64 (t416 * (wrap64 (1 + t417)))) (wrap64 ((x6.length : Int) + 1))) then (if (Int.tmod (wrap64 (t416 * (wrap64 (1 + t417)))) (wrap64 ((x6.length : Int) + 1))) ≤ (x6.length : Int) then ((impl_ScanOps.f k (x6.take ((Int.tmod (wrap64 (t416 * (wrap64 (1 + t417)))) (wrap64 ((x6.length : Int) + 1))) : Int).toNat)).bind fun bt422 => (if (bt422.1.length : Int) > (x3.length : Int) then (laws_FnPacked.j2 k x6 (Int.tmod (wrap64 (t416 * (wrap64 (1 + t417)))) (wrap64 ((x6.length : Int) + 1))) bt422.2.1 bt422.2.2 true) else (if 0 ≤ (bt422.1.length : Int) then (if (bt422.1.length : Int) ≤ (x3.length : Int) then ((laws_sameOps.f k bt422.1 (x3.take ((bt422.1.length : Int) : Int).toNat)).bind fun t431 => (if t431 = true then (if bt422.2.1 > (Int.tmod (wrap64 (t416 * (wrap64 (1 + t417)))) (wrap64 ((x6.length : Int) + 1))) then (laws_FnPacked.j2 k x6 (Int.tmod (wrap64 (t416 * (wrap64 (1 + t417)))) (wrap64 ((x6.length : Int) + 1))) bt422.2.1 bt422.2.2 true) else (if bt422.2.2 = 2 then (laws_FnPacked.j2 k x6 (Int.tmod (wrap64 (t416 * (wrap64 (1 + t417)))) (wrap64 ((x6.length : Int) + 1))) bt422.2.1 bt422.2.2 true) else (if ((bt422.1.length : Int) % 16) = 0 then (laws_FnPacked.j2 k x6 (Int.tmod (wrap64 (t416 * (wrap64 (1 + t417)))) (wrap64 ((x6.length : Int) + 1))) bt422.2.1 bt422.2.2 false) else (laws_FnPacked.j2 k x6 (Int.tmod (wrap64 (t416 * (wrap64 (1 + t417)))) (wrap64 ((x6.length : Int) + 1))) bt422.2.1 bt422.2.2 ((bt422.1.length : Int) != (x3.length : Int)))))) else (laws_FnPacked.j2 k x6 (Int.tmod (wrap64 (t416 * (wrap64 (1 + t417)))) (wrap64 ((x6.length : Int) + 1))) bt422.2.1 bt422.2.2 true))) else (none)) else (none)))) else (none)) else (none)))))
def laws_FnPacked.j2 : Nat → List Int → Int → Int → Int → Bool → Option (Bool)
 | 0, _, _, _, _, _ => none
 | k + 1, x6, x10, x12, x13, x105 => if x105 = true then (some false) else (if 0 ≤ x10 then (if x10 ≤ (x6.length : Int) then ((impl_Longest.f k (x6.take (x10 : Int).toNat)).bind fun t436 => (if 0 ≤ x12 then (if x12 ≤ (x6.length : Int) then ((laws_sameBytes.f k t436 (x6.take (x12 : Int).toNat)).bind fun t443 => (if t443 = true then (if x10 < (x6.length : Int) then (some true) else (some (x13 == 0))) else (some false))) else (none)) else (none))) else (none)) else (none))
end
def laws_FnPacked.f (k : Nat) (l0 : List Int) : Option (Bool) := (laws_big.f l0).bind fun t398 => (if t398 = true then (some true) else ((spec_DrawPackOps.f k l0).bind fun t399 => ((spec_PackOps.f k t399).bind fun bt402 => ((impl_PackOps.f k t399).bind fun bt406 => (if (bt406.2 != bt402.2) = true then (laws_FnPacked.j0 k l0 t399 bt402.2 bt406.1 true) else ((laws_sameBytes.f k bt406.1 bt402.1).bind fun t410 => (laws_FnPacked.j0 k l0 t399 bt402.2 bt406.1 (!t410))))))))
theorem laws_FnPacked.mono_l : ∀ k, (∀ y0 y1 y2 y3 y4, LeO (laws_FnPacked.j0 k y0 y1 y2 y3 y4) (laws_FnPacked.j0 (k + 1) y0 y1 y2 y3 y4)) ∧ (∀ y0 y1 y2 y3, LeO (laws_FnPacked.j1 k y0 y1 y2 y3) (laws_FnPacked.j1 (k + 1) y0 y1 y2 y3)) ∧ (∀ y0 y1 y2 y3 y4, LeO (laws_FnPacked.j2 k y0 y1 y2 y3 y4) (laws_FnPacked.j2 (k + 1) y0 y1 y2 y3 y4))
 | 0 => ⟨fun _ _ _ _ _ r h => by simp [laws_FnPacked.j0] at h, fun _ _ _ _ r h => by simp [laws_FnPacked.j1] at h, fun _ _ _ _ _ r h => by simp [laws_FnPacked.j2] at h⟩
 | k + 1 => by
  obtain ⟨ih0, ih1, ih2⟩ := laws_FnPacked.mono_l k
  refine ⟨?_, ?_, ?_⟩
  ·intro y0 y1 y2 y3 y4
   unfold laws_FnPacked.j0
   repeat' first
   | (with_reducible exact ih0 _ _ _ _ _)
   | (with_reducible exact ih1 _ _ _ _)
   | (with_reducible exact ih2 _ _ _ _ _)
   | (with_reducible exact impl_Longest.mono _ _)
   | (with_reducible exact impl_PackOps.mono _ _)
   | (with_reducible exact impl_ScanOps.mono _ _)
   | (with_reducible exact impl_UnpackOps.mono _ _)
   | (with_reducible exact laws_sameBytes.mono _ _ _)
   | (with_reducible exact laws_sameOps.mono _ _ _)
   | (with_reducible exact spec_DrawPackOps.mono _ _)
   | (with_reducible exact spec_PackOps.mono _ _)
   | (with_reducible exact LeO.refl _)
   | (with_reducible exact LeO.none _)
   | (with_reducible refine LeO.ite ?_ ?_)
   | (with_reducible refine LeO.bind ?_ (fun _ => ?_))
  ·intro y0 y1 y2 y3
   unfold laws_FnPacked.j1
   repeat' first
   | (with_reducible exact ih0 _ _ _ _ _)
   | (with_reducible exact ih1 _ _ _ _)
   | (with_reducible exact ih2 _ _ _ _ _)
   | (with_reducible exact impl_Longest.mono _ _)
   | (with_reducible exact impl_PackOps.mono _ _)
   | (with_reducible exact impl_ScanOps.mono _ _)
   | (with_reducible exact impl_UnpackOps.mono _ _)
   | (with_reducible exact laws_sameBytes.mono _ _ _)
   | (with_reducible exact laws_sameOps.mono _ _ _)
   | (with_reducible exact spec_DrawPackOps.mono _ _)
   | (with_reducible exact spec_PackOps.mono _ _)
   | (with_reducible exact LeO.refl _)
   | (with_reducible exact LeO.none _)
   | (with_reducible refine LeO.ite ?_ ?_)
   | (with_reducible refine LeO.bind ?_ (fun _ => ?_))
  ·intro y0 y1 y2 y3 y4
   unfold laws_FnPacked.j2
   repeat' first
   | (with_reducible exact ih0 _ _ _ _ _)
   | (with_reducible exact ih1 _ _ _ _)
   | (with_reducible exact ih2 _ _ _ _ _)
   | (with_reducible exact impl_Longest.mono _ _)
   | (with_reducible exact impl_PackOps.mono _ _)
   | (with_reducible exact impl_ScanOps.mono _ _)
   | (with_reducible exact impl_UnpackOps.mono _ _)
   | (with_reducible exact laws_sameBytes.mono _ _ _)
   | (with_reducible exact laws_sameOps.mono _ _ _)
   | (with_reducible exact spec_DrawPackOps.mono _ _)
   | (with_reducible exact spec_PackOps.mono _ _)
   | (with_reducible exact LeO.refl _)
   | (with_reducible exact LeO.none _)
   | (with_reducible refine LeO.ite ?_ ?_)
   | (with_reducible refine LeO.bind ?_ (fun _ => ?_))
theorem laws_FnPacked.mono : ∀ a0 k, LeO (laws_FnPacked.f k a0) (laws_FnPacked.f (k + 1) a0) := by
 intro a0 k
 obtain ⟨ih0, ih1, ih2⟩ := laws_FnPacked.mono_l k
 unfold laws_FnPacked.f
 repeat' first
   | (with_reducible exact ih0 _ _ _ _ _)
   | (with_reducible exact ih1 _ _ _ _)
   | (with_reducible exact ih2 _ _ _ _ _)
   | (with_reducible exact impl_Longest.mono _ _)
   | (with_reducible exact impl_PackOps.mono _ _)
   | (with_reducible exact impl_ScanOps.mono _ _)
   | (with_reducible exact impl_UnpackOps.mono _ _)
   | (with_reducible exact laws_sameBytes.mono _ _ _)
   | (with_reducible exact laws_sameOps.mono _ _ _)
   | (with_reducible exact spec_DrawPackOps.mono _ _)
   | (with_reducible exact spec_PackOps.mono _ _)
   | (with_reducible exact LeO.refl _)
   | (with_reducible exact LeO.none _)
   | (with_reducible refine LeO.ite ?_ ?_)
   | (with_reducible refine LeO.bind ?_ (fun _ => ?_))
def laws_FnPacked.T17 : Bool × List (List Nat × List Nat) := (true, [([], []), ([], []), ([0, 1], [0, 1]), ([2], [2]), ([], []), ([], []), ([4, 5], [4, 5]), ([3, 6, 3], [3, 6]), ([7, 7], [7]), ([8], [8]), ([8], [8]), ([10, 8], [8, 10]), ([9, 11, 8], [8, 9, 11]), ([12, 8, 8], [8, 12]), ([13], [13]), ([14, 13], [13, 14]), ([13, 15, 8], [8, 13, 15]), ([8, 16], [8, 16]), ([17, 13, 0, 1, 2, 3, 4, 5, 6, 7, 8, 9, 10, 11, 12, 13, 14, 15, 16, 17], [17])])
def laws_FnPacked.B17 : List Nat := [0, 0, 3, 7, 0, 0, 48, 127, 255, 511, 511, 1535, 4095, 8191, 16383, 32767, 65535, 131071, 262143]
theorem laws_FnPacked.tab17 : rtab .any (opsOf Try.f3 17) = laws_FnPacked.T17 := by kernel_rfl
theorem laws_FnPacked.bits17 : waitsOk laws_FnPacked.T17.2 laws_FnPacked.B17 = true := by kernel_rfl
set_option maxHeartbeats 8000000 in
set_option maxRecDepth 100000 in
theorem laws_FnPacked.calls (k : Nat) (A0 : Option Addr) (c0 : Nat) (l0 : List Int) (r : Bool) (w : World) (hr0 : Kd.C (Kd.int .u8) w A0 l0.length l0) (hc0 : l0.length ≤ c0) (h : laws_FnPacked.f k l0 = some r) :
  Calls Try.prog 3 #[.slice A0 l0.length c0] w fun e w' => e = .returned (.bool r) ∧ Below w.heap.size w w' := by
 have HR0 := Aside0.mk hr0
 have HC0 := Aside0.mk hc0
 clear hr0 hc0
 have HB := Aside0.mk (Below.refl w.heap.size w)
 have H : ((laws_big.f l0).bind fun t398 => (if t398 = true then (some true) else ((spec_DrawPackOps.f k l0).bind fun t399 => ((spec_PackOps.f k t399).bind fun bt402 => ((impl_PackOps.f k t399).bind fun bt406 => (if (bt406.2 != bt402.2) = true then (laws_FnPacked.j0 k l0 t399 bt402.2 bt406.1 true) else ((laws_sameBytes.f k bt406.1 bt402.1).bind fun t410 => (laws_FnPacked.j0 k l0 t399 bt402.2 bt406.1 (!t410))))))))) = some r := h
 clear h
 replace H := Option.bind_eq_some_iff.mp H
 obtain ⟨t398, A20, H⟩ := H
 replace H : (if t398 = true then (some true) else ((spec_DrawPackOps.f k l0).bind fun t399 => ((spec_PackOps.f k t399).bind fun bt402 => ((impl_PackOps.f k t399).bind fun bt406 => (if (bt406.2 != bt402.2) = true then (laws_FnPacked.j0 k l0 t399 bt402.2 bt406.1 true) else ((laws_sameBytes.f k bt406.1 bt402.1).bind fun t410 => (laws_FnPacked.j0 k l0 t399 bt402.2 bt406.1 (!t410)))))))) = some r := H
 have A2 := Aside0.mk A20
 clear A20
 by_cases c3 : t398 = true
 ·subst c3
  have H1 : (some true) = some r := by rw [if_pos rfl] at H; exact H
  clear H
  have H := H1
  clear H1
  obtain rfl := Option.some.inj H
  go_enter Try.func3, Try.ntmps3
  go_wp2_with (first | (go_at_call 5; (with_reducible refine (laws_big.calls _ _ l0 true _ ?side1 ?side2 A2.out).mono ?_); (case side1 => repeat (first | exact HR0.out | (with_reducible refine Kd.C_alloc ?_ _) | (with_reducible refine Kd.C_drewN ?_ _) | (with_reducible refine Kd.C_drew ?_))); (case side2 => exact HC0.out); rintro e w' ⟨rfl, ⟨nd, rfl⟩⟩))
  go_ret
  exact ⟨by first | rfl | (simp [errW_none, errW_some] <;> rfl) | (simp [*, errW_none, errW_some] <;> rfl), by with_reducible repeat (first | exact HB.out | apply below_alloc | apply pw_below_drewN | apply below_drew1)⟩
 ·replace c3 := Bool.eq_false_iff.mpr c3
  subst c3
  have H1 : ((spec_DrawPackOps.f k l0).bind fun t399 => ((spec_PackOps.f k t399).bind fun bt402 => ((impl_PackOps.f k t399).bind fun bt406 => (if (bt406.2 != bt402.2) = true then (laws_FnPacked.j0 k l0 t399 bt402.2 bt406.1 true) else ((laws_sameBytes.f k bt406.1 bt402.1).bind fun t410 => (laws_FnPacked.j0 k l0 t399 bt402.2 bt406.1 (!t410))))))) = some r := by rw [if_neg (show ¬ (false = true) by decide)] at H; exact H
  clear H
  have H := H1
  clear H1
  replace H := Option.bind_eq_some_iff.mp H
  obtain ⟨t399, A40, H⟩ := H
  replace H : ((spec_PackOps.f k t399).bind fun bt402 => ((impl_PackOps.f k t399).bind fun bt406 => (if (bt406.2 != bt402.2) = true then (laws_FnPacked.j0 k l0 t399 bt402.2 bt406.1 true) else ((laws_sameBytes.f k bt406.1 bt402.1).bind fun t410 => (laws_FnPacked.j0 k l0 t399 bt402.2 bt406.1 (!t410)))))) = some r := H
  have A4 := Aside0.mk A40
  clear A40
  replace H := Option.bind_eq_some_iff.mp H
  obtain ⟨⟨t402, t403⟩, A50, H⟩ := H
  replace H : ((impl_PackOps.f k t399).bind fun bt406 => (if (bt406.2 != t403) = true then (laws_FnPacked.j0 k l0 t399 t403 bt406.1 true) else ((laws_sameBytes.f k bt406.1 t402).bind fun t410 => (laws_FnPacked.j0 k l0 t399 t403 bt406.1 (!t410))))) = some r := H
  have A5 := Aside0.mk A50
  clear A50
  replace H := Option.bind_eq_some_iff.mp H
  obtain ⟨⟨t406, t407⟩, A60, H⟩ := H
  replace H : (if (t407 != t403) = true then (laws_FnPacked.j0 k l0 t399 t403 t406 true) else ((laws_sameBytes.f k t406 t402).bind fun t410 => (laws_FnPacked.j0 k l0 t399 t403 t406 (!t410)))) = some r := H
  have A6 := Aside0.mk A60
  clear A60
  have HC7 := Aside0.mk H
  clear H
  go_enter Try.func3, Try.ntmps3
  go_upto_region 6 with (first | (go_at_call 5; (with_reducible refine (laws_big.calls _ _ l0 false _ ?side1 ?side2 A2.out).mono ?_); (case side1 => repeat (first | exact HR0.out | (with_reducible refine Kd.C_alloc ?_ _) | (with_reducible refine Kd.C_drewN ?_ _) | (with_reducible refine Kd.C_drew ?_))); (case side2 => exact HC0.out); rintro e w' ⟨rfl, ⟨nd, rfl⟩⟩) | (go_at_call 6; (with_reducible refine (spec_DrawPackOps.calls k _ _ l0 t399 _ ?side1 ?side2 A4.out).mono ?_); (case side1 => repeat (first | exact HR0.out | (with_reducible refine Kd.C_alloc ?_ _) | (with_reducible refine Kd.C_drewN ?_ _) | (with_reducible refine Kd.C_drew ?_))); (case side2 => exact HC0.out); rintro e w8 ⟨v400, rfl, ho0, hb⟩; have n0_ := Aside0.mk (Kd.R_lower ho0 (below_size (by with_reducible repeat (first | exact HB.out | apply below_alloc | apply pw_below_drewN | apply below_drew1)))); have n1_ := Aside0.mk (below_step (by with_reducible repeat (first | exact HB.out | apply below_alloc | apply pw_below_drewN | apply below_drew1)) hb); clear HB; have HO401 := n0_; have HB := n1_; clear n0_ n1_; clear hb ho0; obtain ⟨Ao9, co9, eo9⟩ := Kd.R_slice HO401.out; subst eo9) | (go_at_call 7; (with_reducible refine (spec_PackOps.calls k _ _ t399 t402 t403 _ ?side1 ?side2 A5.out).mono ?_); (case side1 => repeat (first | exact (Kd.R_reads' HO401.out).2.2 | (with_reducible refine Kd.C_alloc ?_ _) | (with_reducible refine Kd.C_drewN ?_ _) | (with_reducible refine Kd.C_drew ?_))); (case side2 => exact (Kd.R_reads' HO401.out).2.1); rintro e w10 ⟨v404, rfl, ho0, hb⟩; have n0_ := Aside0.mk (Kd.R_below (by (with_reducible repeat (first | apply Kd.R_alloc | apply Kd.R_drewN | apply Kd.R_drew)); exact HO401.out) hb); have n1_ := Aside0.mk (Kd.R_lower ho0 (below_size (by with_reducible repeat (first | exact HB.out | apply below_alloc | apply pw_below_drewN | apply below_drew1)))); have n2_ := Aside0.mk (below_step (by with_reducible repeat (first | exact HB.out | apply below_alloc | apply pw_below_drewN | apply below_drew1)) hb); clear HO401 HB; have HO401 := n0_; have HO405 := n1_; have HB := n2_; clear n0_ n1_ n2_; clear hb ho0) | (go_at_call 8; (with_reducible refine (impl_PackOps.calls k _ _ t399 t406 t407 _ ?side1 ?side2 A6.out).mono ?_); (case side1 => repeat (first | exact (Kd.R_reads' HO401.out).2.2 | (with_reducible refine Kd.C_alloc ?_ _) | (with_reducible refine Kd.C_drewN ?_ _) | (with_reducible refine Kd.C_drew ?_))); (case side2 => exact (Kd.R_reads' HO401.out).2.1); rintro e w11 ⟨v408, rfl, ho0, hb⟩; have n0_ := Aside0.mk (Kd.R_below (by (with_reducible repeat (first | apply Kd.R_alloc | apply Kd.R_drewN | apply Kd.R_drew)); exact HO401.out) hb); have n1_ := Aside0.mk (Kd.R_elder' (by (with_reducible repeat (first | apply Kd.R_alloc | apply Kd.R_drewN | apply Kd.R_drew)); exact HO405.out) (Kd.R_base ho0) hb); have n2_ := Aside0.mk (Kd.R_lower (Kd.R_new' ho0 (Kd.R_lt (by (with_reducible repeat (first | apply Kd.R_alloc | apply Kd.R_drewN | apply Kd.R_drew)); exact HO405.out))) (below_size (by with_reducible repeat (first | exact HB.out | apply below_alloc | apply pw_below_drewN | apply below_drew1)))); have n3_ := Aside0.mk (below_step (by with_reducible repeat (first | exact HB.out | apply below_alloc | apply pw_below_drewN | apply below_drew1)) hb); clear HO401 HO405 HB; have HO401 := n0_; have HO405 := n1_; have HO409 := n2_; have HB := n3_; clear n0_ n1_ n2_ n3_; clear hb ho0))
  (try simp only [Act.put, List.setIfInBounds_toArray, List.set_cons_zero, List.set_cons_succ])
  go_cut [36] (fun v36 wc => ∃ (kq : Nat) (x36_6 : Bool), v36 = .bool x36_6 ∧ Aside0 (laws_FnPacked.j0 kq l0 t399 t403 t406 x36_6 = some r) ∧ Aside0 (kq ≤ k) ∧ Aside0 (Kd.R k38 38 wc w.heap.size (fun _ => True) (.slice Ao9 t399.length co9) t399) ∧ Aside0 (Kd.R (Kd.int .u8) 5 wc w.heap.size (fun _ => True) v408 t406) ∧ Aside0 (Below w.heap.size w wc))
  case first =>
   have H := HC7.out
   clear HC7
   by_cases c12 : (t407 != t403) = true
   ·rw [if_pos c12] at H
    have c12b0 : (t407 != t403) = true := c12
    (try (have c12b1 : decide (t407 = t403) = false := by simpa using c12))
    (try (have c12b2 : (t407 == t403) = false := by simpa using c12))
    (try (have c12b3 : ¬ (t407 = t403) := by simpa using c12))
    clear c12
    (first | rw [c12b0] | rw [c12b1] | (simp only [i64_w, i32_w]; rw [c12b0]) | skip)
    have H' := Aside0.mk H
    clear H
    go_wp2
    go_meet
    case rel => exact ⟨_, (true), (by first | rfl | simp | simp [*]), H', ⟨by first | omega | exact Nat.le_refl _⟩, ⟨by (with_reducible repeat (first | apply Kd.R_alloc | apply Kd.R_drewN | apply Kd.R_drew)); exact HO401.out⟩, ⟨by (with_reducible repeat (first | apply Kd.R_alloc | apply Kd.R_drewN | apply Kd.R_drew)); exact Kd.R_mono HO409.out (fun _ hk => trivial)⟩, ⟨by with_reducible repeat (first | exact HB.out | apply below_alloc | apply pw_below_drewN | apply below_drew1)⟩⟩
   ·rw [if_neg c12] at H
    have c12b0 : (t407 != t403) = false := by simpa using c12
    (try (have c12b1 : decide (t407 = t403) = true := by simpa using c12))
    (try (have c12b2 : (t407 == t403) = true := by simpa using c12))
    clear c12
    (first | rw [c12b0] | rw [c12b1] | (simp only [i64_w, i32_w]; rw [c12b0]) | skip)
    replace H := Option.bind_eq_some_iff.mp H
    obtain ⟨t410, A130, H⟩ := H
    replace H : (laws_FnPacked.j0 k l0 t399 t403 t406 (!t410)) = some r := H
    have A13 := Aside0.mk A130
    clear A130
    have H' := Aside0.mk H
    clear H
    obtain ⟨Ao14, co14, eo14⟩ := Kd.R_slice HO409.out
    subst eo14
    obtain ⟨Ao15, co15, eo15⟩ := Kd.R_slice HO405.out
    subst eo15
    go_wp2_with (first | (go_at_call 9; (with_reducible refine (laws_sameBytes.calls k _ _ t406 _ _ t402 t410 _ ?side1 ?side2 ?side3 ?side4 A13.out).mono ?_); (case side1 => repeat (first | exact (Kd.R_reads' HO409.out).2.2 | (with_reducible refine Kd.C_alloc ?_ _) | (with_reducible refine Kd.C_drewN ?_ _) | (with_reducible refine Kd.C_drew ?_))); (case side2 => exact (Kd.R_reads' HO409.out).2.1); (case side3 => repeat (first | exact (Kd.R_reads' HO405.out).2.2 | (with_reducible refine Kd.C_alloc ?_ _) | (with_reducible refine Kd.C_drewN ?_ _) | (with_reducible refine Kd.C_drew ?_))); (case side4 => exact (Kd.R_reads' HO405.out).2.1); rintro e w' ⟨rfl, ⟨nd, rfl⟩⟩))
    go_meet
    case rel => exact ⟨_, (!t410), (by first | rfl | simp | simp [*]), H', ⟨by first | omega | exact Nat.le_refl _⟩, ⟨by (with_reducible repeat (first | apply Kd.R_alloc | apply Kd.R_drewN | apply Kd.R_drew)); exact HO401.out⟩, ⟨by (with_reducible repeat (first | apply Kd.R_alloc | apply Kd.R_drewN | apply Kd.R_drew)); exact Kd.R_mono HO409.out (fun _ hk => trivial)⟩, ⟨by with_reducible repeat (first | exact HB.out | apply below_alloc | apply pw_below_drewN | apply below_drew1)⟩⟩
  case rest =>
   clear HC7
   try clear c1
   try clear p2
   try clear c3
   try clear c5
   try clear c6
   try clear c7
   try clear c8
   try clear c12
   try clear c12b0
   try clear c12b1
   try clear c12b2
   obtain ⟨kq, x36_6, rfl, HA, HJ6, HO_3, HO_6, HB⟩ := hcut
   cases kq with
   | zero => exact absurd HA.out (by simp [laws_FnPacked.j0])
   | succ kj6 =>
    have H := HA.out
    clear HA
    simp only [laws_FnPacked.j0] at H
    by_cases c16 : x36_6 = true
    ·subst c16
     have H1 : (some false) = some r := by rw [if_pos rfl] at H; exact H
     clear H
     have H := H1
     clear H1
     obtain rfl := Option.some.inj H
     go_wp2
     go_ret
     exact ⟨by first | rfl | (simp [errW_none, errW_some] <;> rfl) | (simp [*, errW_none, errW_some] <;> rfl), by with_reducible repeat (first | exact HB.out | apply below_alloc | apply pw_below_drewN | apply below_drew1)⟩
    ·replace c16 := Bool.eq_false_iff.mpr c16
     subst c16
     have H1 : (if t403 = true then ((impl_UnpackOps.f kj6 t406).bind fun bt411 => (if bt411.2 = true then ((laws_sameOps.f kj6 bt411.1 t399).bind fun t415 => (laws_FnPacked.j1 kj6 l0 t399 t406 (!t415))) else (laws_FnPacked.j1 kj6 l0 t399 t406 true))) else (some true)) = some r := by rw [if_neg (show ¬ (false = true) by decide)] at H; exact H
     clear H
     have H := H1
     clear H1
     by_cases c17 : t403 = true
     ·subst c17
      have H1 : ((impl_UnpackOps.f kj6 t406).bind fun bt411 => (if bt411.2 = true then ((laws_sameOps.f kj6 bt411.1 t399).bind fun t415 => (laws_FnPacked.j1 kj6 l0 t399 t406 (!t415))) else (laws_FnPacked.j1 kj6 l0 t399 t406 true))) = some r := by rw [if_pos rfl] at H; exact H
      clear H
      have H := H1
      clear H1
      replace H := Option.bind_eq_some_iff.mp H
      obtain ⟨⟨t411, t412⟩, A180, H⟩ := H
      replace H : (if t412 = true then ((laws_sameOps.f kj6 t411 t399).bind fun t415 => (laws_FnPacked.j1 kj6 l0 t399 t406 (!t415))) else (laws_FnPacked.j1 kj6 l0 t399 t406 true)) = some r := H
      have A18 := Aside0.mk A180
      clear A180
      have HC19 := Aside0.mk H
      clear H
      obtain ⟨Ao20, co20, eo20⟩ := Kd.R_slice HO_6.out
      subst eo20
      go_upto_region 11 with (first | (go_at_call 10; (with_reducible refine (impl_UnpackOps.calls kj6 _ _ t406 t411 t412 _ ?side1 ?side2 A18.out).mono ?_); (case side1 => repeat (first | exact (Kd.R_reads' HO_6.out).2.2 | (with_reducible refine Kd.C_alloc ?_ _) | (with_reducible refine Kd.C_drewN ?_ _) | (with_reducible refine Kd.C_drew ?_))); (case side2 => exact (Kd.R_reads' HO_6.out).2.1); rintro e w21 ⟨v413, rfl, ho0, hb⟩; have n0_ := Aside0.mk (Kd.R_elder' (by (with_reducible repeat (first | apply Kd.R_alloc | apply Kd.R_drewN | apply Kd.R_drew)); exact HO_3.out) (Kd.R_base ho0) hb); have n1_ := Aside0.mk (Kd.R_below (by (with_reducible repeat (first | apply Kd.R_alloc | apply Kd.R_drewN | apply Kd.R_drew)); exact HO_6.out) hb); have n2_ := Aside0.mk (Kd.R_lower (Kd.R_new' ho0 (Kd.R_lt (by (with_reducible repeat (first | apply Kd.R_alloc | apply Kd.R_drewN | apply Kd.R_drew)); exact HO_3.out))) (below_size (by with_reducible repeat (first | exact HB.out | apply below_alloc | apply pw_below_drewN | apply below_drew1)))); have n3_ := Aside0.mk (below_step (by with_reducible repeat (first | exact HB.out | apply below_alloc | apply pw_below_drewN | apply below_drew1)) hb); clear HO_3 HO_6 HB; have HO_3 := n0_; have HO_6 := n1_; have HO414 := n2_; have HB := n3_; clear n0_ n1_ n2_ n3_; clear hb ho0))
      (try simp only [Act.put, List.setIfInBounds_toArray, List.set_cons_zero, List.set_cons_succ])
      go_cut [51] (fun v51 wc => ∃ (kq : Nat) (x51_18 : Bool), v51 = .bool x51_18 ∧ Aside0 (laws_FnPacked.j1 kq l0 t399 t406 x51_18 = some r) ∧ Aside0 (kq ≤ kj6) ∧ Aside0 (Kd.R k38 38 wc w.heap.size (fun _ => True) (.slice Ao9 t399.length co9) t399) ∧ Aside0 (Kd.R (Kd.int .u8) 5 wc w.heap.size (fun _ => True) (.slice Ao20 t406.length co20) t406) ∧ Aside0 (Below w.heap.size w wc))
      case first =>
       have H := HC19.out
       clear HC19
       by_cases c22 : t412 = true
       ·subst c22
        have H1 : ((laws_sameOps.f kj6 t411 t399).bind fun t415 => (laws_FnPacked.j1 kj6 l0 t399 t406 (!t415))) = some r := by rw [if_pos rfl] at H; exact H
        clear H
        have H := H1
        clear H1
        replace H := Option.bind_eq_some_iff.mp H
        obtain ⟨t415, A230, H⟩ := H
        replace H : (laws_FnPacked.j1 kj6 l0 t399 t406 (!t415)) = some r := H
        have A23 := Aside0.mk A230
        clear A230
        have H' := Aside0.mk H
        clear H
        obtain ⟨Ao24, co24, eo24⟩ := Kd.R_slice HO414.out
        subst eo24
        go_wp2_with (first | (go_at_call 11; (with_reducible refine (laws_sameOps.calls kj6 _ _ t411 _ _ t399 t415 _ ?side1 ?side2 ?side3 ?side4 A23.out).mono ?_); (case side1 => repeat (first | exact (Kd.R_reads' HO414.out).2.2 | (with_reducible refine Kd.C_alloc ?_ _) | (with_reducible refine Kd.C_drewN ?_ _) | (with_reducible refine Kd.C_drew ?_))); (case side2 => exact (Kd.R_reads' HO414.out).2.1); (case side3 => repeat (first | exact (Kd.R_reads' HO_3.out).2.2 | (with_reducible refine Kd.C_alloc ?_ _) | (with_reducible refine Kd.C_drewN ?_ _) | (with_reducible refine Kd.C_drew ?_))); (case side4 => exact (Kd.R_reads' HO_3.out).2.1); rintro e w' ⟨rfl, ⟨nd, rfl⟩⟩))
        go_meet
        case rel => exact ⟨_, (!t415), (by first | rfl | simp | simp [*]), H', ⟨by have := HJ6.out; first | omega | exact Nat.le_refl _⟩, ⟨by (with_reducible repeat (first | apply Kd.R_alloc | apply Kd.R_drewN | apply Kd.R_drew)); exact Kd.R_mono HO_3.out (fun _ hk => trivial)⟩, ⟨by (with_reducible repeat (first | apply Kd.R_alloc | apply Kd.R_drewN | apply Kd.R_drew)); exact HO_6.out⟩, ⟨by with_reducible repeat (first | exact HB.out | apply below_alloc | apply pw_below_drewN | apply below_drew1)⟩⟩
       ·replace c22 := Bool.eq_false_iff.mpr c22
        subst c22
        have H1 : (laws_FnPacked.j1 kj6 l0 t399 t406 true) = some r := by rw [if_neg (show ¬ (false = true) by decide)] at H; exact H
        clear H
        have H := H1
        clear H1
        have H' := Aside0.mk H
        clear H
        go_wp2
        go_meet
        case rel => exact ⟨_, (true), (by first | rfl | simp | simp [*]), H', ⟨by have := HJ6.out; first | omega | exact Nat.le_refl _⟩, ⟨by (with_reducible repeat (first | apply Kd.R_alloc | apply Kd.R_drewN | apply Kd.R_drew)); exact Kd.R_mono HO_3.out (fun _ hk => trivial)⟩, ⟨by (with_reducible repeat (first | apply Kd.R_alloc | apply Kd.R_drewN | apply Kd.R_drew)); exact HO_6.out⟩, ⟨by with_reducible repeat (first | exact HB.out | apply below_alloc | apply pw_below_drewN | apply below_drew1)⟩⟩
      case rest =>
       clear HC19
       try clear c1
       try clear c2
       try clear p2
       try clear c3
       try clear c5
       try clear c6
       try clear c7
       try clear c8
       try clear c10
       try clear c12
       try clear c12b0
       try clear c12b1
       try clear c12b2
       try clear c16
       try clear c17
       try clear c22
       try clear p2
       obtain ⟨kq, x51_18, rfl, HA, HJ18, HO_3, HO_6, HB⟩ := hcut
       cases kq with
       | zero => exact absurd HA.out (by simp [laws_FnPacked.j1])
       | succ kj18 =>
        have H := HA.out
        clear HA
        simp only [laws_FnPacked.j1] at H
        by_cases c25 : x51_18 = true
        ·subst c25
         have H1 : (some false) = some r := by rw [if_pos rfl] at H; exact H
         clear H
         have H := H1
         clear H1
         obtain rfl := Option.some.inj H
         go_wp2
         go_ret
         exact ⟨by first | rfl | (simp [errW_none, errW_some] <;> rfl) | (simp [*, errW_none, errW_some] <;> rfl), by with_reducible repeat (first | exact HB.out | apply below_alloc | apply pw_below_drewN | apply below_drew1)⟩
        ·replace c25 := Bool.eq_false_iff.mpr c25
         subst c25
         have H1 : ((laws_at.f l0 0).bind fun t416 => ((laws_at.f l0 1).bind fun t417 => (if (wrap64 ((t406.length : Int) + 1)) = 0 then (none) else (if 0 ≤ (Int.tmod (wrap64 (t416 * (wrap64 (1 + t417)))) (wrap64 ((t406.length : Int) + 1))) then (if (Int.tmod (wrap64 (t416 * (wrap64 (1 + t417)))) (wrap64 ((t406.length : Int) + 1))) ≤ (t406.length : Int) then ((impl_ScanOps.f kj18 (t406.take ((Int.tmod (wrap64 (t416 * (wrap64 (1 + t417)))) (wrap64 ((t406.length : Int) + 1))) : Int).toNat)).bind fun bt422 => (if (bt422.1.length : Int) > (t399.length : Int) then (laws_FnPacked.j2 kj18 t406 (Int.tmod (wrap64 (t416 * (wrap64 (1 + t417)))) (wrap64 ((t406.length : Int) + 1))) bt422.2.1 bt422.2.2 true) else (if 0 ≤ (bt422.1.length : Int) then (if (bt422.1.length : Int) ≤ (t399.length : Int) then ((laws_sameOps.f kj18 bt422.1 (t399.take ((bt422.1.length : Int) : Int).toNat)).bind fun t431 => (if t431 = true then (if bt422.2.1 > (Int.tmod (wrap64 (t416 * (wrap64 (1 + t417)))) (wrap64 ((t406.length : Int) + 1))) then (laws_FnPacked.j2 kj18 t406 (Int.tmod (wrap64 (t416 * (wrap64 (1 + t417)))) (wrap64 ((t406.length : Int) + 1))) bt422.2.1 bt422.2.2 true) else (if bt422.2.2 = 2 then (laws_FnPacked.j2 kj18 t406 (Int.tmod (wrap64 (t416 * (wrap64 (1 + t417)))) (wrap64 ((t406.length : Int) + 1))) bt422.2.1 bt422.2.2 true) else (if ((bt422.1.length : Int) % 16) = 0 then (laws_FnPacked.j2 kj18 t406 (Int.tmod (wrap64 (t416 * (wrap64 (1 + t417)))) (wrap64 ((t406.length : Int) + 1))) bt422.2.1 bt422.2.2 false) else (laws_FnPacked.j2 kj18 t406 (Int.tmod (wrap64 (t416 * (wrap64 (1 + t417)))) (wrap64 ((t406.length : Int) + 1))) bt422.2.1 bt422.2.2 ((bt422.1.length : Int) != (t399.length : Int)))))) else (laws_FnPacked.j2 kj18 t406 (Int.tmod (wrap64 (t416 * (wrap64 (1 + t417)))) (wrap64 ((t406.length : Int) + 1))) bt422.2.1 bt422.2.2 true))) else (none)) else (none)))) else (none)) else (none))))) = some r := by rw [if_neg (show ¬ (false = true) by decide)] at H; exact H
         clear H
         have H := H1
         clear H1
         replace H := Option.bind_eq_some_iff.mp H
         obtain ⟨t416, A260, H⟩ := H
         replace H : ((laws_at.f l0 1).bind fun t417 => (if (wrap64 ((t406.length : Int) + 1)) = 0 then (none) else (if 0 ≤ (Int.tmod (wrap64 (t416 * (wrap64 (1 + t417)))) (wrap64 ((t406.length : Int) + 1))) then (if (Int.tmod (wrap64 (t416 * (wrap64 (1 + t417)))) (wrap64 ((t406.length : Int) + 1))) ≤ (t406.length : Int) then ((impl_ScanOps.f kj18 (t406.take ((Int.tmod (wrap64 (t416 * (wrap64 (1 + t417)))) (wrap64 ((t406.length : Int) + 1))) : Int).toNat)).bind fun bt422 => (if (bt422.1.length : Int) > (t399.length : Int) then (laws_FnPacked.j2 kj18 t406 (Int.tmod (wrap64 (t416 * (wrap64 (1 + t417)))) (wrap64 ((t406.length : Int) + 1))) bt422.2.1 bt422.2.2 true) else (if 0 ≤ (bt422.1.length : Int) then (if (bt422.1.length : Int) ≤ (t399.length : Int) then ((laws_sameOps.f kj18 bt422.1 (t399.take ((bt422.1.length : Int) : Int).toNat)).bind fun t431 => (if t431 = true then (if bt422.2.1 > (Int.tmod (wrap64 (t416 * (wrap64 (1 + t417)))) (wrap64 ((t406.length : Int) + 1))) then (laws_FnPacked.j2 kj18 t406 (Int.tmod (wrap64 (t416 * (wrap64 (1 + t417)))) (wrap64 ((t406.length : Int) + 1))) bt422.2.1 bt422.2.2 true) else (if bt422.2.2 = 2 then (laws_FnPacked.j2 kj18 t406 (Int.tmod (wrap64 (t416 * (wrap64 (1 + t417)))) (wrap64 ((t406.length : Int) + 1))) bt422.2.1 bt422.2.2 true) else (if ((bt422.1.length : Int) % 16) = 0 then (laws_FnPacked.j2 kj18 t406 (Int.tmod (wrap64 (t416 * (wrap64 (1 + t417)))) (wrap64 ((t406.length : Int) + 1))) bt422.2.1 bt422.2.2 false) else (laws_FnPacked.j2 kj18 t406 (Int.tmod (wrap64 (t416 * (wrap64 (1 + t417)))) (wrap64 ((t406.length : Int) + 1))) bt422.2.1 bt422.2.2 ((bt422.1.length : Int) != (t399.length : Int)))))) else (laws_FnPacked.j2 kj18 t406 (Int.tmod (wrap64 (t416 * (wrap64 (1 + t417)))) (wrap64 ((t406.length : Int) + 1))) bt422.2.1 bt422.2.2 true))) else (none)) else (none)))) else (none)) else (none)))) = some r := H
         have A26 := Aside0.mk A260
         clear A260
         replace H := Option.bind_eq_some_iff.mp H
         obtain ⟨t417, A270, H⟩ := H
         replace H : (if (wrap64 ((t406.length : Int) + 1)) = 0 then (none) else (if 0 ≤ (Int.tmod (wrap64 (t416 * (wrap64 (1 + t417)))) (wrap64 ((t406.length : Int) + 1))) then (if (Int.tmod (wrap64 (t416 * (wrap64 (1 + t417)))) (wrap64 ((t406.length : Int) + 1))) ≤ (t406.length : Int) then ((impl_ScanOps.f kj18 (t406.take ((Int.tmod (wrap64 (t416 * (wrap64 (1 + t417)))) (wrap64 ((t406.length : Int) + 1))) : Int).toNat)).bind fun bt422 => (if (bt422.1.length : Int) > (t399.length : Int) then (laws_FnPacked.j2 kj18 t406 (Int.tmod (wrap64 (t416 * (wrap64 (1 + t417)))) (wrap64 ((t406.length : Int) + 1))) bt422.2.1 bt422.2.2 true) else (if 0 ≤ (bt422.1.length : Int) then (if (bt422.1.length : Int) ≤ (t399.length : Int) then ((laws_sameOps.f kj18 bt422.1 (t399.take ((bt422.1.length : Int) : Int).toNat)).bind fun t431 => (if t431 = true then (if bt422.2.1 > (Int.tmod (wrap64 (t416 * (wrap64 (1 + t417)))) (wrap64 ((t406.length : Int) + 1))) then (laws_FnPacked.j2 kj18 t406 (Int.tmod (wrap64 (t416 * (wrap64 (1 + t417)))) (wrap64 ((t406.length : Int) + 1))) bt422.2.1 bt422.2.2 true) else (if bt422.2.2 = 2 then (laws_FnPacked.j2 kj18 t406 (Int.tmod (wrap64 (t416 * (wrap64 (1 + t417)))) (wrap64 ((t406.length : Int) + 1))) bt422.2.1 bt422.2.2 true) else (if ((bt422.1.length : Int) % 16) = 0 then (laws_FnPacked.j2 kj18 t406 (Int.tmod (wrap64 (t416 * (wrap64 (1 + t417)))) (wrap64 ((t406.length : Int) + 1))) bt422.2.1 bt422.2.2 false) else (laws_FnPacked.j2 kj18 t406 (Int.tmod (wrap64 (t416 * (wrap64 (1 + t417)))) (wrap64 ((t406.length : Int) + 1))) bt422.2.1 bt422.2.2 ((bt422.1.length : Int) != (t399.length : Int)))))) else (laws_FnPacked.j2 kj18 t406 (Int.tmod (wrap64 (t416 * (wrap64 (1 + t417)))) (wrap64 ((t406.length : Int) + 1))) bt422.2.1 bt422.2.2 true))) else (none)) else (none)))) else (none)) else (none))) = some r := H
         have A27 := Aside0.mk A270
         clear A270
         by_cases c28 : (wrap64 ((t406.length : Int) + 1)) = 0
         ·rw [if_pos c28] at H
          exact absurd H (by simp)
         ·rw [if_neg c28] at H
          have c28b0 : ((wrap64 ((t406.length : Int) + 1)) == 0) = false := beq_eq_false_iff_ne.mpr c28
          have c28b1 : ((wrap64 ((t406.length : Int) + 1)) != 0) = true := bne_iff_ne.mpr c28
          obtain ⟨ji29, hji29⟩ : ∃ j_ : Int, (Int.tmod (wrap64 (t416 * (wrap64 (1 + t417)))) (wrap64 ((t406.length : Int) + 1))) = j_ := ⟨_, rfl⟩
          replace H : (if 0 ≤ (ji29) then (if (ji29) ≤ (t406.length : Int) then ((impl_ScanOps.f kj18 (t406.take ((ji29) : Int).toNat)).bind fun bt422 => (if (bt422.1.length : Int) > (t399.length : Int) then (laws_FnPacked.j2 kj18 t406 ji29 bt422.2.1 bt422.2.2 true) else (if 0 ≤ (bt422.1.length : Int) then (if (bt422.1.length : Int) ≤ (t399.length : Int) then ((laws_sameOps.f kj18 bt422.1 (t399.take ((bt422.1.length : Int) : Int).toNat)).bind fun t431 => (if t431 = true then (if bt422.2.1 > (ji29) then (laws_FnPacked.j2 kj18 t406 ji29 bt422.2.1 bt422.2.2 true) else (if bt422.2.2 = 2 then (laws_FnPacked.j2 kj18 t406 ji29 bt422.2.1 bt422.2.2 true) else (if ((bt422.1.length : Int) % 16) = 0 then (laws_FnPacked.j2 kj18 t406 ji29 bt422.2.1 bt422.2.2 false) else (laws_FnPacked.j2 kj18 t406 ji29 bt422.2.1 bt422.2.2 ((bt422.1.length : Int) != (t399.length : Int)))))) else (laws_FnPacked.j2 kj18 t406 ji29 bt422.2.1 bt422.2.2 true))) else (none)) else (none)))) else (none)) else (none)) = some r := by first | (rw [hji29] at H; exact H) | (simp only [hji29] at H ⊢; exact H)
          (try rw [hji29] at A26)
          (try rw [hji29] at A27)
          by_cases c30 : 0 ≤ (ji29)
          ·rw [if_pos c30] at H
           have c30b0 := eq_true c30
           have c30b1 : decide (0 ≤ (ji29)) = true := decide_eq_true c30
           clear c30
           by_cases c31 : (ji29) ≤ (t406.length : Int)
           ·rw [if_pos c31] at H
            have c31b0 := eq_true c31
            have c31b1 : decide ((ji29) ≤ (t406.length : Int)) = true := decide_eq_true c31
            clear c31
            obtain ⟨y418, hy418⟩ : ∃ y_ : List Int, y_ = (t406.take ((ji29) : Int).toNat) := ⟨_, rfl⟩
            replace H : ((impl_ScanOps.f kj18 y418).bind fun bt422 => (if (bt422.1.length : Int) > (t399.length : Int) then (laws_FnPacked.j2 kj18 t406 ji29 bt422.2.1 bt422.2.2 true) else (if 0 ≤ (bt422.1.length : Int) then (if (bt422.1.length : Int) ≤ (t399.length : Int) then ((laws_sameOps.f kj18 bt422.1 (t399.take ((bt422.1.length : Int) : Int).toNat)).bind fun t431 => (if t431 = true then (if bt422.2.1 > (ji29) then (laws_FnPacked.j2 kj18 t406 ji29 bt422.2.1 bt422.2.2 true) else (if bt422.2.2 = 2 then (laws_FnPacked.j2 kj18 t406 ji29 bt422.2.1 bt422.2.2 true) else (if ((bt422.1.length : Int) % 16) = 0 then (laws_FnPacked.j2 kj18 t406 ji29 bt422.2.1 bt422.2.2 false) else (laws_FnPacked.j2 kj18 t406 ji29 bt422.2.1 bt422.2.2 ((bt422.1.length : Int) != (t399.length : Int)))))) else (laws_FnPacked.j2 kj18 t406 ji29 bt422.2.1 bt422.2.2 true))) else (none)) else (none)))) = some r := by first | (rw [hy418]; exact H) | exact H
            have Ny418 := Aside0.mk hy418
            clear hy418
            replace H := Option.bind_eq_some_iff.mp H
            obtain ⟨⟨t422, t423, t424⟩, A320, H⟩ := H
            replace H : (if (t422.length : Int) > (t399.length : Int) then (laws_FnPacked.j2 kj18 t406 ji29 t423 t424 true) else (if 0 ≤ (t422.length : Int) then (if (t422.length : Int) ≤ (t399.length : Int) then ((laws_sameOps.f kj18 t422 (t399.take ((t422.length : Int) : Int).toNat)).bind fun t431 => (if t431 = true then (if t423 > (ji29) then (laws_FnPacked.j2 kj18 t406 ji29 t423 t424 true) else (if t424 = 2 then (laws_FnPacked.j2 kj18 t406 ji29 t423 t424 true) else (if ((t422.length : Int) % 16) = 0 then (laws_FnPacked.j2 kj18 t406 ji29 t423 t424 false) else (laws_FnPacked.j2 kj18 t406 ji29 t423 t424 ((t422.length : Int) != (t399.length : Int)))))) else (laws_FnPacked.j2 kj18 t406 ji29 t423 t424 true))) else (none)) else (none))) = some r := H
            have A32 := Aside0.mk A320
            clear A320
            have HC33 := Aside0.mk H
            clear H
            go_upto_region 15 with (first | (go_at_call 12; (with_reducible refine (laws_at.calls _ _ l0 0 t416 _ ?side1 ?side2 A26.out).mono ?_); (case side1 => repeat (first | exact (Kd.C_below HR0.out HB.out) | (with_reducible refine Kd.C_alloc ?_ _) | (with_reducible refine Kd.C_drewN ?_ _) | (with_reducible refine Kd.C_drew ?_))); (case side2 => exact HC0.out); rintro e w' ⟨rfl, ⟨nd, rfl⟩⟩) | (go_at_call 12; (with_reducible refine (laws_at.calls _ _ l0 1 t417 _ ?side1 ?side2 A27.out).mono ?_); (case side1 => repeat (first | exact (Kd.C_below HR0.out (by with_reducible repeat (first | exact HB.out | apply below_alloc | apply pw_below_drewN | apply below_drew1))) | (with_reducible refine Kd.C_alloc ?_ _) | (with_reducible refine Kd.C_drewN ?_ _) | (with_reducible refine Kd.C_drew ?_))); (case side2 => exact HC0.out); rintro e w' ⟨rfl, ⟨nd, rfl⟩⟩; have q34 : ((ji29) : Int) ≤ ((t406.length : Int) : Int) := of_decide_eq_true (by first | (with_reducible assumption) | assumption); obtain ⟨i034, hi034, _, hsz34, _⟩ := info_parts info5; have hroom34 : t406.length ≤ co20 := (Kd.R_reads' HO_6.out).2.1; have hC34 : Kd.C (Kd.int .u8) _ Ao20 t406.length t406 := (Kd.R_reads' HO_6.out).2.2; have hcut34 := cut_to (P := Try.prog) 22 5 .i64 Try.underlying22 hi034 Ao20 t406.length co20 (ji29) (of_decide_eq_true (by first | (with_reducible assumption) | assumption)) q34 hroom34; have hr34 := Kd.C_take (m := ((ji29) : Int).toNat) hC34 (by omega); have hy34 : y418.length = ((ji29) : Int).toNat := (by rw [Ny418.out, List.length_take]; omega); rw [← Ny418.out] at hr34; rw [← hy34] at hcut34; have HR421 := Aside0.mk hr34; have HC421 := Aside0.mk (show y418.length ≤ co20 from by omega); clear hr34 hC34 hroom34 hi034 hsz34; have KY34 := Aside0.mk hy34; clear hy34; have KL34 := Aside0.mk (show ((ji29) : Int).toNat ≤ t406.length from by omega); replace q34 := eq_true q34) | (go_at_call 13; (with_reducible refine (impl_ScanOps.calls kj18 _ _ y418 t422 t423 t424 _ ?side1 ?side2 A32.out).mono ?_); (case side1 => repeat (first | exact (by repeat (first | (with_reducible exact HR421.out) | (with_reducible refine Kd.C_alloc ?_ _) | (with_reducible refine Kd.C_drewN ?_ _) | (with_reducible refine Kd.C_drew ?_) | exact HR421.out)) | (with_reducible refine Kd.C_alloc ?_ _) | (with_reducible refine Kd.C_drewN ?_ _) | (with_reducible refine Kd.C_drew ?_))); (case side2 => exact HC421.out); rintro e w35 ⟨v425, rfl, ho0, hb⟩; have n0_ := Aside0.mk (Kd.R_elder' (by (with_reducible repeat (first | apply Kd.R_alloc | apply Kd.R_drewN | apply Kd.R_drew)); exact HO_3.out) (Kd.R_base ho0) hb); have n1_ := Aside0.mk (Kd.R_below (by (with_reducible repeat (first | apply Kd.R_alloc | apply Kd.R_drewN | apply Kd.R_drew)); exact HO_6.out) hb); have n2_ := Aside0.mk (Kd.R_lower (Kd.R_new' ho0 (Kd.R_lt (by (with_reducible repeat (first | apply Kd.R_alloc | apply Kd.R_drewN | apply Kd.R_drew)); exact HO_3.out))) (below_size (by with_reducible repeat (first | exact HB.out | apply below_alloc | apply pw_below_drewN | apply below_drew1)))); have n3_ := Aside0.mk (Kd.C_below (by repeat (first | (with_reducible exact HR421.out) | (with_reducible refine Kd.C_alloc ?_ _) | (with_reducible refine Kd.C_drewN ?_ _) | (with_reducible refine Kd.C_drew ?_) | exact HR421.out)) hb); have n4_ := Aside0.mk (below_step (by with_reducible repeat (first | exact HB.out | apply below_alloc | apply pw_below_drewN | apply below_drew1)) hb); clear HO_3 HO_6 HR421 HB; have HO_3 := n0_; have HO_6 := n1_; have HO426 := n2_; have HR421 := n3_; have HB := n4_; clear n0_ n1_ n2_ n3_ n4_; clear hb ho0))
            (try simp only [Act.put, List.setIfInBounds_toArray, List.set_cons_zero, List.set_cons_succ])
            go_cut [105] (fun v105 wc => ∃ (kq : Nat) (x105_32 : Bool), v105 = .bool x105_32 ∧ Aside0 (laws_FnPacked.j2 kq t406 ji29 t423 t424 x105_32 = some r) ∧ Aside0 (kq ≤ kj18) ∧ Aside0 (Kd.R (Kd.int .u8) 5 wc w.heap.size (fun _ => True) (.slice Ao20 t406.length co20) t406) ∧ Aside0 (Kd.C (Kd.int .u8) wc Ao20 y418.length y418) ∧ Aside0 (Below w.heap.size w wc))
            case first =>
             have H := HC33.out
             clear HC33
             by_cases c36 : (t422.length : Int) > (t399.length : Int)
             ·rw [if_pos c36] at H
              have c36b0 : decide ((t399.length : Int) < (t422.length : Int)) = true := decide_eq_true c36
              have c36b1 : decide (t399.length < t422.length) = true := decide_eq_true (Int.ofNat_lt.mp c36)
              clear c36
              (first | rw [c36b0] | rw [c36b1] | (simp only [i64_w, i32_w]; rw [c36b0]) | skip)
              have H' := Aside0.mk H
              clear H
              obtain ⟨Ao37, co37, eo37⟩ := Kd.R_slice HO426.out
              subst eo37
              go_wp2
              go_meet
              case rel => exact ⟨_, (true), (by first | rfl | simp | simp [*]), H', ⟨by have := HJ6.out; have := HJ18.out; first | omega | exact Nat.le_refl _⟩, ⟨by (with_reducible repeat (first | apply Kd.R_alloc | apply Kd.R_drewN | apply Kd.R_drew)); exact HO_6.out⟩, ⟨by repeat (first | (with_reducible exact HR421.out) | (with_reducible refine Kd.C_alloc ?_ _) | (with_reducible refine Kd.C_drewN ?_ _) | (with_reducible refine Kd.C_drew ?_) | exact HR421.out)⟩, ⟨by with_reducible repeat (first | exact HB.out | apply below_alloc | apply pw_below_drewN | apply below_drew1)⟩⟩
             ·rw [if_neg c36] at H
              have c36b0 : decide ((t399.length : Int) < (t422.length : Int)) = false := decide_eq_false c36
              have c36b1 : decide (t399.length < t422.length) = false := decide_eq_false (fun h => c36 (Int.ofNat_lt.mpr h))
              clear c36
              (first | rw [c36b0] | rw [c36b1] | (simp only [i64_w, i32_w]; rw [c36b0]) | skip)
              by_cases c38 : 0 ≤ (t422.length : Int)
              ·rw [if_pos c38] at H
               have c38b0 := eq_true c38
               have c38b1 : decide (0 ≤ (t422.length : Int)) = true := decide_eq_true c38
               clear c38
               by_cases c39 : (t422.length : Int) ≤ (t399.length : Int)
               ·rw [if_pos c39] at H
                have c39b0 := eq_true c39
                have c39b1 : decide ((t422.length : Int) ≤ (t399.length : Int)) = true := decide_eq_true c39
                clear c39
                obtain ⟨y427, hy427⟩ : ∃ y_ : List (S38), y_ = (t399.take ((t422.length : Int) : Int).toNat) := ⟨_, rfl⟩
                replace H : ((laws_sameOps.f kj18 t422 y427).bind fun t431 => (if t431 = true then (if t423 > (ji29) then (laws_FnPacked.j2 kj18 t406 ji29 t423 t424 true) else (if t424 = 2 then (laws_FnPacked.j2 kj18 t406 ji29 t423 t424 true) else (if ((t422.length : Int) % 16) = 0 then (laws_FnPacked.j2 kj18 t406 ji29 t423 t424 false) else (laws_FnPacked.j2 kj18 t406 ji29 t423 t424 ((t422.length : Int) != (t399.length : Int)))))) else (laws_FnPacked.j2 kj18 t406 ji29 t423 t424 true))) = some r := by first | (rw [hy427]; exact H) | exact H
                have Ny427 := Aside0.mk hy427
                clear hy427
                replace H := Option.bind_eq_some_iff.mp H
                obtain ⟨t431, A400, H⟩ := H
                replace H : (if t431 = true then (if t423 > (ji29) then (laws_FnPacked.j2 kj18 t406 ji29 t423 t424 true) else (if t424 = 2 then (laws_FnPacked.j2 kj18 t406 ji29 t423 t424 true) else (if ((t422.length : Int) % 16) = 0 then (laws_FnPacked.j2 kj18 t406 ji29 t423 t424 false) else (laws_FnPacked.j2 kj18 t406 ji29 t423 t424 ((t422.length : Int) != (t399.length : Int)))))) else (laws_FnPacked.j2 kj18 t406 ji29 t423 t424 true)) = some r := H
                have A40 := Aside0.mk A400
                clear A400
                by_cases c41 : t431 = true
                ·subst c41
                 have H1 : (if t423 > (ji29) then (laws_FnPacked.j2 kj18 t406 ji29 t423 t424 true) else (if t424 = 2 then (laws_FnPacked.j2 kj18 t406 ji29 t423 t424 true) else (if ((t422.length : Int) % 16) = 0 then (laws_FnPacked.j2 kj18 t406 ji29 t423 t424 false) else (laws_FnPacked.j2 kj18 t406 ji29 t423 t424 ((t422.length : Int) != (t399.length : Int)))))) = some r := by rw [if_pos rfl] at H; exact H
                 clear H
                 have H := H1
                 clear H1
                 by_cases c42 : t423 > (ji29)
                 ·rw [if_pos c42] at H
                  have c42b0 : decide ((ji29) < t423) = true := decide_eq_true c42
                  clear c42
                  have H' := Aside0.mk H
                  clear H
                  obtain ⟨Ao43, co43, eo43⟩ := Kd.R_slice HO426.out
                  subst eo43
                  have q44 : ((t422.length : Int) : Int) ≤ ((t399.length : Int) : Int) := of_decide_eq_true (by first | (with_reducible assumption) | assumption)
                  obtain ⟨i044, hi044, _, hsz44, _⟩ := info_parts info38
                  have hroom44 : t399.length ≤ co9 := (Kd.R_reads' HO_3.out).2.1
                  have hC44 : Kd.C k38 _ Ao9 t399.length t399 := (Kd.R_reads' HO_3.out).2.2
                  have hcut44 := cut_to (P := Try.prog) 24 38 .i64 Try.underlying24 hi044 Ao9 t399.length co9 (t422.length : Int) (of_decide_eq_true (by first | (with_reducible assumption) | assumption)) q44 hroom44
                  have hr44 := Kd.C_take (m := ((t422.length : Int) : Int).toNat) hC44 (by omega)
                  have hy44 : y427.length = ((t422.length : Int) : Int).toNat := (by rw [Ny427.out, List.length_take]; omega)
                  rw [← Ny427.out] at hr44
                  rw [← hy44] at hcut44
                  have HR430 := Aside0.mk hr44
                  have HC430 := Aside0.mk (show y427.length ≤ co9 from by omega)
                  clear hr44 hC44 hroom44 hi044 hsz44
                  have KY44 := Aside0.mk hy44
                  clear hy44
                  have KL44 := Aside0.mk (show ((t422.length : Int) : Int).toNat ≤ t399.length from by omega)
                  replace q44 := eq_true q44
                  go_wp2_with (first | (go_at_call 11; (with_reducible refine (laws_sameOps.calls kj18 _ _ t422 _ _ y427 true _ ?side1 ?side2 ?side3 ?side4 A40.out).mono ?_); (case side1 => repeat (first | exact (Kd.R_reads' HO426.out).2.2 | (with_reducible refine Kd.C_alloc ?_ _) | (with_reducible refine Kd.C_drewN ?_ _) | (with_reducible refine Kd.C_drew ?_))); (case side2 => exact (Kd.R_reads' HO426.out).2.1); (case side3 => repeat (first | exact (by repeat (first | (with_reducible exact HR430.out) | (with_reducible refine Kd.C_alloc ?_ _) | (with_reducible refine Kd.C_drewN ?_ _) | (with_reducible refine Kd.C_drew ?_) | exact HR430.out)) | (with_reducible refine Kd.C_alloc ?_ _) | (with_reducible refine Kd.C_drewN ?_ _) | (with_reducible refine Kd.C_drew ?_))); (case side4 => exact HC430.out); rintro e w' ⟨rfl, ⟨nd, rfl⟩⟩))
                  go_meet
                  case rel => exact ⟨_, (true), (by first | rfl | simp | simp [*]), H', ⟨by have := HJ6.out; have := HJ18.out; first | omega | exact Nat.le_refl _⟩, ⟨by (with_reducible repeat (first | apply Kd.R_alloc | apply Kd.R_drewN | apply Kd.R_drew)); exact HO_6.out⟩, ⟨by repeat (first | (with_reducible exact HR421.out) | (with_reducible refine Kd.C_alloc ?_ _) | (with_reducible refine Kd.C_drewN ?_ _) | (with_reducible refine Kd.C_drew ?_) | exact HR421.out)⟩, ⟨by with_reducible repeat (first | exact HB.out | apply below_alloc | apply pw_below_drewN | apply below_drew1)⟩⟩
                 ·rw [if_neg c42] at H
                  have c42b0 : decide ((ji29) < t423) = false := decide_eq_false c42
                  clear c42
                  by_cases c45 : t424 = 2
                  ·rw [if_pos c45] at H
                   have c45b0 : (t424 == 2) = true := beq_iff_eq.mpr c45
                   have c45b1 : (t424 != 2) = false := bne_eq_false_iff_eq.mpr c45
                   clear c45
                   have H' := Aside0.mk H
                   clear H
                   obtain ⟨Ao46, co46, eo46⟩ := Kd.R_slice HO426.out
                   subst eo46
                   have q47 : ((t422.length : Int) : Int) ≤ ((t399.length : Int) : Int) := of_decide_eq_true (by first | (with_reducible assumption) | assumption)
                   obtain ⟨i047, hi047, _, hsz47, _⟩ := info_parts info38
                   have hroom47 : t399.length ≤ co9 := (Kd.R_reads' HO_3.out).2.1
                   have hC47 : Kd.C k38 _ Ao9 t399.length t399 := (Kd.R_reads' HO_3.out).2.2
                   have hcut47 := cut_to (P := Try.prog) 24 38 .i64 Try.underlying24 hi047 Ao9 t399.length co9 (t422.length : Int) (of_decide_eq_true (by first | (with_reducible assumption) | assumption)) q47 hroom47
                   have hr47 := Kd.C_take (m := ((t422.length : Int) : Int).toNat) hC47 (by omega)
                   have hy47 : y427.length = ((t422.length : Int) : Int).toNat := (by rw [Ny427.out, List.length_take]; omega)
                   rw [← Ny427.out] at hr47
                   rw [← hy47] at hcut47
                   have HR430 := Aside0.mk hr47
                   have HC430 := Aside0.mk (show y427.length ≤ co9 from by omega)
                   clear hr47 hC47 hroom47 hi047 hsz47
                   have KY47 := Aside0.mk hy47
                   clear hy47
                   have KL47 := Aside0.mk (show ((t422.length : Int) : Int).toNat ≤ t399.length from by omega)
                   replace q47 := eq_true q47
                   go_wp2_with (first | (go_at_call 11; (with_reducible refine (laws_sameOps.calls kj18 _ _ t422 _ _ y427 true _ ?side1 ?side2 ?side3 ?side4 A40.out).mono ?_); (case side1 => repeat (first | exact (Kd.R_reads' HO426.out).2.2 | (with_reducible refine Kd.C_alloc ?_ _) | (with_reducible refine Kd.C_drewN ?_ _) | (with_reducible refine Kd.C_drew ?_))); (case side2 => exact (Kd.R_reads' HO426.out).2.1); (case side3 => repeat (first | exact (by repeat (first | (with_reducible exact HR430.out) | (with_reducible refine Kd.C_alloc ?_ _) | (with_reducible refine Kd.C_drewN ?_ _) | (with_reducible refine Kd.C_drew ?_) | exact HR430.out)) | (with_reducible refine Kd.C_alloc ?_ _) | (with_reducible refine Kd.C_drewN ?_ _) | (with_reducible refine Kd.C_drew ?_))); (case side4 => exact HC430.out); rintro e w' ⟨rfl, ⟨nd, rfl⟩⟩))
                   go_meet
                   case rel => exact ⟨_, (true), (by first | rfl | simp | simp [*]), H', ⟨by have := HJ6.out; have := HJ18.out; first | omega | exact Nat.le_refl _⟩, ⟨by (with_reducible repeat (first | apply Kd.R_alloc | apply Kd.R_drewN | apply Kd.R_drew)); exact HO_6.out⟩, ⟨by repeat (first | (with_reducible exact HR421.out) | (with_reducible refine Kd.C_alloc ?_ _) | (with_reducible refine Kd.C_drewN ?_ _) | (with_reducible refine Kd.C_drew ?_) | exact HR421.out)⟩, ⟨by with_reducible repeat (first | exact HB.out | apply below_alloc | apply pw_below_drewN | apply below_drew1)⟩⟩
                  ·rw [if_neg c45] at H
                   have c45b0 : (t424 == 2) = false := beq_eq_false_iff_ne.mpr c45
                   have c45b1 : (t424 != 2) = true := bne_iff_ne.mpr c45
                   by_cases c48 : ((t422.length : Int) % 16) = 0
                   ·rw [if_pos c48] at H
                    have c48b0 : (((t422.length : Int) % 16) == 0) = true := beq_iff_eq.mpr c48
                    have c48b1 : (((t422.length : Int) % 16) != 0) = false := bne_eq_false_iff_eq.mpr c48
                    clear c48
                    have H' := Aside0.mk H
                    clear H
                    obtain ⟨Ao49, co49, eo49⟩ := Kd.R_slice HO426.out
                    subst eo49
                    have q50 : ((t422.length : Int) : Int) ≤ ((t399.length : Int) : Int) := of_decide_eq_true (by first | (with_reducible assumption) | assumption)
                    obtain ⟨i050, hi050, _, hsz50, _⟩ := info_parts info38
                    have hroom50 : t399.length ≤ co9 := (Kd.R_reads' HO_3.out).2.1
                    have hC50 : Kd.C k38 _ Ao9 t399.length t399 := (Kd.R_reads' HO_3.out).2.2
                    have hcut50 := cut_to (P := Try.prog) 24 38 .i64 Try.underlying24 hi050 Ao9 t399.length co9 (t422.length : Int) (of_decide_eq_true (by first | (with_reducible assumption) | assumption)) q50 hroom50
                    have hr50 := Kd.C_take (m := ((t422.length : Int) : Int).toNat) hC50 (by omega)
                    have hy50 : y427.length = ((t422.length : Int) : Int).toNat := (by rw [Ny427.out, List.length_take]; omega)
                    rw [← Ny427.out] at hr50
                    rw [← hy50] at hcut50
                    have HR430 := Aside0.mk hr50
                    have HC430 := Aside0.mk (show y427.length ≤ co9 from by omega)
                    clear hr50 hC50 hroom50 hi050 hsz50
                    have KY50 := Aside0.mk hy50
                    clear hy50
                    have KL50 := Aside0.mk (show ((t422.length : Int) : Int).toNat ≤ t399.length from by omega)
                    replace q50 := eq_true q50
                    go_wp2_with (first | (go_at_call 11; (with_reducible refine (laws_sameOps.calls kj18 _ _ t422 _ _ y427 true _ ?side1 ?side2 ?side3 ?side4 A40.out).mono ?_); (case side1 => repeat (first | exact (Kd.R_reads' HO426.out).2.2 | (with_reducible refine Kd.C_alloc ?_ _) | (with_reducible refine Kd.C_drewN ?_ _) | (with_reducible refine Kd.C_drew ?_))); (case side2 => exact (Kd.R_reads' HO426.out).2.1); (case side3 => repeat (first | exact (by repeat (first | (with_reducible exact HR430.out) | (with_reducible refine Kd.C_alloc ?_ _) | (with_reducible refine Kd.C_drewN ?_ _) | (with_reducible refine Kd.C_drew ?_) | exact HR430.out)) | (with_reducible refine Kd.C_alloc ?_ _) | (with_reducible refine Kd.C_drewN ?_ _) | (with_reducible refine Kd.C_drew ?_))); (case side4 => exact HC430.out); rintro e w' ⟨rfl, ⟨nd, rfl⟩⟩))
                    go_meet
                    case rel => exact ⟨_, (false), (by first | rfl | simp | simp [*]), H', ⟨by have := HJ6.out; have := HJ18.out; first | omega | exact Nat.le_refl _⟩, ⟨by (with_reducible repeat (first | apply Kd.R_alloc | apply Kd.R_drewN | apply Kd.R_drew)); exact HO_6.out⟩, ⟨by repeat (first | (with_reducible exact HR421.out) | (with_reducible refine Kd.C_alloc ?_ _) | (with_reducible refine Kd.C_drewN ?_ _) | (with_reducible refine Kd.C_drew ?_) | exact HR421.out)⟩, ⟨by with_reducible repeat (first | exact HB.out | apply below_alloc | apply pw_below_drewN | apply below_drew1)⟩⟩
                   ·rw [if_neg c48] at H
                    have c48b0 : (((t422.length : Int) % 16) == 0) = false := beq_eq_false_iff_ne.mpr c48
                    have c48b1 : (((t422.length : Int) % 16) != 0) = true := bne_iff_ne.mpr c48
                    have H' := Aside0.mk H
                    clear H
                    obtain ⟨Ao51, co51, eo51⟩ := Kd.R_slice HO426.out
                    subst eo51
                    have q52 : ((t422.length : Int) : Int) ≤ ((t399.length : Int) : Int) := of_decide_eq_true (by first | (with_reducible assumption) | assumption)
                    obtain ⟨i052, hi052, _, hsz52, _⟩ := info_parts info38
                    have hroom52 : t399.length ≤ co9 := (Kd.R_reads' HO_3.out).2.1
                    have hC52 : Kd.C k38 _ Ao9 t399.length t399 := (Kd.R_reads' HO_3.out).2.2
                    have hcut52 := cut_to (P := Try.prog) 24 38 .i64 Try.underlying24 hi052 Ao9 t399.length co9 (t422.length : Int) (of_decide_eq_true (by first | (with_reducible assumption) | assumption)) q52 hroom52
                    have hr52 := Kd.C_take (m := ((t422.length : Int) : Int).toNat) hC52 (by omega)
                    have hy52 : y427.length = ((t422.length : Int) : Int).toNat := (by rw [Ny427.out, List.length_take]; omega)
                    rw [← Ny427.out] at hr52
                    rw [← hy52] at hcut52
                    have HR430 := Aside0.mk hr52
                    have HC430 := Aside0.mk (show y427.length ≤ co9 from by omega)
                    clear hr52 hC52 hroom52 hi052 hsz52
                    have KY52 := Aside0.mk hy52
                    clear hy52
                    have KL52 := Aside0.mk (show ((t422.length : Int) : Int).toNat ≤ t399.length from by omega)
                    replace q52 := eq_true q52
                    go_wp2_with (first | (go_at_call 11; (with_reducible refine (laws_sameOps.calls kj18 _ _ t422 _ _ y427 true _ ?side1 ?side2 ?side3 ?side4 A40.out).mono ?_); (case side1 => repeat (first | exact (Kd.R_reads' HO426.out).2.2 | (with_reducible refine Kd.C_alloc ?_ _) | (with_reducible refine Kd.C_drewN ?_ _) | (with_reducible refine Kd.C_drew ?_))); (case side2 => exact (Kd.R_reads' HO426.out).2.1); (case side3 => repeat (first | exact (by repeat (first | (with_reducible exact HR430.out) | (with_reducible refine Kd.C_alloc ?_ _) | (with_reducible refine Kd.C_drewN ?_ _) | (with_reducible refine Kd.C_drew ?_) | exact HR430.out)) | (with_reducible refine Kd.C_alloc ?_ _) | (with_reducible refine Kd.C_drewN ?_ _) | (with_reducible refine Kd.C_drew ?_))); (case side4 => exact HC430.out); rintro e w' ⟨rfl, ⟨nd, rfl⟩⟩))
                    go_meet
                    case rel => exact ⟨_, (((t422.length : Int) != (t399.length : Int))), (by first | rfl | simp | simp [*]), H', ⟨by have := HJ6.out; have := HJ18.out; first | omega | exact Nat.le_refl _⟩, ⟨by (with_reducible repeat (first | apply Kd.R_alloc | apply Kd.R_drewN | apply Kd.R_drew)); exact HO_6.out⟩, ⟨by repeat (first | (with_reducible exact HR421.out) | (with_reducible refine Kd.C_alloc ?_ _) | (with_reducible refine Kd.C_drewN ?_ _) | (with_reducible refine Kd.C_drew ?_) | exact HR421.out)⟩, ⟨by with_reducible repeat (first | exact HB.out | apply below_alloc | apply pw_below_drewN | apply below_drew1)⟩⟩
                ·replace c41 := Bool.eq_false_iff.mpr c41
                 subst c41
                 have H1 : (laws_FnPacked.j2 kj18 t406 ji29 t423 t424 true) = some r := by rw [if_neg (show ¬ (false = true) by decide)] at H; exact H
                 clear H
                 have H := H1
                 clear H1
                 have H' := Aside0.mk H
                 clear H
                 obtain ⟨Ao53, co53, eo53⟩ := Kd.R_slice HO426.out
                 subst eo53
                 have q54 : ((t422.length : Int) : Int) ≤ ((t399.length : Int) : Int) := of_decide_eq_true (by first | (with_reducible assumption) | assumption)
                 obtain ⟨i054, hi054, _, hsz54, _⟩ := info_parts info38
                 have hroom54 : t399.length ≤ co9 := (Kd.R_reads' HO_3.out).2.1
                 have hC54 : Kd.C k38 _ Ao9 t399.length t399 := (Kd.R_reads' HO_3.out).2.2
                 have hcut54 := cut_to (P := Try.prog) 24 38 .i64 Try.underlying24 hi054 Ao9 t399.length co9 (t422.length : Int) (of_decide_eq_true (by first | (with_reducible assumption) | assumption)) q54 hroom54
                 have hr54 := Kd.C_take (m := ((t422.length : Int) : Int).toNat) hC54 (by omega)
                 have hy54 : y427.length = ((t422.length : Int) : Int).toNat := (by rw [Ny427.out, List.length_take]; omega)
                 rw [← Ny427.out] at hr54
                 rw [← hy54] at hcut54
                 have HR430 := Aside0.mk hr54
                 have HC430 := Aside0.mk (show y427.length ≤ co9 from by omega)
                 clear hr54 hC54 hroom54 hi054 hsz54
                 have KY54 := Aside0.mk hy54
                 clear hy54
                 have KL54 := Aside0.mk (show ((t422.length : Int) : Int).toNat ≤ t399.length from by omega)
                 replace q54 := eq_true q54
                 go_wp2_with (first | (go_at_call 11; (with_reducible refine (laws_sameOps.calls kj18 _ _ t422 _ _ y427 false _ ?side1 ?side2 ?side3 ?side4 A40.out).mono ?_); (case side1 => repeat (first | exact (Kd.R_reads' HO426.out).2.2 | (with_reducible refine Kd.C_alloc ?_ _) | (with_reducible refine Kd.C_drewN ?_ _) | (with_reducible refine Kd.C_drew ?_))); (case side2 => exact (Kd.R_reads' HO426.out).2.1); (case side3 => repeat (first | exact (by repeat (first | (with_reducible exact HR430.out) | (with_reducible refine Kd.C_alloc ?_ _) | (with_reducible refine Kd.C_drewN ?_ _) | (with_reducible refine Kd.C_drew ?_) | exact HR430.out)) | (with_reducible refine Kd.C_alloc ?_ _) | (with_reducible refine Kd.C_drewN ?_ _) | (with_reducible refine Kd.C_drew ?_))); (case side4 => exact HC430.out); rintro e w' ⟨rfl, ⟨nd, rfl⟩⟩))
                 go_meet
                 case rel => exact ⟨_, (true), (by first | rfl | simp | simp [*]), H', ⟨by have := HJ6.out; have := HJ18.out; first | omega | exact Nat.le_refl _⟩, ⟨by (with_reducible repeat (first | apply Kd.R_alloc | apply Kd.R_drewN | apply Kd.R_drew)); exact HO_6.out⟩, ⟨by repeat (first | (with_reducible exact HR421.out) | (with_reducible refine Kd.C_alloc ?_ _) | (with_reducible refine Kd.C_drewN ?_ _) | (with_reducible refine Kd.C_drew ?_) | exact HR421.out)⟩, ⟨by with_reducible repeat (first | exact HB.out | apply below_alloc | apply pw_below_drewN | apply below_drew1)⟩⟩
               ·rw [if_neg c39] at H
                exact absurd H (by simp)
              ·rw [if_neg c38] at H
               exact absurd H (by simp)
            case rest =>
             clear HC33
             try clear c1
             try clear c2
             try clear p2
             try clear c3
             try clear q3
             try clear c4
             try clear q4
             try clear c5
             try clear q5
             try clear c6
             try clear p6
             try clear c7
             try clear c8
             try clear c10
             try clear c12
             try clear c12b0
             try clear c12b1
             try clear c12b2
             try clear c13
             try clear c16
             try clear c17
             try clear c22
             try clear c25
             try clear c28
             try clear c28b0
             try clear c28b1
             try clear c30
             try clear c30b0
             try clear c30b1
             try clear c31
             try clear c31b0
             try clear c31b1
             try clear q34
             try clear c36
             try clear c36b0
             try clear c36b1
             try clear c38
             try clear c38b0
             try clear c38b1
             try clear c39
             try clear c39b0
             try clear c39b1
             try clear c41
             try clear c42
             try clear c42b0
             try clear q44
             try clear c45
             try clear c45b0
             try clear c45b1
             try clear q47
             try clear c48
             try clear c48b0
             try clear c48b1
             try clear q50
             try clear q52
             try clear q54
             try clear p2
             try clear q34
             try clear q44
             try clear q47
             try clear q50
             try clear q52
             try clear q54
             obtain ⟨kq, x105_32, rfl, HA, HJ32, HO_6, HR421, HB⟩ := hcut
             cases kq with
             | zero => exact absurd HA.out (by simp [laws_FnPacked.j2])
             | succ kj32 =>
              have H := HA.out
              clear HA
              simp only [laws_FnPacked.j2] at H
              by_cases c55 : x105_32 = true
              ·subst c55
               have H1 : (some false) = some r := by rw [if_pos rfl] at H; exact H
               clear H
               have H := H1
               clear H1
               obtain rfl := Option.some.inj H
               go_wp2
               go_ret
               exact ⟨by first | rfl | (simp [errW_none, errW_some] <;> rfl) | (simp only [← hji29]; first | rfl | (simp [errW_none, errW_some] <;> rfl)) | (simp [*, errW_none, errW_some] <;> rfl), by with_reducible repeat (first | exact HB.out | apply below_alloc | apply pw_below_drewN | apply below_drew1)⟩
              ·replace c55 := Bool.eq_false_iff.mpr c55
               subst c55
               have H1 : (if 0 ≤ ji29 then (if ji29 ≤ (t406.length : Int) then ((impl_Longest.f kj32 (t406.take (ji29 : Int).toNat)).bind fun t436 => (if 0 ≤ t423 then (if t423 ≤ (t406.length : Int) then ((laws_sameBytes.f kj32 t436 (t406.take (t423 : Int).toNat)).bind fun t443 => (if t443 = true then (if ji29 < (t406.length : Int) then (some true) else (some (t424 == 0))) else (some false))) else (none)) else (none))) else (none)) else (none)) = some r := by rw [if_neg (show ¬ (false = true) by decide)] at H; exact H
               clear H
               have H := H1
               clear H1
               by_cases c56 : 0 ≤ ji29
               ·rw [if_pos c56] at H
                have c56b0 := eq_true c56
                have c56b1 : decide (0 ≤ ji29) = true := decide_eq_true c56
                clear c56
                by_cases c57 : ji29 ≤ (t406.length : Int)
                ·rw [if_pos c57] at H
                 have c57b0 := eq_true c57
                 have c57b1 : decide (ji29 ≤ (t406.length : Int)) = true := decide_eq_true c57
                 clear c57
                 obtain ⟨y432, hy432⟩ : ∃ y_ : List Int, y_ = (t406.take (ji29 : Int).toNat) := ⟨_, rfl⟩
                 replace H : ((impl_Longest.f kj32 y432).bind fun t436 => (if 0 ≤ t423 then (if t423 ≤ (t406.length : Int) then ((laws_sameBytes.f kj32 t436 (t406.take (t423 : Int).toNat)).bind fun t443 => (if t443 = true then (if ji29 < (t406.length : Int) then (some true) else (some (t424 == 0))) else (some false))) else (none)) else (none))) = some r := by first | (rw [hy432]; exact H) | exact H
                 have Ny432 := Aside0.mk hy432
                 clear hy432
                 replace H := Option.bind_eq_some_iff.mp H
                 obtain ⟨t436, A580, H⟩ := H
                 replace H : (if 0 ≤ t423 then (if t423 ≤ (t406.length : Int) then ((laws_sameBytes.f kj32 t436 (t406.take (t423 : Int).toNat)).bind fun t443 => (if t443 = true then (if ji29 < (t406.length : Int) then (some true) else (some (t424 == 0))) else (some false))) else (none)) else (none)) = some r := H
                 have A58 := Aside0.mk A580
                 clear A580
                 by_cases c59 : 0 ≤ t423
                 ·rw [if_pos c59] at H
                  have c59b0 := eq_true c59
                  have c59b1 : decide (0 ≤ t423) = true := decide_eq_true c59
                  clear c59
                  by_cases c60 : t423 ≤ (t406.length : Int)
                  ·rw [if_pos c60] at H
                   have c60b0 := eq_true c60
                   have c60b1 : decide (t423 ≤ (t406.length : Int)) = true := decide_eq_true c60
                   clear c60
                   obtain ⟨y439, hy439⟩ : ∃ y_ : List Int, y_ = (t406.take (t423 : Int).toNat) := ⟨_, rfl⟩
                   replace H : ((laws_sameBytes.f kj32 t436 y439).bind fun t443 => (if t443 = true then (if ji29 < (t406.length : Int) then (some true) else (some (t424 == 0))) else (some false))) = some r := by first | (rw [hy439]; exact H) | exact H
                   have Ny439 := Aside0.mk hy439
                   clear hy439
                   replace H := Option.bind_eq_some_iff.mp H
                   obtain ⟨t443, A610, H⟩ := H
                   replace H : (if t443 = true then (if ji29 < (t406.length : Int) then (some true) else (some (t424 == 0))) else (some false)) = some r := H
                   have A61 := Aside0.mk A610
                   clear A610
                   by_cases c62 : t443 = true
                   ·subst c62
                    have H1 : (if ji29 < (t406.length : Int) then (some true) else (some (t424 == 0))) = some r := by rw [if_pos rfl] at H; exact H
                    clear H
                    have H := H1
                    clear H1
                    by_cases c63 : ji29 < (t406.length : Int)
                    ·rw [if_pos c63] at H
                     have c63b0 : decide (ji29 < (t406.length : Int)) = true := decide_eq_true c63
                     clear c63
                     obtain rfl := Option.some.inj H
                     try go_wp2
                     have n0_ := Aside0.mk (Kd.R_drew HO_6.out)
                     have n1_ := Aside0.mk (Kd.C_drew HR421.out)
                     have n2_ := Aside0.mk (below_drew1 HB.out)
                     clear HO_6
                     clear HR421
                     clear HB
                     have HO_6 := n0_
                     have HR421 := n1_
                     have HB := n2_
                     clear n0_ n1_ n2_
                     have q65 : (ji29 : Int) ≤ ((t406.length : Int) : Int) := of_decide_eq_true (by first | (with_reducible assumption) | assumption)
                     obtain ⟨i065, hi065, _, hsz65, _⟩ := info_parts info5
                     have hroom65 : t406.length ≤ co20 := (Kd.R_reads' HO_6.out).2.1
                     have hC65 : Kd.C (Kd.int .u8) _ Ao20 t406.length t406 := (Kd.R_reads' HO_6.out).2.2
                     have hcut65 := cut_to (P := Try.prog) 22 5 .i64 Try.underlying22 hi065 Ao20 t406.length co20 ji29 (of_decide_eq_true (by first | (with_reducible assumption) | assumption)) q65 hroom65
                     have hr65 := Kd.C_take (m := (ji29 : Int).toNat) hC65 (by omega)
                     have hy65 : y432.length = (ji29 : Int).toNat := (by rw [Ny432.out, List.length_take]; omega)
                     have HY_y432 := Aside0.mk hy65
                     rw [← Ny432.out] at hr65
                     rw [← hy65] at hcut65
                     have HR435 := Aside0.mk hr65
                     have HC435 := Aside0.mk (show y432.length ≤ co20 from by omega)
                     clear hr65 hC65 hroom65 hi065 hsz65
                     have KY65 := Aside0.mk hy65
                     clear hy65
                     have KL65 := Aside0.mk (show (ji29 : Int).toNat ≤ t406.length from by omega)
                     replace q65 := eq_true q65
                     have q66 : (t423 : Int) ≤ ((t406.length : Int) : Int) := of_decide_eq_true (by first | (with_reducible assumption) | assumption)
                     obtain ⟨i066, hi066, _, hsz66, _⟩ := info_parts info5
                     have hroom66 : t406.length ≤ co20 := (Kd.R_reads' HO_6.out).2.1
                     have hC66 : Kd.C (Kd.int .u8) _ Ao20 t406.length t406 := (Kd.R_reads' HO_6.out).2.2
                     have hcut66 := cut_to (P := Try.prog) 22 5 .i64 Try.underlying22 hi066 Ao20 t406.length co20 t423 (of_decide_eq_true (by first | (with_reducible assumption) | assumption)) q66 hroom66
                     have hr66 := Kd.C_take (m := (t423 : Int).toNat) hC66 (by omega)
                     have hy66 : y439.length = (t423 : Int).toNat := (by rw [Ny439.out, List.length_take]; omega)
                     rw [← Ny439.out] at hr66
                     rw [← hy66] at hcut66
                     have HR442 := Aside0.mk hr66
                     have HC442 := Aside0.mk (show y439.length ≤ co20 from by omega)
                     clear hr66 hC66 hroom66 hi066 hsz66
                     have KY66 := Aside0.mk hy66
                     clear hy66
                     have KL66 := Aside0.mk (show (t423 : Int).toNat ≤ t406.length from by omega)
                     replace q66 := eq_true q66
                     refine start_ (n := 19) (S := fun w' => True) (ds := []) #[false, false, false, false, false, false, false, false, false, false, false, false, false, false, false, false, false, false, false] (by kernel_rfl) rfl rfl trivial (fun hHeld => ?_); refine with_tabW laws_FnPacked.tab17 laws_FnPacked.bits17 (fun HT_ HW_ => ?_)
                     generalize wc.drew = w64 at HO_6 HR421 HB HR435 HR442 hHeld ⊢
                     refine pure_ (i := 0) (N := some 106) (v := ?_) (a' := ?_) #[true, false, false, false, false, false, false, false, false, false, false, false, false, false, false, false, false, false, false] rfl rfl (any_of HT_.out (by kernel_rfl)) (fun _ _ _ h => h) (Or.inl ⟨by rfl, ?_⟩) ?_ ?_
                     rotate_left
                     ·intro w'
                      go_simp
                      with_reducible rfl
                     rotate_left
                     ·simp only [Act.put, List.setIfInBounds_toArray, List.set_cons_zero, List.set_cons_succ, i64_w, i32_w]
                      rfl
                     refine pure_ (i := 1) (N := some 107) (v := ?_) (a' := ?_) #[true, true, false, false, false, false, false, false, false, false, false, false, false, false, false, false, false, false, false] rfl rfl (any_of HT_.out (by kernel_rfl)) (fun _ _ _ h => h) (Or.inl ⟨by rfl, ?_⟩) ?_ ?_
                     rotate_left
                     ·intro w'
                      go_simp
                      with_reducible rfl
                     rotate_left
                     ·simp only [Act.put, List.setIfInBounds_toArray, List.set_cons_zero, List.set_cons_succ, i64_w, i32_w]
                      rfl
                     refine pure_ (i := 2) (N := some 108) (v := ?_) (a' := ?_) #[true, true, true, false, false, false, false, false, false, false, false, false, false, false, false, false, false, false, false] rfl rfl (any_of HT_.out (by kernel_rfl)) (fun _ _ _ h => h) (Or.inl ⟨by rfl, ?_⟩) ?_ ?_
                     rotate_left
                     ·intro w'
                      go_simp
                      with_reducible rfl
                     rotate_left
                     ·simp only [Act.put, List.setIfInBounds_toArray, List.set_cons_zero, List.set_cons_succ, i64_w, i32_w]
                      rfl
                     refine pure_ (i := 4) (N := some 110) (v := ?_) (a' := ?_) #[true, true, true, false, true, false, false, false, false, false, false, false, false, false, false, false, false, false, false] rfl rfl (any_of HT_.out (by kernel_rfl)) (fun _ _ _ h => h) (Or.inl ⟨by rfl, ?_⟩) ?_ ?_
                     rotate_left
                     ·intro w'
                      go_simp
                      with_reducible rfl
                     rotate_left
                     ·simp only [Act.put, List.setIfInBounds_toArray, List.set_cons_zero, List.set_cons_succ, i64_w, i32_w]
                      rfl
                     refine pure_ (i := 5) (N := some 111) (v := ?_) (a' := ?_) #[true, true, true, false, true, true, false, false, false, false, false, false, false, false, false, false, false, false, false] rfl rfl (any_of HT_.out (by kernel_rfl)) (fun _ _ _ h => h) (Or.inl ⟨by rfl, ?_⟩) ?_ ?_
                     rotate_left
                     ·intro w'
                      go_simp
                      with_reducible rfl
                     rotate_left
                     ·simp only [Act.put, List.setIfInBounds_toArray, List.set_cons_zero, List.set_cons_succ, i64_w, i32_w]
                      rfl
                     refine pure_ (i := 6) (N := some 112) (v := ?_) (a' := ?_) #[true, true, true, false, true, true, true, false, false, false, false, false, false, false, false, false, false, false, false] rfl rfl (any_of HT_.out (by kernel_rfl)) (fun _ _ _ h => h) (Or.inl ⟨by rfl, ?_⟩) ?_ ?_
                     rotate_left
                     ·intro w'
                      go_simp
                      with_reducible rfl
                     rotate_left
                     ·simp only [Act.put, List.setIfInBounds_toArray, List.set_cons_zero, List.set_cons_succ, i64_w, i32_w]
                      rfl
                     refine one_ (i := 3) (N := some 109) #[true, true, true, true, true, true, true, false, false, false, false, false, false, false, false, false, false, false, false] rfl rfl (one_of HT_.out (by kernel_rfl)) (by decide) (fun K hK => ?_)
                     refine goes_ Try.func14 (by kernel_rfl) rfl #[.slice Ao20 y432.length co20] (by rfl) rfl rfl (by (try simp only [List.map_toArray, List.map_cons, List.map_nil]); first | done | rfl | (rw [HY_y432.out]; rfl) | (rw [HY_y432.out, ← KY34.out]; rfl) | (simp only [List.length_drop, List.length_take]; rfl)) ?_
                     with_reducible refine (impl_Longest.calls kj32 _ _ y432 t436 _ ?side1 ?side2 A58.out).mono ?_
                     (case side1 => repeat (first | exact (by repeat (first | (with_reducible exact HR435.out) | (with_reducible refine Kd.C_alloc ?_ _) | (with_reducible refine Kd.C_drewN ?_ _) | (with_reducible refine Kd.C_drew ?_) | exact HR435.out)) | (with_reducible refine Kd.C_alloc ?_ _) | (with_reducible refine Kd.C_drewN ?_ _) | (with_reducible refine Kd.C_drew ?_)))
                     (case side2 => exact HC435.out)
                     rintro e w67 ⟨v437, rfl, ho0, hb⟩
                     refine ⟨_, rfl, ?_⟩
                     have n0_ := Aside0.mk (Kd.R_elder' (by (with_reducible repeat (first | apply Kd.R_alloc | apply Kd.R_drewN | apply Kd.R_drew)); exact HO_6.out) (Kd.R_base ho0) hb)
                     have n1_ := Aside0.mk (Kd.R_lower (Kd.R_new' ho0 (Kd.R_lt (by (with_reducible repeat (first | apply Kd.R_alloc | apply Kd.R_drewN | apply Kd.R_drew)); exact HO_6.out))) (below_size (by with_reducible repeat (first | exact HB.out | apply below_alloc | apply pw_below_drewN | apply below_drew1))))
                     have n2_ := Aside0.mk (Kd.C_below (by repeat (first | (with_reducible exact HR421.out) | (with_reducible refine Kd.C_alloc ?_ _) | (with_reducible refine Kd.C_drewN ?_ _) | (with_reducible refine Kd.C_drew ?_) | exact HR421.out)) hb)
                     have n3_ := Aside0.mk (Kd.C_below (by repeat (first | (with_reducible exact HR435.out) | (with_reducible refine Kd.C_alloc ?_ _) | (with_reducible refine Kd.C_drewN ?_ _) | (with_reducible refine Kd.C_drew ?_) | exact HR435.out)) hb)
                     have n4_ := Aside0.mk (Kd.C_below (by repeat (first | (with_reducible exact HR442.out) | (with_reducible refine Kd.C_alloc ?_ _) | (with_reducible refine Kd.C_drewN ?_ _) | (with_reducible refine Kd.C_drew ?_) | exact HR442.out)) hb)
                     have n5_ := Aside0.mk (below_step (by with_reducible repeat (first | exact HB.out | apply below_alloc | apply pw_below_drewN | apply below_drew1)) hb)
                     clear HO_6
                     clear HR421
                     clear HR435
                     clear HR442
                     clear HB
                     have HO_6 := n0_
                     have HO438 := n1_
                     have HR421 := n2_
                     have HR435 := n3_
                     have HR442 := n4_
                     have HB := n5_
                     clear n0_ n1_ n2_ n3_ n4_ n5_
                     (try clear hb)
                     (try clear hb2)
                     (try clear hk)
                     (try clear hi)
                     (try clear ho0)
                     obtain ⟨Ao68, co68, eo68⟩ := Kd.R_slice HO438.out
                     (first | subst eo68 | (injection eo68 with f1_ f2_ f3_; have f4_ := f1_.symm; have f5_ := f3_.symm; clear f1_ f2_ f3_; subst f4_; subst f5_))
                     refine hK.out _ _ trivial (fun hHeld => ?_)
                     clear hK K
                     refine norm_ (a' := ?_) ?_ ?_
                     rotate_left
                     ·show Act.put _ (some 109) _ = _
                      simp only [Act.put, List.setIfInBounds_toArray, List.set_cons_zero, List.set_cons_succ, i64_w, i32_w]
                      rfl
                     refine one_ (i := 7) (N := some 113) #[true, true, true, true, true, true, true, true, false, false, false, false, false, false, false, false, false, false, false] rfl rfl (one_of HT_.out (by kernel_rfl)) (by decide) (fun K hK => ?_)
                     refine goes_ Try.func9 (by kernel_rfl) rfl #[.slice Ao68 t436.length co68, .slice Ao20 y439.length co20] (by rfl) rfl rfl (by (try simp only [List.map_toArray, List.map_cons, List.map_nil]); first | done | rfl | (simp only [List.length_drop, List.length_take]; rfl)) ?_
                     with_reducible refine (laws_sameBytes.calls kj32 _ _ t436 _ _ y439 true _ ?side1 ?side2 ?side3 ?side4 A61.out).mono ?_
                     (case side1 => repeat (first | exact (Kd.R_reads' HO438.out).2.2 | (with_reducible refine Kd.C_alloc ?_ _) | (with_reducible refine Kd.C_drewN ?_ _) | (with_reducible refine Kd.C_drew ?_)))
                     (case side2 => exact (Kd.R_reads' HO438.out).2.1)
                     (case side3 => repeat (first | exact (by repeat (first | (with_reducible exact HR442.out) | (with_reducible refine Kd.C_alloc ?_ _) | (with_reducible refine Kd.C_drewN ?_ _) | (with_reducible refine Kd.C_drew ?_) | exact HR442.out)) | (with_reducible refine Kd.C_alloc ?_ _) | (with_reducible refine Kd.C_drewN ?_ _) | (with_reducible refine Kd.C_drew ?_)))
                     (case side4 => exact HC442.out)
                     rintro e w' ⟨rfl, ⟨nd, rfl⟩⟩
                     refine ⟨_, rfl, ?_⟩
                     refine hK.out _ _ trivial (fun hHeld => ?_)
                     clear hK K
                     refine norm_ (a' := ?_) ?_ ?_
                     rotate_left
                     ·show Act.put _ (some 113) _ = _
                      simp only [Act.put, List.setIfInBounds_toArray, List.set_cons_zero, List.set_cons_succ, i64_w, i32_w]
                      rfl
                     refine pure_ (i := 8) (N := some 114) (v := ?_) (a' := ?_) #[true, true, true, true, true, true, true, true, true, false, false, false, false, false, false, false, false, false, false] rfl rfl (any_of HT_.out (by kernel_rfl)) (fun _ _ _ h => h) (Or.inl ⟨by rfl, ?_⟩) ?_ ?_
                     rotate_left
                     ·intro w'
                      go_simp
                      with_reducible rfl
                     rotate_left
                     ·simp only [Act.put, List.setIfInBounds_toArray, List.set_cons_zero, List.set_cons_succ, i64_w, i32_w]
                      rfl
                     refine pure_ (i := 9) (N := some 115) (v := ?_) (a' := ?_) #[true, true, true, true, true, true, true, true, true, true, false, false, false, false, false, false, false, false, false] rfl rfl (any_of HT_.out (by kernel_rfl)) (fun _ _ _ h => h) (Or.inl ⟨by rfl, ?_⟩) ?_ ?_
                     rotate_left
                     ·intro w'
                      go_simp
                      with_reducible rfl
                     rotate_left
                     ·simp only [Act.put, List.setIfInBounds_toArray, List.set_cons_zero, List.set_cons_succ, i64_w, i32_w]
                      rfl
                     refine pure_ (i := 10) (N := some 116) (v := ?_) (a' := ?_) #[true, true, true, true, true, true, true, true, true, true, true, false, false, false, false, false, false, false, false] rfl rfl (any_of HT_.out (by kernel_rfl)) (fun _ _ _ h => h) (Or.inl ⟨by rfl, ?_⟩) ?_ ?_
                     rotate_left
                     ·intro w'
                      go_simp
                      with_reducible rfl
                     rotate_left
                     ·simp only [Act.put, List.setIfInBounds_toArray, List.set_cons_zero, List.set_cons_succ, i64_w, i32_w]
                      rfl
                     refine pure_ (i := 11) (N := some 117) (v := ?_) (a' := ?_) #[true, true, true, true, true, true, true, true, true, true, true, true, false, false, false, false, false, false, false] rfl rfl (any_of HT_.out (by kernel_rfl)) (fun _ _ _ h => h) (Or.inl ⟨by rfl, ?_⟩) ?_ ?_
                     rotate_left
                     ·intro w'
                      go_simp
                      with_reducible rfl
                     rotate_left
                     ·simp only [Act.put, List.setIfInBounds_toArray, List.set_cons_zero, List.set_cons_succ, i64_w, i32_w]
                      rfl
                     refine pure_ (i := 12) (N := some 118) (v := ?_) (a' := ?_) #[true, true, true, true, true, true, true, true, true, true, true, true, true, false, false, false, false, false, false] rfl rfl (any_of HT_.out (by kernel_rfl)) (fun _ _ _ h => h) (Or.inl ⟨by rfl, ?_⟩) ?_ ?_
                     rotate_left
                     ·intro w'
                      go_simp
                      with_reducible rfl
                     rotate_left
                     ·simp only [Act.put, List.setIfInBounds_toArray, List.set_cons_zero, List.set_cons_succ, i64_w, i32_w]
                      rfl
                     refine pure_ (i := 13) (N := some 119) (v := ?_) (a' := ?_) #[true, true, true, true, true, true, true, true, true, true, true, true, true, true, false, false, false, false, false] rfl rfl (any_of HT_.out (by kernel_rfl)) (fun _ _ _ h => h) (Or.inl ⟨by rfl, ?_⟩) ?_ ?_
                     rotate_left
                     ·intro w'
                      go_simp
                      with_reducible rfl
                     rotate_left
                     ·simp only [Act.put, List.setIfInBounds_toArray, List.set_cons_zero, List.set_cons_succ, i64_w, i32_w]
                      rfl
                     refine pure_ (i := 14) (N := some 120) (v := undef) (a' := ?_) #[true, true, true, true, true, true, true, true, true, true, true, true, true, true, true, false, false, false, false] rfl rfl (any_of HT_.out (by kernel_rfl)) (fun _ _ _ h => h) (Or.inr ⟨by rfl, rfl⟩) ?_ ?_
                     rotate_left
                     ·simp only [Act.put, List.setIfInBounds_toArray, List.set_cons_zero, List.set_cons_succ, i64_w, i32_w]
                      rfl
                     refine pure_ (i := 15) (N := some 121) (v := undef) (a' := ?_) #[true, true, true, true, true, true, true, true, true, true, true, true, true, true, true, true, false, false, false] rfl rfl (any_of HT_.out (by kernel_rfl)) (fun _ _ _ h => h) (Or.inr ⟨by rfl, rfl⟩) ?_ ?_
                     rotate_left
                     ·simp only [Act.put, List.setIfInBounds_toArray, List.set_cons_zero, List.set_cons_succ, i64_w, i32_w]
                      rfl
                     refine pure_ (i := 16) (N := some 122) (v := ?_) (a' := ?_) #[true, true, true, true, true, true, true, true, true, true, true, true, true, true, true, true, true, false, false] rfl rfl (any_of HT_.out (by kernel_rfl)) (fun _ _ _ h => h) (Or.inl ⟨by rfl, ?_⟩) ?_ ?_
                     rotate_left
                     ·intro w'
                      go_simp
                      with_reducible rfl
                     rotate_left
                     ·simp only [Act.put, List.setIfInBounds_toArray, List.set_cons_zero, List.set_cons_succ, i64_w, i32_w]
                      rfl
                     refine pure_ (i := 17) (N := some 123) (v := ?_) (a' := ?_) #[true, true, true, true, true, true, true, true, true, true, true, true, true, true, true, true, true, true, false] rfl rfl (any_of HT_.out (by kernel_rfl)) (fun _ _ _ h => h) (Or.inl ⟨by rfl, ?_⟩) ?_ ?_
                     rotate_left
                     ·intro w'
                      go_simp
                      with_reducible rfl
                     rotate_left
                     ·simp only [Act.put, List.setIfInBounds_toArray, List.set_cons_zero, List.set_cons_succ, i64_w, i32_w]
                      rfl
                     refine pure_ (i := 18) (N := some 2) (v := ?_) (a' := ?_) #[true, true, true, true, true, true, true, true, true, true, true, true, true, true, true, true, true, true, true] rfl rfl (any_of HT_.out (by kernel_rfl)) (fun _ _ _ h => h) (Or.inl ⟨by rfl, ?_⟩) ?_ ?_
                     rotate_left
                     ·intro w'
                      go_simp
                      with_reducible rfl
                     rotate_left
                     ·simp only [Act.put, List.setIfInBounds_toArray, List.set_cons_zero, List.set_cons_succ, i64_w, i32_w]
                      rfl
                     refine done_ (done_of HT_.out (by kernel_rfl)) ?_
                     try go_wp2
                     go_ret
                     exact ⟨by first | rfl | (simp [errW_none, errW_some] <;> rfl) | (simp only [← hji29]; first | rfl | (simp [errW_none, errW_some] <;> rfl)) | (simp [*, errW_none, errW_some] <;> rfl), by with_reducible repeat (first | exact HB.out | apply below_alloc | apply pw_below_drewN | apply below_drew1)⟩
                    ·rw [if_neg c63] at H
                     have c63b0 : decide (ji29 < (t406.length : Int)) = false := decide_eq_false c63
                     clear c63
                     obtain rfl := Option.some.inj H
                     try go_wp2
                     have n0_ := Aside0.mk (Kd.R_drew HO_6.out)
                     have n1_ := Aside0.mk (Kd.C_drew HR421.out)
                     have n2_ := Aside0.mk (below_drew1 HB.out)
                     clear HO_6
                     clear HR421
                     clear HB
                     have HO_6 := n0_
                     have HR421 := n1_
                     have HB := n2_
                     clear n0_ n1_ n2_
                     have q70 : (ji29 : Int) ≤ ((t406.length : Int) : Int) := of_decide_eq_true (by first | (with_reducible assumption) | assumption)
                     obtain ⟨i070, hi070, _, hsz70, _⟩ := info_parts info5
                     have hroom70 : t406.length ≤ co20 := (Kd.R_reads' HO_6.out).2.1
                     have hC70 : Kd.C (Kd.int .u8) _ Ao20 t406.length t406 := (Kd.R_reads' HO_6.out).2.2
                     have hcut70 := cut_to (P := Try.prog) 22 5 .i64 Try.underlying22 hi070 Ao20 t406.length co20 ji29 (of_decide_eq_true (by first | (with_reducible assumption) | assumption)) q70 hroom70
                     have hr70 := Kd.C_take (m := (ji29 : Int).toNat) hC70 (by omega)
                     have hy70 : y432.length = (ji29 : Int).toNat := (by rw [Ny432.out, List.length_take]; omega)
                     have HY_y432 := Aside0.mk hy70
                     rw [← Ny432.out] at hr70
                     rw [← hy70] at hcut70
                     have HR435 := Aside0.mk hr70
                     have HC435 := Aside0.mk (show y432.length ≤ co20 from by omega)
                     clear hr70 hC70 hroom70 hi070 hsz70
                     have KY70 := Aside0.mk hy70
                     clear hy70
                     have KL70 := Aside0.mk (show (ji29 : Int).toNat ≤ t406.length from by omega)
                     replace q70 := eq_true q70
                     have q71 : (t423 : Int) ≤ ((t406.length : Int) : Int) := of_decide_eq_true (by first | (with_reducible assumption) | assumption)
                     obtain ⟨i071, hi071, _, hsz71, _⟩ := info_parts info5
                     have hroom71 : t406.length ≤ co20 := (Kd.R_reads' HO_6.out).2.1
                     have hC71 : Kd.C (Kd.int .u8) _ Ao20 t406.length t406 := (Kd.R_reads' HO_6.out).2.2
                     have hcut71 := cut_to (P := Try.prog) 22 5 .i64 Try.underlying22 hi071 Ao20 t406.length co20 t423 (of_decide_eq_true (by first | (with_reducible assumption) | assumption)) q71 hroom71
                     have hr71 := Kd.C_take (m := (t423 : Int).toNat) hC71 (by omega)
                     have hy71 : y439.length = (t423 : Int).toNat := (by rw [Ny439.out, List.length_take]; omega)
                     rw [← Ny439.out] at hr71
                     rw [← hy71] at hcut71
                     have HR442 := Aside0.mk hr71
                     have HC442 := Aside0.mk (show y439.length ≤ co20 from by omega)
                     clear hr71 hC71 hroom71 hi071 hsz71
                     have KY71 := Aside0.mk hy71
                     clear hy71
                     have KL71 := Aside0.mk (show (t423 : Int).toNat ≤ t406.length from by omega)
                     replace q71 := eq_true q71
                     refine start_ (n := 19) (S := fun w' => True) (ds := []) #[false, false, false, false, false, false, false, false, false, false, false, false, false, false, false, false, false, false, false] (by kernel_rfl) rfl rfl trivial (fun hHeld => ?_); refine with_tabW laws_FnPacked.tab17 laws_FnPacked.bits17 (fun HT_ HW_ => ?_)
                     generalize wc.drew = w69 at HO_6 HR421 HB HR435 HR442 hHeld ⊢
                     refine pure_ (i := 0) (N := some 106) (v := ?_) (a' := ?_) #[true, false, false, false, false, false, false, false, false, false, false, false, false, false, false, false, false, false, false] rfl rfl (any_of HT_.out (by kernel_rfl)) (fun _ _ _ h => h) (Or.inl ⟨by rfl, ?_⟩) ?_ ?_
                     rotate_left
                     ·intro w'
                      go_simp
                      with_reducible rfl
                     rotate_left
                     ·simp only [Act.put, List.setIfInBounds_toArray, List.set_cons_zero, List.set_cons_succ, i64_w, i32_w]
                      rfl
                     refine pure_ (i := 1) (N := some 107) (v := ?_) (a' := ?_) #[true, true, false, false, false, false, false, false, false, false, false, false, false, false, false, false, false, false, false] rfl rfl (any_of HT_.out (by kernel_rfl)) (fun _ _ _ h => h) (Or.inl ⟨by rfl, ?_⟩) ?_ ?_
                     rotate_left
                     ·intro w'
                      go_simp
                      with_reducible rfl
                     rotate_left
                     ·simp only [Act.put, List.setIfInBounds_toArray, List.set_cons_zero, List.set_cons_succ, i64_w, i32_w]
                      rfl
                     refine pure_ (i := 2) (N := some 108) (v := ?_) (a' := ?_) #[true, true, true, false, false, false, false, false, false, false, false, false, false, false, false, false, false, false, false] rfl rfl (any_of HT_.out (by kernel_rfl)) (fun _ _ _ h => h) (Or.inl ⟨by rfl, ?_⟩) ?_ ?_
                     rotate_left
                     ·intro w'
                      go_simp
                      with_reducible rfl
                     rotate_left
                     ·simp only [Act.put, List.setIfInBounds_toArray, List.set_cons_zero, List.set_cons_succ, i64_w, i32_w]
                      rfl
                     refine pure_ (i := 4) (N := some 110) (v := ?_) (a' := ?_) #[true, true, true, false, true, false, false, false, false, false, false, false, false, false, false, false, false, false, false] rfl rfl (any_of HT_.out (by kernel_rfl)) (fun _ _ _ h => h) (Or.inl ⟨by rfl, ?_⟩) ?_ ?_
                     rotate_left
                     ·intro w'
                      go_simp
                      with_reducible rfl
                     rotate_left
                     ·simp only [Act.put, List.setIfInBounds_toArray, List.set_cons_zero, List.set_cons_succ, i64_w, i32_w]
                      rfl
                     refine pure_ (i := 5) (N := some 111) (v := ?_) (a' := ?_) #[true, true, true, false, true, true, false, false, false, false, false, false, false, false, false, false, false, false, false] rfl rfl (any_of HT_.out (by kernel_rfl)) (fun _ _ _ h => h) (Or.inl ⟨by rfl, ?_⟩) ?_ ?_
                     rotate_left
                     ·intro w'
                      go_simp
                      with_reducible rfl
                     rotate_left
                     ·simp only [Act.put, List.setIfInBounds_toArray, List.set_cons_zero, List.set_cons_succ, i64_w, i32_w]
                      rfl
                     refine pure_ (i := 6) (N := some 112) (v := ?_) (a' := ?_) #[true, true, true, false, true, true, true, false, false, false, false, false, false, false, false, false, false, false, false] rfl rfl (any_of HT_.out (by kernel_rfl)) (fun _ _ _ h => h) (Or.inl ⟨by rfl, ?_⟩) ?_ ?_
                     rotate_left
                     ·intro w'
                      go_simp
                      with_reducible rfl
                     rotate_left
                     ·simp only [Act.put, List.setIfInBounds_toArray, List.set_cons_zero, List.set_cons_succ, i64_w, i32_w]
                      rfl
                     refine one_ (i := 3) (N := some 109) #[true, true, true, true, true, true, true, false, false, false, false, false, false, false, false, false, false, false, false] rfl rfl (one_of HT_.out (by kernel_rfl)) (by decide) (fun K hK => ?_)
                     refine goes_ Try.func14 (by kernel_rfl) rfl #[.slice Ao20 y432.length co20] (by rfl) rfl rfl (by (try simp only [List.map_toArray, List.map_cons, List.map_nil]); first | done | rfl | (rw [HY_y432.out]; rfl) | (rw [HY_y432.out, ← KY34.out]; rfl) | (simp only [List.length_drop, List.length_take]; rfl)) ?_
                     with_reducible refine (impl_Longest.calls kj32 _ _ y432 t436 _ ?side1 ?side2 A58.out).mono ?_
                     (case side1 => repeat (first | exact (by repeat (first | (with_reducible exact HR435.out) | (with_reducible refine Kd.C_alloc ?_ _) | (with_reducible refine Kd.C_drewN ?_ _) | (with_reducible refine Kd.C_drew ?_) | exact HR435.out)) | (with_reducible refine Kd.C_alloc ?_ _) | (with_reducible refine Kd.C_drewN ?_ _) | (with_reducible refine Kd.C_drew ?_)))
                     (case side2 => exact HC435.out)
                     rintro e w72 ⟨v437, rfl, ho0, hb⟩
                     refine ⟨_, rfl, ?_⟩
                     have n0_ := Aside0.mk (Kd.R_elder' (by (with_reducible repeat (first | apply Kd.R_alloc | apply Kd.R_drewN | apply Kd.R_drew)); exact HO_6.out) (Kd.R_base ho0) hb)
                     have n1_ := Aside0.mk (Kd.R_lower (Kd.R_new' ho0 (Kd.R_lt (by (with_reducible repeat (first | apply Kd.R_alloc | apply Kd.R_drewN | apply Kd.R_drew)); exact HO_6.out))) (below_size (by with_reducible repeat (first | exact HB.out | apply below_alloc | apply pw_below_drewN | apply below_drew1))))
                     have n2_ := Aside0.mk (Kd.C_below (by repeat (first | (with_reducible exact HR421.out) | (with_reducible refine Kd.C_alloc ?_ _) | (with_reducible refine Kd.C_drewN ?_ _) | (with_reducible refine Kd.C_drew ?_) | exact HR421.out)) hb)
                     have n3_ := Aside0.mk (Kd.C_below (by repeat (first | (with_reducible exact HR435.out) | (with_reducible refine Kd.C_alloc ?_ _) | (with_reducible refine Kd.C_drewN ?_ _) | (with_reducible refine Kd.C_drew ?_) | exact HR435.out)) hb)
                     have n4_ := Aside0.mk (Kd.C_below (by repeat (first | (with_reducible exact HR442.out) | (with_reducible refine Kd.C_alloc ?_ _) | (with_reducible refine Kd.C_drewN ?_ _) | (with_reducible refine Kd.C_drew ?_) | exact HR442.out)) hb)
                     have n5_ := Aside0.mk (below_step (by with_reducible repeat (first | exact HB.out | apply below_alloc | apply pw_below_drewN | apply below_drew1)) hb)
                     clear HO_6
                     clear HR421
                     clear HR435
                     clear HR442
                     clear HB
                     have HO_6 := n0_
                     have HO438 := n1_
                     have HR421 := n2_
                     have HR435 := n3_
                     have HR442 := n4_
                     have HB := n5_
                     clear n0_ n1_ n2_ n3_ n4_ n5_
                     (try clear hb)
                     (try clear hb2)
                     (try clear hk)
                     (try clear hi)
                     (try clear ho0)
                     obtain ⟨Ao73, co73, eo73⟩ := Kd.R_slice HO438.out
                     (first | subst eo73 | (injection eo73 with f1_ f2_ f3_; have f4_ := f1_.symm; have f5_ := f3_.symm; clear f1_ f2_ f3_; subst f4_; subst f5_))
                     refine hK.out _ _ trivial (fun hHeld => ?_)
                     clear hK K
                     refine norm_ (a' := ?_) ?_ ?_
                     rotate_left
                     ·show Act.put _ (some 109) _ = _
                      simp only [Act.put, List.setIfInBounds_toArray, List.set_cons_zero, List.set_cons_succ, i64_w, i32_w]
                      rfl
                     refine one_ (i := 7) (N := some 113) #[true, true, true, true, true, true, true, true, false, false, false, false, false, false, false, false, false, false, false] rfl rfl (one_of HT_.out (by kernel_rfl)) (by decide) (fun K hK => ?_)
                     refine goes_ Try.func9 (by kernel_rfl) rfl #[.slice Ao73 t436.length co73, .slice Ao20 y439.length co20] (by rfl) rfl rfl (by (try simp only [List.map_toArray, List.map_cons, List.map_nil]); first | done | rfl | (simp only [List.length_drop, List.length_take]; rfl)) ?_
                     with_reducible refine (laws_sameBytes.calls kj32 _ _ t436 _ _ y439 true _ ?side1 ?side2 ?side3 ?side4 A61.out).mono ?_
                     (case side1 => repeat (first | exact (Kd.R_reads' HO438.out).2.2 | (with_reducible refine Kd.C_alloc ?_ _) | (with_reducible refine Kd.C_drewN ?_ _) | (with_reducible refine Kd.C_drew ?_)))
                     (case side2 => exact (Kd.R_reads' HO438.out).2.1)
                     (case side3 => repeat (first | exact (by repeat (first | (with_reducible exact HR442.out) | (with_reducible refine Kd.C_alloc ?_ _) | (with_reducible refine Kd.C_drewN ?_ _) | (with_reducible refine Kd.C_drew ?_) | exact HR442.out)) | (with_reducible refine Kd.C_alloc ?_ _) | (with_reducible refine Kd.C_drewN ?_ _) | (with_reducible refine Kd.C_drew ?_)))
                     (case side4 => exact HC442.out)
                     rintro e w' ⟨rfl, ⟨nd, rfl⟩⟩
                     refine ⟨_, rfl, ?_⟩
                     refine hK.out _ _ trivial (fun hHeld => ?_)
                     clear hK K
                     refine norm_ (a' := ?_) ?_ ?_
                     rotate_left
                     ·show Act.put _ (some 113) _ = _
                      simp only [Act.put, List.setIfInBounds_toArray, List.set_cons_zero, List.set_cons_succ, i64_w, i32_w]
                      rfl
                     refine pure_ (i := 8) (N := some 114) (v := ?_) (a' := ?_) #[true, true, true, true, true, true, true, true, true, false, false, false, false, false, false, false, false, false, false] rfl rfl (any_of HT_.out (by kernel_rfl)) (fun _ _ _ h => h) (Or.inl ⟨by rfl, ?_⟩) ?_ ?_
                     rotate_left
                     ·intro w'
                      go_simp
                      with_reducible rfl
                     rotate_left
                     ·simp only [Act.put, List.setIfInBounds_toArray, List.set_cons_zero, List.set_cons_succ, i64_w, i32_w]
                      rfl
                     refine pure_ (i := 9) (N := some 115) (v := ?_) (a' := ?_) #[true, true, true, true, true, true, true, true, true, true, false, false, false, false, false, false, false, false, false] rfl rfl (any_of HT_.out (by kernel_rfl)) (fun _ _ _ h => h) (Or.inl ⟨by rfl, ?_⟩) ?_ ?_
                     rotate_left
                     ·intro w'
                      go_simp
                      with_reducible rfl
                     rotate_left
                     ·simp only [Act.put, List.setIfInBounds_toArray, List.set_cons_zero, List.set_cons_succ, i64_w, i32_w]
                      rfl
                     refine pure_ (i := 10) (N := some 116) (v := ?_) (a' := ?_) #[true, true, true, true, true, true, true, true, true, true, true, false, false, false, false, false, false, false, false] rfl rfl (any_of HT_.out (by kernel_rfl)) (fun _ _ _ h => h) (Or.inl ⟨by rfl, ?_⟩) ?_ ?_
                     rotate_left
                     ·intro w'
                      go_simp
                      with_reducible rfl
                     rotate_left
                     ·simp only [Act.put, List.setIfInBounds_toArray, List.set_cons_zero, List.set_cons_succ, i64_w, i32_w]
                      rfl
                     refine pure_ (i := 11) (N := some 117) (v := ?_) (a' := ?_) #[true, true, true, true, true, true, true, true, true, true, true, true, false, false, false, false, false, false, false] rfl rfl (any_of HT_.out (by kernel_rfl)) (fun _ _ _ h => h) (Or.inl ⟨by rfl, ?_⟩) ?_ ?_
                     rotate_left
                     ·intro w'
                      go_simp
                      with_reducible rfl
                     rotate_left
                     ·simp only [Act.put, List.setIfInBounds_toArray, List.set_cons_zero, List.set_cons_succ, i64_w, i32_w]
                      rfl
                     refine pure_ (i := 12) (N := some 118) (v := ?_) (a' := ?_) #[true, true, true, true, true, true, true, true, true, true, true, true, true, false, false, false, false, false, false] rfl rfl (any_of HT_.out (by kernel_rfl)) (fun _ _ _ h => h) (Or.inl ⟨by rfl, ?_⟩) ?_ ?_
                     rotate_left
                     ·intro w'
                      go_simp
                      with_reducible rfl
                     rotate_left
                     ·simp only [Act.put, List.setIfInBounds_toArray, List.set_cons_zero, List.set_cons_succ, i64_w, i32_w]
                      rfl
                     refine pure_ (i := 13) (N := some 119) (v := ?_) (a' := ?_) #[true, true, true, true, true, true, true, true, true, true, true, true, true, true, false, false, false, false, false] rfl rfl (any_of HT_.out (by kernel_rfl)) (fun _ _ _ h => h) (Or.inl ⟨by rfl, ?_⟩) ?_ ?_
                     rotate_left
                     ·intro w'
                      go_simp
                      with_reducible rfl
                     rotate_left
                     ·simp only [Act.put, List.setIfInBounds_toArray, List.set_cons_zero, List.set_cons_succ, i64_w, i32_w]
                      rfl
                     refine pure_ (i := 14) (N := some 120) (v := ?_) (a' := ?_) #[true, true, true, true, true, true, true, true, true, true, true, true, true, true, true, false, false, false, false] rfl rfl (any_of HT_.out (by kernel_rfl)) (fun _ _ _ h => h) (Or.inl ⟨by rfl, ?_⟩) ?_ ?_
                     rotate_left
                     ·intro w'
                      go_simp
                      with_reducible rfl
                     rotate_left
                     ·simp only [Act.put, List.setIfInBounds_toArray, List.set_cons_zero, List.set_cons_succ, i64_w, i32_w]
                      rfl
                     refine pure_ (i := 15) (N := some 121) (v := ?_) (a' := ?_) #[true, true, true, true, true, true, true, true, true, true, true, true, true, true, true, true, false, false, false] rfl rfl (any_of HT_.out (by kernel_rfl)) (fun _ _ _ h => h) (Or.inl ⟨by rfl, ?_⟩) ?_ ?_
                     rotate_left
                     ·intro w'
                      go_simp
                      with_reducible rfl
                     rotate_left
                     ·simp only [Act.put, List.setIfInBounds_toArray, List.set_cons_zero, List.set_cons_succ, i64_w, i32_w]
                      rfl
                     refine pure_ (i := 16) (N := some 122) (v := ?_) (a' := ?_) #[true, true, true, true, true, true, true, true, true, true, true, true, true, true, true, true, true, false, false] rfl rfl (any_of HT_.out (by kernel_rfl)) (fun _ _ _ h => h) (Or.inl ⟨by rfl, ?_⟩) ?_ ?_
                     rotate_left
                     ·intro w'
                      go_simp
                      with_reducible rfl
                     rotate_left
                     ·simp only [Act.put, List.setIfInBounds_toArray, List.set_cons_zero, List.set_cons_succ, i64_w, i32_w]
                      rfl
                     refine pure_ (i := 17) (N := some 123) (v := ?_) (a' := ?_) #[true, true, true, true, true, true, true, true, true, true, true, true, true, true, true, true, true, true, false] rfl rfl (any_of HT_.out (by kernel_rfl)) (fun _ _ _ h => h) (Or.inl ⟨by rfl, ?_⟩) ?_ ?_
                     rotate_left
                     ·intro w'
                      go_simp
                      with_reducible rfl
                     rotate_left
                     ·simp only [Act.put, List.setIfInBounds_toArray, List.set_cons_zero, List.set_cons_succ, i64_w, i32_w]
                      rfl
                     refine pure_ (i := 18) (N := some 2) (v := ?_) (a' := ?_) #[true, true, true, true, true, true, true, true, true, true, true, true, true, true, true, true, true, true, true] rfl rfl (any_of HT_.out (by kernel_rfl)) (fun _ _ _ h => h) (Or.inl ⟨by rfl, ?_⟩) ?_ ?_
                     rotate_left
                     ·intro w'
                      go_simp
                      with_reducible rfl
                     rotate_left
                     ·simp only [Act.put, List.setIfInBounds_toArray, List.set_cons_zero, List.set_cons_succ, i64_w, i32_w]
                      rfl
                     refine done_ (done_of HT_.out (by kernel_rfl)) ?_
                     try go_wp2
                     go_ret
                     exact ⟨by first | rfl | (simp [errW_none, errW_some] <;> rfl) | (simp only [← hji29]; first | rfl | (simp [errW_none, errW_some] <;> rfl)) | (simp [*, errW_none, errW_some] <;> rfl), by with_reducible repeat (first | exact HB.out | apply below_alloc | apply pw_below_drewN | apply below_drew1)⟩
                   ·replace c62 := Bool.eq_false_iff.mpr c62
                    subst c62
                    have H1 : (some false) = some r := by rw [if_neg (show ¬ (false = true) by decide)] at H; exact H
                    clear H
                    have H := H1
                    clear H1
                    obtain rfl := Option.some.inj H
                    try go_wp2
                    have n0_ := Aside0.mk (Kd.R_drew HO_6.out)
                    have n1_ := Aside0.mk (Kd.C_drew HR421.out)
                    have n2_ := Aside0.mk (below_drew1 HB.out)
                    clear HO_6
                    clear HR421
                    clear HB
                    have HO_6 := n0_
                    have HR421 := n1_
                    have HB := n2_
                    clear n0_ n1_ n2_
                    have q75 : (ji29 : Int) ≤ ((t406.length : Int) : Int) := of_decide_eq_true (by first | (with_reducible assumption) | assumption)
                    obtain ⟨i075, hi075, _, hsz75, _⟩ := info_parts info5
                    have hroom75 : t406.length ≤ co20 := (Kd.R_reads' HO_6.out).2.1
                    have hC75 : Kd.C (Kd.int .u8) _ Ao20 t406.length t406 := (Kd.R_reads' HO_6.out).2.2
                    have hcut75 := cut_to (P := Try.prog) 22 5 .i64 Try.underlying22 hi075 Ao20 t406.length co20 ji29 (of_decide_eq_true (by first | (with_reducible assumption) | assumption)) q75 hroom75
                    have hr75 := Kd.C_take (m := (ji29 : Int).toNat) hC75 (by omega)
                    have hy75 : y432.length = (ji29 : Int).toNat := (by rw [Ny432.out, List.length_take]; omega)
                    have HY_y432 := Aside0.mk hy75
                    rw [← Ny432.out] at hr75
                    rw [← hy75] at hcut75
                    have HR435 := Aside0.mk hr75
                    have HC435 := Aside0.mk (show y432.length ≤ co20 from by omega)
                    clear hr75 hC75 hroom75 hi075 hsz75
                    have KY75 := Aside0.mk hy75
                    clear hy75
                    have KL75 := Aside0.mk (show (ji29 : Int).toNat ≤ t406.length from by omega)
                    replace q75 := eq_true q75
                    have q76 : (t423 : Int) ≤ ((t406.length : Int) : Int) := of_decide_eq_true (by first | (with_reducible assumption) | assumption)
                    obtain ⟨i076, hi076, _, hsz76, _⟩ := info_parts info5
                    have hroom76 : t406.length ≤ co20 := (Kd.R_reads' HO_6.out).2.1
                    have hC76 : Kd.C (Kd.int .u8) _ Ao20 t406.length t406 := (Kd.R_reads' HO_6.out).2.2
                    have hcut76 := cut_to (P := Try.prog) 22 5 .i64 Try.underlying22 hi076 Ao20 t406.length co20 t423 (of_decide_eq_true (by first | (with_reducible assumption) | assumption)) q76 hroom76
                    have hr76 := Kd.C_take (m := (t423 : Int).toNat) hC76 (by omega)
                    have hy76 : y439.length = (t423 : Int).toNat := (by rw [Ny439.out, List.length_take]; omega)
                    rw [← Ny439.out] at hr76
                    rw [← hy76] at hcut76
                    have HR442 := Aside0.mk hr76
                    have HC442 := Aside0.mk (show y439.length ≤ co20 from by omega)
                    clear hr76 hC76 hroom76 hi076 hsz76
                    have KY76 := Aside0.mk hy76
                    clear hy76
                    have KL76 := Aside0.mk (show (t423 : Int).toNat ≤ t406.length from by omega)
                    replace q76 := eq_true q76
                    refine start_ (n := 19) (S := fun w' => True) (ds := []) #[false, false, false, false, false, false, false, false, false, false, false, false, false, false, false, false, false, false, false] (by kernel_rfl) rfl rfl trivial (fun hHeld => ?_); refine with_tabW laws_FnPacked.tab17 laws_FnPacked.bits17 (fun HT_ HW_ => ?_)
                    generalize wc.drew = w74 at HO_6 HR421 HB HR435 HR442 hHeld ⊢
                    refine pure_ (i := 0) (N := some 106) (v := ?_) (a' := ?_) #[true, false, false, false, false, false, false, false, false, false, false, false, false, false, false, false, false, false, false] rfl rfl (any_of HT_.out (by kernel_rfl)) (fun _ _ _ h => h) (Or.inl ⟨by rfl, ?_⟩) ?_ ?_
                    rotate_left
                    ·intro w'
                     go_simp
                     with_reducible rfl
                    rotate_left
                    ·simp only [Act.put, List.setIfInBounds_toArray, List.set_cons_zero, List.set_cons_succ, i64_w, i32_w]
                     rfl
                    refine pure_ (i := 1) (N := some 107) (v := ?_) (a' := ?_) #[true, true, false, false, false, false, false, false, false, false, false, false, false, false, false, false, false, false, false] rfl rfl (any_of HT_.out (by kernel_rfl)) (fun _ _ _ h => h) (Or.inl ⟨by rfl, ?_⟩) ?_ ?_
                    rotate_left
                    ·intro w'
                     go_simp
                     with_reducible rfl
                    rotate_left
                    ·simp only [Act.put, List.setIfInBounds_toArray, List.set_cons_zero, List.set_cons_succ, i64_w, i32_w]
                     rfl
                    refine pure_ (i := 2) (N := some 108) (v := ?_) (a' := ?_) #[true, true, true, false, false, false, false, false, false, false, false, false, false, false, false, false, false, false, false] rfl rfl (any_of HT_.out (by kernel_rfl)) (fun _ _ _ h => h) (Or.inl ⟨by rfl, ?_⟩) ?_ ?_
                    rotate_left
                    ·intro w'
                     go_simp
                     with_reducible rfl
                    rotate_left
                    ·simp only [Act.put, List.setIfInBounds_toArray, List.set_cons_zero, List.set_cons_succ, i64_w, i32_w]
                     rfl
                    refine pure_ (i := 4) (N := some 110) (v := ?_) (a' := ?_) #[true, true, true, false, true, false, false, false, false, false, false, false, false, false, false, false, false, false, false] rfl rfl (any_of HT_.out (by kernel_rfl)) (fun _ _ _ h => h) (Or.inl ⟨by rfl, ?_⟩) ?_ ?_
                    rotate_left
                    ·intro w'
                     go_simp
                     with_reducible rfl
                    rotate_left
                    ·simp only [Act.put, List.setIfInBounds_toArray, List.set_cons_zero, List.set_cons_succ, i64_w, i32_w]
                     rfl
                    refine pure_ (i := 5) (N := some 111) (v := ?_) (a' := ?_) #[true, true, true, false, true, true, false, false, false, false, false, false, false, false, false, false, false, false, false] rfl rfl (any_of HT_.out (by kernel_rfl)) (fun _ _ _ h => h) (Or.inl ⟨by rfl, ?_⟩) ?_ ?_
                    rotate_left
                    ·intro w'
                     go_simp
                     with_reducible rfl
                    rotate_left
                    ·simp only [Act.put, List.setIfInBounds_toArray, List.set_cons_zero, List.set_cons_succ, i64_w, i32_w]
                     rfl
                    refine pure_ (i := 6) (N := some 112) (v := ?_) (a' := ?_) #[true, true, true, false, true, true, true, false, false, false, false, false, false, false, false, false, false, false, false] rfl rfl (any_of HT_.out (by kernel_rfl)) (fun _ _ _ h => h) (Or.inl ⟨by rfl, ?_⟩) ?_ ?_
                    rotate_left
                    ·intro w'
                     go_simp
                     with_reducible rfl
                    rotate_left
                    ·simp only [Act.put, List.setIfInBounds_toArray, List.set_cons_zero, List.set_cons_succ, i64_w, i32_w]
                     rfl
                    refine one_ (i := 3) (N := some 109) #[true, true, true, true, true, true, true, false, false, false, false, false, false, false, false, false, false, false, false] rfl rfl (one_of HT_.out (by kernel_rfl)) (by decide) (fun K hK => ?_)
                    refine goes_ Try.func14 (by kernel_rfl) rfl #[.slice Ao20 y432.length co20] (by rfl) rfl rfl (by (try simp only [List.map_toArray, List.map_cons, List.map_nil]); first | done | rfl | (rw [HY_y432.out]; rfl) | (rw [HY_y432.out, ← KY34.out]; rfl) | (simp only [List.length_drop, List.length_take]; rfl)) ?_
                    with_reducible refine (impl_Longest.calls kj32 _ _ y432 t436 _ ?side1 ?side2 A58.out).mono ?_
                    (case side1 => repeat (first | exact (by repeat (first | (with_reducible exact HR435.out) | (with_reducible refine Kd.C_alloc ?_ _) | (with_reducible refine Kd.C_drewN ?_ _) | (with_reducible refine Kd.C_drew ?_) | exact HR435.out)) | (with_reducible refine Kd.C_alloc ?_ _) | (with_reducible refine Kd.C_drewN ?_ _) | (with_reducible refine Kd.C_drew ?_)))
                    (case side2 => exact HC435.out)
                    rintro e w77 ⟨v437, rfl, ho0, hb⟩
                    refine ⟨_, rfl, ?_⟩
                    have n0_ := Aside0.mk (Kd.R_elder' (by (with_reducible repeat (first | apply Kd.R_alloc | apply Kd.R_drewN | apply Kd.R_drew)); exact HO_6.out) (Kd.R_base ho0) hb)
                    have n1_ := Aside0.mk (Kd.R_lower (Kd.R_new' ho0 (Kd.R_lt (by (with_reducible repeat (first | apply Kd.R_alloc | apply Kd.R_drewN | apply Kd.R_drew)); exact HO_6.out))) (below_size (by with_reducible repeat (first | exact HB.out | apply below_alloc | apply pw_below_drewN | apply below_drew1))))
                    have n2_ := Aside0.mk (Kd.C_below (by repeat (first | (with_reducible exact HR421.out) | (with_reducible refine Kd.C_alloc ?_ _) | (with_reducible refine Kd.C_drewN ?_ _) | (with_reducible refine Kd.C_drew ?_) | exact HR421.out)) hb)
                    have n3_ := Aside0.mk (Kd.C_below (by repeat (first | (with_reducible exact HR435.out) | (with_reducible refine Kd.C_alloc ?_ _) | (with_reducible refine Kd.C_drewN ?_ _) | (with_reducible refine Kd.C_drew ?_) | exact HR435.out)) hb)
                    have n4_ := Aside0.mk (Kd.C_below (by repeat (first | (with_reducible exact HR442.out) | (with_reducible refine Kd.C_alloc ?_ _) | (with_reducible refine Kd.C_drewN ?_ _) | (with_reducible refine Kd.C_drew ?_) | exact HR442.out)) hb)
                    have n5_ := Aside0.mk (below_step (by with_reducible repeat (first | exact HB.out | apply below_alloc | apply pw_below_drewN | apply below_drew1)) hb)
                    clear HO_6
                    clear HR421
                    clear HR435
                    clear HR442
                    clear HB
                    have HO_6 := n0_
                    have HO438 := n1_
                    have HR421 := n2_
                    have HR435 := n3_
                    have HR442 := n4_
                    have HB := n5_
                    clear n0_ n1_ n2_ n3_ n4_ n5_
                    (try clear hb)
                    (try clear hb2)
                    (try clear hk)
                    (try clear hi)
                    (try clear ho0)
                    obtain ⟨Ao78, co78, eo78⟩ := Kd.R_slice HO438.out
                    (first | subst eo78 | (injection eo78 with f1_ f2_ f3_; have f4_ := f1_.symm; have f5_ := f3_.symm; clear f1_ f2_ f3_; subst f4_; subst f5_))
                    refine hK.out _ _ trivial (fun hHeld => ?_)
                    clear hK K
                    refine norm_ (a' := ?_) ?_ ?_
                    rotate_left
                    ·show Act.put _ (some 109) _ = _
                     simp only [Act.put, List.setIfInBounds_toArray, List.set_cons_zero, List.set_cons_succ, i64_w, i32_w]
                     rfl
                    refine one_ (i := 7) (N := some 113) #[true, true, true, true, true, true, true, true, false, false, false, false, false, false, false, false, false, false, false] rfl rfl (one_of HT_.out (by kernel_rfl)) (by decide) (fun K hK => ?_)
                    refine goes_ Try.func9 (by kernel_rfl) rfl #[.slice Ao78 t436.length co78, .slice Ao20 y439.length co20] (by rfl) rfl rfl (by (try simp only [List.map_toArray, List.map_cons, List.map_nil]); first | done | rfl | (simp only [List.length_drop, List.length_take]; rfl)) ?_
                    with_reducible refine (laws_sameBytes.calls kj32 _ _ t436 _ _ y439 false _ ?side1 ?side2 ?side3 ?side4 A61.out).mono ?_
                    (case side1 => repeat (first | exact (Kd.R_reads' HO438.out).2.2 | (with_reducible refine Kd.C_alloc ?_ _) | (with_reducible refine Kd.C_drewN ?_ _) | (with_reducible refine Kd.C_drew ?_)))
                    (case side2 => exact (Kd.R_reads' HO438.out).2.1)
                    (case side3 => repeat (first | exact (by repeat (first | (with_reducible exact HR442.out) | (with_reducible refine Kd.C_alloc ?_ _) | (with_reducible refine Kd.C_drewN ?_ _) | (with_reducible refine Kd.C_drew ?_) | exact HR442.out)) | (with_reducible refine Kd.C_alloc ?_ _) | (with_reducible refine Kd.C_drewN ?_ _) | (with_reducible refine Kd.C_drew ?_)))
                    (case side4 => exact HC442.out)
                    rintro e w' ⟨rfl, ⟨nd, rfl⟩⟩
                    refine ⟨_, rfl, ?_⟩
                    refine hK.out _ _ trivial (fun hHeld => ?_)
                    clear hK K
                    refine norm_ (a' := ?_) ?_ ?_
                    rotate_left
                    ·show Act.put _ (some 113) _ = _
                     simp only [Act.put, List.setIfInBounds_toArray, List.set_cons_zero, List.set_cons_succ, i64_w, i32_w]
                     rfl
                    refine pure_ (i := 8) (N := some 114) (v := ?_) (a' := ?_) #[true, true, true, true, true, true, true, true, true, false, false, false, false, false, false, false, false, false, false] rfl rfl (any_of HT_.out (by kernel_rfl)) (fun _ _ _ h => h) (Or.inl ⟨by rfl, ?_⟩) ?_ ?_
                    rotate_left
                    ·intro w'
                     go_simp
                     with_reducible rfl
                    rotate_left
                    ·simp only [Act.put, List.setIfInBounds_toArray, List.set_cons_zero, List.set_cons_succ, i64_w, i32_w]
                     rfl
                    refine pure_ (i := 9) (N := some 115) (v := undef) (a' := ?_) #[true, true, true, true, true, true, true, true, true, true, false, false, false, false, false, false, false, false, false] rfl rfl (any_of HT_.out (by kernel_rfl)) (fun _ _ _ h => h) (Or.inr ⟨by rfl, rfl⟩) ?_ ?_
                    rotate_left
                    ·simp only [Act.put, List.setIfInBounds_toArray, List.set_cons_zero, List.set_cons_succ, i64_w, i32_w]
                     rfl
                    refine pure_ (i := 10) (N := some 116) (v := undef) (a' := ?_) #[true, true, true, true, true, true, true, true, true, true, true, false, false, false, false, false, false, false, false] rfl rfl (any_of HT_.out (by kernel_rfl)) (fun _ _ _ h => h) (Or.inr ⟨by rfl, rfl⟩) ?_ ?_
                    rotate_left
                    ·simp only [Act.put, List.setIfInBounds_toArray, List.set_cons_zero, List.set_cons_succ, i64_w, i32_w]
                     rfl
                    refine pure_ (i := 11) (N := some 117) (v := undef) (a' := ?_) #[true, true, true, true, true, true, true, true, true, true, true, true, false, false, false, false, false, false, false] rfl rfl (any_of HT_.out (by kernel_rfl)) (fun _ _ _ h => h) (Or.inr ⟨by rfl, rfl⟩) ?_ ?_
                    rotate_left
                    ·simp only [Act.put, List.setIfInBounds_toArray, List.set_cons_zero, List.set_cons_succ, i64_w, i32_w]
                     rfl
                    refine pure_ (i := 12) (N := some 118) (v := undef) (a' := ?_) #[true, true, true, true, true, true, true, true, true, true, true, true, true, false, false, false, false, false, false] rfl rfl (any_of HT_.out (by kernel_rfl)) (fun _ _ _ h => h) (Or.inr ⟨by rfl, rfl⟩) ?_ ?_
                    rotate_left
                    ·simp only [Act.put, List.setIfInBounds_toArray, List.set_cons_zero, List.set_cons_succ, i64_w, i32_w]
                     rfl
                    refine pure_ (i := 13) (N := some 119) (v := undef) (a' := ?_) #[true, true, true, true, true, true, true, true, true, true, true, true, true, true, false, false, false, false, false] rfl rfl (any_of HT_.out (by kernel_rfl)) (fun _ _ _ h => h) (Or.inr ⟨by rfl, rfl⟩) ?_ ?_
                    rotate_left
                    ·simp only [Act.put, List.setIfInBounds_toArray, List.set_cons_zero, List.set_cons_succ, i64_w, i32_w]
                     rfl
                    refine pure_ (i := 14) (N := some 120) (v := undef) (a' := ?_) #[true, true, true, true, true, true, true, true, true, true, true, true, true, true, true, false, false, false, false] rfl rfl (any_of HT_.out (by kernel_rfl)) (fun _ _ _ h => h) (Or.inr ⟨by rfl, rfl⟩) ?_ ?_
                    rotate_left
                    ·simp only [Act.put, List.setIfInBounds_toArray, List.set_cons_zero, List.set_cons_succ, i64_w, i32_w]
                     rfl
                    refine pure_ (i := 15) (N := some 121) (v := undef) (a' := ?_) #[true, true, true, true, true, true, true, true, true, true, true, true, true, true, true, true, false, false, false] rfl rfl (any_of HT_.out (by kernel_rfl)) (fun _ _ _ h => h) (Or.inr ⟨by rfl, rfl⟩) ?_ ?_
                    rotate_left
                    ·simp only [Act.put, List.setIfInBounds_toArray, List.set_cons_zero, List.set_cons_succ, i64_w, i32_w]
                     rfl
                    refine pure_ (i := 16) (N := some 122) (v := undef) (a' := ?_) #[true, true, true, true, true, true, true, true, true, true, true, true, true, true, true, true, true, false, false] rfl rfl (any_of HT_.out (by kernel_rfl)) (fun _ _ _ h => h) (Or.inr ⟨by rfl, rfl⟩) ?_ ?_
                    rotate_left
                    ·simp only [Act.put, List.setIfInBounds_toArray, List.set_cons_zero, List.set_cons_succ, i64_w, i32_w]
                     rfl
                    refine pure_ (i := 17) (N := some 123) (v := ?_) (a' := ?_) #[true, true, true, true, true, true, true, true, true, true, true, true, true, true, true, true, true, true, false] rfl rfl (any_of HT_.out (by kernel_rfl)) (fun _ _ _ h => h) (Or.inl ⟨by rfl, ?_⟩) ?_ ?_
                    rotate_left
                    ·intro w'
                     go_simp
                     with_reducible rfl
                    rotate_left
                    ·simp only [Act.put, List.setIfInBounds_toArray, List.set_cons_zero, List.set_cons_succ, i64_w, i32_w]
                     rfl
                    refine pure_ (i := 18) (N := some 2) (v := ?_) (a' := ?_) #[true, true, true, true, true, true, true, true, true, true, true, true, true, true, true, true, true, true, true] rfl rfl (any_of HT_.out (by kernel_rfl)) (fun _ _ _ h => h) (Or.inl ⟨by rfl, ?_⟩) ?_ ?_
                    rotate_left
                    ·intro w'
                     go_simp
                     with_reducible rfl
                    rotate_left
                    ·simp only [Act.put, List.setIfInBounds_toArray, List.set_cons_zero, List.set_cons_succ, i64_w, i32_w]
                     rfl
                    refine done_ (done_of HT_.out (by kernel_rfl)) ?_
                    try go_wp2
                    go_ret
                    exact ⟨by first | rfl | (simp [errW_none, errW_some] <;> rfl) | (simp only [← hji29]; first | rfl | (simp [errW_none, errW_some] <;> rfl)) | (simp [*, errW_none, errW_some] <;> rfl), by with_reducible repeat (first | exact HB.out | apply below_alloc | apply pw_below_drewN | apply below_drew1)⟩
                  ·rw [if_neg c60] at H
                   exact absurd H (by simp)
                 ·rw [if_neg c59] at H
                  exact absurd H (by simp)
                ·rw [if_neg c57] at H
                 exact absurd H (by simp)
               ·rw [if_neg c56] at H
                exact absurd H (by simp)
           ·rw [if_neg c31] at H
            exact absurd H (by simp)
          ·rw [if_neg c30] at H
           exact absurd H (by simp)
     ·replace c17 := Bool.eq_false_iff.mpr c17
      subst c17
      have H1 : (some true) = some r := by rw [if_neg (show ¬ (false = true) by decide)] at H; exact H
      clear H
      have H := H1
      clear H1
      obtain rfl := Option.some.inj H
      go_wp2
      go_ret
      exact ⟨by first | rfl | (simp [errW_none, errW_some] <;> rfl) | (simp [*, errW_none, errW_some] <;> rfl), by with_reducible repeat (first | exact HB.out | apply below_alloc | apply pw_below_drewN | apply below_drew1)⟩

/-- THE ONE PURE STATEMENT of laws_FnPacked: yours. -/
def laws_FnPacked.Pure : Prop := ∀ (l0 : List Int), l0.length ≤ maxLen → l0.length * 1 ≤ 140737488351232 → (∀ x ∈ l0, (Lit.int .u8 x).wf = true) → ∃ k, laws_FnPacked.f k l0 = some true
theorem laws_FnPacked.walk (P : laws_FnPacked.Pure) (a0 : Option Addr) (len0 cap0 : Nat) (z0 : List Int) (w : World) (w0 : (a0 = none ∧ len0 = 0 ∧ cap0 = 0 ∧ z0 = []) ∨ ∃ x, a0 = some x ∧ len0 ≤ cap0 ∧ cap0 ≤ maxLen ∧ z0.length = cap0 ∧ (∀ i, i < z0.length → w.cell? (x.add i) = some (.int .u8 (z0.getD i 0))) ∧ ∀ n ∈ z0, (Lit.int .u8 n).wf = true) (y0 : len0 * 1 ≤ 140737488351232) :
  Calls Try.prog 3 #[.slice a0 len0 cap0] w fun e w' => e = .returned (.bool true) ∧ Below w.heap.size w w' := by
 obtain ⟨l0, rfl, hr0, hm0, hw0, hc0⟩ := ReadsInt.ofRowC w0
 obtain ⟨k, h⟩ := P l0 hm0 y0 hw0
 refine (laws_FnPacked.calls k _ _ l0 true w (Kd.C_of_reads (d := (0 : Int)) (h1 := fun _ => rfl) hr0) hc0 h).mono ?_
 rintro e w' ⟨rfl, hd⟩
 exact ⟨rfl, hd⟩

end Go.Proofs.Ytbjhaaibmjlhhaa.Q
