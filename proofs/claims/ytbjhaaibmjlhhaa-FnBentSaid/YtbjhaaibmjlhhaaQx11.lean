-- Written by a program of this session (qprint.py) over the kit's print: Lean checks every line.
import Derived.Test.YtbjhaaibmjlhhaaQx0
import Derived.Test.YtbjhaaibmjlhhaaQx2
import Derived.Test.YtbjhaaibmjlhhaaQx10
namespace Go.Proofs.Ytbjhaaibmjlhhaa.Q
open Go.RowKit Go.Proofs.YtbjhaaibmjlhhaaW.PrintWords Go.Proofs.YtbjhaaibmjlhhaaW.PrintLast Go.Proofs.YtbjhaaibmjlhhaaW.PrintMore
attribute [local go_sem] max2_int min2_int max_two min_two max_three min_three max_four min_four   -- for this text's walks alone
set_option linter.unusedVariables false
set_option linter.unusedSimpArgs false

/-! ### spec_ScanOps: function 16 -/
mutual
def spec_ScanOps.j2 : Nat → List Int → List (S38) → Int → Option ((List (S38)) × Int × Int)
 | 0, _, _, _ => none
 | k + 1, x0, x5, x6 => if 0 ≤ x6 then (if x6 ≤ (x0.length : Int) then (if ((x0.drop (x6 : Int).toNat).length : Int) = 0 then (some (x5, x6, 0)) else (if ((x0.drop (x6 : Int).toNat).length : Int) < 2 then (some (x5, x6, 1)) else (if 0 < ((x0.drop (x6 : Int).toNat).length : Int) then ((spec_l01In.f (wrap64 (rd (x0.drop (x6 : Int).toNat) 0)) 1 16).bind fun t584 => (if t584 = true then (if 1 < ((x0.drop (x6 : Int).toNat).length : Int) then ((spec_l01In.f (wrap64 (rd (x0.drop (x6 : Int).toNat) 1)) 1 32).bind fun t586 => (if t586 = true then (if ((x0.drop (x6 : Int).toNat).length : Int) < (wrap64 ((wrap64 (rd (x0.drop (x6 : Int).toNat) 1)) + 4)) then (some (x5, x6, 1)) else (some (x5, x6, 2))) else (some (x5, x6, 2)))) else (none)) else (some (x5, x6, 2)))) else (none)))) else (none)) else (none)
def spec_ScanOps.l0 : Nat → List Int → List (S38) → Int → Option ((List (S38)) × Int × Int)
 | 0, _, _, _ => none
 | k + 1, x0, x5, x6 => if x6 < (x0.length : Int) then (if 0 ≤ x6 then (if x6 ≤ (x0.length : Int) then ((spec_l17Block.f k (x0.drop (x6 : Int).toNat)).bind fun bt574 => (if bt574.2 < 0 then (spec_ScanOps.j2 k x0 x5 x6) else (spec_ScanOps.l1 k x0 x5 x6 bt574.1 bt574.2 0))) else (none)) else (none)) else (spec_ScanOps.j2 k x0 x5 x6)
def spec_ScanOps.l1 : Nat → List Int → List (S38) → Int → List (S38) → Int → Int → Option ((List (S38)) × Int × Int)
 | 0, _, _, _, _, _, _ => none
 | k + 1, x0, x5, x6, x7, x8, x9 => if x9 < (x7.length : Int) then (if 0 ≤ x9 then (if x5.length < 5864062014805 then (spec_ScanOps.l1 k x0 (x5 ++ [(⟨(rd_T38 x7 x9).f0, (rd_T38 x7 x9).f1, (rd_T38 x7 x9).f2⟩ : S38)]) x6 x7 x8 (wrap64 (x9 + 1))) else (none)) else (none)) else (spec_ScanOps.l0 k x0 x5 (wrap64 (x6 + x8)))
end
def spec_ScanOps.f (k : Nat) (l0 : List Int) : Option ((List (S38)) × Int × Int) := if (l0.length : Int) > 4000 then (some (([] : List (S38)), 0, 2)) else (spec_ScanOps.l0 k l0 (([] : List (S38))) 0)
theorem spec_ScanOps.mono_l : ∀ k, (∀ y0 y1 y2, LeO (spec_ScanOps.j2 k y0 y1 y2) (spec_ScanOps.j2 (k + 1) y0 y1 y2)) ∧ (∀ y0 y1 y2, LeO (spec_ScanOps.l0 k y0 y1 y2) (spec_ScanOps.l0 (k + 1) y0 y1 y2)) ∧ (∀ y0 y1 y2 y3 y4 y5, LeO (spec_ScanOps.l1 k y0 y1 y2 y3 y4 y5) (spec_ScanOps.l1 (k + 1) y0 y1 y2 y3 y4 y5))
 | 0 => ⟨fun _ _ _ r h => by simp [spec_ScanOps.j2] at h, fun _ _ _ r h => by simp [spec_ScanOps.l0] at h, fun _ _ _ _ _ _ r h => by simp [spec_ScanOps.l1] at h⟩
 | k + 1 => by
  obtain ⟨ih0, ih1, ih2⟩ := spec_ScanOps.mono_l k
  refine ⟨?_, ?_, ?_⟩
  ·intro y0 y1 y2
   unfold spec_ScanOps.j2
   repeat' first
   | (with_reducible exact ih0 _ _ _)
   | (with_reducible exact ih1 _ _ _)
   | (with_reducible exact ih2 _ _ _ _ _ _)
   | (with_reducible exact spec_l17Block.mono _ _)
   | (with_reducible exact LeO.refl _)
   | (with_reducible exact LeO.none _)
   | (with_reducible refine LeO.ite ?_ ?_)
   | (with_reducible refine LeO.bind ?_ (fun _ => ?_))
  ·intro y0 y1 y2
   unfold spec_ScanOps.l0
   repeat' first
   | (with_reducible exact ih0 _ _ _)
   | (with_reducible exact ih1 _ _ _)
   | (with_reducible exact ih2 _ _ _ _ _ _)
   | (with_reducible exact spec_l17Block.mono _ _)
   | (with_reducible exact LeO.refl _)
   | (with_reducible exact LeO.none _)
   | (with_reducible refine LeO.ite ?_ ?_)
   | (with_reducible refine LeO.bind ?_ (fun _ => ?_))
  ·intro y0 y1 y2 y3 y4 y5
   unfold spec_ScanOps.l1
   repeat' first
   | (with_reducible exact ih0 _ _ _)
   | (with_reducible exact ih1 _ _ _)
   | (with_reducible exact ih2 _ _ _ _ _ _)
   | (with_reducible exact spec_l17Block.mono _ _)
   | (with_reducible exact LeO.refl _)
   | (with_reducible exact LeO.none _)
   | (with_reducible refine LeO.ite ?_ ?_)
   | (with_reducible refine LeO.bind ?_ (fun _ => ?_))
theorem spec_ScanOps.mono : ∀ a0 k, LeO (spec_ScanOps.f k a0) (spec_ScanOps.f (k + 1) a0) := by
 intro a0 k
 obtain ⟨ih0, ih1, ih2⟩ := spec_ScanOps.mono_l k
 unfold spec_ScanOps.f
 repeat' first
   | (with_reducible exact ih0 _ _ _)
   | (with_reducible exact ih1 _ _ _)
   | (with_reducible exact ih2 _ _ _ _ _ _)
   | (with_reducible exact spec_l17Block.mono _ _)
   | (with_reducible exact LeO.refl _)
   | (with_reducible exact LeO.none _)
   | (with_reducible refine LeO.ite ?_ ?_)
   | (with_reducible refine LeO.bind ?_ (fun _ => ?_))
set_option maxHeartbeats 8000000 in
set_option maxRecDepth 100000 in
theorem spec_ScanOps.calls (k : Nat) (A0 : Option Addr) (c0 : Nat) (l0 : List Int) (r1 : List (S38)) (r2 : Int) (r3 : Int) (w : World) (hr0 : Kd.C (Kd.int .u8) w A0 l0.length l0) (hc0 : l0.length ≤ c0) (h : spec_ScanOps.f k l0 = some (r1, r2, r3)) :
  Calls Try.prog 16 #[.slice A0 l0.length c0] w fun e w' => ∃ v0_ : Value, e = .returned (.tuple #[v0_, .int .i64 r2, .int .i64 r3]) ∧ Kd.R k38 38 w' w.heap.size (fun _ => True) v0_ r1 ∧ Below w.heap.size w w' := by
 have hu38 := Try.underlying38
 have HR0 := Aside0.mk hr0
 have HC0 := Aside0.mk hc0
 clear hr0 hc0
 have HB := Aside0.mk (Below.refl w.heap.size w)
 have H : (if (l0.length : Int) > 4000 then (some (([] : List (S38)), 0, 2)) else (spec_ScanOps.l0 k l0 (([] : List (S38))) 0)) = some (r1, r2, r3) := h
 clear h
 by_cases c2 : (l0.length : Int) > 4000
 ·rw [if_pos c2] at H
  have c2b0 : decide (4000 < (l0.length : Int)) = true := decide_eq_true c2
  have c2b1 : decide (4000 < l0.length) = true := decide_eq_true (by omega)
  clear c2
  simp only [Option.some.injEq, Prod.mk.injEq] at H
  obtain ⟨rfl, rfl, rfl⟩ := H
  go_enter Try.func16, Try.ntmps16
  go_wp2
  go_ret3
  exact ⟨_, by first | rfl | (simp [errW_none, errW_some] <;> rfl) | (simp [*, errW_none, errW_some] <;> rfl), by first | exact Kd.R_nil _ _ _ _ _ | exact Kd.N_nil _ _ _ _ _ | exact Kd.V_nil _ _ _ _ _ | exact Kd.Q_nil _ _ _ _ _ | exact Kd.S_nil _ _ _ _ _, by with_reducible repeat (first | exact HB.out | apply below_alloc | apply pw_below_drewN | apply below_drew1)⟩
 ·rw [if_neg c2] at H
  have c2b0 : decide (4000 < (l0.length : Int)) = false := decide_eq_false c2
  have c2b1 : decide (4000 < l0.length) = false := decide_eq_false (by omega)
  clear c2
  obtain ⟨y570, hy570⟩ : ∃ y_ : List (S38), y_ = (([] : List (S38))) := ⟨_, rfl⟩
  replace H : (spec_ScanOps.l0 k l0 y570 0) = some (r1, r2, r3) := by first | (rw [hy570]; exact H) | exact H
  have Ny570 := Aside0.mk hy570
  clear hy570
  have HC3 := Aside0.mk H
  clear H
  go_enter Try.func16, Try.ntmps16
  go_upto_block 0 with (first | ((with_reducible refine gate_dst (N := 14) rfl ?_); (try (refine gate_guard (by rfl) ?_; dsimp only)); refine Kd.R_lit k38 _ 38 ?hg (N := 14) ?hd (xs := ([] : List (S38))) (inner := []) (ok := fun _ => True) (okp := fun _ => True) ?hr ?hp (fun _ hk => hk) trivial (Below.refl _ _) (Nat.le_refl _) (by simp) ?_; (case hd => rfl); (case hg => rfl); (case hr => first | (go_simp; done) | (go_simp; rfl)); (case hp => exact (Reps.none _ _)); intro v571 w4 ho5 hb hg_ hnew_; clear hg_ hnew_; (first | rw [← Ny570.out] at ho5 | (simp only [Int.reduceToNat] at ho5; rw [← Ny570.out] at ho5)); have n0_ := Aside0.mk (Kd.R_lower ho5 (below_size (by with_reducible repeat (first | exact HB.out | apply below_alloc | apply pw_below_drewN | apply below_drew1)))); have n1_ := Aside0.mk (below_step (by with_reducible repeat (first | exact HB.out | apply below_alloc | apply pw_below_drewN | apply below_drew1)) hb); clear HB; have HO572 := n0_; have HB := n1_; clear n0_ n1_; clear hb ho5))
  (try simp only [Act.put, List.setIfInBounds_toArray, List.set_cons_zero, List.set_cons_succ])
  go_cut [5, 6] (fun v5 v6 wc => ∃ (kq : Nat) (x5_2 : List (S38)) (x6_2 : Int), v6 = .int .i64 x6_2 ∧ Aside0 (spec_ScanOps.j2 kq l0 x5_2 x6_2 = some (r1, r2, r3)) ∧ Aside0 (kq ≤ k) ∧ Aside0 (Kd.R k38 38 wc w.heap.size (fun _ => True) v5 x5_2) ∧ Aside0 (Below w.heap.size w wc))
  case first =>
   have H := HC3.out
   clear HC3
   have H' := Aside0.mk H
   clear H
   go_wp2
   go_loopg [5, 6] k (fun kq v5 v6 w' => ∃ (x5_1 : List (S38)) (x6_1 : Int), v6 = .int .i64 x6_1 ∧ Aside0 (spec_ScanOps.l0 kq l0 x5_1 x6_1 = some (r1, r2, r3)) ∧ Aside0 (kq ≤ k) ∧ Aside0 (Kd.R k38 38 w' w.heap.size (fun _ => True) v5 x5_1) ∧ Aside0 (Below w.heap.size w w'))
   case atStart => exact ⟨(y570), (0), (by first | rfl | simp | simp [*]), H', ⟨Nat.le_refl _⟩, ⟨by (with_reducible repeat (first | apply Kd.R_alloc | apply Kd.R_drewN | apply Kd.R_drew)); exact HO572.out⟩, ⟨by with_reducible repeat (first | exact HB.out | apply below_alloc | apply pw_below_drewN | apply below_drew1)⟩⟩
   case round =>
    clear H'
    try clear c1
    try clear c2
    try clear c2b0
    try clear c2b1
    try clear p2
    obtain ⟨x5_1, x6_1, rfl, HA, HK1, HO_5, HB⟩ := hrel
    cases gk with
    | zero => exact absurd HA.out (by simp [spec_ScanOps.l0])
    | succ k1 =>
     have H := HA.out
     clear HA
     simp only [spec_ScanOps.l0] at H
     by_cases c6 : x6_1 < (l0.length : Int)
     ·rw [if_pos c6] at H
      have c6b0 : decide (x6_1 < (l0.length : Int)) = true := decide_eq_true c6
      clear c6
      (first | rw [c6b0] | rw [c6b1] | (simp only [i64_w, i32_w]; rw [c6b0]) | skip)
      by_cases c7 : 0 ≤ x6_1
      ·rw [if_pos c7] at H
       have c7b0 := eq_true c7
       have c7b1 : decide (0 ≤ x6_1) = true := decide_eq_true c7
       clear c7
       by_cases c8 : x6_1 ≤ (l0.length : Int)
       ·rw [if_pos c8] at H
        have c8b0 := eq_true c8
        have c8b1 : decide (x6_1 ≤ (l0.length : Int)) = true := decide_eq_true c8
        clear c8
        replace H := Option.bind_eq_some_iff.mp H
        obtain ⟨⟨t574, t575⟩, A90, H⟩ := H
        replace H : (if t575 < 0 then (spec_ScanOps.j2 k1 l0 x5_1 x6_1) else (spec_ScanOps.l1 k1 l0 x5_1 x6_1 t574 t575 0)) = some (r1, r2, r3) := H
        have A9 := Aside0.mk A90
        clear A90
        by_cases c10 : t575 < 0
        ·rw [if_pos c10] at H
         have c10b0 : decide (t575 < 0) = true := decide_eq_true c10
         clear c10
         have H' := Aside0.mk H
         clear H
         obtain ⟨i011, hi011, _, hsz11, _⟩ := info_parts info5
         obtain ⟨A11, hcut11, hA11, hC11⟩ := print_drop_of (P := Try.prog) (Value.int .u8) 0 22 5 .i64 Try.underlying22 hi011 hsz11 A0 c0 l0 x6_1 (of_decide_eq_true (by first | (with_reducible assumption) | assumption)) (of_decide_eq_true (by first | (with_reducible assumption) | assumption)) HC0.out
         have HR573 := Aside0.mk (Kd.C_of_reads (h1 := fun _ => rfl) (hA11 _ (Kd.reads_of_C HR0.out)))
         have HC573 := Aside0.mk hC11
         clear hA11 hC11 hi011 hsz11
         go_wp2_with (first | ((with_reducible refine gate_callee (f := 31) rfl ?_); refine goesL_ (some 23) rfl rfl Try.func31 (by kernel_rfl) rfl #[.slice A11 (l0.drop (x6_1 : Int).toNat).length (c0 - x6_1.toNat)] rfl (by (try simp only [List.map_toArray, List.map_cons, List.map_nil]); first | done | (rw [show (l0.drop (x6_1 : Int).toNat).length = (l0.length - x6_1.toNat) from List.length_drop] <;> rfl) | rfl | (simp only [List.length_drop, List.length_take]; rfl)) ?_; (with_reducible refine (spec_l17Block.calls k1 _ _ (l0.drop (x6_1 : Int).toNat) t574 t575 _ ?side1 ?side2 A9.out).mono ?_); (case side1 => repeat (first | exact (Kd.C_below HR573.out HB.out) | (with_reducible refine Kd.C_alloc ?_ _) | (with_reducible refine Kd.C_drewN ?_ _) | (with_reducible refine Kd.C_drew ?_))); (case side2 => exact HC573.out); rintro e w12 ⟨v576, rfl, ho0, hb⟩; refine ⟨_, rfl, ?_⟩; have n0_ := Aside0.mk (Kd.R_elder' (by (with_reducible repeat (first | apply Kd.R_alloc | apply Kd.R_drewN | apply Kd.R_drew)); exact HO_5.out) (Kd.R_base ho0) hb); have n1_ := Aside0.mk (Kd.R_lower (Kd.R_new' ho0 (Kd.R_lt (by (with_reducible repeat (first | apply Kd.R_alloc | apply Kd.R_drewN | apply Kd.R_drew)); exact HO_5.out))) (below_size (by with_reducible repeat (first | exact HB.out | apply below_alloc | apply pw_below_drewN | apply below_drew1)))); have n2_ := Aside0.mk (below_step (by with_reducible repeat (first | exact HB.out | apply below_alloc | apply pw_below_drewN | apply below_drew1)) hb); clear HO_5 HB; have HO_5 := n0_; have HO577 := n1_; have HB := n2_; clear n0_ n1_ n2_; (try clear hb); (try clear hb2); (try clear hk); (try clear hi); (try clear ho0)))
         go_meet
         case rel => exact ⟨_, (x5_1), (x6_1), (by first | rfl | simp | simp [*]), H', ⟨by have := HK1.out; first | omega | exact Nat.le_refl _⟩, ⟨by (with_reducible repeat (first | apply Kd.R_alloc | apply Kd.R_drewN | apply Kd.R_drew)); exact Kd.R_mono HO_5.out (fun _ hk => trivial)⟩, ⟨by with_reducible repeat (first | exact HB.out | apply below_alloc | apply pw_below_drewN | apply below_drew1)⟩⟩
        ·rw [if_neg c10] at H
         have c10b0 : decide (t575 < 0) = false := decide_eq_false c10
         clear c10
         have H' := Aside0.mk H
         clear H
         obtain ⟨i013, hi013, _, hsz13, _⟩ := info_parts info5
         obtain ⟨A13, hcut13, hA13, hC13⟩ := print_drop_of (P := Try.prog) (Value.int .u8) 0 22 5 .i64 Try.underlying22 hi013 hsz13 A0 c0 l0 x6_1 (of_decide_eq_true (by first | (with_reducible assumption) | assumption)) (of_decide_eq_true (by first | (with_reducible assumption) | assumption)) HC0.out
         have HR573 := Aside0.mk (Kd.C_of_reads (h1 := fun _ => rfl) (hA13 _ (Kd.reads_of_C HR0.out)))
         have HC573 := Aside0.mk hC13
         clear hA13 hC13 hi013 hsz13
         go_wp2_with (first | ((with_reducible refine gate_callee (f := 31) rfl ?_); refine goesL_ (some 23) rfl rfl Try.func31 (by kernel_rfl) rfl #[.slice A13 (l0.drop (x6_1 : Int).toNat).length (c0 - x6_1.toNat)] rfl (by (try simp only [List.map_toArray, List.map_cons, List.map_nil]); first | done | (rw [show (l0.drop (x6_1 : Int).toNat).length = (l0.length - x6_1.toNat) from List.length_drop] <;> rfl) | rfl | (simp only [List.length_drop, List.length_take]; rfl)) ?_; (with_reducible refine (spec_l17Block.calls k1 _ _ (l0.drop (x6_1 : Int).toNat) t574 t575 _ ?side1 ?side2 A9.out).mono ?_); (case side1 => repeat (first | exact (Kd.C_below HR573.out HB.out) | (with_reducible refine Kd.C_alloc ?_ _) | (with_reducible refine Kd.C_drewN ?_ _) | (with_reducible refine Kd.C_drew ?_))); (case side2 => exact HC573.out); rintro e w14 ⟨v576, rfl, ho0, hb⟩; refine ⟨_, rfl, ?_⟩; have n0_ := Aside0.mk (Kd.R_elder' (by (with_reducible repeat (first | apply Kd.R_alloc | apply Kd.R_drewN | apply Kd.R_drew)); exact HO_5.out) (Kd.R_base ho0) hb); have n1_ := Aside0.mk (Kd.R_lower (Kd.R_new' ho0 (Kd.R_lt (by (with_reducible repeat (first | apply Kd.R_alloc | apply Kd.R_drewN | apply Kd.R_drew)); exact HO_5.out))) (below_size (by with_reducible repeat (first | exact HB.out | apply below_alloc | apply pw_below_drewN | apply below_drew1)))); have n2_ := Aside0.mk (below_step (by with_reducible repeat (first | exact HB.out | apply below_alloc | apply pw_below_drewN | apply below_drew1)) hb); clear HO_5 HB; have HO_5 := n0_; have HO577 := n1_; have HB := n2_; clear n0_ n1_ n2_; (try clear hb); (try clear hb2); (try clear hk); (try clear hi); (try clear ho0)))
         go_loopg [5, 9] k1 (fun kq v5 v9 w' => ∃ (x5_2 : List (S38)) (x9_2 : Int), v9 = .int .i64 x9_2 ∧ Aside0 (spec_ScanOps.l1 kq l0 x5_2 x6_1 t574 t575 x9_2 = some (r1, r2, r3)) ∧ Aside0 (kq ≤ k1) ∧ Aside0 (Kd.R k38 38 w' w.heap.size (fun k_ => some k_ ≠ (v576 : Value).ownBlock) v5 x5_2) ∧ Aside0 (Kd.R k38 38 w' w.heap.size (fun k_ => some k_ ≠ (v5 : Value).ownBlock) v576 t574) ∧ Aside0 (Below w.heap.size w w'))
         case atStart => exact ⟨(x5_1), (0), (by first | rfl | simp | simp [*]), H', ⟨Nat.le_refl _⟩, ⟨by (with_reducible repeat (first | apply Kd.R_alloc | apply Kd.R_drewN | apply Kd.R_drew)); exact Kd.R_mono HO_5.out (fun _ hk => hk.2)⟩, ⟨by (with_reducible repeat (first | apply Kd.R_alloc | apply Kd.R_drewN | apply Kd.R_drew)); exact Kd.R_mono HO577.out (fun _ hk => hk.2)⟩, ⟨by with_reducible repeat (first | exact HB.out | apply below_alloc | apply pw_below_drewN | apply below_drew1)⟩⟩
         case round =>
          clear H'
          try clear c1
          try clear c2
          try clear c2b0
          try clear c2b1
          try clear p2
          try clear c3
          try clear c6
          try clear c6b0
          try clear c7
          try clear c7b0
          try clear c7b1
          try clear c8
          try clear c8b0
          try clear c8b1
          try clear c10
          try clear c10b0
          try clear p2
          obtain ⟨x5_2, x9_2, rfl, HA, HK2, HO_5, HO_7, HB⟩ := hrel
          cases gk with
          | zero => exact absurd HA.out (by simp [spec_ScanOps.l1])
          | succ k2 =>
           have H := HA.out
           clear HA
           simp only [spec_ScanOps.l1] at H
           by_cases c15 : x9_2 < (t574.length : Int)
           ·rw [if_pos c15] at H
            have c15b0 : decide (x9_2 < (t574.length : Int)) = true := decide_eq_true c15
            clear c15
            by_cases c16 : 0 ≤ x9_2
            ·rw [if_pos c16] at H
             have c16b0 : decide (0 ≤ x9_2) = true := decide_eq_true c16
             clear c16
             by_cases c17 : x5_2.length < 5864062014805
             ·rw [if_pos c17] at H
              have LMc17 := Aside0.mk c17
              clear c17
              obtain ⟨y579, hy579⟩ : ∃ y_ : List (S38), y_ = (x5_2 ++ [(⟨(rd_T38 t574 x9_2).f0, (rd_T38 t574 x9_2).f1, (rd_T38 t574 x9_2).f2⟩ : S38)]) := ⟨_, rfl⟩
              replace H : (spec_ScanOps.l1 k2 l0 y579 x6_1 t574 t575 (wrap64 (x9_2 + 1))) = some (r1, r2, r3) := by first | (rw [hy579]; exact H) | exact H
              have Ny579 := Aside0.mk hy579
              clear hy579
              have H' := Aside0.mk H
              clear H
              obtain ⟨Ao18, co18, eo18⟩ := Kd.R_slice HO_7.out
              subst eo18
              have p578 : 0 ≤ (x9_2 : Int) := of_decide_eq_true (by first | (with_reducible assumption) | assumption)
              have q578 : x9_2 < (t574.length : Int) := of_decide_eq_true (by first | (with_reducible assumption) | assumption)
              obtain ⟨ad578, e578, hx578_0, hx578_1, hx578_2⟩ := at_T38 (Kd.R_reads' HO_7.out).2.2 x9_2 p578 q578
              cases e578
              replace p578 := eq_true p578
              replace q578 := eq_true q578
              go_wp2_with (first | ((with_reducible refine gate_builtin (b := .append) (xs := #[.tmp 34, .tmp 39]) rfl ?_); (try (refine gate_guard (by rfl) ?_; dsimp only)); at_builtin; refine Kd.R_append k38 (w0 := w) w.heap.size rfl (.tmp 34) (.tmp 39) 24 38 (.agg #[(.int .i64 0), (.int .i64 0), (.int .i64 0)]) 24 rfl Try.underlying24 info38 rfl (by decide) (by omega) u5 x5_2 (⟨(rd_T38 t574 x9_2).f0, (rd_T38 t574 x9_2).f1, (rd_T38 t574 x9_2).f2⟩ : S38) [.int .i64 ((rd_T38 t574 x9_2).f0), .int .i64 ((rd_T38 t574 x9_2).f1), .int .i64 ((rd_T38 t574 x9_2).f2)] (fun k_ => some k_ ≠ (.slice (some ad578) t574.length co18 : Value).ownBlock) (fun _ => False) rfl rfl ?aP (fun _ hk => hk.elim) ?aF ?aO ?aB ?aS ?aL ?_; (case aP => exact k38_mkM _ _ _ (⟨(rd_T38 t574 x9_2).f0, (rd_T38 t574 x9_2).f1, (rd_T38 t574 x9_2).f2⟩ : S38)); (case aB => exact (by with_reducible repeat (first | exact HB.out | apply below_alloc | apply pw_below_drewN | apply below_drew1))); (case aF => exact (fun k_ hk => Kd.fresh' (Kd.R_lt (by (with_reducible repeat (first | apply Kd.R_alloc | apply Kd.R_drewN | apply Kd.R_drew)); exact HO_7.out)) k_ hk)); (case aO => exact (by (with_reducible repeat (first | apply Kd.R_alloc | apply Kd.R_drewN | apply Kd.R_drew)); exact HO_5.out)); (case aS => exact (below_size (by with_reducible repeat (first | exact HB.out | apply below_alloc | apply pw_below_drewN | apply below_drew1)))); (case aL => have := LMc17.out; omega); intro v580 w19 ho hb hg hat; rw [← Ny579.out] at ho; have n0_ := Aside0.mk (Kd.R_after (ok := (fun _ => True)) (by (with_reducible repeat (first | apply Kd.R_alloc | apply Kd.R_drewN | apply Kd.R_drew)); exact Kd.R_mono HO_7.out (fun _ hk => ⟨trivial, hk⟩)) hg hat); have n1_ := Aside0.mk (hb); have n2_ := Aside0.mk (ho); clear HO_7 HB HO_5; have HO_7 := n0_; have HB := n1_; have HO581 := n2_; clear n0_ n1_ n2_; clear ho hb hg hat))
              go_roundg k2
              case measure => have := HK1.out; have := HK2.out; omega
              case rel => exact ⟨(y579), (wrap64 (x9_2 + 1)), (by first | rfl | simp | simp [*]), H', ⟨by have := HK1.out; have := HK2.out; omega⟩, ⟨by (with_reducible repeat (first | apply Kd.R_alloc | apply Kd.R_drewN | apply Kd.R_drew)); exact HO581.out⟩, ⟨by (with_reducible repeat (first | apply Kd.R_alloc | apply Kd.R_drewN | apply Kd.R_drew)); exact Kd.R_mono HO_7.out (fun _ hk => hk.2)⟩, ⟨by with_reducible repeat (first | exact HB.out | apply below_alloc | apply pw_below_drewN | apply below_drew1)⟩⟩
             ·rw [if_neg c17] at H
              exact absurd H (by simp)
            ·rw [if_neg c16] at H
             exact absurd H (by simp)
           ·rw [if_neg c15] at H
            have c15b0 : decide (x9_2 < (t574.length : Int)) = false := decide_eq_false c15
            clear c15
            have H' := Aside0.mk H
            clear H
            obtain ⟨Ao20, co20, eo20⟩ := Kd.R_slice HO_7.out
            subst eo20
            go_wp2
            go_roundg k2
            case measure => have := HK1.out; have := HK2.out; omega
            case rel => exact ⟨(x5_2), (wrap64 (x6_1 + t575)), (by first | rfl | simp | simp [*]), H', ⟨by have := HK1.out; have := HK2.out; omega⟩, ⟨by (with_reducible repeat (first | apply Kd.R_alloc | apply Kd.R_drewN | apply Kd.R_drew)); exact Kd.R_mono HO_5.out (fun _ hk => trivial)⟩, ⟨by with_reducible repeat (first | exact HB.out | apply below_alloc | apply pw_below_drewN | apply below_drew1)⟩⟩
       ·rw [if_neg c8] at H
        exact absurd H (by simp)
      ·rw [if_neg c7] at H
       exact absurd H (by simp)
     ·rw [if_neg c6] at H
      have c6b0 : decide (x6_1 < (l0.length : Int)) = false := decide_eq_false c6
      clear c6
      (first | rw [c6b0] | rw [c6b1] | (simp only [i64_w, i32_w]; rw [c6b0]) | skip)
      have H' := Aside0.mk H
      clear H
      go_wp2
      go_meet
      case rel => exact ⟨_, (x5_1), (x6_1), (by first | rfl | simp | simp [*]), H', ⟨by have := HK1.out; first | omega | exact Nat.le_refl _⟩, ⟨by (with_reducible repeat (first | apply Kd.R_alloc | apply Kd.R_drewN | apply Kd.R_drew)); exact HO_5.out⟩, ⟨by with_reducible repeat (first | exact HB.out | apply below_alloc | apply pw_below_drewN | apply below_drew1)⟩⟩
  case rest =>
   clear HC3
   try clear c1
   try clear c2
   try clear c2b0
   try clear c2b1
   try clear p2
   try clear c3
   try clear p5
   try clear q5
   try clear hx5
   try clear c6
   try clear c6b0
   try clear p6
   try clear c7
   try clear c7b0
   try clear c7b1
   try clear c8
   try clear c8b0
   try clear c8b1
   try clear c10
   try clear c10b0
   try clear c15
   try clear c15b0
   try clear c16
   try clear c16b0
   try clear c17
   try clear hx578_0
   try clear hx578_1
   try clear hx578_2
   try clear p2
   try clear p578
   try clear q578
   obtain ⟨kq, x5_2, x6_2, rfl, HA, HJ2, HO_5, HB⟩ := hcut
   cases kq with
   | zero => exact absurd HA.out (by simp [spec_ScanOps.j2])
   | succ kj2 =>
    have H := HA.out
    clear HA
    simp only [spec_ScanOps.j2] at H
    by_cases c21 : 0 ≤ x6_2
    ·rw [if_pos c21] at H
     have c21b0 := eq_true c21
     have c21b1 : decide (0 ≤ x6_2) = true := decide_eq_true c21
     clear c21
     by_cases c22 : x6_2 ≤ (l0.length : Int)
     ·rw [if_pos c22] at H
      have c22b0 := eq_true c22
      have c22b1 : decide (x6_2 ≤ (l0.length : Int)) = true := decide_eq_true c22
      clear c22
      by_cases c23 : ((l0.drop (x6_2 : Int).toNat).length : Int) = 0
      ·rw [if_pos c23] at H
       have c23b0 : (((l0.drop (x6_2 : Int).toNat).length : Int) == 0) = true := beq_iff_eq.mpr c23
       have c23b0n : (((l0.length - (x6_2 : Int).toNat : Nat) : Int) == 0) = true := by have h_ := c23b0; rw [List.length_drop] at h_; exact h_
       have c23b1 : (((l0.drop (x6_2 : Int).toNat).length : Int) != 0) = false := bne_eq_false_iff_eq.mpr c23
       have c23b1n : (((l0.length - (x6_2 : Int).toNat : Nat) : Int) != 0) = false := by have h_ := c23b1; rw [List.length_drop] at h_; exact h_
       clear c23
       simp only [Option.some.injEq, Prod.mk.injEq] at H
       obtain ⟨rfl, rfl, rfl⟩ := H
       obtain ⟨i024, hi024, _, hsz24, _⟩ := info_parts info5
       obtain ⟨A24, hcut24, hA24, hC24⟩ := print_drop_of (P := Try.prog) (Value.int .u8) 0 22 5 .i64 Try.underlying22 hi024 hsz24 A0 c0 l0 x6_2 (of_decide_eq_true (by first | (with_reducible assumption) | assumption)) (of_decide_eq_true (by first | (with_reducible assumption) | assumption)) HC0.out
       have HR582 := Aside0.mk (Kd.C_of_reads (h1 := fun _ => rfl) (hA24 _ (Kd.reads_of_C HR0.out)))
       have HC582 := Aside0.mk hC24
       clear hA24 hC24 hi024 hsz24
       go_wp2
       go_ret3
       exact ⟨_, by first | rfl | (simp [errW_none, errW_some] <;> rfl) | (simp [*, errW_none, errW_some] <;> rfl), by (with_reducible repeat (first | apply Kd.R_alloc | apply Kd.R_drewN | apply Kd.R_drew)); exact HO_5.out, by with_reducible repeat (first | exact HB.out | apply below_alloc | apply pw_below_drewN | apply below_drew1)⟩
      ·rw [if_neg c23] at H
       have c23b0 : (((l0.drop (x6_2 : Int).toNat).length : Int) == 0) = false := beq_eq_false_iff_ne.mpr c23
       have c23b0n : (((l0.length - (x6_2 : Int).toNat : Nat) : Int) == 0) = false := by have h_ := c23b0; rw [List.length_drop] at h_; exact h_
       have c23b1 : (((l0.drop (x6_2 : Int).toNat).length : Int) != 0) = true := bne_iff_ne.mpr c23
       have c23b1n : (((l0.length - (x6_2 : Int).toNat : Nat) : Int) != 0) = true := by have h_ := c23b1; rw [List.length_drop] at h_; exact h_
       have c23b2 : ¬ ((l0.drop (x6_2 : Int).toNat) = []) := fun h_ => c23 (by rw [h_]; rfl)
       by_cases c25 : ((l0.drop (x6_2 : Int).toNat).length : Int) < 2
       ·rw [if_pos c25] at H
        have c25b0 : decide (((l0.drop (x6_2 : Int).toNat).length : Int) < 2) = true := decide_eq_true c25
        have c25b0n : decide (((l0.length - (x6_2 : Int).toNat : Nat) : Int) < 2) = true := by have h_ := c25b0; rw [List.length_drop] at h_; exact h_
        have c25b1 : decide ((l0.drop (x6_2 : Int).toNat).length < 2) = true := decide_eq_true (by omega)
        have c25b1n : decide ((l0.length - (x6_2 : Int).toNat : Nat) < 2) = true := by have h_ := c25b1; rw [List.length_drop] at h_; exact h_
        clear c25
        simp only [Option.some.injEq, Prod.mk.injEq] at H
        obtain ⟨rfl, rfl, rfl⟩ := H
        obtain ⟨i026, hi026, _, hsz26, _⟩ := info_parts info5
        obtain ⟨A26, hcut26, hA26, hC26⟩ := print_drop_of (P := Try.prog) (Value.int .u8) 0 22 5 .i64 Try.underlying22 hi026 hsz26 A0 c0 l0 x6_2 (of_decide_eq_true (by first | (with_reducible assumption) | assumption)) (of_decide_eq_true (by first | (with_reducible assumption) | assumption)) HC0.out
        have HR582 := Aside0.mk (Kd.C_of_reads (h1 := fun _ => rfl) (hA26 _ (Kd.reads_of_C HR0.out)))
        have HC582 := Aside0.mk hC26
        clear hA26 hC26 hi026 hsz26
        go_wp2
        go_ret3
        exact ⟨_, by first | rfl | (simp [errW_none, errW_some] <;> rfl) | (simp [*, errW_none, errW_some] <;> rfl), by (with_reducible repeat (first | apply Kd.R_alloc | apply Kd.R_drewN | apply Kd.R_drew)); exact HO_5.out, by with_reducible repeat (first | exact HB.out | apply below_alloc | apply pw_below_drewN | apply below_drew1)⟩
       ·rw [if_neg c25] at H
        have c25b0 : decide (((l0.drop (x6_2 : Int).toNat).length : Int) < 2) = false := decide_eq_false c25
        have c25b0n : decide (((l0.length - (x6_2 : Int).toNat : Nat) : Int) < 2) = false := by have h_ := c25b0; rw [List.length_drop] at h_; exact h_
        have c25b1 : decide ((l0.drop (x6_2 : Int).toNat).length < 2) = false := decide_eq_false (by omega)
        have c25b1n : decide ((l0.length - (x6_2 : Int).toNat : Nat) < 2) = false := by have h_ := c25b1; rw [List.length_drop] at h_; exact h_
        clear c25
        by_cases c27 : 0 < ((l0.drop (x6_2 : Int).toNat).length : Int)
        ·rw [if_pos c27] at H
         have c27b0 : decide (0 < ((l0.drop (x6_2 : Int).toNat).length : Int)) = true := decide_eq_true c27
         have c27b0n : decide (0 < ((l0.length - (x6_2 : Int).toNat : Nat) : Int)) = true := by have h_ := c27b0; rw [List.length_drop] at h_; exact h_
         have c27b1 : decide (0 < (l0.drop (x6_2 : Int).toNat).length) = true := decide_eq_true (by omega)
         have c27b1n : decide (0 < (l0.length - (x6_2 : Int).toNat : Nat)) = true := by have h_ := c27b1; rw [List.length_drop] at h_; exact h_
         clear c27
         replace H := Option.bind_eq_some_iff.mp H
         obtain ⟨t584, A280, H⟩ := H
         replace H : (if t584 = true then (if 1 < ((l0.drop (x6_2 : Int).toNat).length : Int) then ((spec_l01In.f (wrap64 (rd (l0.drop (x6_2 : Int).toNat) 1)) 1 32).bind fun t586 => (if t586 = true then (if ((l0.drop (x6_2 : Int).toNat).length : Int) < (wrap64 ((wrap64 (rd (l0.drop (x6_2 : Int).toNat) 1)) + 4)) then (some (x5_2, x6_2, 1)) else (some (x5_2, x6_2, 2))) else (some (x5_2, x6_2, 2)))) else (none)) else (some (x5_2, x6_2, 2))) = some (r1, r2, r3) := H
         have A28 := Aside0.mk A280
         clear A280
         by_cases c29 : t584 = true
         ·subst c29
          have H1 : (if 1 < ((l0.drop (x6_2 : Int).toNat).length : Int) then ((spec_l01In.f (wrap64 (rd (l0.drop (x6_2 : Int).toNat) 1)) 1 32).bind fun t586 => (if t586 = true then (if ((l0.drop (x6_2 : Int).toNat).length : Int) < (wrap64 ((wrap64 (rd (l0.drop (x6_2 : Int).toNat) 1)) + 4)) then (some (x5_2, x6_2, 1)) else (some (x5_2, x6_2, 2))) else (some (x5_2, x6_2, 2)))) else (none)) = some (r1, r2, r3) := by rw [if_pos rfl] at H; exact H
          clear H
          have H := H1
          clear H1
          by_cases c30 : 1 < ((l0.drop (x6_2 : Int).toNat).length : Int)
          ·rw [if_pos c30] at H
           have c30b0 : decide (1 < ((l0.drop (x6_2 : Int).toNat).length : Int)) = true := decide_eq_true c30
           have c30b0n : decide (1 < ((l0.length - (x6_2 : Int).toNat : Nat) : Int)) = true := by have h_ := c30b0; rw [List.length_drop] at h_; exact h_
           have c30b1 : decide (1 < (l0.drop (x6_2 : Int).toNat).length) = true := decide_eq_true (by omega)
           have c30b1n : decide (1 < (l0.length - (x6_2 : Int).toNat : Nat)) = true := by have h_ := c30b1; rw [List.length_drop] at h_; exact h_
           clear c30
           replace H := Option.bind_eq_some_iff.mp H
           obtain ⟨t586, A310, H⟩ := H
           replace H : (if t586 = true then (if ((l0.drop (x6_2 : Int).toNat).length : Int) < (wrap64 ((wrap64 (rd (l0.drop (x6_2 : Int).toNat) 1)) + 4)) then (some (x5_2, x6_2, 1)) else (some (x5_2, x6_2, 2))) else (some (x5_2, x6_2, 2))) = some (r1, r2, r3) := H
           have A31 := Aside0.mk A310
           clear A310
           by_cases c32 : t586 = true
           ·subst c32
            have H1 : (if ((l0.drop (x6_2 : Int).toNat).length : Int) < (wrap64 ((wrap64 (rd (l0.drop (x6_2 : Int).toNat) 1)) + 4)) then (some (x5_2, x6_2, 1)) else (some (x5_2, x6_2, 2))) = some (r1, r2, r3) := by rw [if_pos rfl] at H; exact H
            clear H
            have H := H1
            clear H1
            by_cases c33 : ((l0.drop (x6_2 : Int).toNat).length : Int) < (wrap64 ((wrap64 (rd (l0.drop (x6_2 : Int).toNat) 1)) + 4))
            ·rw [if_pos c33] at H
             have c33b0 : decide (((l0.drop (x6_2 : Int).toNat).length : Int) < (wrap64 ((wrap64 (rd (l0.drop (x6_2 : Int).toNat) 1)) + 4))) = true := decide_eq_true c33
             have c33b0n : decide (((l0.length - (x6_2 : Int).toNat : Nat) : Int) < (wrap64 ((wrap64 (rd (l0.drop (x6_2 : Int).toNat) 1)) + 4))) = true := by have h_ := c33b0; rw [List.length_drop] at h_; exact h_
             clear c33
             simp only [Option.some.injEq, Prod.mk.injEq] at H
             obtain ⟨rfl, rfl, rfl⟩ := H
             obtain ⟨i034, hi034, _, hsz34, _⟩ := info_parts info5
             obtain ⟨A34, hcut34, hA34, hC34⟩ := print_drop_of (P := Try.prog) (Value.int .u8) 0 22 5 .i64 Try.underlying22 hi034 hsz34 A0 c0 l0 x6_2 (of_decide_eq_true (by first | (with_reducible assumption) | assumption)) (of_decide_eq_true (by first | (with_reducible assumption) | assumption)) HC0.out
             have HR582 := Aside0.mk (Kd.C_of_reads (h1 := fun _ => rfl) (hA34 _ (Kd.reads_of_C HR0.out)))
             have HC582 := Aside0.mk hC34
             clear hA34 hC34 hi034 hsz34
             have p583 : 0 ≤ (0 : Int) := (by omega)
             have q583 : 0 < ((l0.drop (x6_2 : Int).toNat).length : Int) := of_decide_eq_true (by first | (with_reducible assumption) | assumption)
             obtain ⟨ad583, e583, hx583_0⟩ := Kd.at_int HR582.out 0 p583 q583
             cases e583
             have qi583 : (0 < (l0.drop (x6_2 : Int).toNat).length) = True := eq_true (by omega); have qj583 : (0 < (l0.length - (x6_2 : Int).toNat : Nat)) = True := (by have h_ := qi583; rw [List.length_drop] at h_; exact h_); have qk583 : (0 < ((l0.length - (x6_2 : Int).toNat : Nat) : Int)) = True := (by have h_ := qj583; rw [eq_iff_iff, iff_true] at h_ ⊢; omega); have qj583 : (0 < (l0.length - (x6_2 : Int).toNat : Nat)) = True := (by have h_ := qi583; rw [List.length_drop] at h_; exact h_); have qk583 : (0 < ((l0.length - (x6_2 : Int).toNat : Nat) : Int)) = True := (by have h_ := qj583; rw [eq_iff_iff, iff_true] at h_ ⊢; omega)
             (try rw [show ((0 : Int)).toNat = 0 from rfl] at hx583_0)
             (try rw [Addr.add_zero'] at hx583_0)
             replace hx583_0 := (HB.out.cell (World.block_lt_of_cell? w _ hx583_0)).trans hx583_0
             replace p583 := eq_true p583
             replace q583 := eq_true q583
             go_wp2_with (first | (go_at_call 32; (with_reducible refine (spec_l01In.calls (wrap64 (rd (l0.drop (x6_2 : Int).toNat) 0)) 1 16 true _ A28.out).mono ?_); rintro e w' ⟨rfl, ⟨nd, rfl⟩⟩; have p585 : 0 ≤ (1 : Int) := (by omega); have q585 : 1 < ((l0.drop (x6_2 : Int).toNat).length : Int) := of_decide_eq_true (by first | (with_reducible assumption) | assumption); obtain ⟨ad585, e585, hx585_0⟩ := Kd.at_int HR582.out 1 p585 q585; obtain rfl : ad583 = ad585 := (by injection e585); (try simp only [show (1 : Int).toNat = 1 from rfl, Nat.reduceMul, Nat.reduceEqDiff, Go.Addr.add, ↓reduceIte] at hx585_0); have qi585 : (1 < (l0.drop (x6_2 : Int).toNat).length) = True := eq_true (by omega); have qj585 : (1 < (l0.length - (x6_2 : Int).toNat : Nat)) = True := (by have h_ := qi585; rw [List.length_drop] at h_; exact h_); have qk585 : (1 < ((l0.length - (x6_2 : Int).toNat : Nat) : Int)) = True := (by have h_ := qj585; rw [eq_iff_iff, iff_true] at h_ ⊢; omega); (try rw [show ((1 : Int)).toNat = 1 from rfl] at hx585_0); replace hx585_0 := (HB.out.cell (World.block_lt_of_cell? w _ hx585_0)).trans hx585_0; replace p585 := eq_true p585; replace q585 := eq_true q585) | (go_at_call 32; (with_reducible refine (spec_l01In.calls (wrap64 (rd (l0.drop (x6_2 : Int).toNat) 1)) 1 32 true _ A31.out).mono ?_); rintro e w' ⟨rfl, ⟨nd, rfl⟩⟩; have p587 : 0 ≤ (1 : Int) := (by omega); have q587 : 1 < ((l0.drop (x6_2 : Int).toNat).length : Int) := of_decide_eq_true (by first | (with_reducible assumption) | assumption); obtain ⟨ad587, e587, hx587_0⟩ := Kd.at_int HR582.out 1 p587 q587; obtain rfl : ad583 = ad587 := (by injection e587); (try simp only [show (1 : Int).toNat = 1 from rfl, Nat.reduceMul, Nat.reduceEqDiff, Go.Addr.add, ↓reduceIte] at hx587_0); have qi587 : (1 < (l0.drop (x6_2 : Int).toNat).length) = True := eq_true (by omega); have qj587 : (1 < (l0.length - (x6_2 : Int).toNat : Nat)) = True := (by have h_ := qi587; rw [List.length_drop] at h_; exact h_); have qk587 : (1 < ((l0.length - (x6_2 : Int).toNat : Nat) : Int)) = True := (by have h_ := qj587; rw [eq_iff_iff, iff_true] at h_ ⊢; omega); (try rw [show ((1 : Int)).toNat = 1 from rfl] at hx587_0); replace hx587_0 := (HB.out.cell (World.block_lt_of_cell? w _ hx587_0)).trans hx587_0; replace p587 := eq_true p587; replace q587 := eq_true q587))
             go_ret3
             exact ⟨_, by first | rfl | (simp [errW_none, errW_some] <;> rfl) | (simp [*, errW_none, errW_some] <;> rfl), by (with_reducible repeat (first | apply Kd.R_alloc | apply Kd.R_drewN | apply Kd.R_drew)); exact HO_5.out, by with_reducible repeat (first | exact HB.out | apply below_alloc | apply pw_below_drewN | apply below_drew1)⟩
            ·rw [if_neg c33] at H
             have c33b0 : decide (((l0.drop (x6_2 : Int).toNat).length : Int) < (wrap64 ((wrap64 (rd (l0.drop (x6_2 : Int).toNat) 1)) + 4))) = false := decide_eq_false c33
             have c33b0n : decide (((l0.length - (x6_2 : Int).toNat : Nat) : Int) < (wrap64 ((wrap64 (rd (l0.drop (x6_2 : Int).toNat) 1)) + 4))) = false := by have h_ := c33b0; rw [List.length_drop] at h_; exact h_
             clear c33
             simp only [Option.some.injEq, Prod.mk.injEq] at H
             obtain ⟨rfl, rfl, rfl⟩ := H
             obtain ⟨i035, hi035, _, hsz35, _⟩ := info_parts info5
             obtain ⟨A35, hcut35, hA35, hC35⟩ := print_drop_of (P := Try.prog) (Value.int .u8) 0 22 5 .i64 Try.underlying22 hi035 hsz35 A0 c0 l0 x6_2 (of_decide_eq_true (by first | (with_reducible assumption) | assumption)) (of_decide_eq_true (by first | (with_reducible assumption) | assumption)) HC0.out
             have HR582 := Aside0.mk (Kd.C_of_reads (h1 := fun _ => rfl) (hA35 _ (Kd.reads_of_C HR0.out)))
             have HC582 := Aside0.mk hC35
             clear hA35 hC35 hi035 hsz35
             have p583 : 0 ≤ (0 : Int) := (by omega)
             have q583 : 0 < ((l0.drop (x6_2 : Int).toNat).length : Int) := of_decide_eq_true (by first | (with_reducible assumption) | assumption)
             obtain ⟨ad583, e583, hx583_0⟩ := Kd.at_int HR582.out 0 p583 q583
             cases e583
             have qi583 : (0 < (l0.drop (x6_2 : Int).toNat).length) = True := eq_true (by omega); have qj583 : (0 < (l0.length - (x6_2 : Int).toNat : Nat)) = True := (by have h_ := qi583; rw [List.length_drop] at h_; exact h_); have qk583 : (0 < ((l0.length - (x6_2 : Int).toNat : Nat) : Int)) = True := (by have h_ := qj583; rw [eq_iff_iff, iff_true] at h_ ⊢; omega); have qj583 : (0 < (l0.length - (x6_2 : Int).toNat : Nat)) = True := (by have h_ := qi583; rw [List.length_drop] at h_; exact h_); have qk583 : (0 < ((l0.length - (x6_2 : Int).toNat : Nat) : Int)) = True := (by have h_ := qj583; rw [eq_iff_iff, iff_true] at h_ ⊢; omega)
             (try rw [show ((0 : Int)).toNat = 0 from rfl] at hx583_0)
             (try rw [Addr.add_zero'] at hx583_0)
             replace hx583_0 := (HB.out.cell (World.block_lt_of_cell? w _ hx583_0)).trans hx583_0
             replace p583 := eq_true p583
             replace q583 := eq_true q583
             go_wp2_with (first | (go_at_call 32; (with_reducible refine (spec_l01In.calls (wrap64 (rd (l0.drop (x6_2 : Int).toNat) 0)) 1 16 true _ A28.out).mono ?_); rintro e w' ⟨rfl, ⟨nd, rfl⟩⟩; have p585 : 0 ≤ (1 : Int) := (by omega); have q585 : 1 < ((l0.drop (x6_2 : Int).toNat).length : Int) := of_decide_eq_true (by first | (with_reducible assumption) | assumption); obtain ⟨ad585, e585, hx585_0⟩ := Kd.at_int HR582.out 1 p585 q585; obtain rfl : ad583 = ad585 := (by injection e585); (try simp only [show (1 : Int).toNat = 1 from rfl, Nat.reduceMul, Nat.reduceEqDiff, Go.Addr.add, ↓reduceIte] at hx585_0); have qi585 : (1 < (l0.drop (x6_2 : Int).toNat).length) = True := eq_true (by omega); have qj585 : (1 < (l0.length - (x6_2 : Int).toNat : Nat)) = True := (by have h_ := qi585; rw [List.length_drop] at h_; exact h_); have qk585 : (1 < ((l0.length - (x6_2 : Int).toNat : Nat) : Int)) = True := (by have h_ := qj585; rw [eq_iff_iff, iff_true] at h_ ⊢; omega); (try rw [show ((1 : Int)).toNat = 1 from rfl] at hx585_0); replace hx585_0 := (HB.out.cell (World.block_lt_of_cell? w _ hx585_0)).trans hx585_0; replace p585 := eq_true p585; replace q585 := eq_true q585) | (go_at_call 32; (with_reducible refine (spec_l01In.calls (wrap64 (rd (l0.drop (x6_2 : Int).toNat) 1)) 1 32 true _ A31.out).mono ?_); rintro e w' ⟨rfl, ⟨nd, rfl⟩⟩; have p587 : 0 ≤ (1 : Int) := (by omega); have q587 : 1 < ((l0.drop (x6_2 : Int).toNat).length : Int) := of_decide_eq_true (by first | (with_reducible assumption) | assumption); obtain ⟨ad587, e587, hx587_0⟩ := Kd.at_int HR582.out 1 p587 q587; obtain rfl : ad583 = ad587 := (by injection e587); (try simp only [show (1 : Int).toNat = 1 from rfl, Nat.reduceMul, Nat.reduceEqDiff, Go.Addr.add, ↓reduceIte] at hx587_0); have qi587 : (1 < (l0.drop (x6_2 : Int).toNat).length) = True := eq_true (by omega); have qj587 : (1 < (l0.length - (x6_2 : Int).toNat : Nat)) = True := (by have h_ := qi587; rw [List.length_drop] at h_; exact h_); have qk587 : (1 < ((l0.length - (x6_2 : Int).toNat : Nat) : Int)) = True := (by have h_ := qj587; rw [eq_iff_iff, iff_true] at h_ ⊢; omega); (try rw [show ((1 : Int)).toNat = 1 from rfl] at hx587_0); replace hx587_0 := (HB.out.cell (World.block_lt_of_cell? w _ hx587_0)).trans hx587_0; replace p587 := eq_true p587; replace q587 := eq_true q587))
             go_ret3
             exact ⟨_, by first | rfl | (simp [errW_none, errW_some] <;> rfl) | (simp [*, errW_none, errW_some] <;> rfl), by (with_reducible repeat (first | apply Kd.R_alloc | apply Kd.R_drewN | apply Kd.R_drew)); exact HO_5.out, by with_reducible repeat (first | exact HB.out | apply below_alloc | apply pw_below_drewN | apply below_drew1)⟩
           ·replace c32 := Bool.eq_false_iff.mpr c32
            subst c32
            have H1 : (some (x5_2, x6_2, 2)) = some (r1, r2, r3) := by rw [if_neg (show ¬ (false = true) by decide)] at H; exact H
            clear H
            have H := H1
            clear H1
            simp only [Option.some.injEq, Prod.mk.injEq] at H
            obtain ⟨rfl, rfl, rfl⟩ := H
            obtain ⟨i036, hi036, _, hsz36, _⟩ := info_parts info5
            obtain ⟨A36, hcut36, hA36, hC36⟩ := print_drop_of (P := Try.prog) (Value.int .u8) 0 22 5 .i64 Try.underlying22 hi036 hsz36 A0 c0 l0 x6_2 (of_decide_eq_true (by first | (with_reducible assumption) | assumption)) (of_decide_eq_true (by first | (with_reducible assumption) | assumption)) HC0.out
            have HR582 := Aside0.mk (Kd.C_of_reads (h1 := fun _ => rfl) (hA36 _ (Kd.reads_of_C HR0.out)))
            have HC582 := Aside0.mk hC36
            clear hA36 hC36 hi036 hsz36
            have p583 : 0 ≤ (0 : Int) := (by omega)
            have q583 : 0 < ((l0.drop (x6_2 : Int).toNat).length : Int) := of_decide_eq_true (by first | (with_reducible assumption) | assumption)
            obtain ⟨ad583, e583, hx583_0⟩ := Kd.at_int HR582.out 0 p583 q583
            cases e583
            have qi583 : (0 < (l0.drop (x6_2 : Int).toNat).length) = True := eq_true (by omega); have qj583 : (0 < (l0.length - (x6_2 : Int).toNat : Nat)) = True := (by have h_ := qi583; rw [List.length_drop] at h_; exact h_); have qk583 : (0 < ((l0.length - (x6_2 : Int).toNat : Nat) : Int)) = True := (by have h_ := qj583; rw [eq_iff_iff, iff_true] at h_ ⊢; omega); have qj583 : (0 < (l0.length - (x6_2 : Int).toNat : Nat)) = True := (by have h_ := qi583; rw [List.length_drop] at h_; exact h_); have qk583 : (0 < ((l0.length - (x6_2 : Int).toNat : Nat) : Int)) = True := (by have h_ := qj583; rw [eq_iff_iff, iff_true] at h_ ⊢; omega)
            (try rw [show ((0 : Int)).toNat = 0 from rfl] at hx583_0)
            (try rw [Addr.add_zero'] at hx583_0)
            replace hx583_0 := (HB.out.cell (World.block_lt_of_cell? w _ hx583_0)).trans hx583_0
            replace p583 := eq_true p583
            replace q583 := eq_true q583
            go_wp2_with (first | (go_at_call 32; (with_reducible refine (spec_l01In.calls (wrap64 (rd (l0.drop (x6_2 : Int).toNat) 0)) 1 16 true _ A28.out).mono ?_); rintro e w' ⟨rfl, ⟨nd, rfl⟩⟩; have p585 : 0 ≤ (1 : Int) := (by omega); have q585 : 1 < ((l0.drop (x6_2 : Int).toNat).length : Int) := of_decide_eq_true (by first | (with_reducible assumption) | assumption); obtain ⟨ad585, e585, hx585_0⟩ := Kd.at_int HR582.out 1 p585 q585; obtain rfl : ad583 = ad585 := (by injection e585); (try simp only [show (1 : Int).toNat = 1 from rfl, Nat.reduceMul, Nat.reduceEqDiff, Go.Addr.add, ↓reduceIte] at hx585_0); have qi585 : (1 < (l0.drop (x6_2 : Int).toNat).length) = True := eq_true (by omega); have qj585 : (1 < (l0.length - (x6_2 : Int).toNat : Nat)) = True := (by have h_ := qi585; rw [List.length_drop] at h_; exact h_); have qk585 : (1 < ((l0.length - (x6_2 : Int).toNat : Nat) : Int)) = True := (by have h_ := qj585; rw [eq_iff_iff, iff_true] at h_ ⊢; omega); (try rw [show ((1 : Int)).toNat = 1 from rfl] at hx585_0); replace hx585_0 := (HB.out.cell (World.block_lt_of_cell? w _ hx585_0)).trans hx585_0; replace p585 := eq_true p585; replace q585 := eq_true q585) | (go_at_call 32; (with_reducible refine (spec_l01In.calls (wrap64 (rd (l0.drop (x6_2 : Int).toNat) 1)) 1 32 false _ A31.out).mono ?_); rintro e w' ⟨rfl, ⟨nd, rfl⟩⟩))
            go_ret3
            exact ⟨_, by first | rfl | (simp [errW_none, errW_some] <;> rfl) | (simp [*, errW_none, errW_some] <;> rfl), by (with_reducible repeat (first | apply Kd.R_alloc | apply Kd.R_drewN | apply Kd.R_drew)); exact HO_5.out, by with_reducible repeat (first | exact HB.out | apply below_alloc | apply pw_below_drewN | apply below_drew1)⟩
          ·rw [if_neg c30] at H
           exact absurd H (by simp)
         ·replace c29 := Bool.eq_false_iff.mpr c29
          subst c29
          have H1 : (some (x5_2, x6_2, 2)) = some (r1, r2, r3) := by rw [if_neg (show ¬ (false = true) by decide)] at H; exact H
          clear H
          have H := H1
          clear H1
          simp only [Option.some.injEq, Prod.mk.injEq] at H
          obtain ⟨rfl, rfl, rfl⟩ := H
          obtain ⟨i037, hi037, _, hsz37, _⟩ := info_parts info5
          obtain ⟨A37, hcut37, hA37, hC37⟩ := print_drop_of (P := Try.prog) (Value.int .u8) 0 22 5 .i64 Try.underlying22 hi037 hsz37 A0 c0 l0 x6_2 (of_decide_eq_true (by first | (with_reducible assumption) | assumption)) (of_decide_eq_true (by first | (with_reducible assumption) | assumption)) HC0.out
          have HR582 := Aside0.mk (Kd.C_of_reads (h1 := fun _ => rfl) (hA37 _ (Kd.reads_of_C HR0.out)))
          have HC582 := Aside0.mk hC37
          clear hA37 hC37 hi037 hsz37
          have p583 : 0 ≤ (0 : Int) := (by omega)
          have q583 : 0 < ((l0.drop (x6_2 : Int).toNat).length : Int) := of_decide_eq_true (by first | (with_reducible assumption) | assumption)
          obtain ⟨ad583, e583, hx583_0⟩ := Kd.at_int HR582.out 0 p583 q583
          cases e583
          have qi583 : (0 < (l0.drop (x6_2 : Int).toNat).length) = True := eq_true (by omega); have qj583 : (0 < (l0.length - (x6_2 : Int).toNat : Nat)) = True := (by have h_ := qi583; rw [List.length_drop] at h_; exact h_); have qk583 : (0 < ((l0.length - (x6_2 : Int).toNat : Nat) : Int)) = True := (by have h_ := qj583; rw [eq_iff_iff, iff_true] at h_ ⊢; omega); have qj583 : (0 < (l0.length - (x6_2 : Int).toNat : Nat)) = True := (by have h_ := qi583; rw [List.length_drop] at h_; exact h_); have qk583 : (0 < ((l0.length - (x6_2 : Int).toNat : Nat) : Int)) = True := (by have h_ := qj583; rw [eq_iff_iff, iff_true] at h_ ⊢; omega)
          (try rw [show ((0 : Int)).toNat = 0 from rfl] at hx583_0)
          (try rw [Addr.add_zero'] at hx583_0)
          replace hx583_0 := (HB.out.cell (World.block_lt_of_cell? w _ hx583_0)).trans hx583_0
          replace p583 := eq_true p583
          replace q583 := eq_true q583
          go_wp2_with (first | (go_at_call 32; (with_reducible refine (spec_l01In.calls (wrap64 (rd (l0.drop (x6_2 : Int).toNat) 0)) 1 16 false _ A28.out).mono ?_); rintro e w' ⟨rfl, ⟨nd, rfl⟩⟩))
          go_ret3
          exact ⟨_, by first | rfl | (simp [errW_none, errW_some] <;> rfl) | (simp [*, errW_none, errW_some] <;> rfl), by (with_reducible repeat (first | apply Kd.R_alloc | apply Kd.R_drewN | apply Kd.R_drew)); exact HO_5.out, by with_reducible repeat (first | exact HB.out | apply below_alloc | apply pw_below_drewN | apply below_drew1)⟩
        ·rw [if_neg c27] at H
         exact absurd H (by simp)
     ·rw [if_neg c22] at H
      exact absurd H (by simp)
    ·rw [if_neg c21] at H
     exact absurd H (by simp)

end Go.Proofs.Ytbjhaaibmjlhhaa.Q
