-- Written by a program of this session (qprint.py) over the kit's print: Lean checks every line.
import Derived.Test.YtbjhaaibmjlhhaaQx0
import Derived.Test.YtbjhaaibmjlhhaaQx2
import Derived.Test.YtbjhaaibmjlhhaaQx3
import Derived.Test.YtbjhaaibmjlhhaaQx4
namespace Go.Proofs.Ytbjhaaibmjlhhaa.Q
open Go.RowKit Go.Proofs.YtbjhaaibmjlhhaaW.PrintWords Go.Proofs.YtbjhaaibmjlhhaaW.PrintLast Go.Proofs.YtbjhaaibmjlhhaaW.PrintMore
attribute [local go_sem] max2_int min2_int max_two min_two max_three min_three max_four min_four   -- for this text's walks alone
set_option linter.unusedVariables false
set_option linter.unusedSimpArgs false

/-! ### spec_l01DrawBytes: function 47 -/
def spec_l01DrawBytes.l0 : Nat → Int → List Int → Int → List Int → Int → Int → Option (List Int × Int × Int)
 | 0, _, _, _, _, _, _ => none
 | k + 1, x1, x5, x6, x1000, x1001, x1002 => if x6 < x1 then ((spec_l01Below.f x1000 x1001 x1002 256).bind fun bt447 => ((spec_l01Below.f x1000 bt447.2.1 bt447.2.2 256).bind fun bt450 => ((spec_l01PickInt.f x1000 bt450.2.1 bt450.2.2 (([0, 1, 255, 128, bt447.1, bt450.1] : List Int))).bind fun bt456 => (if x5.length < 140737488355328 then (spec_l01DrawBytes.l0 k x1 (x5 ++ [(bt456.1) % 256]) (wrap64 (x6 + 1)) x1000 bt456.2.1 bt456.2.2) else (none))))) else (some (x5, x1001, x1002))
def spec_l01DrawBytes.f (k : Nat) (s0_0 : List Int) (s0_1 : Int) (s0_2 : Int) (a1 : Int) : Option (List Int × Int × Int) := spec_l01DrawBytes.l0 k a1 (([] : List Int)) 0 s0_0 s0_1 s0_2
theorem spec_l01DrawBytes.mono_l : ∀ k, (∀ y0 y1 y2 y3 y4 y5, LeO (spec_l01DrawBytes.l0 k y0 y1 y2 y3 y4 y5) (spec_l01DrawBytes.l0 (k + 1) y0 y1 y2 y3 y4 y5))
 | 0 => fun _ _ _ _ _ _ r h => by simp [spec_l01DrawBytes.l0] at h
 | k + 1 => by
  have ih0 := spec_l01DrawBytes.mono_l k
  ·intro y0 y1 y2 y3 y4 y5
   unfold spec_l01DrawBytes.l0
   repeat' first
   | (with_reducible exact ih0 _ _ _ _ _ _)
   | (with_reducible exact LeO.refl _)
   | (with_reducible exact LeO.none _)
   | (with_reducible refine LeO.ite ?_ ?_)
   | (with_reducible refine LeO.bind ?_ (fun _ => ?_))
theorem spec_l01DrawBytes.mono : ∀ a0 a1 a2 a3 k, LeO (spec_l01DrawBytes.f k a0 a1 a2 a3) (spec_l01DrawBytes.f (k + 1) a0 a1 a2 a3) := by
 intro a0 a1 a2 a3 k
 have ih0 := spec_l01DrawBytes.mono_l k
 unfold spec_l01DrawBytes.f
 repeat' first
   | (with_reducible exact ih0 _ _ _ _ _ _)
   | (with_reducible exact LeO.refl _)
   | (with_reducible exact LeO.none _)
   | (with_reducible refine LeO.ite ?_ ?_)
   | (with_reducible refine LeO.bind ?_ (fun _ => ?_))
set_option maxHeartbeats 8000000 in
set_option maxRecDepth 100000 in
theorem spec_l01DrawBytes.calls (k : Nat) (g : Nat) (s0_0 : List Int) (s0_1 : Int) (s0_2 : Int) (a1 : Int) (r1 : List Int) (r2 : Int) (r3 : Int) (w0 w : World) (hI : IsS58 w0 w g s0_0 s0_1 s0_2) (hB : Below w0.heap.size w0 w) (h : spec_l01DrawBytes.f k s0_0 s0_1 s0_2 a1 = some (r1, r2, r3)) :
  Calls Try.prog 47 #[.pointer (some ⟨g, 0, none⟩), .int .i64 a1] w fun e w' => ∃ v0_ : Value, e = .returned (v0_) ∧ Kd.R (Kd.int .u8) 5 w' w.heap.size (fun _ => True) v0_ r1 ∧ IsS58 w0 w' g s0_0 r2 r3 ∧ Below w0.heap.size w0 w' ∧ KeepBut w w' g none := by
 have HI0 := Aside0.mk hI
 have HK := Aside0.mk (KeepBut.refl w g none)
 have HL := Aside0.mk hB.size
 clear hI
 have HW0 := Aside0.mk hB.size
 have HB := Aside0.mk hB
 clear hB
 have H : (spec_l01DrawBytes.l0 k a1 (([] : List Int)) 0 s0_0 s0_1 s0_2) = some (r1, r2, r3) := h
 clear h
 obtain ⟨y444, hy444⟩ : ∃ y_ : List Int, y_ = (([] : List Int)) := ⟨_, rfl⟩
 replace H : (spec_l01DrawBytes.l0 k a1 y444 0 s0_0 s0_1 s0_2) = some (r1, r2, r3) := by first | (rw [hy444]; exact H) | exact H
 have Ny444 := Aside0.mk hy444
 clear hy444
 have H' := Aside0.mk H
 clear H
 go_enter Try.func47, Try.ntmps47
 go_wp2_with (first | ((with_reducible refine gate_dst (N := 7) rfl ?_); refine Kd.R_lit (Kd.int .u8) _ 5 ?hg (N := 7) ?hd (xs := ([] : List Int)) (inner := []) (ok := fun _ => True) (okp := fun _ => True) ?hr ?hp (fun _ hk => hk) trivial (Below.refl _ _) (Nat.le_refl _) (by simp) ?_; (case hd => rfl); (case hg => rfl); (case hr => first | (go_simp; done) | (go_simp; rfl)); (case hp => exact (Reps.none _ _)); intro v445 w3 ho4 hb hg_ hnew_; clear hg_ hnew_; (first | rw [← Ny444.out] at ho4 | (simp only [Int.reduceToNat] at ho4; rw [← Ny444.out] at ho4)); have n0_ := Aside0.mk (Kd.R_lower ho4 (keep_size (w := w) (g := g) (row := none) (by with_reducible repeat (first | exact HK.out | apply KeepBut.set_ | apply keep_drewN | apply keep_drew | apply keep_alloc)))); have n1_ := Aside0.mk (IsS58.below (by with_reducible repeat (first | exact HI0.out | apply IsS58.alloc | apply IsS58.drewN | apply IsS58.drew | apply IsS58.set_1 | apply IsS58.set_2)) hb); have n2_ := Aside0.mk (KeepBut.trans (by with_reducible repeat (first | exact HK.out | apply KeepBut.set_ | apply keep_drewN | apply keep_drew | apply keep_alloc)) (KeepBut.of_below hb g none) (.inl rfl)); have n3_ := Aside0.mk (below_step (by with_reducible repeat (first | exact HB.out | apply below_alloc | apply pw_below_drewN | apply below_drew1 | refine below_set ?_ (IsS58.ge HI0.out))) hb); clear HI0 HK HB; have HO446 := n0_; have HI0 := n1_; have HK := n2_; have HB := n3_; clear n0_ n1_ n2_ n3_; clear hb ho4))
 go_loopg [5, 6] k (fun kq v5 v6 w' => ∃ (x5_1 : List Int) (x6_1 : Int) (x1001_1 : Int) (x1002_1 : Int), v6 = .int .i64 x6_1 ∧ Aside0 (spec_l01DrawBytes.l0 kq a1 x5_1 x6_1 s0_0 x1001_1 x1002_1 = some (r1, r2, r3)) ∧ Aside0 (kq ≤ k) ∧ Aside0 (Kd.R (Kd.int .u8) 5 w' w.heap.size (fun _ => True) v5 x5_1) ∧ Aside0 (IsS58 w0 w' g s0_0 x1001_1 x1002_1) ∧ Aside0 (KeepBut w w' g none) ∧ Aside0 (Below w0.heap.size w0 w'))
 case atStart => exact ⟨(y444), (0), (s0_1), (s0_2), (by first | rfl | simp | simp [*]), H', ⟨Nat.le_refl _⟩, ⟨by (with_reducible repeat (first | apply Kd.R_alloc | apply Kd.R_drewN | apply Kd.R_drew)); exact HO446.out⟩, ⟨by with_reducible repeat (first | exact HI0.out | apply IsS58.alloc | apply IsS58.drewN | apply IsS58.drew | apply IsS58.set_1 | apply IsS58.set_2)⟩, ⟨by with_reducible repeat (first | exact HK.out | apply KeepBut.set_ | apply keep_drewN | apply keep_drew | apply keep_alloc)⟩, ⟨by with_reducible repeat (first | exact HB.out | apply below_alloc | apply pw_below_drewN | apply below_drew1 | refine below_set ?_ (IsS58.ge HI0.out))⟩⟩
 case round =>
  clear H'
  try clear p2
  try clear c4
  obtain ⟨x5_1, x6_1, x1001_1, x1002_1, rfl, HA, HK1, HO_5, HI0, HK, HB⟩ := hrel
  cases gk with
  | zero => exact absurd HA.out (by simp [spec_l01DrawBytes.l0])
  | succ k1 =>
   have H := HA.out
   clear HA
   simp only [spec_l01DrawBytes.l0] at H
   by_cases c5 : x6_1 < a1
   ·rw [if_pos c5] at H
    have c5b0 : decide (x6_1 < a1) = true := decide_eq_true c5
    clear c5
    replace H := Option.bind_eq_some_iff.mp H
    obtain ⟨⟨t447, t448, t449⟩, A60, H⟩ := H
    replace H : ((spec_l01Below.f s0_0 t448 t449 256).bind fun bt450 => ((spec_l01PickInt.f s0_0 bt450.2.1 bt450.2.2 (([0, 1, 255, 128, t447, bt450.1] : List Int))).bind fun bt456 => (if x5_1.length < 140737488355328 then (spec_l01DrawBytes.l0 k1 a1 (x5_1 ++ [(bt456.1) % 256]) (wrap64 (x6_1 + 1)) s0_0 bt456.2.1 bt456.2.2) else (none)))) = some (r1, r2, r3) := H
    have A6 := Aside0.mk A60
    clear A60
    replace H := Option.bind_eq_some_iff.mp H
    obtain ⟨⟨t450, t451, t452⟩, A70, H⟩ := H
    replace H : ((spec_l01PickInt.f s0_0 t451 t452 (([0, 1, 255, 128, t447, t450] : List Int))).bind fun bt456 => (if x5_1.length < 140737488355328 then (spec_l01DrawBytes.l0 k1 a1 (x5_1 ++ [(bt456.1) % 256]) (wrap64 (x6_1 + 1)) s0_0 bt456.2.1 bt456.2.2) else (none))) = some (r1, r2, r3) := H
    have A7 := Aside0.mk A70
    clear A70
    obtain ⟨y453, hy453⟩ : ∃ y_ : List Int, y_ = (([0, 1, 255, 128, t447, t450] : List Int)) := ⟨_, rfl⟩
    replace H : ((spec_l01PickInt.f s0_0 t451 t452 y453).bind fun bt456 => (if x5_1.length < 140737488355328 then (spec_l01DrawBytes.l0 k1 a1 (x5_1 ++ [(bt456.1) % 256]) (wrap64 (x6_1 + 1)) s0_0 bt456.2.1 bt456.2.2) else (none))) = some (r1, r2, r3) := by first | (rw [hy453]; exact H) | exact H
    have Ny453 := Aside0.mk hy453
    clear hy453
    replace H := Option.bind_eq_some_iff.mp H
    obtain ⟨⟨t456, t457, t458⟩, A80, H⟩ := H
    replace H : (if x5_1.length < 140737488355328 then (spec_l01DrawBytes.l0 k1 a1 (x5_1 ++ [(t456) % 256]) (wrap64 (x6_1 + 1)) s0_0 t457 t458) else (none)) = some (r1, r2, r3) := H
    have A8 := Aside0.mk A80
    clear A80
    by_cases c9 : x5_1.length < 140737488355328
    ·rw [if_pos c9] at H
     have LMc9 := Aside0.mk c9
     clear c9
     obtain ⟨y459, hy459⟩ : ∃ y_ : List Int, y_ = (x5_1 ++ [(t456) % 256]) := ⟨_, rfl⟩
     replace H : (spec_l01DrawBytes.l0 k1 a1 y459 (wrap64 (x6_1 + 1)) s0_0 t457 t458) = some (r1, r2, r3) := by first | (rw [hy459]; exact H) | exact H
     have Ny459 := Aside0.mk hy459
     clear hy459
     have H' := Aside0.mk H
     clear H
     go_wp2_with (first | (go_at_call 34; (with_reducible refine (spec_l01Below.calls g s0_0 x1001_1 x1002_1 256 t447 t448 t449 w0 _ ?side1 ?side2 A6.out).mono ?_); (case side1 => with_reducible repeat (first | exact HI0.out | apply IsS58.alloc | apply IsS58.drewN | apply IsS58.drew | apply IsS58.set_1 | apply IsS58.set_2)); (case side2 => with_reducible repeat (first | exact HB.out | apply below_alloc | apply pw_below_drewN | apply below_drew1 | refine below_set ?_ (IsS58.ge HI0.out))); rintro e w10 ⟨rfl, hi, hb, hk⟩; have n0_ := Aside0.mk (Kd.R_mono (Kd.R_keep (IsS58.apart (show IsS58 w0 _ g s0_0 x1001_1 x1002_1 from by with_reducible repeat (first | exact HI0.out | apply IsS58.alloc | apply IsS58.drewN | apply IsS58.drew | apply IsS58.set_1 | apply IsS58.set_2)) (by (with_reducible repeat (first | apply Kd.R_alloc | apply Kd.R_drewN | apply Kd.R_drew)); exact HO_5.out) (by decide)) hk (fun _ h => h.2)) (fun _ h => h.1)); have n1_ := Aside0.mk (KeepBut.trans (by with_reducible repeat (first | exact HK.out | apply KeepBut.set_ | apply keep_drewN | apply keep_drew | apply keep_alloc)) hk (.inl rfl)); have n2_ := Aside0.mk (hb); have n3_ := Aside0.mk (hi); clear HO_5 HK HB HI0; have HO_5 := n0_; have HK := n1_; have HB := n2_; have HI0 := n3_; clear n0_ n1_ n2_ n3_; clear hb hk hi) | (go_at_call 34; (with_reducible refine (spec_l01Below.calls g s0_0 t448 t449 256 t450 t451 t452 w0 _ ?side1 ?side2 A7.out).mono ?_); (case side1 => with_reducible repeat (first | exact HI0.out | apply IsS58.alloc | apply IsS58.drewN | apply IsS58.drew | apply IsS58.set_1 | apply IsS58.set_2)); (case side2 => with_reducible repeat (first | exact HB.out | apply below_alloc | apply pw_below_drewN | apply below_drew1 | refine below_set ?_ (IsS58.ge HI0.out))); rintro e w11 ⟨rfl, hi, hb, hk⟩; have n0_ := Aside0.mk (Kd.R_mono (Kd.R_keep (IsS58.apart (show IsS58 w0 _ g s0_0 t448 t449 from by with_reducible repeat (first | exact HI0.out | apply IsS58.alloc | apply IsS58.drewN | apply IsS58.drew | apply IsS58.set_1 | apply IsS58.set_2)) (by (with_reducible repeat (first | apply Kd.R_alloc | apply Kd.R_drewN | apply Kd.R_drew)); exact HO_5.out) (by decide)) hk (fun _ h => h.2)) (fun _ h => h.1)); have n1_ := Aside0.mk (KeepBut.trans (by with_reducible repeat (first | exact HK.out | apply KeepBut.set_ | apply keep_drewN | apply keep_drew | apply keep_alloc)) hk (.inl rfl)); have n2_ := Aside0.mk (hb); have n3_ := Aside0.mk (hi); clear HO_5 HK HB HI0; have HO_5 := n0_; have HK := n1_; have HB := n2_; have HI0 := n3_; clear n0_ n1_ n2_ n3_; clear hb hk hi) | ((with_reducible refine gate_dst (N := 19) rfl ?_); refine Kd.R_lit (Kd.int .i64) _ 3 ?hg (N := 19) ?hd (xs := ([0, 1, 255, 128, t447, t450] : List Int)) (inner := [.int .i64 0, .int .i64 1, .int .i64 255, .int .i64 128, .int .i64 t447, .int .i64 t450]) (ok := fun _ => True) (okp := fun _ => True) ?hr ?hp (fun _ hk => hk) trivial (Below.refl _ _) (Nat.le_refl _) (by simp) ?_; (case hd => rfl); (case hg => rfl); (case hr => first | (go_simp; done) | (go_simp; rfl)); (case hp => exact (Reps.one (show Kd.M (Kd.int .i64) _ _ _ 0 [.int .i64 0] from rfl) (Reps.one (show Kd.M (Kd.int .i64) _ _ _ 1 [.int .i64 1] from rfl) (Reps.one (show Kd.M (Kd.int .i64) _ _ _ 255 [.int .i64 255] from rfl) (Reps.one (show Kd.M (Kd.int .i64) _ _ _ 128 [.int .i64 128] from rfl) (Reps.one (show Kd.M (Kd.int .i64) _ _ _ t447 [.int .i64 t447] from rfl) (Reps.one (show Kd.M (Kd.int .i64) _ _ _ t450 [.int .i64 t450] from rfl) (Reps.none _ _)))))))); intro v454 w12 ho13 hb hg_ hnew_; clear hg_ hnew_; (first | rw [← Ny453.out] at ho13 | (simp only [Int.reduceToNat] at ho13; rw [← Ny453.out] at ho13)); have n0_ := Aside0.mk (Kd.R_below (by (with_reducible repeat (first | apply Kd.R_alloc | apply Kd.R_drewN | apply Kd.R_drew)); exact HO_5.out) hb); have n1_ := Aside0.mk (Kd.R_lower ho13 (keep_size (w := w) (g := g) (row := none) (by with_reducible repeat (first | exact HK.out | apply KeepBut.set_ | apply keep_drewN | apply keep_drew | apply keep_alloc)))); have n2_ := Aside0.mk (IsS58.below (by with_reducible repeat (first | exact HI0.out | apply IsS58.alloc | apply IsS58.drewN | apply IsS58.drew | apply IsS58.set_1 | apply IsS58.set_2)) hb); have n3_ := Aside0.mk (KeepBut.trans (by with_reducible repeat (first | exact HK.out | apply KeepBut.set_ | apply keep_drewN | apply keep_drew | apply keep_alloc)) (KeepBut.of_below hb g none) (.inl rfl)); have n4_ := Aside0.mk (below_step (by with_reducible repeat (first | exact HB.out | apply below_alloc | apply pw_below_drewN | apply below_drew1 | refine below_set ?_ (IsS58.ge HI0.out))) hb); clear HO_5 HI0 HK HB; have HO_5 := n0_; have HO455 := n1_; have HI0 := n2_; have HK := n3_; have HB := n4_; clear n0_ n1_ n2_ n3_ n4_; clear hb ho13; obtain ⟨Ao14, co14, eo14⟩ := Kd.R_slice HO455.out; subst eo14) | (go_at_call 50; (with_reducible refine (spec_l01PickInt.calls g s0_0 t451 t452 _ _ y453 t456 t457 t458 w0 _ ?side1 ?side2 ?side3 ?side4 ?side5 A8.out).mono ?_); (case side1 => with_reducible repeat (first | exact HI0.out | apply IsS58.alloc | apply IsS58.drewN | apply IsS58.drew | apply IsS58.set_1 | apply IsS58.set_2)); (case side2 => with_reducible repeat (first | exact HB.out | apply below_alloc | apply pw_below_drewN | apply below_drew1 | refine below_set ?_ (IsS58.ge HI0.out))); (case side3 => repeat (first | exact (Kd.R_reads' HO455.out).2.2 | (with_reducible refine Kd.C_alloc ?_ _) | (with_reducible refine Kd.C_drewN ?_ _) | (with_reducible refine Kd.C_drew ?_))); (case side4 => exact (Kd.R_reads' HO455.out).2.1); (case side5 => exact far_slice (IsS58.own_ne HI0.out HO455.out (by decide))); rintro e w15 ⟨rfl, hi, hb, hk⟩; have n0_ := Aside0.mk (Kd.R_mono (Kd.R_keep (IsS58.apart (show IsS58 w0 _ g s0_0 t451 t452 from by with_reducible repeat (first | exact HI0.out | apply IsS58.alloc | apply IsS58.drewN | apply IsS58.drew | apply IsS58.set_1 | apply IsS58.set_2)) (by (with_reducible repeat (first | apply Kd.R_alloc | apply Kd.R_drewN | apply Kd.R_drew)); exact HO_5.out) (by decide)) hk (fun _ h => h.2)) (fun _ h => h.1)); have n1_ := Aside0.mk (Kd.R_mono (Kd.R_keep (IsS58.apart (show IsS58 w0 _ g s0_0 t451 t452 from by with_reducible repeat (first | exact HI0.out | apply IsS58.alloc | apply IsS58.drewN | apply IsS58.drew | apply IsS58.set_1 | apply IsS58.set_2)) (by (with_reducible repeat (first | apply Kd.R_alloc | apply Kd.R_drewN | apply Kd.R_drew)); exact HO455.out) (by decide)) hk (fun _ h => h.2)) (fun _ h => h.1)); have n2_ := Aside0.mk (KeepBut.trans (by with_reducible repeat (first | exact HK.out | apply KeepBut.set_ | apply keep_drewN | apply keep_drew | apply keep_alloc)) hk (.inl rfl)); have n3_ := Aside0.mk (hb); have n4_ := Aside0.mk (hi); clear HO_5 HO455 HK HB HI0; have HO_5 := n0_; have HO455 := n1_; have HK := n2_; have HB := n3_; have HI0 := n4_; clear n0_ n1_ n2_ n3_ n4_; clear hb hk hi) | ((with_reducible refine gate_builtin (b := .append) (xs := #[.tmp 13, .tmp 22]) rfl ?_); at_builtin; refine Kd.R_append (Kd.int .u8) w.heap.size rfl (.tmp 13) (.tmp 22) 22 5 (.int .u8 0) 1 rfl Try.underlying22 info5 rfl (by decide) (by omega) u5 x5_1 ((t456) % 256) [.int .u8 ((t456) % 256)] (fun _ => True) (fun _ => False) rfl rfl ?aP (fun _ hk => hk.elim) ?aF ?aO (Below.refl _ _) ?aS ?aL ?_; (case aP => exact rfl); (case aF => exact (fun _ _ => trivial)); (case aO => exact (by (with_reducible repeat (first | apply Kd.R_alloc | apply Kd.R_drewN | apply Kd.R_drew)); exact HO_5.out)); (case aS => exact (keep_size (w := w) (g := g) (row := none) (by with_reducible repeat (first | exact HK.out | apply KeepBut.set_ | apply keep_drewN | apply keep_drew | apply keep_alloc)))); (case aL => have := LMc9.out; omega); intro v460 w16 ho hb hg hat; rw [← Ny459.out] at ho; have n0_ := Aside0.mk (IsS58.grown (by with_reducible repeat (first | exact HI0.out | apply IsS58.alloc | apply IsS58.drewN | apply IsS58.drew | apply IsS58.set_1 | apply IsS58.set_2)) hg (IsS58.own_ne HI0.out HO_5.out (by decide))); have n1_ := Aside0.mk (Kd.R_over' (by (with_reducible repeat (first | apply Kd.R_alloc | apply Kd.R_drewN | apply Kd.R_drew)); exact HO455.out) (Kd.R_typed (by (with_reducible repeat (first | apply Kd.R_alloc | apply Kd.R_drewN | apply Kd.R_drew)); exact HO_5.out)) (by decide) hg); have n2_ := Aside0.mk (below_weaken (by with_reducible repeat (first | exact HB.out | apply below_alloc | apply pw_below_drewN | apply below_drew1 | refine below_set ?_ (IsS58.ge HI0.out))) HL.out hb); have n3_ := Aside0.mk (KeepBut.trans (by with_reducible repeat (first | exact HK.out | apply KeepBut.set_ | apply keep_drewN | apply keep_drew | apply keep_alloc)) (KeepBut.of_grown hg g) (Kd.R_base2 HO_5.out)); have n4_ := Aside0.mk (ho); clear HI0 HO455 HB HK HO_5; have HI0 := n0_; have HO455 := n1_; have HB := n2_; have HK := n3_; have HO461 := n4_; clear n0_ n1_ n2_ n3_ n4_; clear ho hb hg hat))
     go_roundg k1
     case measure => have := HK1.out; omega
     case rel => exact ⟨(y459), (wrap64 (x6_1 + 1)), (t457), (t458), (by first | rfl | simp | simp [*]), H', ⟨by have := HK1.out; omega⟩, ⟨by (with_reducible repeat (first | apply Kd.R_alloc | apply Kd.R_drewN | apply Kd.R_drew)); exact HO461.out⟩, ⟨by with_reducible repeat (first | exact HI0.out | apply IsS58.alloc | apply IsS58.drewN | apply IsS58.drew | apply IsS58.set_1 | apply IsS58.set_2)⟩, ⟨by with_reducible repeat (first | exact HK.out | apply KeepBut.set_ | apply keep_drewN | apply keep_drew | apply keep_alloc)⟩, ⟨by with_reducible repeat (first | exact HB.out | apply below_alloc | apply pw_below_drewN | apply below_drew1 | refine below_set ?_ (IsS58.ge HI0.out))⟩⟩
    ·rw [if_neg c9] at H
     exact absurd H (by simp)
   ·rw [if_neg c5] at H
    have c5b0 : decide (x6_1 < a1) = false := decide_eq_false c5
    clear c5
    simp only [Option.some.injEq, Prod.mk.injEq] at H
    obtain ⟨rfl, rfl, rfl⟩ := H
    go_wp2
    go_ret
    exact ⟨_, by first | rfl | (simp [errW_none, errW_some] <;> rfl) | (simp [*, errW_none, errW_some] <;> rfl), by (with_reducible repeat (first | apply Kd.R_alloc | apply Kd.R_drewN | apply Kd.R_drew)); exact HO_5.out, by with_reducible repeat (first | exact HI0.out | apply IsS58.alloc | apply IsS58.drewN | apply IsS58.drew | apply IsS58.set_1 | apply IsS58.set_2), by with_reducible repeat (first | exact HB.out | apply below_alloc | apply pw_below_drewN | apply below_drew1 | refine below_set ?_ (IsS58.ge HI0.out)), by with_reducible repeat (first | exact HK.out | apply KeepBut.set_ | apply keep_drewN | apply keep_drew | apply keep_alloc)⟩

/-! ### spec_l17DrawBytes: function 30 -/
mutual
def spec_l17DrawBytes.l0 : Nat → List (S38) → List (S38) → Int → List Int → Int → Int → Option (List Int)
 | 0, _, _, _, _, _, _ => none
 | k + 1, x4, x5, x6, x466000, x466001, x466002 => if x6 < (x5.length : Int) then (if 0 ≤ x6 then ((spec_OpOk.f k ((rd_T38 x5 x6).f0) ((rd_T38 x5 x6).f1) ((rd_T38 x5 x6).f2)).bind fun t479 => (if t479 = true then (if x4.length < 5864062014805 then (spec_l17DrawBytes.l0 k (x4 ++ [(⟨(rd_T38 x5 x6).f0, (rd_T38 x5 x6).f1, (rd_T38 x5 x6).f2⟩ : S38)]) x5 (wrap64 (x6 + 1)) x466000 x466001 x466002) else (none)) else (spec_l17DrawBytes.l0 k x4 x5 (wrap64 (x6 + 1)) x466000 x466001 x466002))) else (none)) else ((spec_l01Below.f x466000 x466001 x466002 (wrap64 ((x4.length : Int) + 1))).bind fun bt484 => (if 0 ≤ bt484.1 then (if bt484.1 ≤ (x4.length : Int) then ((spec_PackOps.f k (x4.take (bt484.1 : Int).toNat)).bind fun bt491 => ((spec_PackOps.f k (x4.drop (bt484.1 : Int).toNat)).bind fun bt499 => ((spec_l01Once.f x466000 bt484.2.1 bt484.2.2 3).bind fun bt503 => (if bt503.1 = true then ((spec_l01Join.f k bt491.1 bt499.1).bind fun t506 => (spec_l17DrawBytes.j1 k t506 x466000 bt503.2.1 bt503.2.2)) else (spec_l17DrawBytes.j1 k bt491.1 x466000 bt503.2.1 bt503.2.2))))) else (none)) else (none)))
def spec_l17DrawBytes.j1 : Nat → List Int → List Int → Int → Int → Option (List Int)
 | 0, _, _, _, _ => none
 | k + 1, x12, x466000, x466001, x466002 => (spec_l01Once.f x466000 x466001 x466002 3).bind fun bt509 => (if bt509.1 = true then (spec_l17DrawBytes.j2 k x12 (decide ((x12.length : Int) > 0)) x466000 bt509.2.1 bt509.2.2) else (spec_l17DrawBytes.j2 k x12 false x466000 bt509.2.1 bt509.2.2))
def spec_l17DrawBytes.j2 : Nat → List Int → Bool → List Int → Int → Int → Option (List Int)
 | 0, _, _, _, _, _ => none
 | k + 1, x12, x71, x466000, x466001, x466002 => if x71 = true then ((spec_l01Below.f x466000 x466001 x466002 3).bind fun bt512 => (if bt512.1 = 0 then ((spec_l01Below.f x466000 bt512.2.1 bt512.2.2 (x12.length : Int)).bind fun bt515 => (if 0 ≤ bt515.1 then (if bt515.1 ≤ (x12.length : Int) then (some (x12.take (bt515.1 : Int).toNat)) else (none)) else (none))) else (if bt512.1 = 1 then ((spec_l01Below.f x466000 bt512.2.1 bt512.2.2 (x12.length : Int)).bind fun bt521 => ((spec_l01Below.f x466000 bt521.2.1 bt521.2.2 256).bind fun bt524 => (if 0 ≤ bt521.1 then (if bt521.1 < (x12.length : Int) then (some (x12.set (bt521.1 : Int).toNat ((bt524.1) % 256))) else (none)) else (none)))) else (if bt512.1 = 2 then ((spec_l01Below.f x466000 bt512.2.1 bt512.2.2 6).bind fun bt528 => ((spec_l01DrawBytes.f k x466000 bt528.2.1 bt528.2.2 (wrap64 (1 + bt528.1))).bind fun bt531 => ((spec_l01Join.f k x12 bt531.1).bind fun t536 => (some t536)))) else (some x12))))) else (some x12)
end
def spec_l17DrawBytes.f (k : Nat) (l0 : List Int) : Option (List Int) := (spec_l01New.f k l0).bind fun bt462 => ((spec_l01Size.f l0 60).bind fun t469 => ((spec_l01Below.f bt462.1 bt462.2.1 bt462.2.2 t469).bind fun bt470 => ((spec_l17DrawOps.f k bt462.1 bt470.2.1 bt470.2.2 bt470.1).bind fun bt473 => (spec_l17DrawBytes.l0 k (([] : List (S38))) bt473.1 0 bt462.1 bt473.2.1 bt473.2.2))))
theorem spec_l17DrawBytes.mono_l : ∀ k, (∀ y0 y1 y2 y3 y4 y5, LeO (spec_l17DrawBytes.l0 k y0 y1 y2 y3 y4 y5) (spec_l17DrawBytes.l0 (k + 1) y0 y1 y2 y3 y4 y5)) ∧ (∀ y0 y1 y2 y3, LeO (spec_l17DrawBytes.j1 k y0 y1 y2 y3) (spec_l17DrawBytes.j1 (k + 1) y0 y1 y2 y3)) ∧ (∀ y0 y1 y2 y3 y4, LeO (spec_l17DrawBytes.j2 k y0 y1 y2 y3 y4) (spec_l17DrawBytes.j2 (k + 1) y0 y1 y2 y3 y4))
 | 0 => ⟨fun _ _ _ _ _ _ r h => by simp [spec_l17DrawBytes.l0] at h, fun _ _ _ _ r h => by simp [spec_l17DrawBytes.j1] at h, fun _ _ _ _ _ r h => by simp [spec_l17DrawBytes.j2] at h⟩
 | k + 1 => by
  obtain ⟨ih0, ih1, ih2⟩ := spec_l17DrawBytes.mono_l k
  refine ⟨?_, ?_, ?_⟩
  ·intro y0 y1 y2 y3 y4 y5
   unfold spec_l17DrawBytes.l0
   repeat' first
   | (with_reducible exact ih0 _ _ _ _ _ _)
   | (with_reducible exact ih1 _ _ _ _)
   | (with_reducible exact ih2 _ _ _ _ _)
   | (with_reducible exact spec_OpOk.mono _ _ _ _)
   | (with_reducible exact spec_PackOps.mono _ _)
   | (with_reducible exact spec_l01DrawBytes.mono _ _ _ _ _)
   | (with_reducible exact spec_l01Join.mono _ _ _)
   | (with_reducible exact spec_l01New.mono _ _)
   | (with_reducible exact spec_l17DrawOps.mono _ _ _ _ _)
   | (with_reducible exact LeO.refl _)
   | (with_reducible exact LeO.none _)
   | (with_reducible refine LeO.ite ?_ ?_)
   | (with_reducible refine LeO.bind ?_ (fun _ => ?_))
  ·intro y0 y1 y2 y3
   unfold spec_l17DrawBytes.j1
   repeat' first
   | (with_reducible exact ih0 _ _ _ _ _ _)
   | (with_reducible exact ih1 _ _ _ _)
   | (with_reducible exact ih2 _ _ _ _ _)
   | (with_reducible exact spec_OpOk.mono _ _ _ _)
   | (with_reducible exact spec_PackOps.mono _ _)
   | (with_reducible exact spec_l01DrawBytes.mono _ _ _ _ _)
   | (with_reducible exact spec_l01Join.mono _ _ _)
   | (with_reducible exact spec_l01New.mono _ _)
   | (with_reducible exact spec_l17DrawOps.mono _ _ _ _ _)
   | (with_reducible exact LeO.refl _)
   | (with_reducible exact LeO.none _)
   | (with_reducible refine LeO.ite ?_ ?_)
   | (with_reducible refine LeO.bind ?_ (fun _ => ?_))
  ·intro y0 y1 y2 y3 y4
   unfold spec_l17DrawBytes.j2
   repeat' first
   | (with_reducible exact ih0 _ _ _ _ _ _)
   | (with_reducible exact ih1 _ _ _ _)
   | (with_reducible exact ih2 _ _ _ _ _)
   | (with_reducible exact spec_OpOk.mono _ _ _ _)
   | (with_reducible exact spec_PackOps.mono _ _)
   | (with_reducible exact spec_l01DrawBytes.mono _ _ _ _ _)
   | (with_reducible exact spec_l01Join.mono _ _ _)
   | (with_reducible exact spec_l01New.mono _ _)
   | (with_reducible exact spec_l17DrawOps.mono _ _ _ _ _)
   | (with_reducible exact LeO.refl _)
   | (with_reducible exact LeO.none _)
   | (with_reducible refine LeO.ite ?_ ?_)
   | (with_reducible refine LeO.bind ?_ (fun _ => ?_))
theorem spec_l17DrawBytes.mono : ∀ a0 k, LeO (spec_l17DrawBytes.f k a0) (spec_l17DrawBytes.f (k + 1) a0) := by
 intro a0 k
 obtain ⟨ih0, ih1, ih2⟩ := spec_l17DrawBytes.mono_l k
 unfold spec_l17DrawBytes.f
 repeat' first
   | (with_reducible exact ih0 _ _ _ _ _ _)
   | (with_reducible exact ih1 _ _ _ _)
   | (with_reducible exact ih2 _ _ _ _ _)
   | (with_reducible exact spec_OpOk.mono _ _ _ _)
   | (with_reducible exact spec_PackOps.mono _ _)
   | (with_reducible exact spec_l01DrawBytes.mono _ _ _ _ _)
   | (with_reducible exact spec_l01Join.mono _ _ _)
   | (with_reducible exact spec_l01New.mono _ _)
   | (with_reducible exact spec_l17DrawOps.mono _ _ _ _ _)
   | (with_reducible exact LeO.refl _)
   | (with_reducible exact LeO.none _)
   | (with_reducible refine LeO.ite ?_ ?_)
   | (with_reducible refine LeO.bind ?_ (fun _ => ?_))
set_option maxHeartbeats 8000000 in
set_option maxRecDepth 100000 in
theorem spec_l17DrawBytes.calls (k : Nat) (A0 : Option Addr) (c0 : Nat) (l0 : List Int) (r : List Int) (w : World) (hr0 : Kd.C (Kd.int .u8) w A0 l0.length l0) (hc0 : l0.length ≤ c0) (h : spec_l17DrawBytes.f k l0 = some r) :
  Calls Try.prog 30 #[.slice A0 l0.length c0] w fun e w' => ∃ v0_ : Value, e = .returned (v0_) ∧ Kd.R (Kd.int .u8) 5 w' w.heap.size (fun _ => True) v0_ r ∧ Below w.heap.size w w' := by
 have hu38 := Try.underlying38
 have HR0 := Aside0.mk hr0
 have HC0 := Aside0.mk hc0
 clear hr0 hc0
 have HB := Aside0.mk (Below.refl w.heap.size w)
 have H : ((spec_l01New.f k l0).bind fun bt462 => ((spec_l01Size.f l0 60).bind fun t469 => ((spec_l01Below.f bt462.1 bt462.2.1 bt462.2.2 t469).bind fun bt470 => ((spec_l17DrawOps.f k bt462.1 bt470.2.1 bt470.2.2 bt470.1).bind fun bt473 => (spec_l17DrawBytes.l0 k (([] : List (S38))) bt473.1 0 bt462.1 bt473.2.1 bt473.2.2))))) = some r := h
 clear h
 replace H := Option.bind_eq_some_iff.mp H
 obtain ⟨⟨t462, t463, t464⟩, A20, H⟩ := H
 replace H : ((spec_l01Size.f l0 60).bind fun t469 => ((spec_l01Below.f t462 t463 t464 t469).bind fun bt470 => ((spec_l17DrawOps.f k t462 bt470.2.1 bt470.2.2 bt470.1).bind fun bt473 => (spec_l17DrawBytes.l0 k (([] : List (S38))) bt473.1 0 t462 bt473.2.1 bt473.2.2)))) = some r := H
 have A2 := Aside0.mk A20
 clear A20
 obtain ⟨y466, hy466⟩ : ∃ y_ : List (S38), y_ = (([] : List (S38))) := ⟨_, rfl⟩
 replace H : ((spec_l01Size.f l0 60).bind fun t469 => ((spec_l01Below.f t462 t463 t464 t469).bind fun bt470 => ((spec_l17DrawOps.f k t462 bt470.2.1 bt470.2.2 bt470.1).bind fun bt473 => (spec_l17DrawBytes.l0 k y466 bt473.1 0 t462 bt473.2.1 bt473.2.2)))) = some r := by first | (rw [hy466]; exact H) | exact H
 have Ny466 := Aside0.mk hy466
 clear hy466
 replace H := Option.bind_eq_some_iff.mp H
 obtain ⟨t469, A30, H⟩ := H
 replace H : ((spec_l01Below.f t462 t463 t464 t469).bind fun bt470 => ((spec_l17DrawOps.f k t462 bt470.2.1 bt470.2.2 bt470.1).bind fun bt473 => (spec_l17DrawBytes.l0 k y466 bt473.1 0 t462 bt473.2.1 bt473.2.2))) = some r := H
 have A3 := Aside0.mk A30
 clear A30
 replace H := Option.bind_eq_some_iff.mp H
 obtain ⟨⟨t470, t471, t472⟩, A40, H⟩ := H
 replace H : ((spec_l17DrawOps.f k t462 t471 t472 t470).bind fun bt473 => (spec_l17DrawBytes.l0 k y466 bt473.1 0 t462 bt473.2.1 bt473.2.2)) = some r := H
 have A4 := Aside0.mk A40
 clear A40
 replace H := Option.bind_eq_some_iff.mp H
 obtain ⟨⟨t473, t476, t477⟩, A50, H⟩ := H
 replace H : (spec_l17DrawBytes.l0 k y466 t473 0 t462 t476 t477) = some r := H
 have A5 := Aside0.mk A50
 clear A50
 have H' := Aside0.mk H
 clear H
 go_enter Try.func30, Try.ntmps30
 go_wp2_with (first | (go_at_call 33; (with_reducible refine (spec_l01New.calls k _ _ l0 t462 t463 t464 w _ ?side1 ?side2 ?side3 A2.out).mono ?_); (case side1 => with_reducible repeat (first | exact HB.out | apply below_alloc | apply pw_below_drewN | apply below_drew1)); (case side2 => exact HR0.out); (case side3 => exact HC0.out); rintro e w6 ⟨g465, rfl, hi, hb, hb2⟩; have n0_ := Aside0.mk (hb); have n1_ := Aside0.mk (hi); clear HB; have HB := n0_; have HI465 := n1_; clear n0_ n1_; clear hb hb2 hi) | ((with_reducible refine gate_dst (N := 15) rfl ?_); (try (refine gate_guard (by rfl) ?_; dsimp only)); refine Kd.R_lit k38 _ 38 ?hg (N := 15) ?hd (xs := ([] : List (S38))) (inner := []) (ok := fun _ => True) (okp := fun _ => True) ?hr ?hp (fun _ hk => hk) trivial (Below.refl _ _) (Nat.le_refl _) (by simp) ?_; (case hd => rfl); (case hg => rfl); (case hr => first | (go_simp; done) | (go_simp; rfl)); (case hp => exact (Reps.none _ _)); intro v467 w7 ho8 hb hg_ hnew_; clear hg_ hnew_; (first | rw [← Ny466.out] at ho8 | (simp only [Int.reduceToNat] at ho8; rw [← Ny466.out] at ho8)); have n0_ := Aside0.mk (Kd.R_lower ho8 (below_size (by with_reducible repeat (first | exact HB.out | apply below_alloc | apply pw_below_drewN | apply below_drew1 | refine below_set ?_ (IsS58.ge HI465.out))))); have n1_ := Aside0.mk (IsS58.below (by with_reducible repeat (first | exact HI465.out | apply IsS58.alloc | apply IsS58.drewN | apply IsS58.drew | apply IsS58.set_1 | apply IsS58.set_2)) hb); have n2_ := Aside0.mk (below_step (by with_reducible repeat (first | exact HB.out | apply below_alloc | apply pw_below_drewN | apply below_drew1 | refine below_set ?_ (IsS58.ge HI465.out))) hb); clear HI465 HB; have HO468 := n0_; have HI465 := n1_; have HB := n2_; clear n0_ n1_ n2_; clear hb ho8) | (go_at_call 35; (with_reducible refine (spec_l01Size.calls _ _ l0 60 t469 _ ?side1 ?side2 A3.out).mono ?_); (case side1 => repeat (first | exact (Kd.C_below HR0.out HB.out) | (with_reducible refine Kd.C_alloc ?_ _) | (with_reducible refine Kd.C_drewN ?_ _) | (with_reducible refine Kd.C_drew ?_))); (case side2 => exact HC0.out); rintro e w' ⟨rfl, ⟨nd, rfl⟩⟩) | (go_at_call 34; (with_reducible refine (spec_l01Below.calls g465 t462 t463 t464 t469 t470 t471 t472 w _ ?side1 ?side2 A4.out).mono ?_); (case side1 => with_reducible repeat (first | exact HI465.out | apply IsS58.alloc | apply IsS58.drewN | apply IsS58.drew | apply IsS58.set_1 | apply IsS58.set_2)); (case side2 => with_reducible repeat (first | exact HB.out | apply below_alloc | apply pw_below_drewN | apply below_drew1 | refine below_set ?_ (IsS58.ge HI465.out))); rintro e w9 ⟨rfl, hi, hb, hk⟩; have n0_ := Aside0.mk (Kd.R_mono (Kd.R_keep (IsS58.apart (show IsS58 w _ g465 t462 t463 t464 from by with_reducible repeat (first | exact HI465.out | apply IsS58.alloc | apply IsS58.drewN | apply IsS58.drew | apply IsS58.set_1 | apply IsS58.set_2)) (by (with_reducible repeat (first | apply Kd.R_alloc | apply Kd.R_drewN | apply Kd.R_drew)); exact HO468.out) (by decide)) hk (fun _ h => h.2)) (fun _ h => h.1)); have n1_ := Aside0.mk (hb); have n2_ := Aside0.mk (hi); clear HO468 HB HI465; have HO468 := n0_; have HB := n1_; have HI465 := n2_; clear n0_ n1_ n2_; clear hb hk hi) | (go_at_call 37; (with_reducible refine (spec_l17DrawOps.calls k g465 t462 t471 t472 t470 t473 t476 t477 w _ ?side1 ?side2 A5.out).mono ?_); (case side1 => with_reducible repeat (first | exact HI465.out | apply IsS58.alloc | apply IsS58.drewN | apply IsS58.drew | apply IsS58.set_1 | apply IsS58.set_2)); (case side2 => with_reducible repeat (first | exact HB.out | apply below_alloc | apply pw_below_drewN | apply below_drew1 | refine below_set ?_ (IsS58.ge HI465.out))); rintro e w10 ⟨v474, rfl, ho0, hi, hb, hk⟩; have n0_ := Aside0.mk (Kd.R_mono (Kd.R_told (Kd.R_oldK (IsS58.apart (show IsS58 w _ g465 t462 t471 t472 from by with_reducible repeat (first | exact HI465.out | apply IsS58.alloc | apply IsS58.drewN | apply IsS58.drew | apply IsS58.set_1 | apply IsS58.set_2)) (by (with_reducible repeat (first | apply Kd.R_alloc | apply Kd.R_drewN | apply Kd.R_drew)); exact HO468.out) (by decide)) hk) (Kd.R_base ho0)) (fun _ h_ => h_.1)); have n1_ := Aside0.mk (Kd.R_lower (Kd.R_new' ho0 (Kd.R_lt (by (with_reducible repeat (first | apply Kd.R_alloc | apply Kd.R_drewN | apply Kd.R_drew)); exact HO468.out))) (below_size (by with_reducible repeat (first | exact HB.out | apply below_alloc | apply pw_below_drewN | apply below_drew1 | refine below_set ?_ (IsS58.ge HI465.out))))); have n2_ := Aside0.mk (hb); have n3_ := Aside0.mk (hi); clear HO468 HB HI465; have HO468 := n0_; have HO475 := n1_; have HB := n2_; have HI465 := n3_; clear n0_ n1_ n2_ n3_; clear hb hk hi ho0))
 go_loopg [4, 6] k (fun kq v4 v6 w' => ∃ (x4_1 : List (S38)) (x6_1 : Int), v6 = .int .i64 x6_1 ∧ Aside0 (spec_l17DrawBytes.l0 kq x4_1 t473 x6_1 t462 t476 t477 = some r) ∧ Aside0 (kq ≤ k) ∧ Aside0 (Kd.R k38 38 w' w.heap.size (fun k_ => some k_ ≠ (v474 : Value).ownBlock) v4 x4_1) ∧ Aside0 (Kd.R k38 38 w' w.heap.size (fun k_ => some k_ ≠ (v4 : Value).ownBlock) v474 t473) ∧ Aside0 (IsS58 w w' g465 t462 t476 t477) ∧ Aside0 (Below w.heap.size w w'))
 case atStart => exact ⟨(y466), (0), (by first | rfl | simp | simp [*]), H', ⟨Nat.le_refl _⟩, ⟨by (with_reducible repeat (first | apply Kd.R_alloc | apply Kd.R_drewN | apply Kd.R_drew)); exact Kd.R_mono HO468.out (fun _ hk => hk.2)⟩, ⟨by (with_reducible repeat (first | apply Kd.R_alloc | apply Kd.R_drewN | apply Kd.R_drew)); exact Kd.R_mono HO475.out (fun _ hk => hk.2)⟩, ⟨by with_reducible repeat (first | exact HI465.out | apply IsS58.alloc | apply IsS58.drewN | apply IsS58.drew | apply IsS58.set_1 | apply IsS58.set_2)⟩, ⟨by with_reducible repeat (first | exact HB.out | apply below_alloc | apply pw_below_drewN | apply below_drew1 | refine below_set ?_ (IsS58.ge HI465.out))⟩⟩
 case round =>
  clear H'
  try clear p2
  try clear c3
  obtain ⟨x4_1, x6_1, rfl, HA, HK1, HO_4, HO_5, HI465, HB⟩ := hrel
  cases gk with
  | zero => exact absurd HA.out (by simp [spec_l17DrawBytes.l0])
  | succ k1 =>
   have H := HA.out
   clear HA
   simp only [spec_l17DrawBytes.l0] at H
   by_cases c11 : x6_1 < (t473.length : Int)
   ·rw [if_pos c11] at H
    have c11b0 : decide (x6_1 < (t473.length : Int)) = true := decide_eq_true c11
    clear c11
    by_cases c12 : 0 ≤ x6_1
    ·rw [if_pos c12] at H
     have c12b0 : decide (0 ≤ x6_1) = true := decide_eq_true c12
     clear c12
     replace H := Option.bind_eq_some_iff.mp H
     obtain ⟨t479, A130, H⟩ := H
     replace H : (if t479 = true then (if x4_1.length < 5864062014805 then (spec_l17DrawBytes.l0 k1 (x4_1 ++ [(⟨(rd_T38 t473 x6_1).f0, (rd_T38 t473 x6_1).f1, (rd_T38 t473 x6_1).f2⟩ : S38)]) t473 (wrap64 (x6_1 + 1)) t462 t476 t477) else (none)) else (spec_l17DrawBytes.l0 k1 x4_1 t473 (wrap64 (x6_1 + 1)) t462 t476 t477)) = some r := H
     have A13 := Aside0.mk A130
     clear A130
     by_cases c14 : t479 = true
     ·subst c14
      have H1 : (if x4_1.length < 5864062014805 then (spec_l17DrawBytes.l0 k1 (x4_1 ++ [(⟨(rd_T38 t473 x6_1).f0, (rd_T38 t473 x6_1).f1, (rd_T38 t473 x6_1).f2⟩ : S38)]) t473 (wrap64 (x6_1 + 1)) t462 t476 t477) else (none)) = some r := by rw [if_pos rfl] at H; exact H
      clear H
      have H := H1
      clear H1
      by_cases c15 : x4_1.length < 5864062014805
      ·rw [if_pos c15] at H
       have LMc15 := Aside0.mk c15
       clear c15
       obtain ⟨y481, hy481⟩ : ∃ y_ : List (S38), y_ = (x4_1 ++ [(⟨(rd_T38 t473 x6_1).f0, (rd_T38 t473 x6_1).f1, (rd_T38 t473 x6_1).f2⟩ : S38)]) := ⟨_, rfl⟩
       replace H : (spec_l17DrawBytes.l0 k1 y481 t473 (wrap64 (x6_1 + 1)) t462 t476 t477) = some r := by first | (rw [hy481]; exact H) | exact H
       have Ny481 := Aside0.mk hy481
       clear hy481
       have H' := Aside0.mk H
       clear H
       obtain ⟨Ao16, co16, eo16⟩ := Kd.R_slice HO_5.out
       subst eo16
       have p478 : 0 ≤ (x6_1 : Int) := of_decide_eq_true (by first | (with_reducible assumption) | assumption)
       have q478 : x6_1 < (t473.length : Int) := of_decide_eq_true (by first | (with_reducible assumption) | assumption)
       obtain ⟨ad478, e478, hx478_0, hx478_1, hx478_2⟩ := at_T38 (Kd.R_reads' HO_5.out).2.2 x6_1 p478 q478
       cases e478
       replace p478 := eq_true p478
       replace q478 := eq_true q478
       go_wp2_with (first | (go_at_call 18; (with_reducible refine (spec_OpOk.calls k1 ((rd_T38 t473 x6_1).f0) ((rd_T38 t473 x6_1).f1) ((rd_T38 t473 x6_1).f2) true _ A13.out).mono ?_); rintro e w17 ⟨rfl, hb⟩; have n0_ := Aside0.mk (Kd.R_below (by (with_reducible repeat (first | apply Kd.R_alloc | apply Kd.R_drewN | apply Kd.R_drew)); exact HO_4.out) hb); have n1_ := Aside0.mk (Kd.R_below (by (with_reducible repeat (first | apply Kd.R_alloc | apply Kd.R_drewN | apply Kd.R_drew)); exact HO_5.out) hb); have n2_ := Aside0.mk (IsS58.below (by with_reducible repeat (first | exact HI465.out | apply IsS58.alloc | apply IsS58.drewN | apply IsS58.drew | apply IsS58.set_1 | apply IsS58.set_2)) hb); have n3_ := Aside0.mk (below_step (by with_reducible repeat (first | exact HB.out | apply below_alloc | apply pw_below_drewN | apply below_drew1 | refine below_set ?_ (IsS58.ge HI465.out))) hb); clear HO_4 HO_5 HI465 HB; have HO_4 := n0_; have HO_5 := n1_; have HI465 := n2_; have HB := n3_; clear n0_ n1_ n2_ n3_; clear hb; have p480 : 0 ≤ (x6_1 : Int) := of_decide_eq_true (by first | (with_reducible assumption) | assumption); have q480 : x6_1 < (t473.length : Int) := of_decide_eq_true (by first | (with_reducible assumption) | assumption); obtain ⟨ad480, e480, hx480_0, hx480_1, hx480_2⟩ := at_T38 (Kd.R_reads' HO_5.out).2.2 x6_1 p480 q480; obtain rfl : ad478 = ad480 := (by injection e480); replace p480 := eq_true p480; replace q480 := eq_true q480) | ((with_reducible refine gate_builtin (b := .append) (xs := #[.tmp 33, .tmp 38]) rfl ?_); (try (refine gate_guard (by rfl) ?_; dsimp only)); at_builtin; refine Kd.R_append k38 (w0 := w) w.heap.size rfl (.tmp 33) (.tmp 38) 24 38 (.agg #[(.int .i64 0), (.int .i64 0), (.int .i64 0)]) 24 rfl Try.underlying24 info38 rfl (by decide) (by omega) u4 x4_1 (⟨(rd_T38 t473 x6_1).f0, (rd_T38 t473 x6_1).f1, (rd_T38 t473 x6_1).f2⟩ : S38) [.int .i64 ((rd_T38 t473 x6_1).f0), .int .i64 ((rd_T38 t473 x6_1).f1), .int .i64 ((rd_T38 t473 x6_1).f2)] (fun k_ => some k_ ≠ (.slice (some ad478) t473.length co16 : Value).ownBlock) (fun _ => False) rfl rfl ?aP (fun _ hk => hk.elim) ?aF ?aO ?aB ?aS ?aL ?_; (case aP => exact k38_mkM _ _ _ (⟨(rd_T38 t473 x6_1).f0, (rd_T38 t473 x6_1).f1, (rd_T38 t473 x6_1).f2⟩ : S38)); (case aB => exact (by with_reducible repeat (first | exact HB.out | apply below_alloc | apply pw_below_drewN | apply below_drew1 | refine below_set ?_ (IsS58.ge HI465.out)))); (case aF => exact (fun k_ hk => Kd.fresh' (Kd.R_lt (by (with_reducible repeat (first | apply Kd.R_alloc | apply Kd.R_drewN | apply Kd.R_drew)); exact HO_5.out)) k_ hk)); (case aO => exact (by (with_reducible repeat (first | apply Kd.R_alloc | apply Kd.R_drewN | apply Kd.R_drew)); exact HO_4.out)); (case aS => exact (below_size (by with_reducible repeat (first | exact HB.out | apply below_alloc | apply pw_below_drewN | apply below_drew1 | refine below_set ?_ (IsS58.ge HI465.out))))); (case aL => have := LMc15.out; omega); intro v482 w18 ho hb hg hat; rw [← Ny481.out] at ho; have n0_ := Aside0.mk (Kd.R_after (ok := (fun _ => True)) (by (with_reducible repeat (first | apply Kd.R_alloc | apply Kd.R_drewN | apply Kd.R_drew)); exact Kd.R_mono HO_5.out (fun _ hk => ⟨trivial, hk⟩)) hg hat); have n1_ := Aside0.mk (IsS58.grown (by with_reducible repeat (first | exact HI465.out | apply IsS58.alloc | apply IsS58.drewN | apply IsS58.drew | apply IsS58.set_1 | apply IsS58.set_2)) hg (IsS58.own_ne HI465.out HO_4.out (by decide))); have n2_ := Aside0.mk (hb); have n3_ := Aside0.mk (ho); clear HO_5 HI465 HB HO_4; have HO_5 := n0_; have HI465 := n1_; have HB := n2_; have HO483 := n3_; clear n0_ n1_ n2_ n3_; clear ho hb hg hat))
       go_roundg k1
       case measure => have := HK1.out; omega
       case rel => exact ⟨(y481), (wrap64 (x6_1 + 1)), (by first | rfl | simp | simp [*]), H', ⟨by have := HK1.out; omega⟩, ⟨by (with_reducible repeat (first | apply Kd.R_alloc | apply Kd.R_drewN | apply Kd.R_drew)); exact HO483.out⟩, ⟨by (with_reducible repeat (first | apply Kd.R_alloc | apply Kd.R_drewN | apply Kd.R_drew)); exact Kd.R_mono HO_5.out (fun _ hk => hk.2)⟩, ⟨by with_reducible repeat (first | exact HI465.out | apply IsS58.alloc | apply IsS58.drewN | apply IsS58.drew | apply IsS58.set_1 | apply IsS58.set_2)⟩, ⟨by with_reducible repeat (first | exact HB.out | apply below_alloc | apply pw_below_drewN | apply below_drew1 | refine below_set ?_ (IsS58.ge HI465.out))⟩⟩
      ·rw [if_neg c15] at H
       exact absurd H (by simp)
     ·replace c14 := Bool.eq_false_iff.mpr c14
      subst c14
      have H1 : (spec_l17DrawBytes.l0 k1 x4_1 t473 (wrap64 (x6_1 + 1)) t462 t476 t477) = some r := by rw [if_neg (show ¬ (false = true) by decide)] at H; exact H
      clear H
      have H := H1
      clear H1
      have H' := Aside0.mk H
      clear H
      obtain ⟨Ao19, co19, eo19⟩ := Kd.R_slice HO_5.out
      subst eo19
      have p478 : 0 ≤ (x6_1 : Int) := of_decide_eq_true (by first | (with_reducible assumption) | assumption)
      have q478 : x6_1 < (t473.length : Int) := of_decide_eq_true (by first | (with_reducible assumption) | assumption)
      obtain ⟨ad478, e478, hx478_0, hx478_1, hx478_2⟩ := at_T38 (Kd.R_reads' HO_5.out).2.2 x6_1 p478 q478
      cases e478
      replace p478 := eq_true p478
      replace q478 := eq_true q478
      go_wp2_with (first | (go_at_call 18; (with_reducible refine (spec_OpOk.calls k1 ((rd_T38 t473 x6_1).f0) ((rd_T38 t473 x6_1).f1) ((rd_T38 t473 x6_1).f2) false _ A13.out).mono ?_); rintro e w20 ⟨rfl, hb⟩; have n0_ := Aside0.mk (Kd.R_below (by (with_reducible repeat (first | apply Kd.R_alloc | apply Kd.R_drewN | apply Kd.R_drew)); exact HO_4.out) hb); have n1_ := Aside0.mk (Kd.R_below (by (with_reducible repeat (first | apply Kd.R_alloc | apply Kd.R_drewN | apply Kd.R_drew)); exact HO_5.out) hb); have n2_ := Aside0.mk (IsS58.below (by with_reducible repeat (first | exact HI465.out | apply IsS58.alloc | apply IsS58.drewN | apply IsS58.drew | apply IsS58.set_1 | apply IsS58.set_2)) hb); have n3_ := Aside0.mk (below_step (by with_reducible repeat (first | exact HB.out | apply below_alloc | apply pw_below_drewN | apply below_drew1 | refine below_set ?_ (IsS58.ge HI465.out))) hb); clear HO_4 HO_5 HI465 HB; have HO_4 := n0_; have HO_5 := n1_; have HI465 := n2_; have HB := n3_; clear n0_ n1_ n2_ n3_; clear hb))
      go_roundg k1
      case measure => have := HK1.out; omega
      case rel => exact ⟨(x4_1), (wrap64 (x6_1 + 1)), (by first | rfl | simp | simp [*]), H', ⟨by have := HK1.out; omega⟩, ⟨by (with_reducible repeat (first | apply Kd.R_alloc | apply Kd.R_drewN | apply Kd.R_drew)); exact HO_4.out⟩, ⟨by (with_reducible repeat (first | apply Kd.R_alloc | apply Kd.R_drewN | apply Kd.R_drew)); exact HO_5.out⟩, ⟨by with_reducible repeat (first | exact HI465.out | apply IsS58.alloc | apply IsS58.drewN | apply IsS58.drew | apply IsS58.set_1 | apply IsS58.set_2)⟩, ⟨by with_reducible repeat (first | exact HB.out | apply below_alloc | apply pw_below_drewN | apply below_drew1 | refine below_set ?_ (IsS58.ge HI465.out))⟩⟩
    ·rw [if_neg c12] at H
     exact absurd H (by simp)
   ·rw [if_neg c11] at H
    have c11b0 : decide (x6_1 < (t473.length : Int)) = false := decide_eq_false c11
    clear c11
    replace H := Option.bind_eq_some_iff.mp H
    obtain ⟨⟨t484, t485, t486⟩, A210, H⟩ := H
    replace H : (if 0 ≤ t484 then (if t484 ≤ (x4_1.length : Int) then ((spec_PackOps.f k1 (x4_1.take (t484 : Int).toNat)).bind fun bt491 => ((spec_PackOps.f k1 (x4_1.drop (t484 : Int).toNat)).bind fun bt499 => ((spec_l01Once.f t462 t485 t486 3).bind fun bt503 => (if bt503.1 = true then ((spec_l01Join.f k1 bt491.1 bt499.1).bind fun t506 => (spec_l17DrawBytes.j1 k1 t506 t462 bt503.2.1 bt503.2.2)) else (spec_l17DrawBytes.j1 k1 bt491.1 t462 bt503.2.1 bt503.2.2))))) else (none)) else (none)) = some r := H
    have A21 := Aside0.mk A210
    clear A210
    by_cases c22 : 0 ≤ t484
    ·rw [if_pos c22] at H
     have c22b0 := eq_true c22
     have c22b1 : decide (0 ≤ t484) = true := decide_eq_true c22
     clear c22
     by_cases c23 : t484 ≤ (x4_1.length : Int)
     ·rw [if_pos c23] at H
      have c23b0 := eq_true c23
      have c23b1 : decide (t484 ≤ (x4_1.length : Int)) = true := decide_eq_true c23
      clear c23
      obtain ⟨y487, hy487⟩ : ∃ y_ : List (S38), y_ = (x4_1.take (t484 : Int).toNat) := ⟨_, rfl⟩
      replace H : ((spec_PackOps.f k1 y487).bind fun bt491 => ((spec_PackOps.f k1 (x4_1.drop (t484 : Int).toNat)).bind fun bt499 => ((spec_l01Once.f t462 t485 t486 3).bind fun bt503 => (if bt503.1 = true then ((spec_l01Join.f k1 bt491.1 bt499.1).bind fun t506 => (spec_l17DrawBytes.j1 k1 t506 t462 bt503.2.1 bt503.2.2)) else (spec_l17DrawBytes.j1 k1 bt491.1 t462 bt503.2.1 bt503.2.2))))) = some r := by first | (rw [hy487]; exact H) | exact H
      have Ny487 := Aside0.mk hy487
      clear hy487
      replace H := Option.bind_eq_some_iff.mp H
      obtain ⟨⟨t491, t492⟩, A240, H⟩ := H
      replace H : ((spec_PackOps.f k1 (x4_1.drop (t484 : Int).toNat)).bind fun bt499 => ((spec_l01Once.f t462 t485 t486 3).bind fun bt503 => (if bt503.1 = true then ((spec_l01Join.f k1 t491 bt499.1).bind fun t506 => (spec_l17DrawBytes.j1 k1 t506 t462 bt503.2.1 bt503.2.2)) else (spec_l17DrawBytes.j1 k1 t491 t462 bt503.2.1 bt503.2.2)))) = some r := H
      have A24 := Aside0.mk A240
      clear A240
      have c25b0 := eq_true (of_decide_eq_true (by first | (with_reducible assumption) | assumption) : 0 ≤ t484)
      have c26b0 := eq_true (of_decide_eq_true (by first | (with_reducible assumption) | assumption) : t484 ≤ (x4_1.length : Int))
      obtain ⟨y495, hy495⟩ : ∃ y_ : List (S38), y_ = (x4_1.drop (t484 : Int).toNat) := ⟨_, rfl⟩
      replace H : ((spec_PackOps.f k1 y495).bind fun bt499 => ((spec_l01Once.f t462 t485 t486 3).bind fun bt503 => (if bt503.1 = true then ((spec_l01Join.f k1 t491 bt499.1).bind fun t506 => (spec_l17DrawBytes.j1 k1 t506 t462 bt503.2.1 bt503.2.2)) else (spec_l17DrawBytes.j1 k1 t491 t462 bt503.2.1 bt503.2.2)))) = some r := by first | (rw [hy495]; exact H) | exact H
      have Ny495 := Aside0.mk hy495
      clear hy495
      replace H := Option.bind_eq_some_iff.mp H
      obtain ⟨⟨t499, t500⟩, A270, H⟩ := H
      replace H : ((spec_l01Once.f t462 t485 t486 3).bind fun bt503 => (if bt503.1 = true then ((spec_l01Join.f k1 t491 t499).bind fun t506 => (spec_l17DrawBytes.j1 k1 t506 t462 bt503.2.1 bt503.2.2)) else (spec_l17DrawBytes.j1 k1 t491 t462 bt503.2.1 bt503.2.2))) = some r := H
      have A27 := Aside0.mk A270
      clear A270
      replace H := Option.bind_eq_some_iff.mp H
      obtain ⟨⟨t503, t504, t505⟩, A280, H⟩ := H
      replace H : (if t503 = true then ((spec_l01Join.f k1 t491 t499).bind fun t506 => (spec_l17DrawBytes.j1 k1 t506 t462 t504 t505)) else (spec_l17DrawBytes.j1 k1 t491 t462 t504 t505)) = some r := H
      have A28 := Aside0.mk A280
      clear A280
      have HC29 := Aside0.mk H
      clear H
      obtain ⟨Ao30, co30, eo30⟩ := Kd.R_slice HO_5.out
      subst eo30
      obtain ⟨Ao31, co31, eo31⟩ := Kd.R_slice HO_4.out
      subst eo31
      go_upto_if 61 with (first | (go_at_call 34; (with_reducible refine (spec_l01Below.calls g465 t462 t476 t477 (wrap64 ((x4_1.length : Int) + 1)) t484 t485 t486 w _ ?side1 ?side2 A21.out).mono ?_); (case side1 => with_reducible repeat (first | exact HI465.out | apply IsS58.alloc | apply IsS58.drewN | apply IsS58.drew | apply IsS58.set_1 | apply IsS58.set_2)); (case side2 => with_reducible repeat (first | exact HB.out | apply below_alloc | apply pw_below_drewN | apply below_drew1 | refine below_set ?_ (IsS58.ge HI465.out))); rintro e w32 ⟨rfl, hi, hb, hk⟩; have n0_ := Aside0.mk (Kd.R_mono (Kd.R_keep (IsS58.apart (show IsS58 w _ g465 t462 t476 t477 from by with_reducible repeat (first | exact HI465.out | apply IsS58.alloc | apply IsS58.drewN | apply IsS58.drew | apply IsS58.set_1 | apply IsS58.set_2)) (by (with_reducible repeat (first | apply Kd.R_alloc | apply Kd.R_drewN | apply Kd.R_drew)); exact HO_4.out) (by decide)) hk (fun _ h => h.2)) (fun _ h => h.1)); have n1_ := Aside0.mk (Kd.R_mono (Kd.R_keep (IsS58.apart (show IsS58 w _ g465 t462 t476 t477 from by with_reducible repeat (first | exact HI465.out | apply IsS58.alloc | apply IsS58.drewN | apply IsS58.drew | apply IsS58.set_1 | apply IsS58.set_2)) (by (with_reducible repeat (first | apply Kd.R_alloc | apply Kd.R_drewN | apply Kd.R_drew)); exact HO_5.out) (by decide)) hk (fun _ h => h.2)) (fun _ h => h.1)); have n2_ := Aside0.mk (hb); have n3_ := Aside0.mk (hi); clear HO_4 HO_5 HB HI465; have HO_4 := n0_; have HO_5 := n1_; have HB := n2_; have HI465 := n3_; clear n0_ n1_ n2_ n3_; clear hb hk hi; have q33 : (t484 : Int) ≤ ((x4_1.length : Int) : Int) := of_decide_eq_true (by first | (with_reducible assumption) | assumption); obtain ⟨i033, hi033, _, hsz33, _⟩ := info_parts info38; have hroom33 : x4_1.length ≤ co31 := (Kd.R_reads' HO_4.out).2.1; have hC33 : Kd.C k38 _ Ao31 x4_1.length x4_1 := (Kd.R_reads' HO_4.out).2.2; have hcut33 := cut_to (P := Try.prog) 24 38 .i64 Try.underlying24 hi033 Ao31 x4_1.length co31 t484 (of_decide_eq_true (by first | (with_reducible assumption) | assumption)) q33 hroom33; have hr33 := Kd.C_take (m := (t484 : Int).toNat) hC33 (by omega); have hy33 : y487.length = (t484 : Int).toNat := (by rw [Ny487.out, List.length_take]; omega); rw [← Ny487.out] at hr33; rw [← hy33] at hcut33; have HR490 := Aside0.mk hr33; have HC490 := Aside0.mk (show y487.length ≤ co31 from by omega); clear hr33 hC33 hroom33 hi033 hsz33; have KY33 := Aside0.mk hy33; clear hy33; have KL33 := Aside0.mk (show (t484 : Int).toNat ≤ x4_1.length from by omega); replace q33 := eq_true q33) | (go_at_call 7; (with_reducible refine (spec_PackOps.calls k1 _ _ y487 t491 t492 _ ?side1 ?side2 A24.out).mono ?_); (case side1 => repeat (first | exact (by repeat (first | (with_reducible exact HR490.out) | (with_reducible refine Kd.C_alloc ?_ _) | (with_reducible refine Kd.C_drewN ?_ _) | (with_reducible refine Kd.C_drew ?_) | exact HR490.out)) | (with_reducible refine Kd.C_alloc ?_ _) | (with_reducible refine Kd.C_drewN ?_ _) | (with_reducible refine Kd.C_drew ?_))); (case side2 => exact HC490.out); rintro e w34 ⟨v493, rfl, ho0, hb⟩; have n0_ := Aside0.mk (Kd.R_below (by (with_reducible repeat (first | apply Kd.R_alloc | apply Kd.R_drewN | apply Kd.R_drew)); exact HO_4.out) hb); have n1_ := Aside0.mk (Kd.R_below (by (with_reducible repeat (first | apply Kd.R_alloc | apply Kd.R_drewN | apply Kd.R_drew)); exact HO_5.out) hb); have n2_ := Aside0.mk (Kd.R_lower ho0 (below_size (by with_reducible repeat (first | exact HB.out | apply below_alloc | apply pw_below_drewN | apply below_drew1 | refine below_set ?_ (IsS58.ge HI465.out))))); have n3_ := Aside0.mk (IsS58.below (by with_reducible repeat (first | exact HI465.out | apply IsS58.alloc | apply IsS58.drewN | apply IsS58.drew | apply IsS58.set_1 | apply IsS58.set_2)) hb); have n4_ := Aside0.mk (Kd.C_below (by repeat (first | (with_reducible exact HR490.out) | (with_reducible refine Kd.C_alloc ?_ _) | (with_reducible refine Kd.C_drewN ?_ _) | (with_reducible refine Kd.C_drew ?_) | exact HR490.out)) hb); have n5_ := Aside0.mk (below_step (by with_reducible repeat (first | exact HB.out | apply below_alloc | apply pw_below_drewN | apply below_drew1 | refine below_set ?_ (IsS58.ge HI465.out))) hb); clear HO_4 HO_5 HI465 HR490 HB; have HO_4 := n0_; have HO_5 := n1_; have HO494 := n2_; have HI465 := n3_; have HR490 := n4_; have HB := n5_; clear n0_ n1_ n2_ n3_ n4_ n5_; clear hb ho0; have q35 : (t484 : Int) ≤ ((x4_1.length : Int) : Int) := of_decide_eq_true (by first | (with_reducible assumption) | assumption); obtain ⟨i035, hi035, _, hsz35, _⟩ := info_parts info38; have hroom35 : x4_1.length ≤ co31 := (Kd.R_reads' HO_4.out).2.1; have hC35 : Kd.C k38 _ Ao31 x4_1.length x4_1 := (Kd.R_reads' HO_4.out).2.2; have q035 : (0 : Int) ≤ (t484 : Int) := of_decide_eq_true (by first | (with_reducible assumption) | assumption); have hcut35 := cut_from (P := Try.prog) 24 38 .i64 Try.underlying24 hi035 3 hsz35 Ao31 x4_1.length co31 t484 q035 q35; have hr35 := Kd.C_drop (m := (t484 : Int).toNat) (c := co31) hC35 (by omega) hroom35; obtain ⟨A35, hA35⟩ : ∃ A1, A1 = (if co31 = (t484 : Int).toNat then Ao31 else (Ao31 : Option Addr).map (·.add ((t484 : Int).toNat * 3))) := ⟨_, rfl⟩; obtain ⟨c35, hc35⟩ : ∃ c1, c1 = co31 - (t484 : Int).toNat := ⟨_, rfl⟩; have hy35 : y495.length = x4_1.length - (t484 : Int).toNat := (by rw [Ny495.out, List.length_drop] <;> omega); rw [show (x4_1).drop (t484 : Int).toNat = y495 from Ny495.out.symm] at hr35; replace hr35 : Kd.C k38 _ A35 y495.length y495 := (by rw [hA35]; exact hr35); rw [← hy35, ← hA35, ← hc35] at hcut35; have HR498 := Aside0.mk hr35; have HC498 := Aside0.mk (show y495.length ≤ c35 from by rw [hy35, hc35]; exact Nat.sub_le_sub_right hroom35 _); clear hr35 hC35 hroom35 hi035 hsz35 hc35; have KY35 := Aside0.mk hy35; have KA35 := Aside0.mk hA35; clear hy35 hA35; have KL35 := Aside0.mk (show (t484 : Int).toNat ≤ x4_1.length from by omega); replace q35 := eq_true q35) | (go_at_call 7; (with_reducible refine (spec_PackOps.calls k1 _ _ y495 t499 t500 _ ?side1 ?side2 A27.out).mono ?_); (case side1 => repeat (first | exact (by repeat (first | (with_reducible exact HR498.out) | (with_reducible refine Kd.C_alloc ?_ _) | (with_reducible refine Kd.C_drewN ?_ _) | (with_reducible refine Kd.C_drew ?_) | exact HR498.out)) | (with_reducible refine Kd.C_alloc ?_ _) | (with_reducible refine Kd.C_drewN ?_ _) | (with_reducible refine Kd.C_drew ?_))); (case side2 => exact HC498.out); rintro e w36 ⟨v501, rfl, ho0, hb⟩; have n0_ := Aside0.mk (Kd.R_below (by (with_reducible repeat (first | apply Kd.R_alloc | apply Kd.R_drewN | apply Kd.R_drew)); exact HO_4.out) hb); have n1_ := Aside0.mk (Kd.R_below (by (with_reducible repeat (first | apply Kd.R_alloc | apply Kd.R_drewN | apply Kd.R_drew)); exact HO_5.out) hb); have n2_ := Aside0.mk (Kd.R_elder' (by (with_reducible repeat (first | apply Kd.R_alloc | apply Kd.R_drewN | apply Kd.R_drew)); exact HO494.out) (Kd.R_base ho0) hb); have n3_ := Aside0.mk (Kd.R_lower (Kd.R_new' ho0 (Kd.R_lt (by (with_reducible repeat (first | apply Kd.R_alloc | apply Kd.R_drewN | apply Kd.R_drew)); exact HO494.out))) (below_size (by with_reducible repeat (first | exact HB.out | apply below_alloc | apply pw_below_drewN | apply below_drew1 | refine below_set ?_ (IsS58.ge HI465.out))))); have n4_ := Aside0.mk (IsS58.below (by with_reducible repeat (first | exact HI465.out | apply IsS58.alloc | apply IsS58.drewN | apply IsS58.drew | apply IsS58.set_1 | apply IsS58.set_2)) hb); have n5_ := Aside0.mk (Kd.C_below (by repeat (first | (with_reducible exact HR490.out) | (with_reducible refine Kd.C_alloc ?_ _) | (with_reducible refine Kd.C_drewN ?_ _) | (with_reducible refine Kd.C_drew ?_) | exact HR490.out)) hb); have n6_ := Aside0.mk (Kd.C_below (by repeat (first | (with_reducible exact HR498.out) | (with_reducible refine Kd.C_alloc ?_ _) | (with_reducible refine Kd.C_drewN ?_ _) | (with_reducible refine Kd.C_drew ?_) | exact HR498.out)) hb); have n7_ := Aside0.mk (below_step (by with_reducible repeat (first | exact HB.out | apply below_alloc | apply pw_below_drewN | apply below_drew1 | refine below_set ?_ (IsS58.ge HI465.out))) hb); clear HO_4 HO_5 HO494 HI465 HR490 HR498 HB; have HO_4 := n0_; have HO_5 := n1_; have HO494 := n2_; have HO502 := n3_; have HI465 := n4_; have HR490 := n5_; have HR498 := n6_; have HB := n7_; clear n0_ n1_ n2_ n3_ n4_ n5_ n6_ n7_; clear hb ho0) | (go_at_call 36; (with_reducible refine (spec_l01Once.calls g465 t462 t485 t486 3 t503 t504 t505 w _ ?side1 ?side2 A28.out).mono ?_); (case side1 => with_reducible repeat (first | exact HI465.out | apply IsS58.alloc | apply IsS58.drewN | apply IsS58.drew | apply IsS58.set_1 | apply IsS58.set_2)); (case side2 => with_reducible repeat (first | exact HB.out | apply below_alloc | apply pw_below_drewN | apply below_drew1 | refine below_set ?_ (IsS58.ge HI465.out))); rintro e w37 ⟨rfl, hi, hb, hk⟩; have n0_ := Aside0.mk (Kd.R_mono (Kd.R_keep (IsS58.apart (show IsS58 w _ g465 t462 t485 t486 from by with_reducible repeat (first | exact HI465.out | apply IsS58.alloc | apply IsS58.drewN | apply IsS58.drew | apply IsS58.set_1 | apply IsS58.set_2)) (by (with_reducible repeat (first | apply Kd.R_alloc | apply Kd.R_drewN | apply Kd.R_drew)); exact HO_4.out) (by decide)) hk (fun _ h => h.2)) (fun _ h => h.1)); have n1_ := Aside0.mk (Kd.R_mono (Kd.R_keep (IsS58.apart (show IsS58 w _ g465 t462 t485 t486 from by with_reducible repeat (first | exact HI465.out | apply IsS58.alloc | apply IsS58.drewN | apply IsS58.drew | apply IsS58.set_1 | apply IsS58.set_2)) (by (with_reducible repeat (first | apply Kd.R_alloc | apply Kd.R_drewN | apply Kd.R_drew)); exact HO_5.out) (by decide)) hk (fun _ h => h.2)) (fun _ h => h.1)); have n2_ := Aside0.mk (Kd.R_mono (Kd.R_keep (IsS58.apart (show IsS58 w _ g465 t462 t485 t486 from by with_reducible repeat (first | exact HI465.out | apply IsS58.alloc | apply IsS58.drewN | apply IsS58.drew | apply IsS58.set_1 | apply IsS58.set_2)) (by (with_reducible repeat (first | apply Kd.R_alloc | apply Kd.R_drewN | apply Kd.R_drew)); exact HO494.out) (by decide)) hk (fun _ h => h.2)) (fun _ h => h.1)); have n3_ := Aside0.mk (Kd.R_mono (Kd.R_keep (IsS58.apart (show IsS58 w _ g465 t462 t485 t486 from by with_reducible repeat (first | exact HI465.out | apply IsS58.alloc | apply IsS58.drewN | apply IsS58.drew | apply IsS58.set_1 | apply IsS58.set_2)) (by (with_reducible repeat (first | apply Kd.R_alloc | apply Kd.R_drewN | apply Kd.R_drew)); exact HO502.out) (by decide)) hk (fun _ h => h.2)) (fun _ h => h.1)); have n4_ := Aside0.mk (hb); have n5_ := Aside0.mk (hi); clear HO_4 HO_5 HO494 HO502 HB HI465; have HO_4 := n0_; have HO_5 := n1_; have HO494 := n2_; have HO502 := n3_; have HB := n4_; have HI465 := n5_; clear n0_ n1_ n2_ n3_ n4_ n5_; clear hb hk hi))
      (try simp only [Act.put, List.setIfInBounds_toArray, List.set_cons_zero, List.set_cons_succ])
      go_cut [12] (fun v12 wc => ∃ (kq : Nat) (x12_28 : List Int), Aside0 (spec_l17DrawBytes.j1 kq x12_28 t462 t504 t505 = some r) ∧ Aside0 (kq ≤ k1) ∧ Aside0 (Kd.R (Kd.int .u8) 5 wc w.heap.size (fun _ => True) v12 x12_28) ∧ Aside0 (IsS58 w wc g465 t462 t504 t505) ∧ Aside0 (Below w.heap.size w wc))
      case first =>
       have H := HC29.out
       clear HC29
       by_cases c38 : t503 = true
       ·subst c38
        have H1 : ((spec_l01Join.f k1 t491 t499).bind fun t506 => (spec_l17DrawBytes.j1 k1 t506 t462 t504 t505)) = some r := by rw [if_pos rfl] at H; exact H
        clear H
        have H := H1
        clear H1
        replace H := Option.bind_eq_some_iff.mp H
        obtain ⟨t506, A390, H⟩ := H
        replace H : (spec_l17DrawBytes.j1 k1 t506 t462 t504 t505) = some r := H
        have A39 := Aside0.mk A390
        clear A390
        have H' := Aside0.mk H
        clear H
        obtain ⟨Ao40, co40, eo40⟩ := Kd.R_slice HO494.out
        subst eo40
        obtain ⟨Ao41, co41, eo41⟩ := Kd.R_slice HO502.out
        subst eo41
        go_wp2_with (first | (go_at_call 19; (with_reducible refine (spec_l01Join.calls k1 _ _ t491 _ _ t499 t506 _ ?side1 ?side2 ?side3 ?side4 A39.out).mono ?_); (case side1 => repeat (first | exact (Kd.R_reads' HO494.out).2.2 | (with_reducible refine Kd.C_alloc ?_ _) | (with_reducible refine Kd.C_drewN ?_ _) | (with_reducible refine Kd.C_drew ?_))); (case side2 => exact (Kd.R_reads' HO494.out).2.1); (case side3 => repeat (first | exact (Kd.R_reads' HO502.out).2.2 | (with_reducible refine Kd.C_alloc ?_ _) | (with_reducible refine Kd.C_drewN ?_ _) | (with_reducible refine Kd.C_drew ?_))); (case side4 => exact (Kd.R_reads' HO502.out).2.1); rintro e w42 ⟨v507, rfl, ho0, hb⟩; have n0_ := Aside0.mk (Kd.R_below (by (with_reducible repeat (first | apply Kd.R_alloc | apply Kd.R_drewN | apply Kd.R_drew)); exact HO_4.out) hb); have n1_ := Aside0.mk (Kd.R_below (by (with_reducible repeat (first | apply Kd.R_alloc | apply Kd.R_drewN | apply Kd.R_drew)); exact HO_5.out) hb); have n2_ := Aside0.mk (Kd.R_elder' (by (with_reducible repeat (first | apply Kd.R_alloc | apply Kd.R_drewN | apply Kd.R_drew)); exact HO494.out) (Kd.R_base ho0) hb); have n3_ := Aside0.mk (Kd.R_elder' (by (with_reducible repeat (first | apply Kd.R_alloc | apply Kd.R_drewN | apply Kd.R_drew)); exact HO502.out) (Kd.R_base ho0) hb); have n4_ := Aside0.mk (Kd.R_lower (Kd.R_new' (Kd.R_new' ho0 (Kd.R_lt (by (with_reducible repeat (first | apply Kd.R_alloc | apply Kd.R_drewN | apply Kd.R_drew)); exact HO494.out))) (Kd.R_lt (by (with_reducible repeat (first | apply Kd.R_alloc | apply Kd.R_drewN | apply Kd.R_drew)); exact HO502.out))) (below_size (by with_reducible repeat (first | exact HB.out | apply below_alloc | apply pw_below_drewN | apply below_drew1 | refine below_set ?_ (IsS58.ge HI465.out))))); have n5_ := Aside0.mk (IsS58.below (by with_reducible repeat (first | exact HI465.out | apply IsS58.alloc | apply IsS58.drewN | apply IsS58.drew | apply IsS58.set_1 | apply IsS58.set_2)) hb); have n6_ := Aside0.mk (below_step (by with_reducible repeat (first | exact HB.out | apply below_alloc | apply pw_below_drewN | apply below_drew1 | refine below_set ?_ (IsS58.ge HI465.out))) hb); clear HO_4 HO_5 HO494 HO502 HI465 HB; have HO_4 := n0_; have HO_5 := n1_; have HO494 := n2_; have HO502 := n3_; have HO508 := n4_; have HI465 := n5_; have HB := n6_; clear n0_ n1_ n2_ n3_ n4_ n5_ n6_; clear hb ho0))
        go_meet
        case rel => exact ⟨_, (t506), H', ⟨by have := HK1.out; first | omega | exact Nat.le_refl _⟩, ⟨by (with_reducible repeat (first | apply Kd.R_alloc | apply Kd.R_drewN | apply Kd.R_drew)); exact Kd.R_mono HO508.out (fun _ hk => trivial)⟩, ⟨by with_reducible repeat (first | exact HI465.out | apply IsS58.alloc | apply IsS58.drewN | apply IsS58.drew | apply IsS58.set_1 | apply IsS58.set_2)⟩, ⟨by with_reducible repeat (first | exact HB.out | apply below_alloc | apply pw_below_drewN | apply below_drew1 | refine below_set ?_ (IsS58.ge HI465.out))⟩⟩
       ·replace c38 := Bool.eq_false_iff.mpr c38
        subst c38
        have H1 : (spec_l17DrawBytes.j1 k1 t491 t462 t504 t505) = some r := by rw [if_neg (show ¬ (false = true) by decide)] at H; exact H
        clear H
        have H := H1
        clear H1
        have H' := Aside0.mk H
        clear H
        go_wp2
        go_meet
        case rel => exact ⟨_, (t491), H', ⟨by have := HK1.out; first | omega | exact Nat.le_refl _⟩, ⟨by (with_reducible repeat (first | apply Kd.R_alloc | apply Kd.R_drewN | apply Kd.R_drew)); exact Kd.R_mono HO494.out (fun _ hk => trivial)⟩, ⟨by with_reducible repeat (first | exact HI465.out | apply IsS58.alloc | apply IsS58.drewN | apply IsS58.drew | apply IsS58.set_1 | apply IsS58.set_2)⟩, ⟨by with_reducible repeat (first | exact HB.out | apply below_alloc | apply pw_below_drewN | apply below_drew1 | refine below_set ?_ (IsS58.ge HI465.out))⟩⟩
      case rest =>
       clear HC29
       try clear c1
       try clear c2
       try clear p2
       try clear c3
       try clear q3
       try clear p4
       try clear q4
       try clear hx4
       try clear p6
       try clear c7
       try clear c11
       try clear c11b0
       try clear c12
       try clear c12b0
       try clear c14
       try clear c15
       try clear c18
       try clear c19
       try clear c22
       try clear c22b0
       try clear c22b1
       try clear c23
       try clear c23b0
       try clear c23b1
       try clear c25
       try clear c25b0
       try clear c26
       try clear c26b0
       try clear c30
       try clear c33
       try clear q33
       try clear c34
       try clear c35
       try clear q35
       try clear c36
       try clear c37
       try clear c38
       try clear hx478_0
       try clear hx478_1
       try clear hx478_2
       try clear hx480_0
       try clear hx480_1
       try clear hx480_2
       try clear p2
       try clear p478
       try clear p480
       try clear q035
       try clear q33
       try clear q35
       try clear q478
       try clear q480
       obtain ⟨kq, x12_28, HA, HJ28, HO_12, HI465, HB⟩ := hcut
       cases kq with
       | zero => exact absurd HA.out (by simp [spec_l17DrawBytes.j1])
       | succ kj28 =>
        have H := HA.out
        clear HA
        simp only [spec_l17DrawBytes.j1] at H
        have HC43 := Aside0.mk H
        clear H
        go_upto_region 15 with (fail)
        go_cut [71] (fun v71 wc => ∃ (kq : Nat) (x71_42 : Bool) (x466001_42 : Int) (x466002_42 : Int), v71 = .bool x71_42 ∧ Aside0 (spec_l17DrawBytes.j2 kq x12_28 x71_42 t462 x466001_42 x466002_42 = some r) ∧ Aside0 (kq ≤ kj28) ∧ Aside0 (Kd.R (Kd.int .u8) 5 wc w.heap.size (fun _ => True) u12 x12_28) ∧ Aside0 (IsS58 w wc g465 t462 x466001_42 x466002_42) ∧ Aside0 (Below w.heap.size w wc))
        case first =>
         have H := HC43.out
         clear HC43
         replace H := Option.bind_eq_some_iff.mp H
         obtain ⟨⟨t509, t510, t511⟩, A440, H⟩ := H
         replace H : (if t509 = true then (spec_l17DrawBytes.j2 kj28 x12_28 (decide ((x12_28.length : Int) > 0)) t462 t510 t511) else (spec_l17DrawBytes.j2 kj28 x12_28 false t462 t510 t511)) = some r := H
         have A44 := Aside0.mk A440
         clear A440
         by_cases c45 : t509 = true
         ·subst c45
          have H1 : (spec_l17DrawBytes.j2 kj28 x12_28 (decide ((x12_28.length : Int) > 0)) t462 t510 t511) = some r := by rw [if_pos rfl] at H; exact H
          clear H
          have H := H1
          clear H1
          have H' := Aside0.mk H
          clear H
          go_wp2_with (first | (go_at_call 36; (with_reducible refine (spec_l01Once.calls g465 t462 t504 t505 3 true t510 t511 w _ ?side1 ?side2 A44.out).mono ?_); (case side1 => with_reducible repeat (first | exact HI465.out | apply IsS58.alloc | apply IsS58.drewN | apply IsS58.drew | apply IsS58.set_1 | apply IsS58.set_2)); (case side2 => with_reducible repeat (first | exact HB.out | apply below_alloc | apply pw_below_drewN | apply below_drew1 | refine below_set ?_ (IsS58.ge HI465.out))); rintro e w46 ⟨rfl, hi, hb, hk⟩; have n0_ := Aside0.mk (Kd.R_mono (Kd.R_keep (IsS58.apart (show IsS58 w _ g465 t462 t504 t505 from by with_reducible repeat (first | exact HI465.out | apply IsS58.alloc | apply IsS58.drewN | apply IsS58.drew | apply IsS58.set_1 | apply IsS58.set_2)) (by (with_reducible repeat (first | apply Kd.R_alloc | apply Kd.R_drewN | apply Kd.R_drew)); exact HO_12.out) (by decide)) hk (fun _ h => h.2)) (fun _ h => h.1)); have n1_ := Aside0.mk (hb); have n2_ := Aside0.mk (hi); clear HO_12 HB HI465; have HO_12 := n0_; have HB := n1_; have HI465 := n2_; clear n0_ n1_ n2_; clear hb hk hi; obtain ⟨Ao47, co47, eo47⟩ := Kd.R_slice HO_12.out; subst eo47))
          go_meet
          case rel => exact ⟨_, (decide ((x12_28.length : Int) > 0)), (t510), (t511), (by first | rfl | simp | simp [*]), H', ⟨by have := HK1.out; have := HJ28.out; first | omega | exact Nat.le_refl _⟩, ⟨by (with_reducible repeat (first | apply Kd.R_alloc | apply Kd.R_drewN | apply Kd.R_drew)); exact HO_12.out⟩, ⟨by with_reducible repeat (first | exact HI465.out | apply IsS58.alloc | apply IsS58.drewN | apply IsS58.drew | apply IsS58.set_1 | apply IsS58.set_2)⟩, ⟨by with_reducible repeat (first | exact HB.out | apply below_alloc | apply pw_below_drewN | apply below_drew1 | refine below_set ?_ (IsS58.ge HI465.out))⟩⟩
         ·replace c45 := Bool.eq_false_iff.mpr c45
          subst c45
          have H1 : (spec_l17DrawBytes.j2 kj28 x12_28 false t462 t510 t511) = some r := by rw [if_neg (show ¬ (false = true) by decide)] at H; exact H
          clear H
          have H := H1
          clear H1
          have H' := Aside0.mk H
          clear H
          go_wp2_with (first | (go_at_call 36; (with_reducible refine (spec_l01Once.calls g465 t462 t504 t505 3 false t510 t511 w _ ?side1 ?side2 A44.out).mono ?_); (case side1 => with_reducible repeat (first | exact HI465.out | apply IsS58.alloc | apply IsS58.drewN | apply IsS58.drew | apply IsS58.set_1 | apply IsS58.set_2)); (case side2 => with_reducible repeat (first | exact HB.out | apply below_alloc | apply pw_below_drewN | apply below_drew1 | refine below_set ?_ (IsS58.ge HI465.out))); rintro e w48 ⟨rfl, hi, hb, hk⟩; have n0_ := Aside0.mk (Kd.R_mono (Kd.R_keep (IsS58.apart (show IsS58 w _ g465 t462 t504 t505 from by with_reducible repeat (first | exact HI465.out | apply IsS58.alloc | apply IsS58.drewN | apply IsS58.drew | apply IsS58.set_1 | apply IsS58.set_2)) (by (with_reducible repeat (first | apply Kd.R_alloc | apply Kd.R_drewN | apply Kd.R_drew)); exact HO_12.out) (by decide)) hk (fun _ h => h.2)) (fun _ h => h.1)); have n1_ := Aside0.mk (hb); have n2_ := Aside0.mk (hi); clear HO_12 HB HI465; have HO_12 := n0_; have HB := n1_; have HI465 := n2_; clear n0_ n1_ n2_; clear hb hk hi))
          go_meet
          case rel => exact ⟨_, (false), (t510), (t511), (by first | rfl | simp | simp [*]), H', ⟨by have := HK1.out; have := HJ28.out; first | omega | exact Nat.le_refl _⟩, ⟨by (with_reducible repeat (first | apply Kd.R_alloc | apply Kd.R_drewN | apply Kd.R_drew)); exact HO_12.out⟩, ⟨by with_reducible repeat (first | exact HI465.out | apply IsS58.alloc | apply IsS58.drewN | apply IsS58.drew | apply IsS58.set_1 | apply IsS58.set_2)⟩, ⟨by with_reducible repeat (first | exact HB.out | apply below_alloc | apply pw_below_drewN | apply below_drew1 | refine below_set ?_ (IsS58.ge HI465.out))⟩⟩
        case rest =>
         clear HC43
         try clear c1
         try clear c2
         try clear p2
         try clear c3
         try clear q3
         try clear c4
         try clear p4
         try clear q4
         try clear hx4
         try clear p6
         try clear c7
         try clear c11
         try clear c11b0
         try clear c12
         try clear c12b0
         try clear c14
         try clear c15
         try clear c18
         try clear c19
         try clear c22
         try clear c22b0
         try clear c22b1
         try clear c23
         try clear c23b0
         try clear c23b1
         try clear c25
         try clear c25b0
         try clear c26
         try clear c26b0
         try clear c30
         try clear c33
         try clear q33
         try clear c34
         try clear c35
         try clear q35
         try clear c36
         try clear c37
         try clear c38
         try clear c45
         try clear p47
         try clear q47
         try clear hx47
         try clear p48
         try clear q48
         try clear hx48
         try clear hx478_0
         try clear hx478_1
         try clear hx478_2
         try clear hx480_0
         try clear hx480_1
         try clear hx480_2
         try clear p2
         try clear p4
         try clear p478
         try clear p480
         try clear p6
         try clear q035
         try clear q3
         try clear q33
         try clear q35
         try clear q4
         try clear q478
         try clear q480
         obtain ⟨kq, x71_42, x466001_42, x466002_42, rfl, HA, HJ42, HO_12, HI465, HB⟩ := hcut
         cases kq with
         | zero => exact absurd HA.out (by simp [spec_l17DrawBytes.j2])
         | succ kj42 =>
          have H := HA.out
          clear HA
          simp only [spec_l17DrawBytes.j2] at H
          by_cases c49 : x71_42 = true
          ·subst c49
           have H1 : ((spec_l01Below.f t462 x466001_42 x466002_42 3).bind fun bt512 => (if bt512.1 = 0 then ((spec_l01Below.f t462 bt512.2.1 bt512.2.2 (x12_28.length : Int)).bind fun bt515 => (if 0 ≤ bt515.1 then (if bt515.1 ≤ (x12_28.length : Int) then (some (x12_28.take (bt515.1 : Int).toNat)) else (none)) else (none))) else (if bt512.1 = 1 then ((spec_l01Below.f t462 bt512.2.1 bt512.2.2 (x12_28.length : Int)).bind fun bt521 => ((spec_l01Below.f t462 bt521.2.1 bt521.2.2 256).bind fun bt524 => (if 0 ≤ bt521.1 then (if bt521.1 < (x12_28.length : Int) then (some (x12_28.set (bt521.1 : Int).toNat ((bt524.1) % 256))) else (none)) else (none)))) else (if bt512.1 = 2 then ((spec_l01Below.f t462 bt512.2.1 bt512.2.2 6).bind fun bt528 => ((spec_l01DrawBytes.f kj42 t462 bt528.2.1 bt528.2.2 (wrap64 (1 + bt528.1))).bind fun bt531 => ((spec_l01Join.f kj42 x12_28 bt531.1).bind fun t536 => (some t536)))) else (some x12_28))))) = some r := by rw [if_pos rfl] at H; exact H
           clear H
           have H := H1
           clear H1
           replace H := Option.bind_eq_some_iff.mp H
           obtain ⟨⟨t512, t513, t514⟩, A500, H⟩ := H
           replace H : (if t512 = 0 then ((spec_l01Below.f t462 t513 t514 (x12_28.length : Int)).bind fun bt515 => (if 0 ≤ bt515.1 then (if bt515.1 ≤ (x12_28.length : Int) then (some (x12_28.take (bt515.1 : Int).toNat)) else (none)) else (none))) else (if t512 = 1 then ((spec_l01Below.f t462 t513 t514 (x12_28.length : Int)).bind fun bt521 => ((spec_l01Below.f t462 bt521.2.1 bt521.2.2 256).bind fun bt524 => (if 0 ≤ bt521.1 then (if bt521.1 < (x12_28.length : Int) then (some (x12_28.set (bt521.1 : Int).toNat ((bt524.1) % 256))) else (none)) else (none)))) else (if t512 = 2 then ((spec_l01Below.f t462 t513 t514 6).bind fun bt528 => ((spec_l01DrawBytes.f kj42 t462 bt528.2.1 bt528.2.2 (wrap64 (1 + bt528.1))).bind fun bt531 => ((spec_l01Join.f kj42 x12_28 bt531.1).bind fun t536 => (some t536)))) else (some x12_28)))) = some r := H
           have A50 := Aside0.mk A500
           clear A500
           by_cases c51 : t512 = 0
           ·rw [if_pos c51] at H
            have c51b0 : (t512 == 0) = true := beq_iff_eq.mpr c51
            have c51b1 : (t512 != 0) = false := bne_eq_false_iff_eq.mpr c51
            clear c51
            replace H := Option.bind_eq_some_iff.mp H
            obtain ⟨⟨t515, t516, t517⟩, A520, H⟩ := H
            replace H : (if 0 ≤ t515 then (if t515 ≤ (x12_28.length : Int) then (some (x12_28.take (t515 : Int).toNat)) else (none)) else (none)) = some r := H
            have A52 := Aside0.mk A520
            clear A520
            by_cases c53 : 0 ≤ t515
            ·rw [if_pos c53] at H
             have c53b0 := eq_true c53
             have c53b1 : decide (0 ≤ t515) = true := decide_eq_true c53
             clear c53
             by_cases c54 : t515 ≤ (x12_28.length : Int)
             ·rw [if_pos c54] at H
              have c54b0 := eq_true c54
              have c54b1 : decide (t515 ≤ (x12_28.length : Int)) = true := decide_eq_true c54
              clear c54
              obtain ⟨y518, hy518⟩ : ∃ y_ : List Int, y_ = (x12_28.take (t515 : Int).toNat) := ⟨_, rfl⟩
              replace H : (some y518) = some r := by first | (rw [hy518]; exact H) | exact H
              have Ny518 := Aside0.mk hy518
              clear hy518
              obtain rfl := Option.some.inj H
              go_wp2_with (first | (go_at_call 34; (with_reducible refine (spec_l01Below.calls g465 t462 x466001_42 x466002_42 3 t512 t513 t514 w _ ?side1 ?side2 A50.out).mono ?_); (case side1 => with_reducible repeat (first | exact HI465.out | apply IsS58.alloc | apply IsS58.drewN | apply IsS58.drew | apply IsS58.set_1 | apply IsS58.set_2)); (case side2 => with_reducible repeat (first | exact HB.out | apply below_alloc | apply pw_below_drewN | apply below_drew1 | refine below_set ?_ (IsS58.ge HI465.out))); rintro e w55 ⟨rfl, hi, hb, hk⟩; have n0_ := Aside0.mk (Kd.R_mono (Kd.R_keep (IsS58.apart (show IsS58 w _ g465 t462 x466001_42 x466002_42 from by with_reducible repeat (first | exact HI465.out | apply IsS58.alloc | apply IsS58.drewN | apply IsS58.drew | apply IsS58.set_1 | apply IsS58.set_2)) (by (with_reducible repeat (first | apply Kd.R_alloc | apply Kd.R_drewN | apply Kd.R_drew)); exact HO_12.out) (by decide)) hk (fun _ h => h.2)) (fun _ h => h.1)); have n1_ := Aside0.mk (hb); have n2_ := Aside0.mk (hi); clear HO_12 HB HI465; have HO_12 := n0_; have HB := n1_; have HI465 := n2_; clear n0_ n1_ n2_; clear hb hk hi; obtain ⟨Ao56, co56, eo56⟩ := Kd.R_slice HO_12.out; subst eo56) | (go_at_call 34; (with_reducible refine (spec_l01Below.calls g465 t462 t513 t514 (x12_28.length : Int) t515 t516 t517 w _ ?side1 ?side2 A52.out).mono ?_); (case side1 => with_reducible repeat (first | exact HI465.out | apply IsS58.alloc | apply IsS58.drewN | apply IsS58.drew | apply IsS58.set_1 | apply IsS58.set_2)); (case side2 => with_reducible repeat (first | exact HB.out | apply below_alloc | apply pw_below_drewN | apply below_drew1 | refine below_set ?_ (IsS58.ge HI465.out))); rintro e w57 ⟨rfl, hi, hb, hk⟩; have n0_ := Aside0.mk (Kd.R_mono (Kd.R_keep (IsS58.apart (show IsS58 w _ g465 t462 t513 t514 from by with_reducible repeat (first | exact HI465.out | apply IsS58.alloc | apply IsS58.drewN | apply IsS58.drew | apply IsS58.set_1 | apply IsS58.set_2)) (by (with_reducible repeat (first | apply Kd.R_alloc | apply Kd.R_drewN | apply Kd.R_drew)); exact HO_12.out) (by decide)) hk (fun _ h => h.2)) (fun _ h => h.1)); have n1_ := Aside0.mk (hb); have n2_ := Aside0.mk (hi); clear HO_12 HB HI465; have HO_12 := n0_; have HB := n1_; have HI465 := n2_; clear n0_ n1_ n2_; clear hb hk hi; have q58 : (t515 : Int) ≤ ((x12_28.length : Int) : Int) := of_decide_eq_true (by first | (with_reducible assumption) | assumption); obtain ⟨i058, hi058, _, hsz58, _⟩ := info_parts info5; have hcut58 := cut_to (P := Try.prog) 22 5 .i64 Try.underlying22 hi058 Ao56 x12_28.length co56 t515 (of_decide_eq_true (by first | (with_reducible assumption) | assumption)) q58 (Kd.R_reads' HO_12.out).2.1; have hr58 := Kd.R_take (m := (t515 : Int).toNat) HO_12.out (by omega); have hy58 : y518.length = (t515 : Int).toNat := (by rw [Ny518.out, List.length_take]; omega); rw [← Ny518.out] at hr58; rw [← hy58] at hr58 hcut58; clear hy58 hi058 hsz58 HO_12; have HO520 := Aside0.mk hr58; clear hr58; replace q58 := eq_true q58))
              go_ret
              exact ⟨_, by first | rfl | (simp [errW_none, errW_some] <;> rfl) | (simp [*, errW_none, errW_some] <;> rfl), by (with_reducible repeat (first | apply Kd.R_alloc | apply Kd.R_drewN | apply Kd.R_drew)); exact HO520.out, by with_reducible repeat (first | exact HB.out | apply below_alloc | apply pw_below_drewN | apply below_drew1 | refine below_set ?_ (IsS58.ge HI465.out))⟩
             ·rw [if_neg c54] at H
              exact absurd H (by simp)
            ·rw [if_neg c53] at H
             exact absurd H (by simp)
           ·rw [if_neg c51] at H
            have c51b0 : (t512 == 0) = false := beq_eq_false_iff_ne.mpr c51
            have c51b1 : (t512 != 0) = true := bne_iff_ne.mpr c51
            by_cases c59 : t512 = 1
            ·rw [if_pos c59] at H
             have c59b0 : (t512 == 1) = true := beq_iff_eq.mpr c59
             have c59b1 : (t512 != 1) = false := bne_eq_false_iff_eq.mpr c59
             clear c59
             replace H := Option.bind_eq_some_iff.mp H
             obtain ⟨⟨t521, t522, t523⟩, A600, H⟩ := H
             replace H : ((spec_l01Below.f t462 t522 t523 256).bind fun bt524 => (if 0 ≤ t521 then (if t521 < (x12_28.length : Int) then (some (x12_28.set (t521 : Int).toNat ((bt524.1) % 256))) else (none)) else (none))) = some r := H
             have A60 := Aside0.mk A600
             clear A600
             replace H := Option.bind_eq_some_iff.mp H
             obtain ⟨⟨t524, t525, t526⟩, A610, H⟩ := H
             replace H : (if 0 ≤ t521 then (if t521 < (x12_28.length : Int) then (some (x12_28.set (t521 : Int).toNat ((t524) % 256))) else (none)) else (none)) = some r := H
             have A61 := Aside0.mk A610
             clear A610
             by_cases c62 : 0 ≤ t521
             ·rw [if_pos c62] at H
              have c62b0 : decide (0 ≤ t521) = true := decide_eq_true c62
              clear c62
              by_cases c63 : t521 < (x12_28.length : Int)
              ·rw [if_pos c63] at H
               have c63b0 : decide (t521 < (x12_28.length : Int)) = true := decide_eq_true c63
               clear c63
               obtain ⟨y527, hy527⟩ : ∃ y_ : List Int, y_ = (x12_28.set (t521 : Int).toNat ((t524) % 256)) := ⟨_, rfl⟩
               replace H : (some y527) = some r := by first | (rw [hy527]; exact H) | exact H
               have Ny527 := Aside0.mk hy527
               clear hy527
               obtain rfl := Option.some.inj H
               go_wp2_with (first | (go_at_call 34; (with_reducible refine (spec_l01Below.calls g465 t462 x466001_42 x466002_42 3 t512 t513 t514 w _ ?side1 ?side2 A50.out).mono ?_); (case side1 => with_reducible repeat (first | exact HI465.out | apply IsS58.alloc | apply IsS58.drewN | apply IsS58.drew | apply IsS58.set_1 | apply IsS58.set_2)); (case side2 => with_reducible repeat (first | exact HB.out | apply below_alloc | apply pw_below_drewN | apply below_drew1 | refine below_set ?_ (IsS58.ge HI465.out))); rintro e w65 ⟨rfl, hi, hb, hk⟩; have n0_ := Aside0.mk (Kd.R_mono (Kd.R_keep (IsS58.apart (show IsS58 w _ g465 t462 x466001_42 x466002_42 from by with_reducible repeat (first | exact HI465.out | apply IsS58.alloc | apply IsS58.drewN | apply IsS58.drew | apply IsS58.set_1 | apply IsS58.set_2)) (by (with_reducible repeat (first | apply Kd.R_alloc | apply Kd.R_drewN | apply Kd.R_drew)); exact HO_12.out) (by decide)) hk (fun _ h => h.2)) (fun _ h => h.1)); have n1_ := Aside0.mk (hb); have n2_ := Aside0.mk (hi); clear HO_12 HB HI465; have HO_12 := n0_; have HB := n1_; have HI465 := n2_; clear n0_ n1_ n2_; clear hb hk hi; obtain ⟨Ao66, co66, eo66⟩ := Kd.R_slice HO_12.out; subst eo66) | (go_at_call 34; (with_reducible refine (spec_l01Below.calls g465 t462 t513 t514 (x12_28.length : Int) t521 t522 t523 w _ ?side1 ?side2 A60.out).mono ?_); (case side1 => with_reducible repeat (first | exact HI465.out | apply IsS58.alloc | apply IsS58.drewN | apply IsS58.drew | apply IsS58.set_1 | apply IsS58.set_2)); (case side2 => with_reducible repeat (first | exact HB.out | apply below_alloc | apply pw_below_drewN | apply below_drew1 | refine below_set ?_ (IsS58.ge HI465.out))); rintro e w67 ⟨rfl, hi, hb, hk⟩; have n0_ := Aside0.mk (Kd.R_mono (Kd.R_keep (IsS58.apart (show IsS58 w _ g465 t462 t513 t514 from by with_reducible repeat (first | exact HI465.out | apply IsS58.alloc | apply IsS58.drewN | apply IsS58.drew | apply IsS58.set_1 | apply IsS58.set_2)) (by (with_reducible repeat (first | apply Kd.R_alloc | apply Kd.R_drewN | apply Kd.R_drew)); exact HO_12.out) (by decide)) hk (fun _ h => h.2)) (fun _ h => h.1)); have n1_ := Aside0.mk (hb); have n2_ := Aside0.mk (hi); clear HO_12 HB HI465; have HO_12 := n0_; have HB := n1_; have HI465 := n2_; clear n0_ n1_ n2_; clear hb hk hi) | (go_at_call 34; (with_reducible refine (spec_l01Below.calls g465 t462 t522 t523 256 t524 t525 t526 w _ ?side1 ?side2 A61.out).mono ?_); (case side1 => with_reducible repeat (first | exact HI465.out | apply IsS58.alloc | apply IsS58.drewN | apply IsS58.drew | apply IsS58.set_1 | apply IsS58.set_2)); (case side2 => with_reducible repeat (first | exact HB.out | apply below_alloc | apply pw_below_drewN | apply below_drew1 | refine below_set ?_ (IsS58.ge HI465.out))); rintro e w68 ⟨rfl, hi, hb, hk⟩; have n0_ := Aside0.mk (Kd.R_mono (Kd.R_keep (IsS58.apart (show IsS58 w _ g465 t462 t522 t523 from by with_reducible repeat (first | exact HI465.out | apply IsS58.alloc | apply IsS58.drewN | apply IsS58.drew | apply IsS58.set_1 | apply IsS58.set_2)) (by (with_reducible repeat (first | apply Kd.R_alloc | apply Kd.R_drewN | apply Kd.R_drew)); exact HO_12.out) (by decide)) hk (fun _ h => h.2)) (fun _ h => h.1)); have n1_ := Aside0.mk (hb); have n2_ := Aside0.mk (hi); clear HO_12 HB HI465; have HO_12 := n0_; have HB := n1_; have HI465 := n2_; clear n0_ n1_ n2_; clear hb hk hi; have p64 : 0 ≤ (t521 : Int) := of_decide_eq_true (by first | (with_reducible assumption) | assumption); have q64 : (t521 : Int) < ((x12_28.length : Int) : Int) := of_decide_eq_true (by first | (with_reducible assumption) | assumption); obtain ⟨go64, co64, eo64, gb64, gl64, cl64, HG64⟩ := Kd.R_form HO_12.out (by omega); (first | cases eo64 | (injection eo64 with ea_ en_ ec_; (first | subst ea_ | (injection ea_ with ea_; subst ea_)); subst ec_; clear en_)); have GB64 := Aside0.mk gb64; have GG64 := Aside0.mk HG64; clear gb64 gl64 HG64; obtain ⟨hx64_0, hf64_0⟩ := Kd.R_celln 0 HO_12.out (t521 : Int) p64 q64; replace p64 := eq_true p64; replace q64 := eq_true q64; obtain ⟨hy69_, hz69_⟩ := Kd.R_celln 0 HO_12.out (t521 : Int) (of_decide_eq_true (by first | (with_reducible assumption) | assumption)) (of_decide_eq_true (by first | (with_reducible assumption) | assumption)); have HP69 := Kd.R_putg HO_12.out (t521 : Int) ((t524) % 256)) | ((with_reducible refine gate_store (t := 5) (p := 92) rfl ?_); refine store_event (t := 5) (p := 92) (v := ?vo_w70) (w1 := (w68.setCell ⟨go64, (t521 : Int).toNat, none⟩ (.int .u8 ((t524) % 256)))) ?hg ?ho ?hn ?hr ?_; (case ho => rfl); (case hg => rfl); (case hn => rfl); (case hr => first | (go_simp; done) | (go_simp; rfl)); intro w70 hw; have hg : w68.grownBy w70 (some go64) := (by rw [hw]; exact HP69.2); have hp_ : Kd.R (Kd.int .u8) 5 w70 w.heap.size (fun _ => True) (.slice (some ⟨go64, 0, none⟩) x12_28.length co66) y527 := (by rw [hw, Ny527.out]; exact HP69.1); clear HP69; have n0_ := Aside0.mk (hp_); have n1_ := Aside0.mk (IsS58.grown (by with_reducible repeat (first | exact HI465.out | apply IsS58.alloc | apply IsS58.drewN | apply IsS58.drew | apply IsS58.set_1 | apply IsS58.set_2)) hg (IsS58.own_ne HI465.out HO_12.out (by decide))); have n2_ := Aside0.mk ((by rw [hw]; exact below_set (HB.out) GB64.out : Below w.heap.size w w70)); clear HO_12 HI465 HB; have HO_12 := n0_; have HI465 := n1_; have HB := n2_; clear n0_ n1_ n2_; clear hg hw hp_))
               go_ret
               exact ⟨_, by first | rfl | (simp [errW_none, errW_some] <;> rfl) | (simp [*, errW_none, errW_some] <;> rfl), by (with_reducible repeat (first | apply Kd.R_alloc | apply Kd.R_drewN | apply Kd.R_drew)); exact HO_12.out, by with_reducible repeat (first | exact HB.out | apply below_alloc | apply pw_below_drewN | apply below_drew1 | refine below_set ?_ (IsS58.ge HI465.out))⟩
              ·rw [if_neg c63] at H
               exact absurd H (by simp)
             ·rw [if_neg c62] at H
              exact absurd H (by simp)
            ·rw [if_neg c59] at H
             have c59b0 : (t512 == 1) = false := beq_eq_false_iff_ne.mpr c59
             have c59b1 : (t512 != 1) = true := bne_iff_ne.mpr c59
             by_cases c71 : t512 = 2
             ·rw [if_pos c71] at H
              have c71b0 : (t512 == 2) = true := beq_iff_eq.mpr c71
              have c71b1 : (t512 != 2) = false := bne_eq_false_iff_eq.mpr c71
              clear c71
              replace H := Option.bind_eq_some_iff.mp H
              obtain ⟨⟨t528, t529, t530⟩, A720, H⟩ := H
              replace H : ((spec_l01DrawBytes.f kj42 t462 t529 t530 (wrap64 (1 + t528))).bind fun bt531 => ((spec_l01Join.f kj42 x12_28 bt531.1).bind fun t536 => (some t536))) = some r := H
              have A72 := Aside0.mk A720
              clear A720
              replace H := Option.bind_eq_some_iff.mp H
              obtain ⟨⟨t531, t534, t535⟩, A730, H⟩ := H
              replace H : ((spec_l01Join.f kj42 x12_28 t531).bind fun t536 => (some t536)) = some r := H
              have A73 := Aside0.mk A730
              clear A730
              replace H := Option.bind_eq_some_iff.mp H
              obtain ⟨t536, A740, H⟩ := H
              replace H : (some t536) = some r := H
              have A74 := Aside0.mk A740
              clear A740
              obtain rfl := Option.some.inj H
              go_wp2_with (first | (go_at_call 34; (with_reducible refine (spec_l01Below.calls g465 t462 x466001_42 x466002_42 3 t512 t513 t514 w _ ?side1 ?side2 A50.out).mono ?_); (case side1 => with_reducible repeat (first | exact HI465.out | apply IsS58.alloc | apply IsS58.drewN | apply IsS58.drew | apply IsS58.set_1 | apply IsS58.set_2)); (case side2 => with_reducible repeat (first | exact HB.out | apply below_alloc | apply pw_below_drewN | apply below_drew1 | refine below_set ?_ (IsS58.ge HI465.out))); rintro e w75 ⟨rfl, hi, hb, hk⟩; have n0_ := Aside0.mk (Kd.R_mono (Kd.R_keep (IsS58.apart (show IsS58 w _ g465 t462 x466001_42 x466002_42 from by with_reducible repeat (first | exact HI465.out | apply IsS58.alloc | apply IsS58.drewN | apply IsS58.drew | apply IsS58.set_1 | apply IsS58.set_2)) (by (with_reducible repeat (first | apply Kd.R_alloc | apply Kd.R_drewN | apply Kd.R_drew)); exact HO_12.out) (by decide)) hk (fun _ h => h.2)) (fun _ h => h.1)); have n1_ := Aside0.mk (hb); have n2_ := Aside0.mk (hi); clear HO_12 HB HI465; have HO_12 := n0_; have HB := n1_; have HI465 := n2_; clear n0_ n1_ n2_; clear hb hk hi) | (go_at_call 34; (with_reducible refine (spec_l01Below.calls g465 t462 t513 t514 6 t528 t529 t530 w _ ?side1 ?side2 A72.out).mono ?_); (case side1 => with_reducible repeat (first | exact HI465.out | apply IsS58.alloc | apply IsS58.drewN | apply IsS58.drew | apply IsS58.set_1 | apply IsS58.set_2)); (case side2 => with_reducible repeat (first | exact HB.out | apply below_alloc | apply pw_below_drewN | apply below_drew1 | refine below_set ?_ (IsS58.ge HI465.out))); rintro e w76 ⟨rfl, hi, hb, hk⟩; have n0_ := Aside0.mk (Kd.R_mono (Kd.R_keep (IsS58.apart (show IsS58 w _ g465 t462 t513 t514 from by with_reducible repeat (first | exact HI465.out | apply IsS58.alloc | apply IsS58.drewN | apply IsS58.drew | apply IsS58.set_1 | apply IsS58.set_2)) (by (with_reducible repeat (first | apply Kd.R_alloc | apply Kd.R_drewN | apply Kd.R_drew)); exact HO_12.out) (by decide)) hk (fun _ h => h.2)) (fun _ h => h.1)); have n1_ := Aside0.mk (hb); have n2_ := Aside0.mk (hi); clear HO_12 HB HI465; have HO_12 := n0_; have HB := n1_; have HI465 := n2_; clear n0_ n1_ n2_; clear hb hk hi) | (go_at_call 47; (with_reducible refine (spec_l01DrawBytes.calls kj42 g465 t462 t529 t530 (wrap64 (1 + t528)) t531 t534 t535 w _ ?side1 ?side2 A73.out).mono ?_); (case side1 => with_reducible repeat (first | exact HI465.out | apply IsS58.alloc | apply IsS58.drewN | apply IsS58.drew | apply IsS58.set_1 | apply IsS58.set_2)); (case side2 => with_reducible repeat (first | exact HB.out | apply below_alloc | apply pw_below_drewN | apply below_drew1 | refine below_set ?_ (IsS58.ge HI465.out))); rintro e w77 ⟨v532, rfl, ho0, hi, hb, hk⟩; have n0_ := Aside0.mk (Kd.R_mono (Kd.R_told (Kd.R_oldK (IsS58.apart (show IsS58 w _ g465 t462 t529 t530 from by with_reducible repeat (first | exact HI465.out | apply IsS58.alloc | apply IsS58.drewN | apply IsS58.drew | apply IsS58.set_1 | apply IsS58.set_2)) (by (with_reducible repeat (first | apply Kd.R_alloc | apply Kd.R_drewN | apply Kd.R_drew)); exact HO_12.out) (by decide)) hk) (Kd.R_base ho0)) (fun _ h_ => h_.1)); have n1_ := Aside0.mk (Kd.R_lower (Kd.R_new' ho0 (Kd.R_lt (by (with_reducible repeat (first | apply Kd.R_alloc | apply Kd.R_drewN | apply Kd.R_drew)); exact HO_12.out))) (below_size (by with_reducible repeat (first | exact HB.out | apply below_alloc | apply pw_below_drewN | apply below_drew1 | refine below_set ?_ (IsS58.ge HI465.out))))); have n2_ := Aside0.mk (hb); have n3_ := Aside0.mk (hi); clear HO_12 HB HI465; have HO_12 := n0_; have HO533 := n1_; have HB := n2_; have HI465 := n3_; clear n0_ n1_ n2_ n3_; clear hb hk hi ho0; obtain ⟨Ao78, co78, eo78⟩ := Kd.R_slice HO_12.out; subst eo78; obtain ⟨Ao79, co79, eo79⟩ := Kd.R_slice HO533.out; subst eo79) | (go_at_call 19; (with_reducible refine (spec_l01Join.calls kj42 _ _ x12_28 _ _ t531 t536 _ ?side1 ?side2 ?side3 ?side4 A74.out).mono ?_); (case side1 => repeat (first | exact (Kd.R_reads' HO_12.out).2.2 | (with_reducible refine Kd.C_alloc ?_ _) | (with_reducible refine Kd.C_drewN ?_ _) | (with_reducible refine Kd.C_drew ?_))); (case side2 => exact (Kd.R_reads' HO_12.out).2.1); (case side3 => repeat (first | exact (Kd.R_reads' HO533.out).2.2 | (with_reducible refine Kd.C_alloc ?_ _) | (with_reducible refine Kd.C_drewN ?_ _) | (with_reducible refine Kd.C_drew ?_))); (case side4 => exact (Kd.R_reads' HO533.out).2.1); rintro e w80 ⟨v537, rfl, ho0, hb⟩; have n0_ := Aside0.mk (Kd.R_elder' (by (with_reducible repeat (first | apply Kd.R_alloc | apply Kd.R_drewN | apply Kd.R_drew)); exact HO_12.out) (Kd.R_base ho0) hb); have n1_ := Aside0.mk (Kd.R_elder' (by (with_reducible repeat (first | apply Kd.R_alloc | apply Kd.R_drewN | apply Kd.R_drew)); exact HO533.out) (Kd.R_base ho0) hb); have n2_ := Aside0.mk (Kd.R_lower (Kd.R_new' (Kd.R_new' ho0 (Kd.R_lt (by (with_reducible repeat (first | apply Kd.R_alloc | apply Kd.R_drewN | apply Kd.R_drew)); exact HO_12.out))) (Kd.R_lt (by (with_reducible repeat (first | apply Kd.R_alloc | apply Kd.R_drewN | apply Kd.R_drew)); exact HO533.out))) (below_size (by with_reducible repeat (first | exact HB.out | apply below_alloc | apply pw_below_drewN | apply below_drew1 | refine below_set ?_ (IsS58.ge HI465.out))))); have n3_ := Aside0.mk (IsS58.below (by with_reducible repeat (first | exact HI465.out | apply IsS58.alloc | apply IsS58.drewN | apply IsS58.drew | apply IsS58.set_1 | apply IsS58.set_2)) hb); have n4_ := Aside0.mk (below_step (by with_reducible repeat (first | exact HB.out | apply below_alloc | apply pw_below_drewN | apply below_drew1 | refine below_set ?_ (IsS58.ge HI465.out))) hb); clear HO_12 HO533 HI465 HB; have HO_12 := n0_; have HO533 := n1_; have HO538 := n2_; have HI465 := n3_; have HB := n4_; clear n0_ n1_ n2_ n3_ n4_; clear hb ho0))
              go_ret
              exact ⟨_, by first | rfl | (simp [errW_none, errW_some] <;> rfl) | (simp [*, errW_none, errW_some] <;> rfl), by (with_reducible repeat (first | apply Kd.R_alloc | apply Kd.R_drewN | apply Kd.R_drew)); exact Kd.R_mono HO538.out (fun _ hk => trivial), by with_reducible repeat (first | exact HB.out | apply below_alloc | apply pw_below_drewN | apply below_drew1 | refine below_set ?_ (IsS58.ge HI465.out))⟩
             ·rw [if_neg c71] at H
              have c71b0 : (t512 == 2) = false := beq_eq_false_iff_ne.mpr c71
              have c71b1 : (t512 != 2) = true := bne_iff_ne.mpr c71
              obtain rfl := Option.some.inj H
              go_wp2_with (first | (go_at_call 34; (with_reducible refine (spec_l01Below.calls g465 t462 x466001_42 x466002_42 3 t512 t513 t514 w _ ?side1 ?side2 A50.out).mono ?_); (case side1 => with_reducible repeat (first | exact HI465.out | apply IsS58.alloc | apply IsS58.drewN | apply IsS58.drew | apply IsS58.set_1 | apply IsS58.set_2)); (case side2 => with_reducible repeat (first | exact HB.out | apply below_alloc | apply pw_below_drewN | apply below_drew1 | refine below_set ?_ (IsS58.ge HI465.out))); rintro e w81 ⟨rfl, hi, hb, hk⟩; have n0_ := Aside0.mk (Kd.R_mono (Kd.R_keep (IsS58.apart (show IsS58 w _ g465 t462 x466001_42 x466002_42 from by with_reducible repeat (first | exact HI465.out | apply IsS58.alloc | apply IsS58.drewN | apply IsS58.drew | apply IsS58.set_1 | apply IsS58.set_2)) (by (with_reducible repeat (first | apply Kd.R_alloc | apply Kd.R_drewN | apply Kd.R_drew)); exact HO_12.out) (by decide)) hk (fun _ h => h.2)) (fun _ h => h.1)); have n1_ := Aside0.mk (hb); have n2_ := Aside0.mk (hi); clear HO_12 HB HI465; have HO_12 := n0_; have HB := n1_; have HI465 := n2_; clear n0_ n1_ n2_; clear hb hk hi))
              go_ret
              exact ⟨_, by first | rfl | (simp [errW_none, errW_some] <;> rfl) | (simp [*, errW_none, errW_some] <;> rfl), by (with_reducible repeat (first | apply Kd.R_alloc | apply Kd.R_drewN | apply Kd.R_drew)); exact HO_12.out, by with_reducible repeat (first | exact HB.out | apply below_alloc | apply pw_below_drewN | apply below_drew1 | refine below_set ?_ (IsS58.ge HI465.out))⟩
          ·replace c49 := Bool.eq_false_iff.mpr c49
           subst c49
           have H1 : (some x12_28) = some r := by rw [if_neg (show ¬ (false = true) by decide)] at H; exact H
           clear H
           have H := H1
           clear H1
           obtain rfl := Option.some.inj H
           go_wp2
           go_ret
           exact ⟨_, by first | rfl | (simp [errW_none, errW_some] <;> rfl) | (simp [*, errW_none, errW_some] <;> rfl), by (with_reducible repeat (first | apply Kd.R_alloc | apply Kd.R_drewN | apply Kd.R_drew)); exact HO_12.out, by with_reducible repeat (first | exact HB.out | apply below_alloc | apply pw_below_drewN | apply below_drew1 | refine below_set ?_ (IsS58.ge HI465.out))⟩
     ·rw [if_neg c23] at H
      exact absurd H (by simp)
    ·rw [if_neg c22] at H
     exact absurd H (by simp)

/-! ### spec_DrawScanOps: function 15 -/
def spec_DrawScanOps.f (k : Nat) (l0 : List Int) : Option (List Int) := (spec_l17DrawBytes.f k l0).bind fun t539 => (some t539)
theorem spec_DrawScanOps.mono : ∀ a0 k, LeO (spec_DrawScanOps.f k a0) (spec_DrawScanOps.f (k + 1) a0) := by
 intro a0 k
 unfold spec_DrawScanOps.f
 repeat' first
   | (with_reducible exact spec_l17DrawBytes.mono _ _)
   | (with_reducible exact LeO.refl _)
   | (with_reducible exact LeO.none _)
   | (with_reducible refine LeO.ite ?_ ?_)
   | (with_reducible refine LeO.bind ?_ (fun _ => ?_))
set_option maxHeartbeats 8000000 in
set_option maxRecDepth 100000 in
theorem spec_DrawScanOps.calls (k : Nat) (A0 : Option Addr) (c0 : Nat) (l0 : List Int) (r : List Int) (w : World) (hr0 : Kd.C (Kd.int .u8) w A0 l0.length l0) (hc0 : l0.length ≤ c0) (h : spec_DrawScanOps.f k l0 = some r) :
  Calls Try.prog 15 #[.slice A0 l0.length c0] w fun e w' => ∃ v0_ : Value, e = .returned (v0_) ∧ Kd.R (Kd.int .u8) 5 w' w.heap.size (fun _ => True) v0_ r ∧ Below w.heap.size w w' := by
 have HR0 := Aside0.mk hr0
 have HC0 := Aside0.mk hc0
 clear hr0 hc0
 have HB := Aside0.mk (Below.refl w.heap.size w)
 have H : ((spec_l17DrawBytes.f k l0).bind fun t539 => (some t539)) = some r := h
 clear h
 replace H := Option.bind_eq_some_iff.mp H
 obtain ⟨t539, A20, H⟩ := H
 replace H : (some t539) = some r := H
 have A2 := Aside0.mk A20
 clear A20
 obtain rfl := Option.some.inj H
 go_enter Try.func15, Try.ntmps15
 go_wp2_with (first | (go_at_call 30; (with_reducible refine (spec_l17DrawBytes.calls k _ _ l0 t539 _ ?side1 ?side2 A2.out).mono ?_); (case side1 => repeat (first | exact HR0.out | (with_reducible refine Kd.C_alloc ?_ _) | (with_reducible refine Kd.C_drewN ?_ _) | (with_reducible refine Kd.C_drew ?_))); (case side2 => exact HC0.out); rintro e w3 ⟨v540, rfl, ho0, hb⟩; have n0_ := Aside0.mk (Kd.R_lower ho0 (below_size (by with_reducible repeat (first | exact HB.out | apply below_alloc | apply pw_below_drewN | apply below_drew1)))); have n1_ := Aside0.mk (below_step (by with_reducible repeat (first | exact HB.out | apply below_alloc | apply pw_below_drewN | apply below_drew1)) hb); clear HB; have HO541 := n0_; have HB := n1_; clear n0_ n1_; clear hb ho0))
 go_ret
 exact ⟨_, by first | rfl | (simp [errW_none, errW_some] <;> rfl) | (simp [*, errW_none, errW_some] <;> rfl), by (with_reducible repeat (first | apply Kd.R_alloc | apply Kd.R_drewN | apply Kd.R_drew)); exact HO541.out, by with_reducible repeat (first | exact HB.out | apply below_alloc | apply pw_below_drewN | apply below_drew1)⟩

end Go.Proofs.Ytbjhaaibmjlhhaa.Q
