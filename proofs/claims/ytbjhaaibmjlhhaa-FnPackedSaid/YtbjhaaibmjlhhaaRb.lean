/- By hand: impl.PackOps (a closure handed to slices.ContainsFunc). -/
import Derived.Test.YtbjhaaibmjlhhaaRa
import Derived.Test.YtbjhaaibmjlhhaaQx17
namespace Go.Proofs.Ytbjhaaibmjlhhaa.Q
open Go.RowKit Go.Proofs.YtbjhaaibmjlhhaaW.PrintWords Go.Proofs.YtbjhaaibmjlhhaaW.PrintLast Go.Proofs.YtbjhaaibmjlhhaaW.PrintMore
set_option linter.unusedVariables false
set_option linter.unusedSimpArgs false

theorem heapOp : Kd.Heap k38 := Kd.heap_iso _ (Kd.heap_pair (Kd.heap_int _) (Kd.heap_pair (Kd.heap_int _) (Kd.heap_int _)))
theorem opOk_f (x : S38) : impl_OpOk.f 1 x.f0 x.f1 x.f2 = some (opOk x) := by
  obtain ⟨a, t, v⟩ := x
  unfold impl_OpOk.f opOk
  simp only [impl_OpOk.j0, impl_isWorker.f, impl_hasX.f, within_f, Option.bind_some]
  by_cases h1 : 0 ≤ a <;> by_cases h2 : a ≤ 6 <;> by_cases h3 : 0 ≤ t <;> by_cases h4 : t ≤ 4 <;> by_cases h5 : a = 0 <;> by_cases h6 : t = 0 <;> by_cases h7 : 1 ≤ a <;> by_cases h8 : a ≤ 3 <;> simp [h1, h2, h3, h4, h5, h6, h7, h8] <;> first | omega | rfl | (rw [Bool.eq_iff_iff]; simp; omega) | (rw [Bool.eq_iff_iff]; simp)

set_option maxHeartbeats 1000000 in
set_option maxRecDepth 100000 in
theorem notOpOk_calls (x : S38) (w : World) : Calls Try.prog 23 #[cv x] w fun e w' => e = .returned (.bool (!opOk x)) ∧ Below w.heap.size w w' := by
  have HC := Aside0.mk (impl_OpOk.calls 1 x.f0 x.f1 x.f2 (opOk x) (w.alloc (.cells #[.int .i64 x.f0, .int .i64 x.f1, .int .i64 x.f2] 38)) (opOk_f x))
  go_enter Try.func23, Try.ntmps23
  go_wp2_with (go_at_call 24; refine HC.out.mono ?_; rintro e w1 ⟨rfl, hb⟩; have HB1 := Aside0.mk hb; clear hb)
  go_ret
  exact ⟨rfl, below_step (below_alloc (Below.refl _ _) _) HB1.out⟩

def impl_PackOps.f (k : Nat) (l0 : List S38) : Option (List Int × Bool) :=
  if (l0.length : Int) > 4000 then some ([], false) else if (l0.any fun x => !opOk x) = true then some ([], false) else
    (impl_packed.f k l0).bind fun o => if (o.length : Int) > 4000 then some ([], false) else some (o, true)
theorem impl_PackOps.mono : ∀ a0 k, LeO (impl_PackOps.f k a0) (impl_PackOps.f (k + 1) a0) := by
  intro a0 k
  unfold impl_PackOps.f
  exact LeO.ite (LeO.refl _) (LeO.ite (LeO.refl _) (LeO.bind (impl_packed.mono _ _) (fun _ => LeO.refl _)))

set_option maxHeartbeats 1000000 in
set_option maxRecDepth 100000 in
theorem impl_PackOps.calls (k : Nat) (A0 : Option Addr) (c0 : Nat) (l0 : List S38) (r1 : List Int) (r2 : Bool) (w : World) (hr0 : Kd.C k38 w A0 l0.length l0) (hc0 : l0.length ≤ c0) (h : impl_PackOps.f k l0 = some (r1, r2)) :
    Calls Try.prog 8 #[.slice A0 l0.length c0] w fun e w' => ∃ v0_ : Value, e = .returned (.tuple #[v0_, .bool r2]) ∧ Kd.R (Kd.int .u8) 5 w' w.heap.size (fun _ => True) v0_ r1 ∧ Below w.heap.size w w' := by
  have HI := Aside0.mk (hasfOp 23 (fun args w => enters_ Try.func23 (by kernel_rfl) rfl args w) #[] (fun x => !opOk x) A0 c0 l0 w hr0 hc0 (fun x W _ => notOpOk_calls x W))
  have HR0 := Aside0.mk hr0
  have HC0 := Aside0.mk hc0
  clear hr0 hc0
  unfold impl_PackOps.f at h
  by_cases hl : (l0.length : Int) > 4000
  · rw [if_pos hl] at h
    injection h with h
    injection h with h1 h2
    subst h1 h2
    have hd : decide (4000 < (l0.length : Int)) = true := decide_eq_true hl
    have hd2 : decide (4000 < l0.length) = true := decide_eq_true (by omega)
    clear hl
    go_enter Try.func8, Try.ntmps8
    go_wp2
    go_ret2
    exact ⟨_, rfl, Kd.R_nil _ _ _ _ _, Below.refl _ _⟩
  rw [if_neg hl] at h
  have hd : decide (4000 < (l0.length : Int)) = false := decide_eq_false hl
  have hd2 : decide (4000 < l0.length) = false := decide_eq_false (by omega)
  clear hl
  cases ha : l0.any fun x => !opOk x with
  | true =>
    rw [ha, if_pos rfl] at h
    injection h with h
    injection h with h1 h2
    subst h1 h2
    rw [ha] at HI
    clear ha
    go_enter Try.func8, Try.ntmps8
    go_wp2_with (go_at_call 22; refine HI.out.mono ?_; rintro e w1 ⟨rfl, hb⟩; have HB1 := Aside0.mk hb; clear hb)
    go_ret2
    exact ⟨_, rfl, Kd.R_nil _ _ _ _ _, HB1.out⟩
  | false =>
    rw [ha, if_neg (by decide)] at h
    obtain ⟨o, hp, h⟩ := Option.bind_eq_some_iff.mp h
    have HP := Aside0.mk hp
    rw [ha] at HI
    clear ha hp
    by_cases ho : (o.length : Int) > 4000
    · rw [if_pos ho] at h
      injection h with h
      injection h with h1 h2
      subst h1 h2
      have ho1 : decide (4000 < (o.length : Int)) = true := decide_eq_true ho
      have ho2 : decide (4000 < o.length) = true := decide_eq_true (by omega)
      clear ho
      go_enter Try.func8, Try.ntmps8
      go_wp2_with (first
        | (go_at_call 22; refine HI.out.mono ?_; rintro e w1 ⟨rfl, hb⟩; have HB1 := Aside0.mk hb; clear hb)
        | (go_at_call 25; (refine (impl_packed.calls k (fun k_ => k_ < w1.heap.size) A0 c0 l0 o w1 (Kd.V_mk HC0.out (Kd.C_F heapOp (Kd.C_below HR0.out HB1.out))) HP.out).mono ?_); rintro e w2 ⟨v, rfl, hv, hb⟩; have HB2 := Aside0.mk (below_step HB1.out hb); obtain ⟨A, c, rfl⟩ := Kd.R_slice hv; clear hb hv))
      go_ret2
      exact ⟨_, rfl, Kd.R_nil _ _ _ _ _, HB2.out⟩
    · rw [if_neg ho] at h
      injection h with h
      injection h with h1 h2
      subst h1 h2
      have ho1 : decide (4000 < (o.length : Int)) = false := decide_eq_false ho
      have ho2 : decide (4000 < o.length) = false := decide_eq_false (by omega)
      clear ho
      go_enter Try.func8, Try.ntmps8
      go_wp2_with (first
        | (go_at_call 22; refine HI.out.mono ?_; rintro e w1 ⟨rfl, hb⟩; have HB1 := Aside0.mk hb; clear hb)
        | (go_at_call 25; (refine (impl_packed.calls k (fun k_ => k_ < w1.heap.size) A0 c0 l0 o w1 (Kd.V_mk HC0.out (Kd.C_F heapOp (Kd.C_below HR0.out HB1.out))) HP.out).mono ?_); rintro e w2 ⟨v, rfl, hv, hb⟩; have HB2 := Aside0.mk (below_step HB1.out hb); obtain ⟨A, c, rfl⟩ := Kd.R_slice hv; have HV := Aside0.mk (Kd.R_mono (Kd.R_lower hv HB1.out.size) (fun _ _ => trivial)); clear hb hv))
      go_ret2
      exact ⟨_, rfl, HV.out, HB2.out⟩
end Go.Proofs.Ytbjhaaibmjlhhaa.Q
