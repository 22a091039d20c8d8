/- By hand: impl.Explain. -/
import Derived.Test.YthhfkicmgneokaaHd
namespace Go.Proofs.Ythhfkicmgneokaa.Q
open Go.RowKit Go.Proofs.YthhfkicmgneokaaW.PrintWords Go.Proofs.YthhfkicmgneokaaW.PrintLast Go.Proofs.YthhfkicmgneokaaW.PrintMore
set_option linter.unusedVariables false
set_option linter.unusedSimpArgs false

/-- What impl.Explain's variable holds: nothing yet, or an order in memory of its own. -/
def StX (bs base : Nat) (w : World) : Option (List Int) → Prop
  | none => w.heap[bs]? = some (.cells #[.slice none 0 0] 23 (0, 0))
  | some xs => ∃ ad c, w.heap[bs]? = some (.cells #[.slice (some ad) xs.length c] 23 (0, 0)) ∧ Kd.R (Kd.int .i64) 3 w base (fun k => k ≠ bs) (.slice (some ad) xs.length c) xs
def stepX (_ : Option (List Int)) (xs : List Int) : Option (List Int) × Bool := (some xs, false)

set_option maxHeartbeats 1000000 in
set_option maxRecDepth 100000 in
theorem visitX (bs base : Nat) : Visit (Option (List Int)) 49 #[.pointer (some ⟨bs, 0, none⟩)] bs base (StX bs base) stepX where
  enters := fun args w => enters_ Try.func49 (by kernel_rfl) rfl args w
  keep := fun {w w' s} h hb => by
    cases s with
    | none => exact (hb.block _ (blk_lt h)).trans h
    | some xs =>
      obtain ⟨ad, c, h1, h2⟩ := h
      exact ⟨ad, c, (hb.block _ (blk_lt h1)).trans h1, Kd.R_below h2 hb⟩
  call := by
    intro w s ad c xs hS hR
    have hb : ∃ v, w.heap[bs]? = some (.cells #[v] 23 (0, 0)) := by
      cases s with
      | none => exact ⟨_, hS⟩
      | some ys => obtain ⟨ad, c, h1, h2⟩ := hS; exact ⟨_, h1⟩
    obtain ⟨v0, hb⟩ := hb
    have q2 := cell_of_one hb
    have q3 := free_of_one hb
    have HB := Aside0.mk hb
    have HR := Aside0.mk hR
    clear hS hR hb
    go_enter Try.func49, Try.ntmps49
    go_wp2
    go_ret
    exact ⟨rfl, ⟨ad, c, one_setCell HB.out, Kd.R_keep HR.out (Kp.set bs w 0 _).k (fun _ h => h)⟩, Kp.set bs w 0 _⟩

def explainP (lc : List S55) : Option (List Int) := if areOk lc then (ext lc stepX lc.length [] [] none).1 else none
def impl_Explain.f (l0 : List S55) : Option (List Int × Bool) := some ((explainP l0).getD [], (explainP l0).isSome)
theorem areOk_lenX {l : List S55} (h : areOk l = true) : l.length ≤ 7 := by
  unfold areOk at h
  rw [Bool.and_eq_true] at h
  have := of_decide_eq_true h.1
  omega

set_option maxHeartbeats 1000000 in
set_option maxRecDepth 100000 in
theorem impl_Explain.calls (A0 : Option Addr) (c0 : Nat) (l0 : List S55) (r1 : List Int) (r2 : Bool) (w : World) (hr0 : Kd.C k55 w A0 l0.length l0) (hc0 : l0.length ≤ c0) (h : impl_Explain.f l0 = some (r1, r2)) :
    Calls Try.prog 19 #[.slice A0 l0.length c0] w fun e w' => ∃ v0_ : Value, e = .returned (.tuple #[v0_, .bool r2]) ∧ Kd.R (Kd.int .i64) 3 w' w.heap.size (fun _ => True) v0_ r1 ∧ Below w.heap.size w w' := by
  have h' := Option.some.inj h
  injection h' with h1 h2
  subst h1 h2
  have hmf : ∀ (fn : Fn) (first cap : Array Value) (w : World), (Instr.makeFunc fn first cap).run Try.prog w = .ok (.func fn first cap) w := fun _ _ _ _ => rfl
  have hsz : ∀ (W : World) (o : Obj), (W.alloc o).heap.size = W.heap.size + 1 := fun W o => by show (W.heap.push o).size = _; simp
  have hat : ∀ (W : World) (o : Obj), (W.alloc o).heap[W.heap.size]? = some o := fun W o => by show (W.heap.push o)[W.heap.size]? = _; rw [Array.getElem?_push_size]
  have HB2 := Aside0.mk (below_alloc (Below.refl w.heap.size w) (.cells #[.slice none 0 0] 23))
  have HA := Aside0.mk (impl_areCalls.calls A0 c0 l0 (areOk l0) _ (Kd.C_below hr0 HB2.out) hc0 rfl)
  have HQ := Aside0.mk (fun (w1 : World) (h1 : Below (w.alloc (.cells #[.slice none 0 0] 23)).heap.size (w.alloc (.cells #[.slice none 0 0] 23)) w1) =>
    have hw1 := below_step HB2.out h1
    have hbs : w.heap.size < w1.heap.size := by have := h1.size; rw [hsz] at this; omega
    have hS : StX w.heap.size w.heap.size w1 none := (h1.block _ (blk_lt (hat w _))).trans (hat w (.cells #[.slice none 0 0] 23))
    And.intro hw1 (And.intro hS (fun hl : l0.length ≤ 7 => orders_calls (cc := c0) (visitX w.heap.size w.heap.size) hl (Nat.le_refl _) none w1 hbs hS (fun W' hk => Kd.C_below hr0 (hk.below hw1 (Nat.le_refl _))))))
  clear hsz hat hr0 hc0 h
  -- what stands behind: the variable holds what it holds
  have hend : ∀ (w2 : World) (s : Option (List Int)), StX w.heap.size w.heap.size w2 s → ∃ v, w2.cell? ⟨w.heap.size, 0, none⟩ = some v ∧ (∃ A n c, v = .slice A n c ∧ A.isSome = s.isSome) ∧ ∀ w3, Below w2.heap.size w2 w3 → Kd.R (Kd.int .i64) 3 w3 w.heap.size (fun _ => True) v (s.getD []) := by
    intro w2 s hs
    cases s with
    | none => exact ⟨_, cell_of_one hs, ⟨none, 0, 0, rfl, rfl⟩, fun w3 _ => Kd.R_nil _ _ _ _ _⟩
    | some xs =>
      obtain ⟨ad, c, h1, h2⟩ := hs
      exact ⟨_, cell_of_one h1, ⟨some ad, _, c, rfl, rfl⟩, fun w3 hb => Kd.R_mono (Kd.R_below h2 hb) (fun _ _ => trivial)⟩
  have HEND := Aside0.mk hend
  clear hend
  cases hok : areOk l0 with
  | true =>
    rw [hok] at HA
    have HL := Aside0.mk (areOk_lenX hok)
    have HP := Aside0.mk (show explainP l0 = (ext l0 stepX l0.length [] [] none).1 by unfold explainP; rw [hok]; rfl)
    clear hok
    go_enter Try.func19, Try.ntmps19
    go_wp2_with (first
      | (go_at_call 42; (refine HA.out.mono ?_); rintro e w1 ⟨rfl, hd⟩; have HD := Aside0.mk hd; clear hd)
      | (go_at_call 43; (refine ((HQ.out w1 HD.out).2.2 HL.out).mono ?_); rintro e w2 ⟨rfl, hs, hk⟩; have HS := Aside0.mk hs; have HK := Aside0.mk hk; clear hs hk))
    obtain ⟨v, hc, ⟨A, n, c, rfl, hA⟩, hR⟩ := HEND.out w2 _ HS.out
    have hq := fun (w : World) => run_neq_slice_nil_any (P := Try.prog) w 23 3 A n c 0 0 Try.underlying23
    have HR := Aside0.mk hR
    have HAn := Aside0.mk hA
    clear hR hA
    go_quiet (fail)
    go_wp2
    go_ret2
    exact ⟨_, by rw [HP.out, ← HAn.out]; rfl, by rw [HP.out]; exact HR.out _ (pw_below_drewN (Below.refl _ _) _), pw_below_drewN (HK.out.below (HQ.out w1 HD.out).1 (Nat.le_refl _)) _⟩
  | false =>
    rw [hok] at HA
    have HP := Aside0.mk (show explainP l0 = none by unfold explainP; rw [hok]; rfl)
    clear hok
    go_enter Try.func19, Try.ntmps19
    go_wp2_with (first
      | (go_at_call 42; (refine HA.out.mono ?_); rintro e w1 ⟨rfl, hd⟩; have HD := Aside0.mk hd; clear hd))
    obtain ⟨v, hc, ⟨A, n, c, rfl, hA⟩, hR⟩ := HEND.out w1 _ (HQ.out w1 HD.out).2.1
    have hq := fun (w : World) => run_neq_slice_nil_any (P := Try.prog) w 23 3 A n c 0 0 Try.underlying23
    have HR := Aside0.mk hR
    have HAn := Aside0.mk hA
    clear hR hA
    go_quiet (fail)
    go_wp2
    go_ret2
    exact ⟨_, by rw [HP.out, ← HAn.out]; rfl, by rw [HP.out]; exact HR.out _ (pw_below_drewN (Below.refl _ _) _), pw_below_drewN (HQ.out w1 HD.out).1 _⟩
end Go.Proofs.Ythhfkicmgneokaa.Q
