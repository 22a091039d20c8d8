/- By hand: impl.CountOrders. -/
import Derived.Test.YthhfkicmgneokaaHd
namespace Go.Proofs.Ythhfkicmgneokaa.Q
open Go.RowKit Go.Proofs.YthhfkicmgneokaaW.PrintWords Go.Proofs.YthhfkicmgneokaaW.PrintLast Go.Proofs.YthhfkicmgneokaaW.PrintMore
set_option linter.unusedVariables false
set_option linter.unusedSimpArgs false

structure StN (bs : Nat) (w : World) (n : Int) : Prop where
  s : w.heap[bs]? = some (.cells #[.int .i64 n] 3 (0, 0))
def stepN (n : Int) (_ : List Int) : Int × Bool := (wrap64 (n + 1), true)

set_option maxHeartbeats 1000000 in
set_option maxRecDepth 100000 in
theorem visitN (bs base : Nat) : Visit Int 48 #[.pointer (some ⟨bs, 0, none⟩)] bs base (StN bs) stepN where
  enters := fun args w => enters_ Try.func48 (by kernel_rfl) rfl args w
  keep := fun {w w' s} h hb => ⟨(hb.block _ (blk_lt h.s)).trans h.s⟩
  call := by
    intro w s ad c xs hS hR
    have q2 := cell_of_one hS.s
    have q3 := free_of_one hS.s
    have HS := Aside0.mk hS
    clear hS hR
    go_enter Try.func48, Try.ntmps48
    go_wp2
    go_ret
    exact ⟨rfl, ⟨one_setCell HS.out.s⟩, Kp.set bs w 0 _⟩

def countP (lc : List S55) : Int := if areOk lc then (ext lc stepN lc.length [] [] 0).1 else -1
def impl_CountOrders.f (l0 : List S55) : Option Int := some (countP l0)
theorem areOk_lenN {l : List S55} (h : areOk l = true) : l.length ≤ 7 := by
  unfold areOk at h
  rw [Bool.and_eq_true] at h
  have := of_decide_eq_true h.1
  omega

set_option maxHeartbeats 1000000 in
set_option maxRecDepth 100000 in
theorem impl_CountOrders.calls (A0 : Option Addr) (c0 : Nat) (l0 : List S55) (r : Int) (w : World) (hr0 : Kd.C k55 w A0 l0.length l0) (hc0 : l0.length ≤ c0) (h : impl_CountOrders.f l0 = some r) :
    Calls Try.prog 17 #[.slice A0 l0.length c0] w fun e w' => e = .returned (.int .i64 r) ∧ Below w.heap.size w w' := by
  obtain rfl := Option.some.inj h
  have hmf : ∀ (fn : Fn) (first cap : Array Value) (w : World), (Instr.makeFunc fn first cap).run Try.prog w = .ok (.func fn first cap) w := fun _ _ _ _ => rfl
  have hsz : ∀ (W : World) (o : Obj), (W.alloc o).heap.size = W.heap.size + 1 := fun W o => by show (W.heap.push o).size = _; simp
  have hat : ∀ (W : World) (o : Obj), (W.alloc o).heap[W.heap.size]? = some o := fun W o => by show (W.heap.push o)[W.heap.size]? = _; rw [Array.getElem?_push_size]
  have HA := Aside0.mk (impl_areCalls.calls A0 c0 l0 (areOk l0) w hr0 hc0 rfl)
  have HQ := Aside0.mk (fun (w1 : World) (h1 : Below w.heap.size w w1) =>
    have h2 := below_alloc h1 (.cells #[.int .i64 0] 3)
    have hbs : w1.heap.size < (w1.alloc (.cells #[.int .i64 0] 3)).heap.size := by rw [hsz]; omega
    have hS : StN w1.heap.size (w1.alloc (.cells #[.int .i64 0] 3)) 0 := ⟨hat w1 (.cells #[.int .i64 0] 3)⟩
    And.intro h2 (fun hl : l0.length ≤ 7 => orders_calls (cc := c0) (visitN w1.heap.size w1.heap.size) hl (Nat.le_refl _) 0 _ hbs hS (fun W' hk => Kd.C_below hr0 (hk.below h2 (by have := h1.size; omega)))))
  have HBS := Aside0.mk (fun (bs : Nat) (w2 : World) (b : Int) (h : StN bs w2 b) => cell_of_one h.s)
  clear hsz hat hr0 hc0 h
  cases hok : areOk l0 with
  | true =>
    rw [hok] at HA
    have HL := Aside0.mk (areOk_lenN hok)
    have HP := Aside0.mk (show countP l0 = (ext l0 stepN l0.length [] [] 0).1 by unfold countP; rw [hok]; rfl)
    clear hok
    go_enter Try.func17, Try.ntmps17
    go_wp2_with (first
      | (go_at_call 42; (refine HA.out.mono ?_); rintro e w1 ⟨rfl, hd⟩; have HD := Aside0.mk hd; clear hd)
      | (go_at_call 43; (refine ((HQ.out w1 HD.out).2 HL.out).mono ?_); rintro e w2 ⟨rfl, hs, hk⟩; have HS := Aside0.mk hs; have HK := Aside0.mk hk; have z := HBS.out _ w2 _ hs; clear hs hk))
    go_ret
    exact ⟨by rw [HP.out]; rfl, HK.out.below (HQ.out w1 HD.out).1 HD.out.size⟩
  | false =>
    rw [hok] at HA
    have HP := Aside0.mk (show countP l0 = -1 by unfold countP; rw [hok]; rfl)
    clear hok
    go_enter Try.func17, Try.ntmps17
    go_wp2_with (first
      | (go_at_call 42; (refine HA.out.mono ?_); rintro e w1 ⟨rfl, hd⟩; have HD := Aside0.mk hd; clear hd))
    go_ret
    exact ⟨by rw [HP.out]; rfl, HD.out⟩
end Go.Proofs.Ythhfkicmgneokaa.Q
