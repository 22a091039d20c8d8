/- By hand: impl.Explains. -/
import Derived.Test.YthhfkicmgneokaaHd
namespace Go.Proofs.Ythhfkicmgneokaa.Q
open Go.RowKit Go.Proofs.YthhfkicmgneokaaW.PrintWords Go.Proofs.YthhfkicmgneokaaW.PrintLast Go.Proofs.YthhfkicmgneokaaW.PrintMore
set_option linter.unusedVariables false
set_option linter.unusedSimpArgs false

theorem equal_l0 (l m : List Int) (n : Nat) (hn : n = l.length) (hm : m.length = l.length) (hle : l.length ≤ 9223372036854775807) : ∀ (d i k : Nat), d = l.length - i → i ≤ l.length → d < k → slices_Equal_int_int.l0 k l m (n : Int) (i : Int) = some (l.drop i == m.drop i) := by
  intro d
  induction d with
  | zero =>
    intro i k hd hi hk
    obtain ⟨k, rfl⟩ : ∃ q, k = q + 1 := ⟨k - 1, by omega⟩
    simp only [slices_Equal_int_int.l0]
    rw [if_neg (by omega), List.drop_eq_nil_of_le (by omega), List.drop_eq_nil_of_le (by omega)]
    rfl
  | succ d ih =>
    intro i k hd hi hk
    obtain ⟨k, rfl⟩ : ∃ q, k = q + 1 := ⟨k - 1, by omega⟩
    simp only [slices_Equal_int_int.l0]
    have hw : wrap64 ((i : Int) + 1) = ((i + 1 : Nat) : Int) := by unfold wrap64; omega
    have h1 : i < l.length := by omega
    have h2 : i < m.length := by omega
    have e1 : rd l (i : Int) = l[i] := by unfold rd; rw [Int.toNat_natCast, List.getD_eq_getElem?_getD, List.getElem?_eq_getElem h1]; rfl
    have e2 : rd m (i : Int) = m[i] := by unfold rd; rw [Int.toNat_natCast, List.getD_eq_getElem?_getD, List.getElem?_eq_getElem h2]; rfl
    rw [List.drop_eq_getElem_cons h1, List.drop_eq_getElem_cons h2, e1, e2, hw, ih (i + 1) k (by omega) (by omega) (by omega)]
    rw [if_pos (by omega), if_pos (by omega), if_pos (by omega), if_pos (by omega)]
    by_cases h : l[i] = m[i]
    · rw [if_pos h, h, List.cons_beq_cons, beq_self_eq_true, Bool.true_and]
    · rw [if_neg h, List.cons_beq_cons, beq_eq_false_iff_ne.mpr h, Bool.false_and]
theorem equal_f (l m : List Int) (hle : l.length ≤ 9223372036854775807) : slices_Equal_int_int.f (l.length + 1) l m = some (decide (l = m)) := by
  unfold slices_Equal_int_int.f
  by_cases h : l.length = m.length
  · rw [if_pos (by omega)]
    have h2 := equal_l0 l m l.length rfl h.symm hle l.length 0 (l.length + 1) (by omega) (by omega) (by omega)
    rw [show ((0 : Int)) = ((0 : Nat) : Int) from rfl, h2, List.drop_zero, List.drop_zero]
    by_cases e : l = m <;> simp [e]
  · rw [if_neg (by omega)]
    have : l ≠ m := fun e => h (by rw [e])
    simp [this]

structure StE (bs bo : Nat) (Ao : Option Addr) (co : Nat) (lo : List Int) (w : World) (b : Bool) : Prop where
  s : w.heap[bs]? = some (.cells #[.bool b] 4 (0, 0))
  o : w.heap[bo]? = some (.cells #[.slice Ao lo.length co] 23 (0, 0))
  n : bo ≠ bs
  l : lo.length ≤ co
  r : ∀ W', Kp bs w W' → Kd.C (Kd.int .i64) W' Ao lo.length lo
def stepE (lo : List Int) (_ : Bool) (xs : List Int) : Bool × Bool := (decide (lo = xs), !decide (lo = xs))

set_option maxHeartbeats 1000000 in
set_option maxRecDepth 100000 in
theorem visitE (bs bo base : Nat) (Ao : Option Addr) (co : Nat) (lo : List Int) : Visit Bool 44 #[.pointer (some ⟨bo, 0, none⟩), .pointer (some ⟨bs, 0, none⟩)] bs base (StE bs bo Ao co lo) (stepE lo) where
  enters := fun args w => enters_ Try.func44 (by kernel_rfl) rfl args w
  keep := fun {w w' s} h hb => ⟨(hb.block _ (blk_lt h.s)).trans h.s, (hb.block _ (blk_lt h.o)).trans h.o, h.n, h.l, fun W' hk => h.r W' ((Kp.of_below hb).trans hk)⟩
  call := by
    intro w s ad c xs hS hR
    have q1 := cell_of_one hS.o
    have q2 := cell_of_one hS.s
    have q3 := free_of_one hS.s
    have HS := Aside0.mk hS
    have HE := Aside0.mk (slices_Equal_int_int.calls (lo.length + 1) Ao co lo (some ad) c xs (decide (lo = xs)) w (hS.r _ (Kp.refl _ _)) hS.l (Kd.R_reads' hR).2.2 (Kd.R_reads' hR).2.1 (equal_f lo xs (hS.r _ (Kp.refl _ _)).2.1))
    clear hS hR
    go_enter Try.func44, Try.ntmps44
    go_wp2_with (go_at_call 45; (refine HE.out.mono ?_); rintro e w1 ⟨rfl, hd⟩; have HD := Aside0.mk hd.below; clear hd; have p2 := (HD.out.cell (World.block_lt_of_cell? w _ q2)).trans q2; have p3 := (HD.out.frozen (World.block_lt_of_cell? w _ q2)).trans q3)
    go_ret
    have k1 := (Kp.of_below (bs := bs) HD.out).trans (Kp.set bs w1 0 (.bool (decide (lo = xs))))
    exact ⟨rfl, ⟨one_setCell ((HD.out.block _ (blk_lt HS.out.s)).trans HS.out.s), k1.blk HS.out.o HS.out.n, HS.out.n, HS.out.l, fun W' hk => HS.out.r W' (k1.trans hk)⟩, k1⟩

def explainsP (lc : List S55) (lo : List Int) : Bool := if areOk lc then (ext lc (stepE lo) lc.length [] [] false).1 else false
def impl_Explains.f (l0 : List S55) (l1 : List Int) : Option Bool := some (explainsP l0 l1)
theorem areOk_len {l : List S55} (h : areOk l = true) : l.length ≤ 7 := by
  unfold areOk at h
  rw [Bool.and_eq_true] at h
  have := of_decide_eq_true h.1
  omega

set_option maxHeartbeats 1000000 in
set_option maxRecDepth 100000 in
theorem impl_Explains.calls (A0 : Option Addr) (c0 : Nat) (l0 : List S55) (A1 : Option Addr) (c1 : Nat) (l1 : List Int) (r : Bool) (w : World) (hr0 : Kd.C k55 w A0 l0.length l0) (hc0 : l0.length ≤ c0) (hr1 : Kd.C (Kd.int .i64) w A1 l1.length l1) (hc1 : l1.length ≤ c1) (h : impl_Explains.f l0 l1 = some r) :
    Calls Try.prog 13 #[.slice A0 l0.length c0, .slice A1 l1.length c1] w fun e w' => e = .returned (.bool r) ∧ Below w.heap.size w w' := by
  obtain rfl := Option.some.inj h
  have hmf : ∀ (fn : Fn) (first cap : Array Value) (w : World), (Instr.makeFunc fn first cap).run Try.prog w = .ok (.func fn first cap) w := fun _ _ _ _ => rfl
  have hsz : ∀ (W : World) (o : Obj), (W.alloc o).heap.size = W.heap.size + 1 := fun W o => by show (W.heap.push o).size = _; simp
  have hat : ∀ (W : World) (o : Obj), (W.alloc o).heap[W.heap.size]? = some o := fun W o => by show (W.heap.push o)[W.heap.size]? = _; rw [Array.getElem?_push_size]
  have hup : ∀ (W : World) (o o' : Obj) (g : Nat), W.heap[g]? = some o' → (W.alloc o).heap[g]? = some o' := fun W o o' g h => (Below.heap_alloc W o g (blk_lt h)).trans h
  have HB2 := Aside0.mk (below_alloc (below_alloc (Below.refl w.heap.size w) (.cells #[.slice A1 l1.length c1] 23)) (.cells #[.bool false] 4))
  have HA := Aside0.mk (impl_areCalls.calls A0 c0 l0 (areOk l0) _ (Kd.C_below hr0 HB2.out) hc0 rfl)
  have HQ := Aside0.mk (fun (w1 : World) (h1 : Below ((w.alloc (.cells #[.slice A1 l1.length c1] 23)).alloc (.cells #[.bool false] 4)).heap.size ((w.alloc (.cells #[.slice A1 l1.length c1] 23)).alloc (.cells #[.bool false] 4)) w1) =>
    have hw1 := below_step HB2.out h1
    have hbs : w.heap.size + 1 < w1.heap.size := by have := h1.size; rw [hsz, hsz] at this; omega
    have hS : StE (w.heap.size + 1) w.heap.size A1 c1 l1 w1 false := ⟨by
        have h := hat (w.alloc (.cells #[.slice A1 l1.length c1] 23)) (.cells #[.bool false] 4)
        rw [hsz] at h
        exact (h1.block _ (blk_lt h)).trans h, by
        have h := hup (w.alloc (.cells #[.slice A1 l1.length c1] 23)) (.cells #[.bool false] 4) _ _ (hat w (.cells #[.slice A1 l1.length c1] 23))
        exact (h1.block _ (blk_lt h)).trans h, by omega, hc1, fun W' hk => Kd.C_below hr1 (hk.below hw1 (by omega))⟩
    And.intro hw1 (And.intro hS (fun hl : l0.length ≤ 7 => orders_calls (cc := c0) (visitE (w.heap.size + 1) w.heap.size (w.heap.size + 1) A1 c1 l1) hl (Nat.le_refl _) false w1 hbs hS (fun W' hk => Kd.C_below hr0 (hk.below hw1 (by omega))))))
  have HBS := Aside0.mk (fun (w2 : World) (b : Bool) (h : StE (w.heap.size + 1) w.heap.size A1 c1 l1 w2 b) => cell_of_one h.s)
  clear hsz hat hup hr0 hr1 hc0 hc1 h
  cases hok : areOk l0 with
  | true =>
    rw [hok] at HA
    have HL := Aside0.mk (areOk_len hok)
    have HP := Aside0.mk (show explainsP l0 l1 = (ext l0 (stepE l1) l0.length [] [] false).1 by unfold explainsP; rw [hok]; rfl)
    clear hok
    go_enter Try.func13, Try.ntmps13
    go_wp2_with (first
      | (go_at_call 42; (refine HA.out.mono ?_); rintro e w1 ⟨rfl, hd⟩; have HD := Aside0.mk hd; clear hd)
      | (go_at_call 43; (refine ((HQ.out w1 HD.out).2.2 HL.out).mono ?_); rintro e w2 ⟨rfl, hs, hk⟩; have HS := Aside0.mk hs; have HK := Aside0.mk hk; have z := HBS.out w2 _ hs; clear hs hk))
    go_ret
    exact ⟨by rw [HP.out]; rfl, HK.out.below (HQ.out w1 HD.out).1 (by omega)⟩
  | false =>
    rw [hok] at HA
    have HP := Aside0.mk (show explainsP l0 l1 = false by unfold explainsP; rw [hok]; rfl)
    clear hok
    go_enter Try.func13, Try.ntmps13
    go_wp2_with (first
      | (go_at_call 42; (refine HA.out.mono ?_); rintro e w1 ⟨rfl, hd⟩; have HD := Aside0.mk hd; have z := HBS.out w1 _ (HQ.out w1 hd).2.1; clear hd))
    go_ret
    exact ⟨by rw [HP.out]; rfl, (HQ.out w1 HD.out).1⟩
end Go.Proofs.Ythhfkicmgneokaa.Q
