/- By hand: slices.IndexFunc and slices.ContainsFunc over calls, and impl.areCalls. -/
import Derived.Test.YthhfkicmgneokaaQx2
namespace Go.Proofs.Ythhfkicmgneokaa.Q
open Go.RowKit Go.Proofs.YthhfkicmgneokaaW.PrintWords Go.Proofs.YthhfkicmgneokaaW.PrintLast Go.Proofs.YthhfkicmgneokaaW.PrintMore
set_option linter.unusedVariables false
set_option linter.unusedSimpArgs false

/-! ### plain words -/
def idxp {α : Type} (p : α → Bool) : List α → Int → Int
  | [], _ => -1
  | x :: r, i => if p x then i else idxp p r (i + 1)
theorem idxp_step {α : Type} (p : α → Bool) (z : α) (l : List α) (i : Nat) (h : i < l.length) : idxp p (l.drop i) i = if p (l.getD i z) then (i : Int) else idxp p (l.drop (i + 1)) ((i + 1 : Nat) : Int) := by
  rw [List.drop_eq_getElem_cons h, idxp, List.getD_eq_getElem?_getD, List.getElem?_eq_getElem h]; rfl
theorem idxp_end {α : Type} (p : α → Bool) (l : List α) (i : Nat) (h : ¬ i < l.length) : idxp p (l.drop i) i = -1 := by
  rw [List.drop_eq_nil_of_le (by omega), idxp]
theorem idxp_any {α : Type} (p : α → Bool) (l : List α) (i : Int) (h : 0 ≤ i) : decide (0 ≤ idxp p l i) = l.any p := by
  induction l generalizing i with
  | nil => simp [idxp]
  | cons x r ih =>
    rw [idxp, List.any_cons]
    by_cases hp : p x = true
    · rw [if_pos hp, hp]; simp [h]
    · rw [if_neg hp, ih (i + 1) (by omega), Bool.eq_false_iff.mpr hp]; simp
def Enters (F : Nat) : Prop := ∀ args w, (callFunc F args).run Try.prog w = .ok (.enter F args) w

abbrev cv (x : S55) : Value := .agg #[.bool x.f0, .int .i64 x.f1, .int .i64 x.f2, .int .i64 x.f3, .int .i64 x.f4]

/-! ### slices.IndexFunc, slices.ContainsFunc over calls -/
set_option maxHeartbeats 1000000 in
set_option maxRecDepth 100000 in
theorem idxfCall (F : Nat) (hE : Enters F) (cap : Array Value) (p : S55 → Bool) (A : Option Addr) (c : Nat) (l : List S55) (w : World) (hr0 : Kd.C k55 w A l.length l) (hc0 : l.length ≤ c)
    (hf : ∀ (x : S55) (W : World), Below w.heap.size w W → Calls Try.prog F (#[cv x] ++ cap) W (fun e W' => e = .returned (.bool (p x)) ∧ Below W.heap.size W W')) :
    Calls Try.prog 84 #[.slice A l.length c, .func (.func F) #[] cap] w fun e w' => e = .returned (.int .i64 (idxp p l 0)) ∧ Below w.heap.size w w' := by
  have HR0 := Aside0.mk hr0
  have HC0 := Aside0.mk hc0
  have HF := Aside0.mk hf
  have he := hE
  unfold Enters at he
  have hle : l.length ≤ 9223372036854775807 := hr0.2.1
  clear hr0 hc0 hf hE
  have HB := Aside0.mk (Below.refl w.heap.size w)
  go_enter Try.func84, Try.ntmps84
  go_wp2
  go_loopg [5, 8] l.length (fun kq v5 v8 w' => ∃ (i : Nat), v8 = .int .i64 (i : Int) ∧ Aside0 (i ≤ l.length) ∧ Aside0 (idxp p l 0 = idxp p (l.drop i) i) ∧ Aside0 (kq = l.length - i) ∧ Aside0 (Below w.heap.size w w'))
  case atStart => exact ⟨0, rfl, ⟨Nat.zero_le _⟩, ⟨rfl⟩, ⟨rfl⟩, HB⟩
  case round =>
    obtain ⟨i, rfl, HI, HX, HK1, HB⟩ := hrel
    by_cases hlt : i < l.length
    · obtain ⟨ad, e124, h0, h1, h2, h3, h4⟩ := at_T55 HR0.out (i : Int) (by omega) (by omega)
      cases e124
      replace h0 := (HB.out.cell (World.block_lt_of_cell? w _ h0)).trans h0
      replace h1 := (HB.out.cell (World.block_lt_of_cell? w _ h1)).trans h1
      replace h2 := (HB.out.cell (World.block_lt_of_cell? w _ h2)).trans h2
      replace h3 := (HB.out.cell (World.block_lt_of_cell? w _ h3)).trans h3
      replace h4 := (HB.out.cell (World.block_lt_of_cell? w _ h4)).trans h4
      simp only [Int.toNat_natCast] at h0 h1 h2 h3 h4
      have HS := Aside0.mk (idxp_step p z55 l i hlt)
      cases hp : p (rd_T55 l (i : Int)) with
      | false =>
        have HP := Aside0.mk hp
        clear hp
        go_wp2_with ((with_reducible refine (HF.out (rd_T55 l (i : Int)) _ HB.out).mono ?_); rintro e w1 ⟨rfl, hb⟩; rw [HP.out]; have HB1 := Aside0.mk (below_step HB.out hb); clear hb)
        go_roundg (l.length - (i + 1))
        case measure => have := HK1.out; omega
        case rel => exact ⟨i + 1, by first | rfl | (simp; done), ⟨by omega⟩, ⟨by rw [HX.out, HS.out, if_neg (Bool.eq_false_iff.mp (show p (l.getD i z55) = false from HP.out))]⟩, ⟨rfl⟩, HB1⟩
      | true =>
        have HP := Aside0.mk hp
        clear hp
        go_wp2_with ((with_reducible refine (HF.out (rd_T55 l (i : Int)) _ HB.out).mono ?_); rintro e w1 ⟨rfl, hb⟩; rw [HP.out]; have HB1 := Aside0.mk (below_step HB.out hb); clear hb)
        go_ret
        exact ⟨by rw [HX.out, HS.out, if_pos (show p (l.getD i z55) = true from HP.out)]; rfl, HB1.out⟩
    · have HS := Aside0.mk (idxp_end p l i hlt)
      go_wp2
      go_ret
      exact ⟨by rw [HX.out, HS.out]; rfl, HB.out⟩

set_option maxHeartbeats 1000000 in
set_option maxRecDepth 100000 in
theorem hasfCall (F : Nat) (hE : Enters F) (cap : Array Value) (p : S55 → Bool) (A : Option Addr) (c : Nat) (l : List S55) (w : World) (hr0 : Kd.C k55 w A l.length l) (hc0 : l.length ≤ c)
    (hf : ∀ (x : S55) (W : World), Below w.heap.size w W → Calls Try.prog F (#[cv x] ++ cap) W (fun e W' => e = .returned (.bool (p x)) ∧ Below W.heap.size W W')) :
    Calls Try.prog 61 #[.slice A l.length c, .func (.func F) #[] cap] w fun e w' => e = .returned (.bool (l.any p)) ∧ Below w.heap.size w w' := by
  have HI := Aside0.mk (idxfCall F hE cap p A c l w hr0 hc0 hf)
  have HA := Aside0.mk (idxp_any p l 0 (Int.le_refl 0))
  clear hr0 hc0 hf hE
  go_enter Try.func61, Try.ntmps61
  go_wp2_with (go_at_call 84; refine HI.out.mono ?_; rintro e w1 ⟨rfl, hb⟩; have HB1 := Aside0.mk hb; clear hb)
  go_ret
  exact ⟨by rw [← HA.out]; first | rfl | simp, HB1.out⟩

/-! ### impl.areCalls -/
def callOk (x : S55) : Bool :=
  (if x.f0 then decide (0 ≤ x.f1) && decide (x.f1 ≤ 1000000) && decide (x.f2 = 0) else decide (x.f1 = 0) && decide (-1 ≤ x.f2) && decide (x.f2 ≤ 1000000)) &&
    (decide (0 ≤ x.f4) && decide (x.f4 ≤ 1000000) && decide (0 ≤ x.f3) && decide (x.f3 ≤ x.f4))
theorem within_f (a b c : Int) : impl_within.f a b c = some (decide (b ≤ a) && decide (a ≤ c)) := by
  unfold impl_within.f
  by_cases h : a ≥ b
  · rw [if_pos h]; simp [show b ≤ a from h]
  · rw [if_neg h]; simp [show ¬ b ≤ a from h]
theorem callOk_f (x : S55) : impl_CallOk.f 1 x.f0 x.f1 x.f2 x.f3 x.f4 = some (callOk x) := by
  obtain ⟨b, v, r, f, t⟩ := x
  unfold impl_CallOk.f callOk
  simp only [impl_CallOk.j0, within_f, Option.bind_some]
  cases b
  · simp only [Bool.false_eq_true, if_false]
    by_cases h1 : v = 0 <;> by_cases h2 : -1 ≤ r <;> by_cases h3 : r ≤ 1000000 <;> by_cases h4 : 0 ≤ t <;> by_cases h5 : t ≤ 1000000 <;> simp [h1, h2, h3, h4, h5]
  · simp only [if_true]
    by_cases h1 : 0 ≤ v <;> by_cases h2 : v ≤ 1000000 <;> by_cases h3 : r = 0 <;> by_cases h4 : 0 ≤ t <;> by_cases h5 : t ≤ 1000000 <;> simp [h1, h2, h3, h4, h5]

set_option maxHeartbeats 1000000 in
set_option maxRecDepth 100000 in
theorem notOk_calls (x : S55) (w : World) : Calls Try.prog 62 #[cv x] w fun e w' => e = .returned (.bool (!callOk x)) ∧ Below w.heap.size w w' := by
  have HC := Aside0.mk (impl_CallOk.calls 1 x.f0 x.f1 x.f2 x.f3 x.f4 (callOk x) (w.alloc (.cells #[.bool x.f0, .int .i64 x.f1, .int .i64 x.f2, .int .i64 x.f3, .int .i64 x.f4] 55)) (callOk_f x))
  go_enter Try.func62, Try.ntmps62
  go_wp2_with (go_at_call 37; refine HC.out.mono ?_; rintro e w1 ⟨rfl, hb⟩; have HB1 := Aside0.mk hb; clear hb)
  go_ret
  exact ⟨rfl, below_step (below_alloc (Below.refl _ _) _) HB1.out⟩

def areOk (l : List S55) : Bool := decide ((l.length : Int) ≤ 7) && !(l.any fun x => !callOk x)
def impl_areCalls.f (l0 : List S55) : Option Bool := some (areOk l0)
set_option maxHeartbeats 1000000 in
set_option maxRecDepth 100000 in
theorem impl_areCalls.calls (A0 : Option Addr) (c0 : Nat) (l0 : List S55) (r : Bool) (w : World) (hr0 : Kd.C k55 w A0 l0.length l0) (hc0 : l0.length ≤ c0) (h : impl_areCalls.f l0 = some r) :
    Calls Try.prog 42 #[.slice A0 l0.length c0] w fun e w' => e = .returned (.bool r) ∧ Below w.heap.size w w' := by
  obtain rfl := Option.some.inj h
  have HI := Aside0.mk (hasfCall 62 (fun args w => enters_ Try.func62 (by kernel_rfl) rfl args w) #[] (fun x => !callOk x) A0 c0 l0 w hr0 hc0 (fun x W _ => notOk_calls x W))
  clear hr0 hc0 h
  by_cases hl : (l0.length : Int) ≤ 7
  · have hd : decide ((l0.length : Int) ≤ 7) = true := decide_eq_true hl
    have hd2 : decide (l0.length ≤ 7) = true := decide_eq_true (by omega)
    have HE := Aside0.mk (show areOk l0 = !(l0.any fun x => !callOk x) by unfold areOk; rw [hd]; rfl)
    clear hl
    go_enter Try.func42, Try.ntmps42
    go_wp2_with (go_at_call 61; refine HI.out.mono ?_; rintro e w1 ⟨rfl, hb⟩; have HB1 := Aside0.mk hb; clear hb)
    go_ret
    exact ⟨by rw [HE.out]; rfl, HB1.out⟩
  · have hd : decide ((l0.length : Int) ≤ 7) = false := decide_eq_false hl
    have hd2 : decide (l0.length ≤ 7) = false := decide_eq_false (by omega)
    have HE := Aside0.mk (show areOk l0 = false by unfold areOk; rw [hd]; rfl)
    clear hl
    go_enter Try.func42, Try.ntmps42
    go_wp2
    go_ret
    exact ⟨by rw [HE.out]; rfl, Below.refl _ _⟩

end Go.Proofs.Ythhfkicmgneokaa.Q
