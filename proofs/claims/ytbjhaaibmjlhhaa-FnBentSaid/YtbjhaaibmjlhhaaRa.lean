/- By hand: slices.IndexFunc and slices.ContainsFunc over ops, slices.Clone over bytes, impl.PackOps's test. -/
import Derived.Test.YtbjhaaibmjlhhaaQx5
import Derived.Deep.RegionWith
import Derived.WalkSpells
namespace Go.Proofs.Ytbjhaaibmjlhhaa.Q
open Go.RowKit Go.Proofs.YtbjhaaibmjlhhaaW.PrintWords Go.Proofs.YtbjhaaibmjlhhaaW.PrintLast Go.Proofs.YtbjhaaibmjlhhaaW.PrintMore
set_option linter.unusedVariables false
set_option linter.unusedSimpArgs false

/-! ### plain words -/
def idxp {α : Type} (p : α → Bool) : List α → Int → Int
  | [], _ => -1
  | x :: r, i => if p x then i else idxp p r (i + 1)
theorem idxp_step {α : Type} (p : α → Bool) (z : α) (l : List α) (i : Nat) (h : i < l.length) : idxp p (l.drop i) i = if p (l.getD i z) then (i : Int) else idxp p (l.drop (i + 1)) ((i + 1 : Nat) : Int) := by
  rw [List.drop_eq_getElem_cons h, idxp, List.getD_eq_getElem?_getD, List.getElem?_eq_getElem h]; rfl
theorem idxp_end {α : Type} (p : α → Bool) (l : List α) (i : Nat) (h : ¬ i < l.length) : idxp p (l.drop i) i = -1 := by
  rw [List.drop_eq_nil_of_le (by omega), idxp]
theorem idxp_any {α : Type} (p : α → Bool) (l : List α) (i : Int) (h : 0 ≤ i) : decide (0 ≤ idxp p l i) = l.any p := by
  induction l generalizing i with
  | nil => simp [idxp]
  | cons x r ih =>
    rw [idxp, List.any_cons]
    by_cases hp : p x = true
    · rw [if_pos hp, hp]; simp [h]
    · rw [if_neg hp, ih (i + 1) (by omega), Bool.eq_false_iff.mpr hp]; simp
def Enters (F : Nat) : Prop := ∀ args w, (callFunc F args).run Try.prog w = .ok (.enter F args) w

abbrev cv (x : S38) : Value := .agg #[.int .i64 x.f0, .int .i64 x.f1, .int .i64 x.f2]

/-! ### slices.IndexFunc, slices.ContainsFunc over calls -/
set_option maxHeartbeats 1000000 in
set_option maxRecDepth 100000 in
theorem idxfOp (F : Nat) (hE : Enters F) (cap : Array Value) (p : S38 → Bool) (A : Option Addr) (c : Nat) (l : List S38) (w : World) (hr0 : Kd.C k38 w A l.length l) (hc0 : l.length ≤ c)
    (hf : ∀ (x : S38) (W : World), Below w.heap.size w W → Calls Try.prog F (#[cv x] ++ cap) W (fun e W' => e = .returned (.bool (p x)) ∧ Below W.heap.size W W')) :
    Calls Try.prog 41 #[.slice A l.length c, .func (.func F) #[] cap] w fun e w' => e = .returned (.int .i64 (idxp p l 0)) ∧ Below w.heap.size w w' := by
  have HR0 := Aside0.mk hr0
  have HC0 := Aside0.mk hc0
  have HF := Aside0.mk hf
  have he := hE
  unfold Enters at he
  have hle : l.length ≤ 9223372036854775807 := hr0.2.1
  clear hr0 hc0 hf hE
  have HB := Aside0.mk (Below.refl w.heap.size w)
  go_enter Try.func41, Try.ntmps41
  go_wp2
  go_loopg [5, 8] l.length (fun kq v5 v8 w' => ∃ (i : Nat), v8 = .int .i64 (i : Int) ∧ Aside0 (i ≤ l.length) ∧ Aside0 (idxp p l 0 = idxp p (l.drop i) i) ∧ Aside0 (kq = l.length - i) ∧ Aside0 (Below w.heap.size w w'))
  case atStart => exact ⟨0, rfl, ⟨Nat.zero_le _⟩, ⟨rfl⟩, ⟨rfl⟩, HB⟩
  case round =>
    obtain ⟨i, rfl, HI, HX, HK1, HB⟩ := hrel
    by_cases hlt : i < l.length
    · obtain ⟨ad, e124, h0, h1, h2⟩ := at_T38 HR0.out (i : Int) (by omega) (by omega)
      cases e124
      replace h0 := (HB.out.cell (World.block_lt_of_cell? w _ h0)).trans h0
      replace h1 := (HB.out.cell (World.block_lt_of_cell? w _ h1)).trans h1
      replace h2 := (HB.out.cell (World.block_lt_of_cell? w _ h2)).trans h2
      simp only [Int.toNat_natCast] at h0 h1 h2
      have HS := Aside0.mk (idxp_step p z38 l i hlt)
      cases hp : p (rd_T38 l (i : Int)) with
      | false =>
        have HP := Aside0.mk hp
        clear hp
        go_wp2_with ((with_reducible refine (HF.out (rd_T38 l (i : Int)) _ HB.out).mono ?_); rintro e w1 ⟨rfl, hb⟩; rw [HP.out]; have HB1 := Aside0.mk (below_step HB.out hb); clear hb)
        go_roundg (l.length - (i + 1))
        case measure => have := HK1.out; omega
        case rel => exact ⟨i + 1, by first | rfl | (simp; done), ⟨by omega⟩, ⟨by rw [HX.out, HS.out, if_neg (Bool.eq_false_iff.mp (show p (l.getD i z38) = false from HP.out))]⟩, ⟨rfl⟩, HB1⟩
      | true =>
        have HP := Aside0.mk hp
        clear hp
        go_wp2_with ((with_reducible refine (HF.out (rd_T38 l (i : Int)) _ HB.out).mono ?_); rintro e w1 ⟨rfl, hb⟩; rw [HP.out]; have HB1 := Aside0.mk (below_step HB.out hb); clear hb)
        go_ret
        exact ⟨by rw [HX.out, HS.out, if_pos (show p (l.getD i z38) = true from HP.out)]; rfl, HB1.out⟩
    · have HS := Aside0.mk (idxp_end p l i hlt)
      go_wp2
      go_ret
      exact ⟨by rw [HX.out, HS.out]; rfl, HB.out⟩

set_option maxHeartbeats 1000000 in
set_option maxRecDepth 100000 in
theorem hasfOp (F : Nat) (hE : Enters F) (cap : Array Value) (p : S38 → Bool) (A : Option Addr) (c : Nat) (l : List S38) (w : World) (hr0 : Kd.C k38 w A l.length l) (hc0 : l.length ≤ c)
    (hf : ∀ (x : S38) (W : World), Below w.heap.size w W → Calls Try.prog F (#[cv x] ++ cap) W (fun e W' => e = .returned (.bool (p x)) ∧ Below W.heap.size W W')) :
    Calls Try.prog 22 #[.slice A l.length c, .func (.func F) #[] cap] w fun e w' => e = .returned (.bool (l.any p)) ∧ Below w.heap.size w w' := by
  have HI := Aside0.mk (idxfOp F hE cap p A c l w hr0 hc0 hf)
  have HA := Aside0.mk (idxp_any p l 0 (Int.le_refl 0))
  clear hr0 hc0 hf hE
  go_enter Try.func22, Try.ntmps22
  go_wp2_with (go_at_call 41; refine HI.out.mono ?_; rintro e w1 ⟨rfl, hb⟩; have HB1 := Aside0.mk hb; clear hb)
  go_ret
  exact ⟨by rw [← HA.out]; first | rfl | simp, HB1.out⟩

/-! ### impl.OpOk, plainly -/
def opOk (x : S38) : Bool :=
  decide (0 ≤ x.f0) && decide (x.f0 ≤ 6) && decide (0 ≤ x.f1) && decide (x.f1 ≤ 4) && !(decide (x.f0 = 0) && !decide (x.f1 = 0)) &&
    (if 1 ≤ x.f0 ∧ x.f0 ≤ 3 then decide (1 ≤ x.f2) && decide (x.f2 ≤ 60) else decide (x.f2 = 0))
theorem within_f (a b c : Int) : impl_within.f a b c = some (decide (b ≤ a) && decide (a ≤ c)) := by
  unfold impl_within.f
  by_cases h : a ≥ b
  · rw [if_pos h]; simp [show b ≤ a from h]
  · rw [if_neg h]; simp [show ¬ b ≤ a from h]

/-! ### slices.Clone over bytes -/
set_option maxHeartbeats 1000000 in
set_option maxRecDepth 100000 in
theorem cloneNil (c : Nat) (w : World) : Calls Try.prog 29 #[.slice none 0 c] w fun e w' => e = .returned (.slice none 0 0) ∧ Below w.heap.size w w' := by
  have hq := fun (w : World) (c : Nat) => Lib.run_eql_slice_nil (P := Try.prog) w 22 5 none 0 c 0 0 Try.underlying22
  go_enter Try.func29, Try.ntmps29
  go_wp2
  go_ret
  exact ⟨rfl, Below.refl _ _⟩

set_option maxHeartbeats 1000000 in
set_option maxRecDepth 100000 in
theorem cloneSome (ad : Addr) (c : Nat) (l : List Int) (w : World) (hr0 : Kd.C (Kd.int .u8) w (some ad) l.length l) (hc0 : l.length ≤ c) (hl : l.length * 1 ≤ 140737488355328) :
    Calls Try.prog 29 #[.slice (some ad) l.length c] w fun e w' => ∃ v ad' c', e = .returned v ∧ v = .slice (some ad') l.length c' ∧ Kd.R (Kd.int .u8) 5 w' w.heap.size (fun _ => True) v l ∧ Below w.heap.size w w' := by
  have hq := fun (w : World) (c : Nat) => Lib.run_eql_slice_nil (P := Try.prog) w 22 5 (some ad) l.length c 0 0 Try.underlying22
  have HR0 := Aside0.mk hr0
  have HC0 := Aside0.mk hc0
  have HL := Aside0.mk hl
  clear hr0 hc0 hl
  have HB := Aside0.mk (Below.refl w.heap.size w)
  go_enter Try.func29, Try.ntmps29
  go_wp2_with (first
    | ((with_reducible refine gate_dst (N := 5) rfl ?_); refine Kd.R_lit (Kd.int .u8) w.heap.size 5 ?hg (N := 5) ?hd (xs := ([] : List Int)) (inner := []) (ok := fun _ => True) (okp := fun _ => True) ?hr ?hp (fun _ hk => hk) trivial (Below.refl _ _) (Nat.le_refl _) (by simp) ?_; (case hd => rfl); (case hg => rfl); (case hr => first | (go_simp; done) | (go_simp; rfl)); (case hp => exact (Reps.none _ _)); intro v1 w1 ho hb hg_ hnew_; have HO := Aside0.mk ho; have HB1 := Aside0.mk hb; have HN := Aside0.mk hnew_; clear hg_ hnew_ ho hb)
    | ((with_reducible refine gate_builtin (b := .append) (xs := #[.tmp 5, .tmp 6]) rfl ?_); at_builtin; refine Kd.R_append_rows (Kd.int .u8) (Rr := (Kd.int .u8).K w1) (w0 := w) w.heap.size rfl (.tmp 5) (.tmp 6) 22 5 (.int .u8 0) 1 rfl Try.underlying22 info5 rfl (by decide) (by omega) v1 ([] : List Int) l (some ad) l.length c (fun _ => True) (fun _ => False) rfl rfl HO.out (Kd.C_below HR0.out HB1.out) (fun _ _ h => h) (fun _ hk => hk.elim) (fun _ _ => trivial) HB1.out HB1.out.size (by have := HL.out; simp; omega) ?_; intro v2 w2 ho hb hg hat; have HO2 := Aside0.mk ho; have HB2 := Aside0.mk hb; have HAT := Aside0.mk hat; clear ho hb hg hat))
  go_ret
  obtain ⟨A, c2, e2⟩ := Kd.R_slice HO2.out
  have hA : ∃ ad', A = some ad' := by
    cases A with
    | some ad' => exact ⟨ad', rfl⟩
    | none =>
      subst e2
      obtain ⟨b, hb, _⟩ := HN.out
      rcases HAT.out with h | ⟨b', h, _⟩
      · rw [← h] at hb; simp [Value.ownBlock] at hb
      · simp [Value.ownBlock] at h
  obtain ⟨ad', rfl⟩ := hA
  exact ⟨v2, ad', c2, rfl, e2, HO2.out, HB2.out⟩


def slices_Clone_byte_byte.f (l0 : List Int) : Option (List Int) := if l0.length * 1 ≤ 140737488355328 then some l0 else none
theorem slices_Clone_byte_byte.calls (A0 : Option Addr) (c0 : Nat) (l0 : List Int) (r : List Int) (w : World) (hr0 : Kd.C (Kd.int .u8) w A0 l0.length l0) (hc0 : l0.length ≤ c0) (h : slices_Clone_byte_byte.f l0 = some r) :
    Calls Try.prog 29 #[.slice A0 l0.length c0] w fun e w' => ∃ v0_ : Value, e = .returned (v0_) ∧ Kd.R (Kd.int .u8) 5 w' w.heap.size (fun _ => True) v0_ r ∧ Below w.heap.size w w' := by
  unfold slices_Clone_byte_byte.f at h
  by_cases hl : l0.length * 1 ≤ 140737488355328
  · rw [if_pos hl] at h
    obtain rfl := Option.some.inj h
    cases A0 with
    | some ad => exact (cloneSome ad c0 l0 w hr0 hc0 hl).mono fun e w' ⟨v, ad', c', he, hv, hR, hb⟩ => ⟨v, he, hR, hb⟩
    | none =>
      have h0 : l0 = [] := by
        cases l0 with
        | nil => rfl
        | cons x r => obtain ⟨ad, h, _⟩ := hr0.2.2 (by simp); cases h
      subst h0
      exact (cloneNil c0 w).mono fun e w' ⟨he, hb⟩ => ⟨_, he, Kd.R_nil _ _ _ _ _, hb⟩
  · rw [if_neg hl] at h
    exact absurd h (by simp)
end Go.Proofs.Ytbjhaaibmjlhhaa.Q
