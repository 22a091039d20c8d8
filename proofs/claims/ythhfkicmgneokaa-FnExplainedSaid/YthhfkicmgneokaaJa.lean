/- Plain laws: what the reference's functions on calls compute. No program here. -/
import Derived.Test.YthhfkicmgneokaaHa
import Derived.Test.YthhfkicmgneokaaQx7
import Derived.Test.YthhfkicmgneokaaQx4
import Derived.Test.YthhfkicmgneokaaQx5
namespace Go.Proofs.Ythhfkicmgneokaa.Q
open Go.RowKit Go.Proofs.YthhfkicmgneokaaW.PrintWords Go.Proofs.YthhfkicmgneokaaW.PrintLast Go.Proofs.YthhfkicmgneokaaW.PrintMore
set_option linter.unusedVariables false
set_option linter.unusedSimpArgs false

theorem wrap_succ {i n : Nat} (h : i < n) (hn : n ≤ 9223372036854775807) : wrap64 ((i : Int) + 1) = ((i + 1 : Nat) : Int) := by unfold wrap64; omega
theorem round_ {d k : Nat} (h : d < k) : ∃ q, k = q + 1 := ⟨k - 1, by omega⟩
theorem set_fill {α : Type} (A : List α) (z x : α) (i m : Nat) (h : A.length = i) : (A ++ List.replicate (m + 1) z).set i x = (A ++ [x]) ++ List.replicate m z := by
  subst h
  rw [List.set_append_right _ _ (Nat.le_refl _), Nat.sub_self, List.replicate_succ, List.set_cons_zero, List.append_assoc]
  rfl
theorem getD_at {α : Type} (l : List α) (z : α) (i : Nat) (h : i < l.length) : l.getD i z = l[i] := by rw [List.getD_eq_getElem?_getD, List.getElem?_eq_getElem h]; rfl

/-! ### toCallS, eqCallS -/
def conv (x : S60) : S55 := ⟨x.f0, x.f1, x.f2, x.f3, x.f4⟩
theorem toCallS_l (l : List S60) (hl : l.length ≤ 9223372036854775807) : ∀ (d i k : Nat), d = l.length - i → i ≤ l.length → d < k → laws_toCallS.l0 k l ((l.take i).map conv ++ List.replicate (l.length - i) z55) (i : Int) = some (l.map conv) := by
  intro d
  induction d with
  | zero =>
    intro i k hd hi hk
    obtain ⟨k, rfl⟩ := round_ hk
    simp only [laws_toCallS.l0]
    rw [if_neg (by omega), show l.length - i = 0 by omega, List.take_of_length_le (by omega)]
    simp
  | succ d ih =>
    intro i k hd hi hk
    obtain ⟨k, rfl⟩ := round_ hk
    have hlt : i < l.length := by omega
    simp only [laws_toCallS.l0]
    rw [if_pos (by omega), if_pos (by omega)]
    simp only [laws_toCall.f, Option.bind_some]
    rw [if_pos (by rw [List.length_append, List.length_map, List.length_take, List.length_replicate]; omega), wrap_succ hlt hl, Int.toNat_natCast, show l.length - i = (l.length - (i + 1)) + 1 by omega, set_fill _ _ _ _ _ (by rw [List.length_map, List.length_take]; omega)]
    have e : (l.take i).map conv ++ [(⟨(rd_T60 l (i : Int)).f0, (rd_T60 l (i : Int)).f1, (rd_T60 l (i : Int)).f2, (rd_T60 l (i : Int)).f3, (rd_T60 l (i : Int)).f4⟩ : S55)] = (l.take (i + 1)).map conv := by
      rw [List.take_succ_eq_append_getElem hlt, List.map_append]
      unfold rd_T60
      rw [Int.toNat_natCast, getD_at _ _ _ hlt]
      rfl
    rw [e]
    exact ih (i + 1) k (by omega) (by omega) (by omega)
theorem toCallS_ev (l : List S60) (hl : l.length ≤ 7036874417766) : Ev (fun k => laws_toCallS.f k l) (l.map conv) := by
  refine ⟨l.length + 1, fun k hk => ?_⟩
  show laws_toCallS.f k l = _
  unfold laws_toCallS.f
  rw [if_pos (by omega), if_pos (by omega)]
  have h := toCallS_l l (by omega) l.length 0 k (by omega) (by omega) (by omega)
  simpa using h
theorem eqCallS_l (l : List S55) (hl : l.length ≤ 9223372036854775807) : ∀ (d i k : Nat), d = l.length - i → i ≤ l.length → d < k → laws_eqCallS.l0 k l l (i : Int) = some true := by
  intro d
  induction d with
  | zero =>
    intro i k hd hi hk
    obtain ⟨k, rfl⟩ := round_ hk
    simp only [laws_eqCallS.l0]
    rw [if_neg (by omega)]
  | succ d ih =>
    intro i k hd hi hk
    obtain ⟨k, rfl⟩ := round_ hk
    simp only [laws_eqCallS.l0]
    rw [if_pos (by omega), if_pos (by omega), if_pos (by omega), wrap_succ (n := l.length) (by omega) hl]
    rw [ih (i + 1) k (by omega) (by omega) (by omega)]
    simp [laws_eqCall.f]
theorem eqCallS_ev (l : List S55) (hl : l.length ≤ 9223372036854775807) : Ev (fun k => laws_eqCallS.f k l l) true := by
  refine ⟨l.length + 1, fun k hk => ?_⟩
  show laws_eqCallS.f k l l = _
  unfold laws_eqCallS.f
  rw [if_pos rfl]
  exact eqCallS_l l hl l.length 0 k (by omega) (by omega) (by omega)

/-! ### the reference's CallOk, Ahead, l16Fine -/
theorem l01In_f (a b c : Int) : spec_l01In.f a b c = some (decide (b ≤ a) && decide (a ≤ c)) := by
  unfold spec_l01In.f
  by_cases h : b ≤ a
  · rw [if_pos h]; simp [h]
  · rw [if_neg h]; simp [h]
theorem sCallOk_f (k : Nat) (hk : 1 ≤ k) (x : S55) : spec_CallOk.f k x.f0 x.f1 x.f2 x.f3 x.f4 = some (callOk x) := by
  obtain ⟨k, rfl⟩ : ∃ q, k = q + 1 := ⟨k - 1, by omega⟩
  obtain ⟨b, v, r, f, t⟩ := x
  unfold spec_CallOk.f callOk
  simp only [spec_CallOk.j0, l01In_f, Option.bind_some]
  cases b
  · simp only [Bool.false_eq_true, if_false]
    by_cases h1 : v = 0
    · subst h1
      by_cases h2 : -1 ≤ r <;> by_cases h3 : r ≤ 1000000 <;> by_cases h4 : f < 0 <;> by_cases h5 : t < f <;> by_cases h6 : t > 1000000 <;> simp [h2, h3, h4, h5, h6] <;> omega
    · by_cases h0 : 0 ≤ v <;> by_cases h0' : v ≤ 1000000 <;> by_cases h2 : -1 ≤ r <;> by_cases h3 : r ≤ 1000000 <;> by_cases h4 : f < 0 <;> by_cases h5 : t < f <;> by_cases h6 : t > 1000000 <;> simp [h0, h0', h1, h2, h3, h4, h5, h6]
  · simp only [if_true]
    by_cases h1 : r = 0
    · subst h1
      by_cases h2 : 0 ≤ v <;> by_cases h3 : v ≤ 1000000 <;> by_cases h4 : f < 0 <;> by_cases h5 : t < f <;> by_cases h6 : t > 1000000 <;> simp [h2, h3, h4, h5, h6] <;> omega
    · by_cases h0 : -1 ≤ r <;> by_cases h0' : r ≤ 1000000 <;> by_cases h2 : 0 ≤ v <;> by_cases h3 : v ≤ 1000000 <;> by_cases h4 : f < 0 <;> by_cases h5 : t < f <;> by_cases h6 : t > 1000000 <;> simp [h0, h0', h1, h2, h3, h4, h5, h6]
theorem fine_l (l : List S55) (hl : l.length ≤ 9223372036854775807) : ∀ (d i k : Nat), d = l.length - i → i ≤ l.length → d + 1 < k → spec_l16Fine.l0 k l (i : Int) = some (!(l.drop i).any fun x => !callOk x) := by
  intro d
  induction d with
  | zero =>
    intro i k hd hi hk
    obtain ⟨k, rfl⟩ := round_ hk
    simp only [spec_l16Fine.l0]
    rw [if_neg (by omega), List.drop_eq_nil_of_le (by omega)]
    rfl
  | succ d ih =>
    intro i k hd hi hk
    obtain ⟨k, rfl⟩ := round_ hk
    have hlt : i < l.length := by omega
    simp only [spec_l16Fine.l0]
    rw [if_pos (by omega), if_pos (by omega), sCallOk_f k (by omega), Option.bind_some, wrap_succ (n := l.length) (by omega) hl, ih (i + 1) k (by omega) (by omega) (by omega), List.drop_eq_getElem_cons hlt, List.any_cons]
    have e : rd_T55 l (i : Int) = l[i] := by unfold rd_T55; rw [Int.toNat_natCast, getD_at _ _ _ hlt]
    rw [e]
    cases callOk l[i] <;> simp
theorem fine_ev (l : List S55) (hl : l.length ≤ 9223372036854775807) : Ev (fun k => spec_l16Fine.f k l) (areOk l) := by
  refine ⟨l.length + 2, fun k hk => ?_⟩
  show spec_l16Fine.f k l = _
  unfold spec_l16Fine.f areOk
  by_cases h : (l.length : Int) > 7
  · rw [if_pos h]; simp; omega
  · rw [if_neg h]
    have h2 := fine_l l hl l.length 0 k (by omega) (by omega) (by omega)
    rw [show ((0 : Int)) = ((0 : Nat) : Int) from rfl, h2, List.drop_zero, decide_eq_true (show (l.length : Int) ≤ 7 by omega), Bool.true_and]
end Go.Proofs.Ythhfkicmgneokaa.Q
