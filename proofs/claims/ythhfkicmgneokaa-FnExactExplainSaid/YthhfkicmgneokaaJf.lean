/- Plain laws: what is marked is held. No program here. -/
import Derived.Test.YthhfkicmgneokaaJd
import Derived.Test.YthhfkicmgneokaaQx11
namespace Go.Proofs.Ythhfkicmgneokaa.Q
open Go.RowKit Go.Proofs.YthhfkicmgneokaaW.PrintWords Go.Proofs.YthhfkicmgneokaaW.PrintLast Go.Proofs.YthhfkicmgneokaaW.PrintMore
set_option linter.unusedVariables false
set_option linter.unusedSimpArgs false
/-- m, m + 1, .. -/
def marks (m : Int) : Nat → List Int
  | 0 => []
  | n + 1 => m :: marks (m + 1) n
theorem marks_len : ∀ (n : Nat) (m : Int), (marks m n).length = n
  | 0, _ => rfl
  | n + 1, m => by rw [marks, List.length_cons, marks_len n]
theorem marks_at : ∀ (n i : Nat) (m : Int) (h : i < (marks m n).length), (marks m n)[i] = m + i
  | 0, i, m, h => by simp [marks] at h
  | n + 1, 0, m, h => by simp [marks]
  | n + 1, i + 1, m, h => by
    have h' : i < (marks (m + 1) n).length := by rw [marks_len] at h ⊢; omega
    have e : (marks m (n + 1))[i + 1] = (marks (m + 1) n)[i] := rfl
    rw [e, marks_at n i (m + 1) h']
    omega
theorem marks_snoc : ∀ (n : Nat) (m : Int), marks m (n + 1) = marks m n ++ [m + n]
  | 0, m => by simp [marks]
  | n + 1, m => by
    rw [marks, marks_snoc n (m + 1), marks, List.cons_append]
    congr 3
    omega
theorem markIntS_l (l : List Int) (m : Int) (hm : 0 ≤ m) (hl : m + l.length ≤ 9223372036854775807) : ∀ (d i k : Nat), d = l.length - i → i ≤ l.length → d < k → laws_markIntS.l0 k (marks m i ++ l.drop i) (m + i) (i : Int) = some (m + l.length, marks m l.length) := by
  intro d
  induction d with
  | zero =>
    intro i k hd hi hk
    obtain ⟨k, rfl⟩ := round_ hk
    have e : i = l.length := by omega
    subst e
    simp only [laws_markIntS.l0]
    rw [if_neg (by rw [List.length_append, marks_len, List.length_drop]; omega), List.drop_length, List.append_nil]
  | succ d ih =>
    intro i k hd hi hk
    obtain ⟨k, rfl⟩ := round_ hk
    have hlt : i < l.length := by omega
    simp only [laws_markIntS.l0]
    rw [if_pos (by rw [List.length_append, marks_len, List.length_drop]; omega), if_pos (by omega), wrap_succ (n := l.length) hlt (by omega), Int.toNat_natCast, List.drop_eq_getElem_cons hlt]
    have hset : (marks m i ++ l[i] :: l.drop (i + 1)).set i (m + i) = marks m (i + 1) ++ l.drop (i + 1) := by
      rw [marks_snoc, List.append_assoc, List.singleton_append]
      have h := List.set_append_right (s := marks m i) (t := l[i] :: l.drop (i + 1)) i (m + i) (by rw [marks_len]; omega)
      rw [h, marks_len, Nat.sub_self, List.set_cons_zero]
    have hw : wrap64 (m + (i : Int) + 1) = m + ((i + 1 : Nat) : Int) := by unfold wrap64; omega
    rw [hset, hw]
    exact ih (i + 1) k (by omega) (by omega) (by omega)
theorem markIntS_ev (l : List Int) (m : Int) (hm : 0 ≤ m) (hl : m + l.length ≤ 9223372036854775807) : Ev (fun k => laws_markIntS.f k l m) (m + l.length, marks m l.length) := by
  refine ⟨l.length + 1, fun k hk => ?_⟩
  show laws_markIntS.f k l m = _
  unfold laws_markIntS.f
  have h := markIntS_l l m hm hl l.length 0 k (by omega) (by omega) (by omega)
  simpa [marks] using h
theorem heldIntS_l (m : Int) (n : Nat) (hm : 0 ≤ m) (hl : m + n ≤ 9223372036854775807) : ∀ (d i k : Nat), d = n - i → i ≤ n → d < k → laws_heldIntS.l0 k (marks m n) (m + i) (i : Int) = some (m + n) := by
  intro d
  induction d with
  | zero =>
    intro i k hd hi hk
    obtain ⟨k, rfl⟩ := round_ hk
    have e : i = n := by omega
    subst e
    simp only [laws_heldIntS.l0]
    rw [if_neg (by rw [marks_len]; omega)]
  | succ d ih =>
    intro i k hd hi hk
    obtain ⟨k, rfl⟩ := round_ hk
    have hlt : i < n := by omega
    have hlt' : i < (marks m n).length := by rw [marks_len]; exact hlt
    have hw : wrap64 (m + (i : Int) + 1) = m + ((i + 1 : Nat) : Int) := by unfold wrap64; omega
    simp only [laws_heldIntS.l0]
    rw [if_pos (by rw [marks_len]; omega), if_pos (by omega), if_pos (by rw [rdi _ _ hlt', marks_at]), wrap_succ (n := n) hlt (by omega), hw]
    exact ih (i + 1) k (by omega) (by omega) (by omega)
theorem heldIntS_ev (m : Int) (n : Nat) (hm : 0 ≤ m) (hl : m + n ≤ 9223372036854775807) : Ev (fun k => laws_heldIntS.f k (marks m n) m) (m + n) := by
  refine ⟨n + 1, fun k hk => ?_⟩
  show laws_heldIntS.f k (marks m n) m = _
  unfold laws_heldIntS.f
  have h := heldIntS_l m n hm hl n 0 k (by omega) (by omega) (by omega)
  simpa using h
theorem markCallS_l (n : Nat) (m : Int) (hm : 0 ≤ m) (hl : m + 5 * n ≤ 9223372036854775807) : ∀ (d i k : Nat) (l : List S55), l.length = n → d = n - i → i ≤ n → d < k → ∃ r, laws_markCallS.l0 k l (m + 5 * i) (i : Int) = some (m + 5 * n, r) := by
  intro d
  induction d with
  | zero =>
    intro i k l hln hd hi hk
    obtain ⟨k, rfl⟩ := round_ hk
    have e : i = n := by omega
    subst e
    simp only [laws_markCallS.l0]
    rw [if_neg (by omega)]
    exact ⟨l, rfl⟩
  | succ d ih =>
    intro i k l hln hd hi hk
    obtain ⟨k, rfl⟩ := round_ hk
    have hlt : i < n := by omega
    simp only [laws_markCallS.l0, Option.bind_some]
    rw [if_pos (by omega), if_pos (by omega), wrap_succ (n := n) hlt (by omega)]
    have w1 : wrap64 (m + 5 * (i : Int) + 1) = m + 5 * (i : Int) + 1 := by unfold wrap64; omega
    have w2 : wrap64 (m + 5 * (i : Int) + 1 + 1) = m + 5 * (i : Int) + 2 := by unfold wrap64; omega
    have w3 : wrap64 (m + 5 * (i : Int) + 2 + 1) = m + 5 * (i : Int) + 3 := by unfold wrap64; omega
    have w4 : wrap64 (m + 5 * (i : Int) + 3 + 1) = m + 5 * (i : Int) + 4 := by unfold wrap64; omega
    have w5 : wrap64 (m + 5 * (i : Int) + 4 + 1) = m + 5 * ((i + 1 : Nat) : Int) := by unfold wrap64; omega
    rw [w1, w2, w3, w4, w5]
    exact ih (i + 1) k _ (by simp only [List.length_set]; exact hln) (by omega) (by omega) (by omega)
theorem markCallS_ev (l : List S55) (m : Int) (hm : 0 ≤ m) (hl : m + 5 * l.length ≤ 9223372036854775807) : ∃ r, Ev (fun k => laws_markCallS.f k l m) (m + 5 * l.length, r) := by
  obtain ⟨r, h⟩ := markCallS_l l.length m hm hl l.length 0 (l.length + 1) l rfl (by omega) (by omega) (by omega)
  refine ⟨r, Ev.of (k := l.length + 1) (fun k => laws_markCallS.mono l m k) ?_⟩
  show laws_markCallS.f (l.length + 1) l m = _
  unfold laws_markCallS.f
  simpa using h
end Go.Proofs.Ythhfkicmgneokaa.Q
