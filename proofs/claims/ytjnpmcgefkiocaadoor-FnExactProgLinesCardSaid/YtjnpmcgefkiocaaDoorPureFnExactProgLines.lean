/- The pure statement of FnExactProgLines: the program's lines are the reference's. -/
import Derived.Test.YtjnpmcgefkiocaaDoorSf
import Derived.Test.YtjnpmcgefkiocaaDoorQx9
namespace Go.Proofs.YtjnpmcgefkiocaaDoor.Q
open Go.RowKit Go.Proofs.YtjnpmcgefkiocaaDoorW.PrintWords Go.Proofs.YtjnpmcgefkiocaaDoorW.PrintLast Go.Proofs.YtjnpmcgefkiocaaDoorW.PrintMore
set_option linter.unusedVariables false
set_option linter.unusedSimpArgs false
def conv (x : InL) : In := ⟨x.f0, x.f1, x.f2, x.f3⟩
theorem toS_l (l : List InL) (hl : l.length ≤ 100000000) : ∀ (d i k : Nat), d = l.length - i → i ≤ l.length → d < k → laws_toInstrS.l0 k l ((l.take i).map conv ++ List.replicate (l.length - i) z63) (i : Int) = some (l.map conv) := by
  intro d
  induction d with
  | zero =>
    intro i k hd hi hk
    obtain ⟨k, rfl⟩ := round_ hk
    simp only [laws_toInstrS.l0]
    rw [if_neg (by omega), show l.length - i = 0 by omega, List.take_of_length_le (by omega)]
    simp
  | succ d ih =>
    intro i k hd hi hk
    obtain ⟨k, rfl⟩ := round_ hk
    have hlt : i < l.length := by omega
    simp only [laws_toInstrS.l0]
    rw [if_pos (by omega), if_pos (by omega)]
    simp only [laws_toInstr.f, Option.bind_some]
    rw [if_pos (by rw [List.length_append, List.length_map, List.length_take, List.length_replicate]; omega), wrap_succ hlt (by omega), Int.toNat_natCast, show l.length - i = (l.length - (i + 1)) + 1 by omega, set_fill _ _ _ _ _ (by rw [List.length_map, List.length_take]; omega)]
    have e : (l.take i).map conv ++ [(⟨(rd_T81 l (i : Int)).f0, (rd_T81 l (i : Int)).f1, (rd_T81 l (i : Int)).f2, (rd_T81 l (i : Int)).f3⟩ : In)] = (l.take (i + 1)).map conv := by
      rw [List.take_succ_eq_append_getElem hlt, List.map_append]
      unfold rd_T81
      rw [Int.toNat_natCast, getD_at _ _ _ hlt]
      rfl
    rw [e]
    exact ih (i + 1) k (by omega) (by omega) (by omega)
theorem toS_ev (l : List InL) (hl : l.length ≤ 100000000) : Ev (fun k => laws_toInstrS.f k l) (l.map conv) := by
  refine ⟨l.length + 1, fun k hk => ?_⟩
  show laws_toInstrS.f k l = _
  unfold laws_toInstrS.f
  rw [if_pos (by omega), if_pos (by omega)]
  have h := toS_l l hl l.length 0 k (by omega) (by omega) (by omega)
  simpa using h
theorem rdLL_at (l : List (List InL)) (i : Nat) (h : i < l.length) : rd_L2 l (i : Int) = l[i] := by unfold rd_L2; rw [Int.toNat_natCast, getD_at _ _ _ h]
theorem toSS_l (L : List (List InL)) (hL : L.length ≤ 100000000) (hl : ∀ l ∈ L, l.length ≤ 100000000) : ∀ (d i : Nat), d = L.length - i → i ≤ L.length → Ev (fun k => laws_toInstrSS.l0 k L ((L.take i).map (List.map conv) ++ List.replicate (L.length - i) []) (i : Int)) (L.map (List.map conv)) := by
  intro d
  induction d with
  | zero =>
    intro i hd hi
    have g : ¬ ((i : Int) < (L.length : Int)) := by omega
    have e : (L.take i).map (List.map conv) ++ List.replicate (L.length - i) [] = L.map (List.map conv) := by
      rw [show L.length - i = 0 by omega, List.take_of_length_le (by omega)]; simp
    rw [e]
    exact Ev.at1 fun k => by rw [laws_toInstrSS.l0, if_neg g]
  | succ d ih =>
    intro i hd hi
    have hlt : i < L.length := by omega
    have g : (i : Int) < (L.length : Int) := by omega
    have g0 : (0 : Int) ≤ (i : Int) := by omega
    have hr := rdLL_at L i hlt
    have hw := wrap_succ (i := i) (n := L.length) hlt (by omega)
    refine Ev.step (fun k => by rw [laws_toInstrSS.l0, if_pos g, if_pos g0, hr]) ?_
    refine Ev.bind (toS_ev L[i] (hl _ (List.getElem_mem hlt))) ?_
    have g1 : (i : Int) < (((L.take i).map (List.map conv) ++ List.replicate (L.length - i) ([] : List In)).length : Int) := by rw [List.length_append, List.length_map, List.length_take, List.length_replicate]; omega
    have e : ((L.take i).map (List.map conv) ++ List.replicate (L.length - i) ([] : List In)).set ((i : Int)).toNat (L[i].map conv) = (L.take (i + 1)).map (List.map conv) ++ List.replicate (L.length - (i + 1)) [] := by
      rw [Int.toNat_natCast, show L.length - i = (L.length - (i + 1)) + 1 by omega, set_fill _ _ _ _ _ (by rw [List.length_map, List.length_take]; omega), List.take_succ_eq_append_getElem hlt, List.map_append]
      rfl
    refine Ev.congr (fun k => by rw [if_pos g1, e, hw]) ?_
    exact ih (i + 1) (by omega) (by omega)
theorem toProg_ev (c : Int) (L : List (List InL)) (hL : L.length ≤ 1048576) (hl : ∀ l ∈ L, l.length ≤ 1048576) : Ev (fun k => laws_toProg.f k c L) (c, L.map (List.map conv)) := by
  unfold laws_toProg.f
  refine Ev.bind ?_ (Ev.now _)
  unfold laws_toInstrSS.f
  refine Ev.congr (fun k => by rw [if_pos (by omega), if_pos (by omega)]) ?_
  have h := toSS_l L (by omega) (fun l h => by have := hl l h; omega) L.length 0 (by omega) (by omega)
  rw [List.take_zero] at h
  simpa using h
theorem eqS_l (l : List In) (hl : l.length ≤ 100000000) : ∀ (d i k : Nat), d = l.length - i → i ≤ l.length → d < k → laws_eqInstrS.l0 k l l (i : Int) = some true := by
  intro d
  induction d with
  | zero =>
    intro i k hd hi hk
    obtain ⟨k, rfl⟩ := round_ hk
    simp only [laws_eqInstrS.l0]
    rw [if_neg (by omega)]
  | succ d ih =>
    intro i k hd hi hk
    obtain ⟨k, rfl⟩ := round_ hk
    simp only [laws_eqInstrS.l0]
    rw [if_pos (by omega), if_pos (by omega), if_pos (by omega), wrap_succ (n := l.length) (by omega) (by omega)]
    rw [ih (i + 1) k (by omega) (by omega) (by omega)]
    simp [laws_eqInstr.f]
theorem eqS_ev (l : List In) (hl : l.length ≤ 100000000) : Ev (fun k => laws_eqInstrS.f k l l) true := by
  refine ⟨l.length + 1, fun k hk => ?_⟩
  show laws_eqInstrS.f k l l = _
  unfold laws_eqInstrS.f
  rw [if_pos rfl]
  exact eqS_l l hl l.length 0 k (by omega) (by omega) (by omega)
theorem eqSS_l (L : List (List In)) (hL : L.length ≤ 100000000) (hl : ∀ l ∈ L, l.length ≤ 100000000) : ∀ (d i : Nat), d = L.length - i → i ≤ L.length → Ev (fun k => laws_eqInstrSS.l0 k L L (i : Int)) true := by
  intro d
  induction d with
  | zero =>
    intro i hd hi
    have g : ¬ ((i : Int) < (L.length : Int)) := by omega
    exact Ev.at1 fun k => by rw [laws_eqInstrSS.l0, if_neg g]
  | succ d ih =>
    intro i hd hi
    have hlt : i < L.length := by omega
    have g : (i : Int) < (L.length : Int) := by omega
    have g0 : (0 : Int) ≤ (i : Int) := by omega
    have hr := rdL_at L i hlt
    have hw := wrap_succ (i := i) (n := L.length) hlt (by omega)
    refine Ev.step (fun k => by rw [laws_eqInstrSS.l0, if_pos g, if_pos g0, if_pos g, hr]) ?_
    refine Ev.bind (eqS_ev L[i] (hl _ (List.getElem_mem hlt))) ?_
    refine Ev.congr (fun k => by rw [if_pos rfl, hw]) ?_
    exact ih (i + 1) (by omega) (by omega)
theorem eqProg_ev (c : Int) (L : List (List In)) (hL : L.length ≤ 100000000) (hl : ∀ l ∈ L, l.length ≤ 100000000) : Ev (fun k => laws_eqProg.f k c L c L) true := by
  unfold laws_eqProg.f
  refine Ev.congr (fun k => if_pos rfl) ?_
  refine Ev.bind (a := true) ?_ (Ev.congr (f := fun _ => some true) (fun k => if_pos rfl) (Ev.now _))
  unfold laws_eqInstrSS.f
  refine Ev.congr (fun k => if_pos rfl) ?_
  exact eqSS_l L hL hl L.length 0 (by omega) (by omega)
def szP (left : Int) : List (List InL) → Int
  | [] => left
  | l :: r => if left - (l.length : Int) < 0 then -1 else szP (left - l.length) r
theorem szP_le : ∀ (r : List (List InL)) (left : Int), ¬ szP left r < 0 → ∀ l ∈ r, (l.length : Int) ≤ left := by
  intro r
  induction r with
  | nil => intro _ _ l h; cases h
  | cons x r ih =>
    intro left h l hl
    unfold szP at h
    by_cases c : left - (x.length : Int) < 0
    · rw [if_pos c] at h; exact absurd (by decide) h
    · rw [if_neg c] at h
      rcases List.mem_cons.mp hl with rfl | hl
      · omega
      · have := ih _ h l hl; omega
theorem sz_l (L : List (List InL)) (hL : L.length ≤ 1048576) (hl : ∀ l ∈ L, l.length ≤ 9223372036854775807) : ∀ (d i : Nat) (left : Int), d = L.length - i → i ≤ L.length → 0 ≤ left → left ≤ 1048576 → Ev (fun k => laws_szInstrSS.l0 k L left (i : Int)) (szP left (L.drop i)) := by
  intro d
  induction d with
  | zero =>
    intro i left hd hi h0 h1
    have g : ¬ ((i : Int) < (L.length : Int)) := by omega
    rw [List.drop_eq_nil_of_le (by omega)]
    exact Ev.at1 fun k => by rw [laws_szInstrSS.l0, if_neg g]; rfl
  | succ d ih =>
    intro i left hd hi h0 h1
    have hlt : i < L.length := by omega
    have g : (i : Int) < (L.length : Int) := by omega
    have g0 : (0 : Int) ≤ (i : Int) := by omega
    have hr := rdLL_at L i hlt
    have hb := hl L[i] (List.getElem_mem hlt)
    have hw := wrap_succ (i := i) (n := L.length) hlt (by omega)
    have hv : wrap64 (left - ((L[i]).length : Int)) = left - ((L[i]).length : Int) := w64_of _ _ rfl (by omega) (by omega)
    rw [List.drop_eq_getElem_cons hlt, szP]
    by_cases c : left - ((L[i]).length : Int) < 0
    · rw [if_pos c]
      exact Ev.at1 fun k => by rw [laws_szInstrSS.l0, if_pos g, if_pos g0, hr, laws_szInstrS.f, hv, if_pos c]; rfl
    · rw [if_neg c]
      have hn := ih (i + 1) (left - ((L[i]).length : Int)) (by omega) (by omega) (by omega) (by omega)
      exact Ev.step (fun k => by rw [laws_szInstrSS.l0, if_pos g, if_pos g0, hr, laws_szInstrS.f, hv, if_neg c, Option.bind_some, if_neg c, hw]) hn
theorem sz_ev (c : Int) (L : List (List InL)) (hL : L.length ≤ 9223372036854775807) (hl : ∀ l ∈ L, l.length ≤ 9223372036854775807) : ∃ v, Ev (fun k => laws_szProg.f k c L 1048576) v ∧ (v < 0 ∨ (L.length ≤ 1048576 ∧ ∀ l ∈ L, l.length ≤ 1048576)) := by
  have hv : wrap64 (1048576 - (L.length : Int)) = 1048576 - (L.length : Int) := w64_of _ _ rfl (by omega) (by omega)
  unfold laws_szProg.f laws_szInstrSS.f
  rw [hv]
  by_cases c : (1048576 : Int) - (L.length : Int) < 0
  · refine ⟨-1, ?_, Or.inl (by decide)⟩
    refine Ev.bind (a := -1) (Ev.congr (f := fun _ => some (-1)) (fun k => if_pos c) (Ev.now _)) ?_
    exact Ev.congr (f := fun _ => some (-1)) (fun k => if_pos (by decide)) (Ev.now _)
  · clear hv
    have h := sz_l L (by omega) hl L.length 0 (1048576 - (L.length : Int)) (by omega) (by omega) (by omega) (by omega)
    rw [List.drop_zero] at h
    by_cases cv : szP (1048576 - (L.length : Int)) L < 0
    · refine ⟨-1, ?_, Or.inl (by decide)⟩
      refine Ev.bind (Ev.congr (fun k => if_neg c) h) ?_
      exact Ev.congr (f := fun _ => some (-1)) (fun k => if_pos cv) (Ev.now _)
    · refine ⟨szP (1048576 - (L.length : Int)) L, ?_, Or.inr ⟨by omega, fun l hl' => by have := szP_le _ _ cv l hl'; omega⟩⟩
      refine Ev.bind (Ev.congr (fun k => if_neg c) h) ?_
      exact Ev.congr (fun k => if_neg cv) (Ev.now _)
end Go.Proofs.YtjnpmcgefkiocaaDoor.Q
namespace Go.Proofs.YtjnpmcgefkiocaaDoor.Pure
open Go.RowKit Go.Proofs.YtjnpmcgefkiocaaDoor.Q Go.Proofs.YtjnpmcgefkiocaaDoorW.PrintWords Go.Proofs.YtjnpmcgefkiocaaDoorW.PrintLast
def FnExactProgLinesPure : Prop := ∀ (c : Int) (L : List (List S81)), L.length ≤ 9223372036854775807 → (∀ l ∈ L, l.length ≤ 9223372036854775807) → ∃ k, laws_FnExactProgLines.f k c L = some true
theorem FnExactProgLines : FnExactProgLinesPure := by
  intro c L h0 h1
  obtain ⟨v, hv, hc⟩ := sz_ev c L h0 h1
  unfold laws_FnExactProgLines.f
  refine Ev.rounds ?_
  refine Ev.bind hv ?_
  by_cases cv : v < 0
  · exact Ev.congr (f := fun _ => some true) (fun k => if_pos cv) (Ev.now _)
  obtain ⟨hL, hl⟩ := hc.resolve_left cv
  refine Ev.congr (fun k => if_neg cv) ?_
  have hT := toProg_ev c L hL hl
  refine Ev.bind hT (Ev.bind (sProg_ev _ _) (Ev.bind hT (Ev.bind (iProg_ev _ _) ?_)))
  refine Ev.congr (fun k => if_pos rfl) ?_
  refine Ev.step (fun k => by simp only [laws_FnExactProgLines.j0]; rw [if_neg (by simp)]) ?_
  refine Ev.bind hT (Ev.bind (eqProg_ev _ _ (by rw [List.length_map]; omega) (fun l hl' => by obtain ⟨m, hm, rfl⟩ := List.mem_map.mp hl'; rw [List.length_map]; have := hl m hm; omega)) ?_)
  exact Ev.congr (f := fun _ => some true) (fun k => if_pos rfl) (Ev.now _)
end Go.Proofs.YtjnpmcgefkiocaaDoor.Pure
