/- Plain laws of FnExactProgLines, third part: codes, programs; the law's own conversions. -/
import Derived.Test.YtjnpmcgefkiocaaDoorSe
namespace Go.Proofs.YtjnpmcgefkiocaaDoor.Q
open Go.RowKit Go.Proofs.YtjnpmcgefkiocaaDoorW.PrintWords Go.Proofs.YtjnpmcgefkiocaaDoorW.PrintLast Go.Proofs.YtjnpmcgefkiocaaDoorW.PrintMore
set_option linter.unusedVariables false
set_option linter.unusedSimpArgs false

/-! ### texts of codes -/
def codeP (l : List In) : List UInt8 := Go.Lib.join (l.map textP) [59, 32]
theorem codeP_snoc (a : List In) (x : In) : codeP (a ++ [x]) = if a = [] then textP x else codeP a ++ [59, 32] ++ textP x := by
  cases a with
  | nil => rw [if_pos rfl]; show Go.Lib.join [textP x] _ = _; rw [Go.Lib.join_one]
  | cons y r =>
    rw [if_neg (by simp)]
    unfold codeP
    rw [List.cons_append, List.map_cons, List.map_cons, List.map_append, Go.Lib.join_cons, Go.Lib.join_cons, tail_app]
    simp [Go.Lib.joinTail]
theorem codeP_le (l : List In) (h : ∀ x ∈ l, Fine x) : (codeP l).length ≤ 73 * l.length := by
  have := join_len [59, 32] 71 (l.map textP) (fun u hu => by obtain ⟨x, hx, rfl⟩ := List.mem_map.mp hu; exact textP_le (h x hx))
  rw [List.length_map] at this
  unfold codeP
  exact this
theorem sCode_l0 (l : List In) (hl : l.length ≤ 16) (hf : ∀ x ∈ l, Fine x) : ∀ (d i : Nat), d = l.length - i → i ≤ l.length → Ev (fun k => spec_CodeText.l0 k l (bs (codeP (l.take i))) i) (bs (codeP l), true) := by
  intro d
  induction d with
  | zero =>
    intro i hd hi
    have g : ¬ ((i : Int) < (l.length : Int)) := by omega
    rw [List.take_of_length_le (by omega)]
    exact Ev.at1 fun k => by rw [spec_CodeText.l0, if_neg g]
  | succ d ih =>
    intro i hd hi
    have hlt : i < l.length := by omega
    have g : (i : Int) < (l.length : Int) := by omega
    have g0 : (0 : Int) ≤ (i : Int) := by omega
    have hr := rdI_at l i hlt
    have hx := hf l[i] (List.getElem_mem hlt)
    have hn : ¬ (bs (textP l[i])).toList = ([] : List UInt8) := by rw [bs_toList]; exact textP_ne hx
    have hL := textP_le hx
    have hC := codeP_le (l.take i) (fun x h => hf x (List.mem_of_mem_take h))
    rw [List.length_take] at hC
    have hw := wrap_succ (i := i) (n := l.length) hlt (by omega)
    refine Ev.step (fun k => by rw [spec_CodeText.l0, if_pos g, if_pos g0, hr]) ?_
    refine Ev.bind (sText_ev hx) ?_
    refine Ev.congr (fun k => if_neg hn) ?_
    have hs := codeP_snoc (l.take i) l[i]
    have ht : l.take i ++ [l[i]] = l.take (i + 1) := (List.take_succ_eq_append_getElem hlt).symm
    rw [ht] at hs
    have hnext := ih (i + 1) (by omega) (by omega)
    by_cases c0 : i = 0
    · have gi : ¬ ((i : Int) > 0) := by omega
      rw [if_pos (by rw [c0]; rfl)] at hs
      have e0 : codeP (l.take i) = [] := by rw [c0]; rfl
      rw [hs] at hnext
      rw [e0]
      have gsz : (bs []).size + (bs (textP l[i])).size ≤ 9223372036854775807 := by rw [bs_size, bs_size]; simp only [List.length_nil]; omega
      exact Ev.congr (fun k => by rw [if_neg gi, if_pos gsz, bs_app, List.nil_append, hw]) hnext
    · have gi : (i : Int) > 0 := by omega
      rw [if_neg (by intro h; have := congrArg List.length h; rw [List.length_take, List.length_nil] at this; omega)] at hs
      rw [hs] at hnext
      have g1 : (bs (codeP (l.take i))).size + 2 ≤ 9223372036854775807 := by rw [bs_size]; omega
      have e1 : bs (codeP (l.take i)) ++ (⟨#[59, 32]⟩ : ByteArray) = bs (codeP (l.take i) ++ [59, 32]) := bs_app _ [59, 32]
      have g2 : (bs (codeP (l.take i) ++ [59, 32])).size + (bs (textP l[i])).size ≤ 9223372036854775807 := by rw [bs_size, bs_size, List.length_append]; simp only [List.length_cons, List.length_nil]; omega
      exact Ev.congr (fun k => by rw [if_pos gi, if_pos g1, e1, if_pos g2, bs_app, hw]) hnext
theorem sCode_ev (l : List In) (hl : l.length ≤ 16) (hf : ∀ x ∈ l, Fine x) : Ev (fun k => spec_CodeText.f k l) (bs (codeP l), true) := by
  unfold spec_CodeText.f
  refine Ev.congr (fun k => if_neg (by omega)) ?_
  have h := sCode_l0 l hl hf l.length 0 (by omega) (by omega)
  rw [List.take_zero] at h
  exact h
theorem idx_l0 (us : List (List UInt8)) (hl : us.length ≤ 1000) (hn : ∀ u ∈ us, u ≠ []) : ∀ (d i : Nat), d = us.length - i → i ≤ us.length → Ev (fun k => slices_Index_string_string.l0 k (us.map bs) (⟨#[]⟩ : ByteArray) us.length i) (-1) := by
  intro d
  induction d with
  | zero =>
    intro i hd hi
    have g : ¬ ((i : Int) < (us.length : Int)) := by omega
    exact Ev.at1 fun k => by rw [slices_Index_string_string.l0, if_neg g]
  | succ d ih =>
    intro i hd hi
    have hlt : i < us.length := by omega
    have g : (i : Int) < (us.length : Int) := by omega
    have g0 : (0 : Int) ≤ (i : Int) := by omega
    have g1 : (i : Int) < ((us.map bs).length : Int) := by rw [List.length_map]; omega
    have e : rdOf ByteArray.empty (us.map bs) (i : Int) = bs us[i] := by
      unfold rdOf
      rw [Int.toNat_natCast, getD_at _ _ _ (by rw [List.length_map]; exact hlt), List.getElem_map]
    have hne : ¬ (⟨#[]⟩ : ByteArray).toList = (bs us[i]).toList := by
      rw [bs_toList, show (⟨#[]⟩ : ByteArray) = bs [] from rfl, bs_toList]
      exact fun h => hn us[i] (List.getElem_mem hlt) h.symm
    have hw := wrap_succ (i := i) (n := us.length) hlt (by omega)
    refine Ev.step (fun k => by rw [slices_Index_string_string.l0, if_pos g, if_pos g0, if_pos g1, e, if_neg hne, hw]) ?_
    exact ih (i + 1) (by omega) (by omega)
theorem has_ev (us : List (List UInt8)) (hl : us.length ≤ 1000) (hn : ∀ u ∈ us, u ≠ []) : Ev (fun k => slices_Contains_string_string.f k (us.map bs) (⟨#[]⟩ : ByteArray)) false := by
  unfold slices_Contains_string_string.f slices_Index_string_string.f
  refine Ev.bind (a := -1) ?_ (show Ev (fun _ => some (decide ((-1 : Int) ≥ 0))) false from Ev.now _)
  have h := idx_l0 us hl hn us.length 0 (by omega) (by omega)
  rw [List.length_map]
  exact h
theorem iCode_l0 (l : List In) (hl : l.length ≤ 16) (hf : ∀ x ∈ l, Fine x) : ∀ (d i : Nat), d = l.length - i → i ≤ l.length → Ev (fun k => impl_CodeText.l0 k l (((l.take i).map textP).map bs) l l.length i) (bs (codeP l), true) := by
  intro d
  induction d with
  | zero =>
    intro i hd hi
    have g : ¬ ((i : Int) < (l.length : Int)) := by omega
    have g2 : ¬ ((l.length : Int) > 16) := by omega
    rw [List.take_of_length_le (by omega)]
    refine Ev.step (fun k => by rw [impl_CodeText.l0, if_neg g, if_neg g2]) ?_
    refine Ev.bind (has_ev (l.map textP) (by rw [List.length_map]; omega) (fun u hu => by obtain ⟨x, hx, rfl⟩ := List.mem_map.mp hu; exact textP_ne (hf x hx))) ?_
    refine Ev.congr (fun k => if_neg (by decide)) ?_
    have hj := join_f (l.map textP) [59, 32] 71 (fun u hu => by obtain ⟨x, hx, rfl⟩ := List.mem_map.mp hu; exact textP_le (hf x hx)) (by rw [List.length_map]; simp only [List.length_cons, List.length_nil]; omega) (by rw [List.length_map]; omega)
    rw [show (⟨#[59, 32]⟩ : ByteArray) = bs [59, 32] from rfl, hj]
    exact Ev.now _
  | succ d ih =>
    intro i hd hi
    have hlt : i < l.length := by omega
    have g : (i : Int) < (l.length : Int) := by omega
    have g0 : (0 : Int) ≤ (i : Int) := by omega
    have hr := rdI_at l i hlt
    have hx := hf l[i] (List.getElem_mem hlt)
    have hw := wrap_succ (i := i) (n := l.length) hlt (by omega)
    have gl : (((l.take i).map textP).map bs).length < 8796093022208 := by rw [List.length_map, List.length_map, List.length_take]; omega
    have e : ((l.take i).map textP).map bs ++ [bs (textP l[i])] = ((l.take (i + 1)).map textP).map bs := by
      rw [List.take_succ_eq_append_getElem hlt, List.map_append, List.map_append]; rfl
    refine Ev.step (fun k => by rw [impl_CodeText.l0, if_pos g, if_pos g0, if_pos g, hr]) ?_
    refine Ev.bind (iText_ev hx) ?_
    refine Ev.congr (fun k => by rw [if_pos gl, e, hw]) ?_
    exact ih (i + 1) (by omega) (by omega)
theorem iCode_ev (l : List In) (hl : l.length ≤ 16) (hf : ∀ x ∈ l, Fine x) : Ev (fun k => impl_CodeText.f k l) (bs (codeP l), true) := by
  unfold impl_CodeText.f
  have h := iCode_l0 l hl hf l.length 0 (by omega) (by omega)
  rw [List.take_zero] at h
  exact h

/-! ### texts of programs -/
def lineP (t : Nat) (l : List In) : List UInt8 := [116, 104, 114, 101, 97, 100, 32] ++ Go.Lib.itoa (t : Int) ++ [32] ++ codeP l ++ [10]
def restP : List (List In) → Nat → List UInt8
  | [], _ => []
  | l :: r, t => lineP t l ++ restP r (t + 1)
structure Good (L : List (List In)) : Prop where
  n : L.length ≤ 3
  l : ∀ l ∈ L, l.length ≤ 16
  f : ∀ l ∈ L, ∀ x ∈ l, Fine x
theorem good_of {c : Int} {L : List (List In)} (h : progOk c L = true) : Good L := by
  unfold progOk at h
  simp only [Bool.and_eq_true, decide_eq_true_eq, List.all_eq_true] at h
  have h2 : ∀ l ∈ L, l.length ≤ 16 ∧ ∀ x ∈ l, okI x c l.length = true := fun l hl => by
    have := h.2 l hl
    rw [codeOk_eq] at this
    simp only [Bool.and_eq_true, decide_eq_true_eq, List.all_eq_true] at this
    exact this
  exact ⟨by omega, fun l hl => (h2 l hl).1, fun l hl x hx => fine_of ((h2 l hl).2 x hx)⟩
theorem lineP_le {L : List (List In)} (hG : Good L) (t : Nat) (ht : t < L.length) : (lineP t L[t]).length ≤ 1300 ∧ (codeP L[t]).length ≤ 1200 ∧ (Go.Lib.itoa (t : Int)).length ≤ 21 := by
  have hm := List.getElem_mem ht
  have h1 := codeP_le L[t] (hG.f _ hm)
  have h2 := hG.l _ hm
  have h3 : (Go.Lib.itoa (t : Int)).length ≤ 21 := itoa_le (by have := hG.n; omega)
  refine ⟨?_, by omega, h3⟩
  unfold lineP
  simp only [List.length_append, List.length_cons, List.length_nil]
  omega
theorem sProg_l0 (c : Int) (L : List (List In)) (hG : Good L) : ∀ (d t : Nat) (out : List UInt8), d = L.length - t → t ≤ L.length → out.length ≤ 100 + 1300 * t → Ev (fun k => spec_ProgLines.l0 k (bs out) t c L) (bs (out ++ restP (L.drop t) t), true) := by
  intro d
  induction d with
  | zero =>
    intro t out hd ht ho
    have g : ¬ ((t : Int) < (L.length : Int)) := by omega
    rw [List.drop_eq_nil_of_le (by omega)]
    exact Ev.at1 fun k => by rw [spec_ProgLines.l0, if_neg g]; show _ = some (bs (out ++ []), true); rw [List.append_nil]
  | succ d ih =>
    intro t out hd ht ho
    have hlt : t < L.length := by omega
    have hn := hG.n
    have g : (t : Int) < (L.length : Int) := by omega
    have g0 : (0 : Int) ≤ (t : Int) := by omega
    have hr := rdL_at L t hlt
    have hm := List.getElem_mem hlt
    obtain ⟨q1, q2, q3⟩ := lineP_le hG t hlt
    have hw := wrap_succ (i := t) (n := L.length) hlt (by omega)
    refine Ev.step (fun k => by rw [spec_ProgLines.l0, if_pos g, if_pos g0, hr]) ?_
    refine Ev.bind (sCode_ev L[t] (hG.l _ hm) (hG.f _ hm)) ?_
    have g1 : (bs out).size + 7 ≤ 9223372036854775807 := by rw [bs_size]; omega
    refine Ev.congr (fun k => if_pos g1) ?_
    refine Ev.bind (num_ev (t : Int) (by omega) (by omega)) ?_
    have e1 : bs out ++ (⟨#[116, 104, 114, 101, 97, 100, 32]⟩ : ByteArray) = bs (out ++ [116, 104, 114, 101, 97, 100, 32]) := bs_app out _
    have g2 : (bs (out ++ [116, 104, 114, 101, 97, 100, 32])).size + (bs (Go.Lib.itoa (t : Int))).size ≤ 9223372036854775807 := by rw [bs_size, bs_size, List.length_append]; simp only [List.length_cons, List.length_nil]; omega
    have e2 := bs_app (out ++ [116, 104, 114, 101, 97, 100, 32]) (Go.Lib.itoa (t : Int))
    have g3 : (bs (out ++ [116, 104, 114, 101, 97, 100, 32] ++ Go.Lib.itoa (t : Int))).size + 1 ≤ 9223372036854775807 := by rw [bs_size, List.length_append, List.length_append]; simp only [List.length_cons, List.length_nil]; omega
    have e3 : bs (out ++ [116, 104, 114, 101, 97, 100, 32] ++ Go.Lib.itoa (t : Int)) ++ (⟨#[32]⟩ : ByteArray) = bs (out ++ [116, 104, 114, 101, 97, 100, 32] ++ Go.Lib.itoa (t : Int) ++ [32]) := bs_app _ [32]
    have g4 : (bs (out ++ [116, 104, 114, 101, 97, 100, 32] ++ Go.Lib.itoa (t : Int) ++ [32])).size + (bs (codeP L[t])).size ≤ 9223372036854775807 := by rw [bs_size, bs_size, List.length_append, List.length_append, List.length_append]; simp only [List.length_cons, List.length_nil]; omega
    have e4 := bs_app (out ++ [116, 104, 114, 101, 97, 100, 32] ++ Go.Lib.itoa (t : Int) ++ [32]) (codeP L[t])
    have g5 : (bs (out ++ [116, 104, 114, 101, 97, 100, 32] ++ Go.Lib.itoa (t : Int) ++ [32] ++ codeP L[t])).size + 1 ≤ 9223372036854775807 := by rw [bs_size, List.length_append, List.length_append, List.length_append, List.length_append]; simp only [List.length_cons, List.length_nil]; omega
    have e5 : bs (out ++ [116, 104, 114, 101, 97, 100, 32] ++ Go.Lib.itoa (t : Int) ++ [32] ++ codeP L[t]) ++ (⟨#[10]⟩ : ByteArray) = bs (out ++ lineP t L[t]) := by
      rw [show (⟨#[10]⟩ : ByteArray) = bs [10] from rfl, bs_app]
      unfold lineP
      simp only [List.append_assoc]
    refine Ev.congr (fun k => by rw [e1, if_pos g2, e2, if_pos g3, e3, if_pos g4, e4, if_pos g5, e5, hw]) ?_
    rw [List.drop_eq_getElem_cons hlt, restP, ← List.append_assoc]
    exact ih (t + 1) _ (by omega) (by omega) (by rw [List.length_append]; omega)
theorem iProg_l0 (L : List (List In)) (hG : Good L) : ∀ (d t : Nat) (out : List UInt8), d = L.length - t → t ≤ L.length → out.length ≤ 100 + 1300 * t → Ev (fun k => impl_ProgLines.l0 k (bs out) L L.length t) (bs (out ++ restP (L.drop t) t), true) := by
  intro d
  induction d with
  | zero =>
    intro t out hd ht ho
    have g : ¬ ((t : Int) < (L.length : Int)) := by omega
    rw [List.drop_eq_nil_of_le (by omega)]
    exact Ev.at1 fun k => by rw [impl_ProgLines.l0, if_neg g]; show _ = some (bs (out ++ []), true); rw [List.append_nil]
  | succ d ih =>
    intro t out hd ht ho
    have hlt : t < L.length := by omega
    have hn := hG.n
    have g : (t : Int) < (L.length : Int) := by omega
    have g0 : (0 : Int) ≤ (t : Int) := by omega
    have hr := rdL_at L t hlt
    have hm := List.getElem_mem hlt
    obtain ⟨q1, q2, q3⟩ := lineP_le hG t hlt
    have hw := wrap_succ (i := t) (n := L.length) hlt (by omega)
    refine Ev.step (fun k => by rw [impl_ProgLines.l0, if_pos g, if_pos g0, if_pos g, hr]) ?_
    refine Ev.bind (iCode_ev L[t] (hG.l _ hm) (hG.f _ hm)) ?_
    have hi := itoa_f (t : Int) (by omega)
    have e0 : (⟨#[116, 104, 114, 101, 97, 100, 32]⟩ : ByteArray) ++ bs (Go.Lib.itoa (t : Int)) = bs ([116, 104, 114, 101, 97, 100, 32] ++ Go.Lib.itoa (t : Int)) := bs_app [116, 104, 114, 101, 97, 100, 32] _
    have g2 : 7 + (bs (Go.Lib.itoa (t : Int))).size ≤ 9223372036854775807 := by rw [bs_size]; omega
    have g3 : (bs ([116, 104, 114, 101, 97, 100, 32] ++ Go.Lib.itoa (t : Int))).size + 1 ≤ 9223372036854775807 := by rw [bs_size, List.length_append]; simp only [List.length_cons, List.length_nil]; omega
    have e3 : bs ([116, 104, 114, 101, 97, 100, 32] ++ Go.Lib.itoa (t : Int)) ++ (⟨#[32]⟩ : ByteArray) = bs ([116, 104, 114, 101, 97, 100, 32] ++ Go.Lib.itoa (t : Int) ++ [32]) := bs_app _ [32]
    have g4 : (bs ([116, 104, 114, 101, 97, 100, 32] ++ Go.Lib.itoa (t : Int) ++ [32])).size + (bs (codeP L[t])).size ≤ 9223372036854775807 := by rw [bs_size, bs_size, List.length_append, List.length_append]; simp only [List.length_cons, List.length_nil]; omega
    have e4 := bs_app ([116, 104, 114, 101, 97, 100, 32] ++ Go.Lib.itoa (t : Int) ++ [32]) (codeP L[t])
    have g5 : (bs ([116, 104, 114, 101, 97, 100, 32] ++ Go.Lib.itoa (t : Int) ++ [32] ++ codeP L[t])).size + 1 ≤ 9223372036854775807 := by rw [bs_size, List.length_append, List.length_append, List.length_append]; simp only [List.length_cons, List.length_nil]; omega
    have e5 : bs ([116, 104, 114, 101, 97, 100, 32] ++ Go.Lib.itoa (t : Int) ++ [32] ++ codeP L[t]) ++ (⟨#[10]⟩ : ByteArray) = bs (lineP t L[t]) := bs_app _ [10]
    have g6 : (bs out).size + (bs (lineP t L[t])).size ≤ 9223372036854775807 := by rw [bs_size, bs_size]; omega
    refine Ev.congr (fun k => by rw [hi, Option.bind_some, if_pos g2, e0, if_pos g3, e3, if_pos g4, e4, if_pos g5, e5, if_pos g6, bs_app, hw]) ?_
    rw [List.drop_eq_getElem_cons hlt, restP, ← List.append_assoc]
    exact ih (t + 1) _ (by omega) (by omega) (by rw [List.length_append]; omega)
def headP (c : Int) : List UInt8 := [99, 101, 108, 108, 115, 32] ++ Go.Lib.itoa c ++ [10]
def fullP (c : Int) (L : List (List In)) : List UInt8 × Bool := if progOk c L then (headP c ++ restP L 0, true) else ([], false)
theorem cells_le {c : Int} {L : List (List In)} (h : progOk c L = true) : 1 ≤ c ∧ c ≤ 16 := by
  unfold progOk at h
  simp only [Bool.and_eq_true, decide_eq_true_eq] at h
  exact h.1.1
theorem sProg_ev (c : Int) (L : List (List In)) : Ev (fun k => spec_ProgLines.f k c L) (bs (fullP c L).1, (fullP c L).2) := by
  unfold spec_ProgLines.f fullP
  refine Ev.bind (sPok_ev c L) ?_
  cases h : progOk c L with
  | false => exact Ev.congr (f := fun _ => some (bs [], false)) (fun k => if_neg (by decide)) (Ev.now _)
  | true =>
    have hc := cells_le h
    have hl : (Go.Lib.itoa c).length ≤ 21 := itoa_le (by omega)
    refine Ev.congr (fun k => if_pos rfl) ?_
    refine Ev.bind (num_ev c (by omega) (by omega)) ?_
    have g1 : 6 + (bs (Go.Lib.itoa c)).size ≤ 9223372036854775807 := by rw [bs_size]; omega
    have e1 : (⟨#[99, 101, 108, 108, 115, 32]⟩ : ByteArray) ++ bs (Go.Lib.itoa c) = bs ([99, 101, 108, 108, 115, 32] ++ Go.Lib.itoa c) := bs_app [99, 101, 108, 108, 115, 32] _
    have g2 : (bs ([99, 101, 108, 108, 115, 32] ++ Go.Lib.itoa c)).size + 1 ≤ 9223372036854775807 := by rw [bs_size, List.length_append]; simp only [List.length_cons, List.length_nil]; omega
    have e2 : bs ([99, 101, 108, 108, 115, 32] ++ Go.Lib.itoa c) ++ (⟨#[10]⟩ : ByteArray) = bs (headP c) := bs_app _ [10]
    refine Ev.congr (fun k => by rw [if_pos g1, e1, if_pos g2, e2]) ?_
    have hh : (headP c).length ≤ 100 := by unfold headP; rw [List.length_append, List.length_append]; simp only [List.length_cons, List.length_nil]; omega
    have := sProg_l0 c L (good_of h) L.length 0 (headP c) (by omega) (by omega) (by omega)
    rw [List.drop_zero] at this
    exact this
theorem iProg_ev (c : Int) (L : List (List In)) : Ev (fun k => impl_ProgLines.f k c L) (bs (fullP c L).1, (fullP c L).2) := by
  unfold impl_ProgLines.f fullP
  refine Ev.bind (Ev.now (progOk c L)) ?_
  cases h : progOk c L with
  | false => exact Ev.congr (f := fun _ => some (bs [], false)) (fun k => if_neg (by decide)) (Ev.now _)
  | true =>
    have hc := cells_le h
    have hl : (Go.Lib.itoa c).length ≤ 21 := itoa_le (by omega)
    have hi := itoa_f c (by omega)
    refine Ev.congr (fun k => if_pos rfl) ?_
    have g1 : 6 + (bs (Go.Lib.itoa c)).size ≤ 9223372036854775807 := by rw [bs_size]; omega
    have e1 : (⟨#[99, 101, 108, 108, 115, 32]⟩ : ByteArray) ++ bs (Go.Lib.itoa c) = bs ([99, 101, 108, 108, 115, 32] ++ Go.Lib.itoa c) := bs_app [99, 101, 108, 108, 115, 32] _
    have g2 : (bs ([99, 101, 108, 108, 115, 32] ++ Go.Lib.itoa c)).size + 1 ≤ 9223372036854775807 := by rw [bs_size, List.length_append]; simp only [List.length_cons, List.length_nil]; omega
    have e2 : bs ([99, 101, 108, 108, 115, 32] ++ Go.Lib.itoa c) ++ (⟨#[10]⟩ : ByteArray) = bs (headP c) := bs_app _ [10]
    refine Ev.congr (fun k => by rw [hi, Option.bind_some, if_pos g1, e1, if_pos g2, e2]) ?_
    have hh : (headP c).length ≤ 100 := by unfold headP; rw [List.length_append, List.length_append]; simp only [List.length_cons, List.length_nil]; omega
    have := iProg_l0 L (good_of h) L.length 0 (headP c) (by omega) (by omega) (by omega)
    rw [List.drop_zero] at this
    exact this
end Go.Proofs.YtjnpmcgefkiocaaDoor.Q
