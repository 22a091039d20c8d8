/- Plain laws of FnExactProgLines, second part: texts of instructions, codes and programs. -/
import Derived.Test.YtjnpmcgefkiocaaDoorSd
import Derived.Lib.Strings
namespace Go.Proofs.YtjnpmcgefkiocaaDoor.Q
open Go.RowKit Go.Proofs.YtjnpmcgefkiocaaDoorW.PrintWords Go.Proofs.YtjnpmcgefkiocaaDoorW.PrintLast Go.Proofs.YtjnpmcgefkiocaaDoorW.PrintMore
set_option linter.unusedVariables false
set_option linter.unusedSimpArgs false

theorem bs_toList (a : List UInt8) : (bs a).toList = a := by rw [Go.Lib.toList_data, bs_list]
theorem bt_bs (a : List UInt8) (i : Nat) (h : i < a.length) : bt (bs a) (i : Int) = ((a[i]).toNat : Int) := by
  unfold bt
  have h2 : ((i : Int)).toNat < (bs a).size := by rw [bs_size]; omega
  rw [dif_pos h2]
  simp [bs, ByteArray.getElem_eq_getElem_data]
theorem tail_len (sep : List UInt8) (M : Nat) : ∀ r : List (List UInt8), (∀ u ∈ r, u.length ≤ M) → (Go.Lib.joinTail sep r).length ≤ (sep.length + M) * r.length := by
  intro r
  induction r with
  | nil => intro _; simp [Go.Lib.joinTail]
  | cons u r ih =>
    intro h
    have h1 := ih (fun v hv => h v (List.mem_cons_of_mem _ hv))
    have h2 := h u (List.mem_cons_self ..)
    have e : Go.Lib.joinTail sep (u :: r) = sep ++ u ++ Go.Lib.joinTail sep r := by simp [Go.Lib.joinTail]
    rw [e, List.length_append, List.length_append, List.length_cons, Nat.mul_add]
    omega
theorem tail_app (sep : List UInt8) (a b : List (List UInt8)) : Go.Lib.joinTail sep (a ++ b) = Go.Lib.joinTail sep a ++ Go.Lib.joinTail sep b := by simp [Go.Lib.joinTail]
theorem join_len (sep : List UInt8) (M : Nat) (r : List (List UInt8)) (h : ∀ u ∈ r, u.length ≤ M) : (Go.Lib.join r sep).length ≤ (sep.length + M) * r.length := by
  cases r with
  | nil => simp [Go.Lib.join_nil]
  | cons u r =>
    have h1 := tail_len sep M r (fun v hv => h v (List.mem_cons_of_mem _ hv))
    have h2 := h u (List.mem_cons_self ..)
    rw [Go.Lib.join_cons, List.length_append, List.length_cons, Nat.mul_add]
    omega
theorem join_f (us : List (List UInt8)) (sep : List UInt8) (M : Nat) (h : ∀ u ∈ us, u.length ≤ M) (hb : (sep.length + M) * us.length ≤ 1000000) (hl : us.length ≤ 1000000) : strings_Join.f (us.map bs) (bs sep) = some (bs (Go.Lib.join us sep)) := by
  have hj : joinB (us.map bs) (bs sep) = Go.Lib.join us sep := by
    unfold joinB
    rw [bs_list, List.map_map, show ((fun x : ByteArray => x.data.toList) ∘ bs) = id from funext bs_list, List.map_id]
  unfold strings_Join.f
  have := join_len sep M us h
  rw [hj, if_pos ⟨by rw [List.length_map]; omega, by omega⟩]
  rfl
theorem itoa_f (x : Int) (h : -9999999 ≤ x ∧ x ≤ 9999999) : strconv_Itoa.f x = some (bs (Go.Lib.itoa x)) := by
  unfold strconv_Itoa.f; rw [if_pos (by omega)]; rfl
theorem itoa_le {x : Int} (h : -9999999 ≤ x ∧ x ≤ 9999999) : (Go.Lib.itoa x).length ≤ 21 := Go.Lib.itoa_length_le x (by omega) (by omega)

/-! ### texts of instructions -/
structure Fine (x : In) : Prop where
  a0 : 0 ≤ x.f0
  a1 : x.f0 ≤ 8
  r : -9999999 ≤ x.f1 ∧ x.f1 ≤ 9999999
  s : -9999999 ≤ x.f2 ∧ x.f2 ≤ 9999999
  n : -9999999 ≤ x.f3 ∧ x.f3 ≤ 9999999
theorem fine_of {x : In} {c n : Int} (h : okI x c n = true) : Fine x := by
  rw [okI_eq] at h
  simp only [Bool.and_eq_true, decide_eq_true_eq] at h
  obtain ⟨⟨⟨⟨⟨⟨⟨⟨c0, c1⟩, n0, n1⟩, a0, a1⟩, r0, r1⟩, s0, s1⟩, _⟩, _⟩, hL⟩ := h
  refine ⟨a0, a1, by omega, by omega, ?_⟩
  have hw : wrap64 (c - 1) = c - 1 := w64_of _ _ rfl (by omega) (by omega)
  unfold lastB at hL
  rw [hw] at hL
  clear hw
  split at hL
  · split at hL
    · simp only [Bool.and_eq_true, decide_eq_true_eq] at hL; omega
    · split at hL
      · simp only [Bool.and_eq_true, decide_eq_true_eq] at hL; omega
      · simp only [Bool.and_eq_true, decide_eq_true_eq] at hL; omega
  · simp only [decide_eq_true_eq] at hL; omega
def wordP (a : Int) : List UInt8 := ([[115, 101, 116], [97, 100, 100], [108, 111, 97, 100], [115, 116, 111, 114, 101], [102, 101, 110, 99, 101], [99, 97, 115], [106, 122], [115, 119, 97, 112], [115, 117, 98]] : List (List UInt8)).getD a.toNat []
def formP (a : Int) : List UInt8 := ([[114, 110], [114, 115], [114, 110], [114, 110], [], [114, 115, 110], [114, 110], [114, 115, 110], [114, 115]] : List (List UInt8)).getD a.toNat []
def oneP (b : Bool) (v : Int) : List UInt8 := if b then [32] ++ Go.Lib.itoa v else []
def textP (x : In) : List UInt8 := wordP x.f0 ++ (oneP (uR x) x.f1 ++ (oneP (uS x) x.f2 ++ oneP (uN x) x.f3))
def itemP (x : In) (b : UInt8) : List UInt8 := if b = 114 then [32] ++ Go.Lib.itoa x.f1 else if b = 115 then [32] ++ Go.Lib.itoa x.f2 else if b = 110 then [32] ++ Go.Lib.itoa x.f3 else []
theorem form_text {x : In} (h : Fine x) : wordP x.f0 ++ (formP x.f0).flatMap (itemP x) = textP x := by
  unfold textP uR uS uN formP
  congr 1
  rcases ops9 h.a0 h.a1 with e | e | e | e | e | e | e | e | e <;> rw [e] <;> simp [oneP, itemP, List.flatMap_cons, List.flatMap_nil]
theorem form_le {x : In} (h : Fine x) : (formP x.f0).length ≤ 3 ∧ (wordP x.f0).length ≤ 5 ∧ wordP x.f0 ≠ [] := by
  unfold formP wordP
  rcases ops9 h.a0 h.a1 with e | e | e | e | e | e | e | e | e <;> rw [e] <;> decide
theorem word_f {x : In} (h : Fine x) : spec_l02Word.f x.f0 = some (bs (wordP x.f0)) ∧ spec_l02Form.f x.f0 = some (bs (formP x.f0)) := by
  rcases ops9 h.a0 h.a1 with e | e | e | e | e | e | e | e | e <;> rw [e] <;> exact ⟨by kernel_rfl, by kernel_rfl⟩
theorem oneP_le (b : Bool) {v : Int} (h : -9999999 ≤ v ∧ v ≤ 9999999) : (oneP b v).length ≤ 22 := by
  have := itoa_le h
  unfold oneP
  split
  · rw [List.length_append]; simp only [List.length_cons, List.length_nil]; omega
  · simp
theorem textP_le {x : In} (h : Fine x) : (textP x).length ≤ 71 := by
  have h1 := oneP_le (uR x) h.r; have h2 := oneP_le (uS x) h.s; have h3 := oneP_le (uN x) h.n
  have h4 := (form_le h).2.1
  unfold textP
  simp only [List.length_append]
  omega
theorem textP_ne {x : In} (h : Fine x) : textP x ≠ [] := by
  unfold textP
  intro e
  exact (form_le h).2.2 (List.append_eq_nil_iff.mp e).1
theorem sText_l0 {x : In} (hx : Fine x) (fm : List UInt8) (hf : fm.length ≤ 3) : ∀ (d i : Nat) (out : List UInt8), d = fm.length - i → i ≤ fm.length → out.length ≤ 5 + 22 * i → Ev (fun k => spec_InstrText.l0 k (bs out) (bs fm) i x.f0 x.f1 x.f2 x.f3) (bs (out ++ (fm.drop i).flatMap (itemP x))) := by
  intro d
  have hz : (bs fm).size = fm.length := bs_size fm
  induction d with
  | zero =>
    intro i out hd hi ho
    have g : ¬ ((i : Int) < ((bs fm).size : Int)) := by rw [hz]; omega
    rw [List.drop_eq_nil_of_le (by omega), List.flatMap_nil, List.append_nil]
    exact Ev.at1 fun k => by rw [spec_InstrText.l0, if_neg g]
  | succ d ih =>
    intro i out hd hi ho
    have hlt : i < fm.length := by omega
    have g : (i : Int) < ((bs fm).size : Int) := by rw [hz]; omega
    have g0 : (0 : Int) ≤ (i : Int) := by omega
    have hb := bt_bs fm i hlt
    have hw := wrap_succ (i := i) (n := fm.length) hlt (by omega)
    rw [List.drop_eq_getElem_cons hlt, List.flatMap_cons, ← List.append_assoc]
    have gs : (bs out).size + 1 ≤ 9223372036854775807 := by rw [bs_size]; omega
    have e1 : bs out ++ (⟨#[32]⟩ : ByteArray) = bs (out ++ [32]) := bs_app out [32]
    have key : ∀ v : Int, (-9999999 ≤ v ∧ v ≤ 9999999) → itemP x fm[i] = [32] ++ Go.Lib.itoa v → Ev (fun k => (if (bs out).size + 1 ≤ 9223372036854775807 then ((spec_l01Num.f k v).bind fun t150 => (if (bs out ++ (⟨#[32]⟩ : ByteArray)).size + t150.size ≤ 9223372036854775807 then (spec_InstrText.l0 k ((bs out ++ (⟨#[32]⟩ : ByteArray)) ++ t150) (bs fm) (wrap64 ((i : Int) + 1)) x.f0 x.f1 x.f2 x.f3) else (none))) else (none))) (bs (out ++ itemP x fm[i] ++ (fm.drop (i + 1)).flatMap (itemP x))) := by
      intro v hv hit
      have hl := itoa_le hv
      refine Ev.congr (fun k => if_pos gs) ?_
      refine Ev.bind (num_ev v (by omega) (by omega)) ?_
      have gt : (bs (out ++ [32])).size + (bs (Go.Lib.itoa v)).size ≤ 9223372036854775807 := by rw [bs_size, bs_size, List.length_append]; simp only [List.length_cons, List.length_nil]; omega
      refine Ev.congr (fun k => by rw [e1, if_pos gt, bs_app, hw]) ?_
      rw [hit, ← List.append_assoc]
      exact ih (i + 1) _ (by omega) (by omega) (by rw [List.length_append, List.length_append]; simp only [List.length_cons, List.length_nil]; omega)
    have n1 : ∀ (b : UInt8) (m : Nat), m < 256 → (((b).toNat : Int) = (m : Int) ↔ b = UInt8.ofNat m) := fun b m hm => by
      constructor
      · intro h
        apply UInt8.toNat_inj.mp
        rw [UInt8.toNat_ofNat']
        omega
      · intro h; rw [h, UInt8.toNat_ofNat']; omega
    by_cases c1 : fm[i] = 114
    · have c1' : ((fm[i]).toNat : Int) = 114 := (n1 fm[i] 114 (by omega)).mpr c1
      refine Ev.step (fun k => by rw [spec_InstrText.l0, if_pos g, if_pos g0, hb, if_pos c1']) ?_
      exact key x.f1 hx.r (by unfold itemP; rw [if_pos c1])
    have c1' : ¬ ((fm[i]).toNat : Int) = 114 := fun h => c1 ((n1 fm[i] 114 (by omega)).mp h)
    by_cases c2 : fm[i] = 115
    · have c2' : ((fm[i]).toNat : Int) = 115 := (n1 fm[i] 115 (by omega)).mpr c2
      refine Ev.step (fun k => by rw [spec_InstrText.l0, if_pos g, if_pos g0, hb, if_neg c1', if_pos c2']) ?_
      exact key x.f2 hx.s (by unfold itemP; rw [if_neg c1, if_pos c2])
    have c2' : ¬ ((fm[i]).toNat : Int) = 115 := fun h => c2 ((n1 fm[i] 115 (by omega)).mp h)
    by_cases c3 : fm[i] = 110
    · have c3' : ((fm[i]).toNat : Int) = 110 := (n1 fm[i] 110 (by omega)).mpr c3
      refine Ev.step (fun k => by rw [spec_InstrText.l0, if_pos g, if_pos g0, hb, if_neg c1', if_neg c2', if_pos c3']) ?_
      exact key x.f3 hx.n (by unfold itemP; rw [if_neg c1, if_neg c2, if_pos c3])
    have c3' : ¬ ((fm[i]).toNat : Int) = 110 := fun h => c3 ((n1 fm[i] 110 (by omega)).mp h)
    refine Ev.step (fun k => by rw [spec_InstrText.l0, if_pos g, if_pos g0, hb, if_neg c1', if_neg c2', if_neg c3', hw]) ?_
    have hit : itemP x fm[i] = [] := by unfold itemP; rw [if_neg c1, if_neg c2, if_neg c3]
    rw [hit, List.append_nil]
    exact ih (i + 1) _ (by omega) (by omega) (by omega)
theorem sText_ev {x : In} (hx : Fine x) : Ev (fun k => spec_InstrText.f k x.f0 x.f1 x.f2 x.f3) (bs (textP x)) := by
  unfold spec_InstrText.f
  rw [sIn_f, decide_eq_true hx.a0, decide_eq_true hx.a1, (word_f hx).1, (word_f hx).2]
  refine Ev.bind (Ev.now _) ?_
  refine Ev.congr (fun k => if_pos rfl) ?_
  refine Ev.bind (Ev.now _) (Ev.bind (Ev.now _) ?_)
  rw [← form_text hx]
  have h := sText_l0 hx (formP x.f0) (form_le hx).1 (formP x.f0).length 0 (wordP x.f0) (by omega) (by omega) (by have := (form_le hx).2.1; omega)
  rw [List.drop_zero] at h
  exact h
/- the program's -/
theorem iText_j1 {x : In} (hx : Fine x) (us : List (List UInt8)) (hu : us.length ≤ 5) (hm : ∀ u ∈ us, u.length ≤ 21) : Ev (fun k => impl_InstrText.j1 k (us.map bs) x.f0 x.f1 x.f2 x.f3) (bs (Go.Lib.join (us ++ (if uN x then [Go.Lib.itoa x.f3] else [])) [32])) := by
  refine Ev.at1 fun k => ?_
  rw [impl_InstrText.j1, usesN_f, Option.bind_some]
  cases uN x with
  | true =>
    have e : us.map bs ++ [bs (Go.Lib.itoa x.f3)] = (us ++ [Go.Lib.itoa x.f3]).map bs := by rw [List.map_append]; rfl
    rw [if_pos rfl, if_pos rfl, itoa_f _ hx.n, Option.bind_some, if_pos (by rw [List.length_map]; omega), e]
    have hj := join_f (us ++ [Go.Lib.itoa x.f3]) [32] 21 (fun u h => by rcases List.mem_append.mp h with h | h; exact hm u h; rw [List.mem_singleton.mp h]; exact itoa_le hx.n) (by rw [List.length_append]; simp only [List.length_cons, List.length_nil]; omega) (by rw [List.length_append]; simp only [List.length_cons, List.length_nil]; omega)
    rw [show (⟨#[32]⟩ : ByteArray) = bs [32] from rfl, hj]; rfl
  | false =>
    have hj := join_f us [32] 21 hm (by simp only [List.length_cons, List.length_nil]; omega) (by omega)
    rw [if_neg (by decide), if_neg (by decide), show (⟨#[32]⟩ : ByteArray) = bs [32] from rfl, hj, List.append_nil]; rfl
theorem iText_j0 {x : In} (hx : Fine x) (us : List (List UInt8)) (hu : us.length ≤ 4) (hm : ∀ u ∈ us, u.length ≤ 21) : Ev (fun k => impl_InstrText.j0 k (us.map bs) x.f0 x.f1 x.f2 x.f3) (bs (Go.Lib.join ((us ++ (if uS x then [Go.Lib.itoa x.f2] else [])) ++ (if uN x then [Go.Lib.itoa x.f3] else [])) [32])) := by
  refine Ev.step (fun k => by rw [impl_InstrText.j0, usesS_f, Option.bind_some]) ?_
  cases uS x with
  | true =>
    have e : us.map bs ++ [bs (Go.Lib.itoa x.f2)] = (us ++ [Go.Lib.itoa x.f2]).map bs := by rw [List.map_append]; rfl
    have g : (us.map bs).length < 8796093022208 := by rw [List.length_map]; omega
    refine Ev.congr (fun k => by rw [if_pos rfl, itoa_f _ hx.s, Option.bind_some, if_pos g, e]) ?_
    exact iText_j1 hx _ (by rw [List.length_append]; simp only [List.length_cons, List.length_nil]; omega) (fun u h => by rcases List.mem_append.mp h with h | h; exact hm u h; rw [List.mem_singleton.mp h]; exact itoa_le hx.s)
  | false =>
    refine Ev.congr (fun k => if_neg (by decide)) ?_
    rw [if_neg (by decide), List.append_nil]
    exact iText_j1 hx us (by omega) hm
theorem mn_at {x : In} (h : Fine x) : ∃ l : List ByteArray, impl_mnemonics.f = some l ∧ l.length = 9 ∧ rdOf ByteArray.empty l x.f0 = bs (wordP x.f0) := by
  refine ⟨_, rfl, rfl, ?_⟩
  rcases ops9 h.a0 h.a1 with e | e | e | e | e | e | e | e | e <;> rw [e] <;> rfl
theorem iText_ev {x : In} (hx : Fine x) : Ev (fun k => impl_InstrText.f k x.f0 x.f1 x.f2 x.f3) (bs (textP x)) := by
  obtain ⟨mn, hmn, hl, hat⟩ := mn_at hx
  have g0 := hx.a0
  have g1 : x.f0 < (mn.length : Int) := by have := hx.a1; omega
  have hw := (form_le hx).2.1
  unfold impl_InstrText.f
  rw [within_f, decide_eq_true hx.a0, decide_eq_true hx.a1, hmn]
  refine Ev.bind (Ev.now _) ?_
  refine Ev.congr (fun k => if_pos rfl) ?_
  refine Ev.bind (Ev.now _) ?_
  refine Ev.congr (fun k => by rw [if_pos g0, if_pos g1, hat, Option.bind_some, usesR_f, Option.bind_some]) ?_
  have hT : ∀ A : List (List UInt8), Go.Lib.join ((([wordP x.f0] ++ A) ++ (if uS x then [Go.Lib.itoa x.f2] else [])) ++ (if uN x then [Go.Lib.itoa x.f3] else [])) [32] = wordP x.f0 ++ (Go.Lib.joinTail [32] A ++ (oneP (uS x) x.f2 ++ oneP (uN x) x.f3)) := by
    intro A
    rw [List.append_assoc, List.append_assoc, List.singleton_append, Go.Lib.join_cons, tail_app, tail_app]
    congr 3
    · cases uS x <;> simp [oneP, Go.Lib.joinTail]
    · cases uN x <;> simp [oneP, Go.Lib.joinTail]
  cases hR : uR x with
  | true =>
    have g : ([bs (wordP x.f0)] : List ByteArray).length < 8796093022208 := by simp
    refine Ev.congr (fun k => by rw [if_pos rfl, itoa_f _ hx.r, Option.bind_some, if_pos g]) ?_
    have h := iText_j0 hx ([wordP x.f0] ++ [Go.Lib.itoa x.f1]) (by simp) (fun u h => by rcases List.mem_append.mp h with h | h; rw [List.mem_singleton.mp h]; omega; rw [List.mem_singleton.mp h]; exact itoa_le hx.r)
    rw [hT] at h
    have e : Go.Lib.joinTail [32] [Go.Lib.itoa x.f1] = oneP (uR x) x.f1 := by rw [hR]; simp [oneP, Go.Lib.joinTail]
    rw [e] at h
    exact h
  | false =>
    refine Ev.congr (fun k => if_neg (by decide)) ?_
    have h := iText_j0 hx ([wordP x.f0] ++ []) (by simp) (fun u h => by rcases List.mem_append.mp h with h | h; rw [List.mem_singleton.mp h]; omega; cases h)
    rw [hT] at h
    have e : Go.Lib.joinTail [32] [] = oneP (uR x) x.f1 := by rw [hR]; simp [oneP, Go.Lib.joinTail]
    rw [e] at h
    exact h
end Go.Proofs.YtjnpmcgefkiocaaDoor.Q
