/- Plain laws of FnExactProgLines: the texts of instructions, codes and programs as bytes; what the printed functions compute. -/
import Derived.Test.YtjnpmcgefkiocaaDoorSa
import Derived.Test.YtjnpmcgefkiocaaDoorSc
import Derived.Test.YtjnpmcgefkiocaaDoorQx7
import Derived.Test.YtjnpmcgefkiocaaDoorQx5
import Derived.Test.YtjnpmcgefkiocaaDoorQx1
import Derived.Test.YtjnpmcgefkiocaaDoorQx4
import Derived.Test.YtjnpmcgefkiocaaDoorQx9
import Derived.Lib.ItoaLen
import Derived.Lib.Join
namespace Go.Proofs.YtjnpmcgefkiocaaDoor.Q
open Go.RowKit Go.Proofs.YtjnpmcgefkiocaaDoorW.PrintWords Go.Proofs.YtjnpmcgefkiocaaDoorW.PrintLast Go.Proofs.YtjnpmcgefkiocaaDoorW.PrintMore
set_option linter.unusedVariables false
set_option linter.unusedSimpArgs false

theorem wrap_succ {i n : Nat} (h : i < n) (hn : n ≤ 9223372036854775807) : wrap64 ((i : Int) + 1) = ((i + 1 : Nat) : Int) := by unfold wrap64; omega
theorem w64_of (x y : Int) (h : x = y) (h0 : -9223372036854775808 ≤ y) (h1 : y ≤ 9223372036854775807) : wrap64 x = y := by subst h; unfold wrap64; omega
theorem round_ {d k : Nat} (h : d < k) : ∃ q, k = q + 1 := ⟨k - 1, by omega⟩
theorem getD_at {α : Type} (l : List α) (z : α) (i : Nat) (h : i < l.length) : l.getD i z = l[i] := by rw [List.getD_eq_getElem?_getD, List.getElem?_eq_getElem h]; rfl
theorem set_fill {α : Type} (A : List α) (z x : α) (i m : Nat) (h : A.length = i) : (A ++ List.replicate (m + 1) z).set i x = (A ++ [x]) ++ List.replicate m z := by
  subst h
  rw [List.set_append_right _ _ (Nat.le_refl _), Nat.sub_self, List.replicate_succ, List.set_cons_zero, List.append_assoc]
  rfl
theorem Ev.at1 {α : Type} {g : Nat → Option α} {r : α} (h : ∀ k, g (k + 1) = some r) : Ev g r := Ev.step (f := fun _ => some r) h (Ev.now _)
/-! ### bytes -/
def bs (l : List UInt8) : ByteArray := ⟨l.toArray⟩
theorem bs_app (a b : List UInt8) : bs a ++ bs b = bs (a ++ b) := by
  apply ByteArray.ext
  rw [ByteArray.data_append]
  simp [bs]
theorem bs_size (a : List UInt8) : (bs a).size = a.length := by simp [bs, ByteArray.size]
theorem bs_list (a : List UInt8) : (bs a).data.toList = a := by simp [bs]
def digs (a : Nat) : List UInt8 := if a = 0 then [] else Go.Lib.decDigits a
theorem digs_step (a : Nat) (h : a ≠ 0) : digs a = digs (a / 10) ++ [UInt8.ofNat (48 + a % 10)] := by
  unfold digs
  rw [if_neg h]
  by_cases c : a < 10
  · rw [if_pos (by omega), Go.Lib.decDigits, dif_pos c, show a % 10 = a by omega]; rfl
  · rw [if_neg (by omega)]
    conv => lhs; rw [Go.Lib.decDigits, dif_neg c]
theorem num_digit (x : Int) (h0 : -9223372036854775808 ≤ x) (h1 : x ≤ 9223372036854775807) :
    (Int.tmod x 10 < 0 → (wrap64 (48 + wrap64 (-(Int.tmod x 10)))) % 256 = ((48 + x.natAbs % 10 : Nat) : Int)) ∧ (¬ Int.tmod x 10 < 0 → (wrap64 (48 + Int.tmod x 10)) % 256 = ((48 + x.natAbs % 10 : Nat) : Int)) ∧
      (wrap64 (Int.tdiv x 10)).natAbs = x.natAbs / 10 ∧ -9223372036854775808 ≤ wrap64 (Int.tdiv x 10) ∧ wrap64 (Int.tdiv x 10) ≤ 9223372036854775807 := by
  by_cases c : 0 ≤ x
  · have e1 : Int.tmod x 10 = x % 10 := Int.tmod_eq_emod_of_nonneg c
    have e2 : Int.tdiv x 10 = x / 10 := Int.tdiv_eq_ediv_of_nonneg c
    rw [e1, e2]
    clear e1 e2
    unfold wrap64
    omega
  · obtain ⟨y, rfl⟩ : ∃ y : Int, x = -y := ⟨-x, by omega⟩
    have e1 : Int.tmod (-y) 10 = -(y % 10) := by rw [Int.neg_tmod, Int.tmod_eq_emod_of_nonneg (by omega)]
    have e2 : Int.tdiv (-y) 10 = -(y / 10) := by rw [Int.neg_tdiv, Int.tdiv_eq_ediv_of_nonneg (by omega)]
    rw [e1, e2]
    clear e1 e2
    unfold wrap64
    omega
theorem num_l : ∀ (d k : Nat) (x : Int) (out : List UInt8) (neg : Bool), x.natAbs < 10 ^ d → d < k → out.length + d ≤ 1000 → -9223372036854775808 ≤ x → x ≤ 9223372036854775807 →
    spec_l01Num.l0 k x (bs out) neg = some (bs (if neg then 45 :: (digs x.natAbs ++ out) else digs x.natAbs ++ out)) := by
  intro d
  induction d with
  | zero =>
    intro k x out neg ha hk ho h0 h1
    obtain ⟨k, rfl⟩ := round_ hk
    have hx : x = 0 := by simp at ha; omega
    subst hx
    rw [spec_l01Num.l0, if_pos rfl]
    have hd : digs (0 : Int).natAbs = [] := rfl
    rw [hd, List.nil_append]
    cases neg with
    | true => rw [if_pos rfl, if_pos (by rw [bs_size]; omega), if_pos rfl, show (⟨#[45]⟩ : ByteArray) = bs [45] from rfl, bs_app]; rfl
    | false => rw [if_neg (by decide), if_neg (by decide)]
  | succ d ih =>
    intro k x out neg ha hk ho h0 h1
    obtain ⟨k, rfl⟩ := round_ hk
    by_cases hx : x = 0
    · subst hx
      rw [spec_l01Num.l0, if_pos rfl]
      have hd : digs (0 : Int).natAbs = [] := rfl
      rw [hd, List.nil_append]
      cases neg with
      | true => rw [if_pos rfl, if_pos (by rw [bs_size]; omega), if_pos rfl, show (⟨#[45]⟩ : ByteArray) = bs [45] from rfl, bs_app]; rfl
      | false => rw [if_neg (by decide), if_neg (by decide)]
    · have ha0 : x.natAbs ≠ 0 := by omega
      have ha1 : x.natAbs / 10 < 10 ^ d := by rw [Nat.pow_succ] at ha; omega
      have hol : ([UInt8.ofNat (48 + x.natAbs % 10)] ++ out).length + d ≤ 1000 := by simp; omega
      have hsz : (bs [UInt8.ofNat (48 + x.natAbs % 10)]).size + (bs out).size ≤ 9223372036854775807 := by rw [bs_size, bs_size]; simp; omega
      obtain ⟨n1, n2, n3, n4, n5⟩ := num_digit x h0 h1
      have hs : ∀ z : Int, z = ((48 + x.natAbs % 10 : Nat) : Int) → strOfNums [z] = bs [UInt8.ofNat (48 + x.natAbs % 10)] := fun z hz => by subst hz; rfl
      have hmain : spec_l01Num.l0 k (wrap64 (Int.tdiv x 10)) (bs [UInt8.ofNat (48 + x.natAbs % 10)] ++ bs out) neg = some (bs (if neg then 45 :: (digs x.natAbs ++ out) else digs x.natAbs ++ out)) := by
        rw [bs_app, ih k _ ([UInt8.ofNat (48 + x.natAbs % 10)] ++ out) neg (by rw [n3]; exact ha1) (by omega) hol n4 n5, n3, digs_step x.natAbs ha0]
        simp only [List.append_assoc]
      clear n3 n4 n5 hol ha1
      rw [spec_l01Num.l0, if_neg hx]
      by_cases c : Int.tmod x 10 < 0
      · rw [if_pos c, n1 c, Option.bind_some, hs _ rfl, if_pos hsz]; exact hmain
      · rw [if_neg c, n2 c, Option.bind_some, hs _ rfl, if_pos hsz]; exact hmain
theorem num_ev (x : Int) (h0 : -9223372036854775808 ≤ x) (h1 : x ≤ 9223372036854775807) : Ev (fun k => spec_l01Num.f k x) (bs (Go.Lib.itoa x)) := by
  unfold spec_l01Num.f
  by_cases c : x = 0
  · subst c
    have e : Go.Lib.itoa 0 = [48] := by unfold Go.Lib.itoa; rw [if_neg (by omega)]; show Go.Lib.decDigits 0 = _; rw [Go.Lib.decDigits, dif_pos (by omega)]; rfl
    rw [e]
    exact Ev.congr (f := fun _ => some (bs [48])) (fun k => if_pos rfl) (Ev.now _)
  · refine Ev.congr (fun k => if_neg c) ?_
    refine ⟨21, fun k hk => ?_⟩
    show spec_l01Num.l0 k x (bs []) (decide (x < 0)) = _
    have hb : x.natAbs < 10 ^ 20 := by omega
    rw [num_l 20 k x [] (decide (x < 0)) hb (by omega) (by simp) h0 h1, List.append_nil]
    have hd : digs x.natAbs = Go.Lib.decDigits x.natAbs := by unfold digs; rw [if_neg (by omega)]
    rw [hd]
    unfold Go.Lib.itoa
    by_cases cn : x < 0
    · rw [decide_eq_true cn, if_pos rfl, if_pos cn]
    · rw [decide_eq_false cn, if_neg (by decide), if_neg cn, show x.natAbs = x.toNat by omega]

/-! ### instructions: ok -/
abbrev In := S63
abbrev InL := S81
theorem sIn_f (a b c : Int) : spec_l01In.f a b c = some (decide (b ≤ a) && decide (a ≤ c)) := by
  unfold spec_l01In.f
  by_cases h : b ≤ a
  · rw [if_pos h]; simp [h]
  · rw [if_neg h]; simp [h]
theorem ops9 {a : Int} (h0 : 0 ≤ a) (h1 : a ≤ 8) : a = 0 ∨ a = 1 ∨ a = 2 ∨ a = 3 ∨ a = 4 ∨ a = 5 ∨ a = 6 ∨ a = 7 ∨ a = 8 := by omega
theorem named (x : In) (h0 : 0 ≤ x.f0) (h1 : x.f0 ≤ 8) : Ev (fun k => spec_l02Named.f k x.f0 114) (uR x) ∧ Ev (fun k => spec_l02Named.f k x.f0 115) (uS x) ∧ Ev (fun k => spec_l02Named.f k x.f0 110) (uN x) := by
  unfold uR uS uN
  rcases ops9 h0 h1 with h | h | h | h | h | h | h | h | h <;> rw [h] <;>
    exact ⟨Ev.of (fun k => spec_l02Named.mono _ _ k) (k := 5) (by kernel_rfl), Ev.of (fun k => spec_l02Named.mono _ _ k) (k := 5) (by kernel_rfl), Ev.of (fun k => spec_l02Named.mono _ _ k) (k := 5) (by kernel_rfl)⟩
def lastB (x : In) (c n : Int) : Bool := if uN x then (if x.f0 = 0 then decide (-1000 ≤ x.f3) && decide (x.f3 ≤ 1000) else if x.f0 = 6 then decide (0 ≤ x.f3) && decide (x.f3 ≤ n) else decide (0 ≤ x.f3) && decide (x.f3 ≤ wrap64 (c - 1))) else decide (x.f3 = 0)
theorem okI_eq (x : In) (c n : Int) : okI x c n = ((decide (1 ≤ c) && decide (c ≤ 16)) && (decide (0 ≤ n) && decide (n ≤ 16)) && (decide (0 ≤ x.f0) && decide (x.f0 ≤ 8)) && (decide (0 ≤ x.f1) && decide (x.f1 ≤ 3)) && (decide (0 ≤ x.f2) && decide (x.f2 ≤ 3)) && (uR x || decide (x.f1 = 0)) && (uS x || decide (x.f2 = 0)) && lastB x c n) := rfl
/- the reference's test, from its inside out -/
theorem s_j3 (x : In) (c n : Int) (b : Bool) : Ev (fun k => spec_InstrOk.j3 k c n x.f0 b x.f0 x.f1 x.f2 x.f3) (if b then decide (0 ≤ x.f3) && decide (x.f3 ≤ wrap64 (c - 1)) else if x.f0 = 6 then decide (0 ≤ x.f3) && decide (x.f3 ≤ n) else true) := by
  refine Ev.at1 fun k => ?_
  rw [spec_InstrOk.j3]
  cases b with
  | true => rw [if_pos rfl, if_pos rfl, sIn_f, Option.bind_some]
  | false => by_cases h : x.f0 = 6 <;> simp [h, sIn_f]
theorem s_j2 (x : In) (c n : Int) (h0 : 0 ≤ x.f0) (h1 : x.f0 ≤ 8) (b : Bool) (hb : b = (!uN x && !decide (x.f3 = 0))) : Ev (fun k => spec_InstrOk.j2 k c n b x.f0 x.f1 x.f2 x.f3) (lastB x c n) := by
  cases hN : uN x with
  | false =>
    have hL : lastB x c n = decide (x.f3 = 0) := by unfold lastB; rw [hN]; rfl
    rw [hN, Bool.not_false, Bool.true_and] at hb
    rw [hL]
    by_cases h3 : x.f3 = 0
    · rw [decide_eq_true h3] at hb ⊢
      subst hb
      unfold uN at hN
      rcases ops9 h0 h1 with h | h | h | h | h | h | h | h | h <;> rw [h] at hN <;> first | (exact absurd hN (by decide)) | skip
      all_goals
        refine Ev.step (fun k => by rw [spec_InstrOk.j2, if_neg (by decide), if_neg (by omega), if_neg (by omega), if_neg (by omega), if_neg (by omega), show (x.f0 == 7) = false from by rw [h]; rfl]) ?_
        have := s_j3 x c n false
        rw [if_neg (by decide), if_neg (by omega)] at this
        exact this
    · rw [decide_eq_false h3] at hb ⊢
      subst hb
      exact Ev.at1 fun k => by rw [spec_InstrOk.j2]; exact if_pos rfl
  | true =>
    rw [hN] at hb
    have hb' : b = false := hb
    subst hb'
    unfold lastB
    rw [hN, if_pos rfl]
    unfold uN at hN
    rcases ops9 h0 h1 with h | h | h | h | h | h | h | h | h
    · rw [if_pos h]
      exact Ev.at1 fun k => by rw [spec_InstrOk.j2, if_neg (by decide), if_pos h, sIn_f, Option.bind_some]
    · rw [h] at hN; exact absurd hN (by decide)
    · rw [if_neg (by omega), if_neg (by omega)]
      refine Ev.step (fun k => by rw [spec_InstrOk.j2, if_neg (by decide), if_neg (by omega), if_pos h, show (x.f0 == 2) = true from by rw [h]; rfl]) ?_
      exact s_j3 x c n true
    · rw [if_neg (by omega), if_neg (by omega)]
      refine Ev.step (fun k => by rw [spec_InstrOk.j2, if_neg (by decide), if_neg (by omega), if_neg (by omega), if_pos h, show (x.f0 == 3) = true from by rw [h]; rfl]) ?_
      exact s_j3 x c n true
    · rw [h] at hN; exact absurd hN (by decide)
    · rw [if_neg (by omega), if_neg (by omega)]
      refine Ev.step (fun k => by rw [spec_InstrOk.j2, if_neg (by decide), if_neg (by omega), if_neg (by omega), if_neg (by omega), if_pos h, show (x.f0 == 5) = true from by rw [h]; rfl]) ?_
      exact s_j3 x c n true
    · rw [if_neg (by omega), if_pos h]
      refine Ev.step (fun k => by rw [spec_InstrOk.j2, if_neg (by decide), if_neg (by omega), if_neg (by omega), if_neg (by omega), if_neg (by omega), show (x.f0 == 7) = false from by rw [h]; rfl]) ?_
      have := s_j3 x c n false
      rw [if_neg (by decide), if_pos h] at this
      exact this
    · rw [if_neg (by omega), if_neg (by omega)]
      refine Ev.step (fun k => by rw [spec_InstrOk.j2, if_neg (by decide), if_neg (by omega), if_neg (by omega), if_neg (by omega), if_neg (by omega), show (x.f0 == 7) = true from by rw [h]; rfl]) ?_
      exact s_j3 x c n true
    · rw [h] at hN; exact absurd hN (by decide)
theorem s_j2f (x : In) (c n : Int) : Ev (fun k => spec_InstrOk.j2 k c n true x.f0 x.f1 x.f2 x.f3) false := Ev.at1 fun k => by rw [spec_InstrOk.j2, if_pos rfl]
theorem ne0 (a : Int) : (a != 0) = !decide (a = 0) := by by_cases h : a = 0 <;> simp [h]
theorem s_n (x : In) (c n : Int) (h0 : 0 ≤ x.f0) (h1 : x.f0 ≤ 8) : Ev (fun k => (spec_l02Named.f k x.f0 110).bind fun t125 => (if t125 = true then (spec_InstrOk.j2 k c n false x.f0 x.f1 x.f2 x.f3) else (spec_InstrOk.j2 k c n (x.f3 != 0) x.f0 x.f1 x.f2 x.f3))) (lastB x c n) := by
  refine Ev.bind (named x h0 h1).2.2 ?_
  cases hN : uN x with
  | true => exact Ev.congr (fun k => if_pos rfl) (s_j2 x c n h0 h1 false (by rw [hN]; rfl))
  | false => exact Ev.congr (fun k => if_neg (by decide)) (s_j2 x c n h0 h1 _ (by rw [hN, ne0]; rfl))
theorem s_s (x : In) (c n : Int) (h0 : 0 ≤ x.f0) (h1 : x.f0 ≤ 8) : Ev (fun k => (spec_l02Named.f k x.f0 115).bind fun t124 => (if t124 = true then ((spec_l02Named.f k x.f0 110).bind fun t125 => (if t125 = true then (spec_InstrOk.j2 k c n false x.f0 x.f1 x.f2 x.f3) else (spec_InstrOk.j2 k c n (x.f3 != 0) x.f0 x.f1 x.f2 x.f3))) else (if x.f2 = 0 then ((spec_l02Named.f k x.f0 110).bind fun t126 => (if t126 = true then (spec_InstrOk.j2 k c n false x.f0 x.f1 x.f2 x.f3) else (spec_InstrOk.j2 k c n (x.f3 != 0) x.f0 x.f1 x.f2 x.f3))) else (spec_InstrOk.j2 k c n true x.f0 x.f1 x.f2 x.f3)))) ((uS x || decide (x.f2 = 0)) && lastB x c n) := by
  refine Ev.bind (named x h0 h1).2.1 ?_
  cases hS : uS x with
  | true => rw [Bool.true_or, Bool.true_and]; exact Ev.congr (fun k => if_pos rfl) (s_n x c n h0 h1)
  | false =>
    refine Ev.congr (fun k => if_neg (by decide)) ?_
    by_cases h2 : x.f2 = 0
    · rw [decide_eq_true h2, Bool.or_true, Bool.true_and]; exact Ev.congr (fun k => if_pos h2) (s_n x c n h0 h1)
    · rw [decide_eq_false h2, Bool.or_false, Bool.false_and]; exact Ev.congr (fun k => if_neg h2) (s_j2f x c n)
theorem s_j1 (x : In) (c n : Int) (h0 : 0 ≤ x.f0) (h1 : x.f0 ≤ 8) : Ev (fun k => spec_InstrOk.j1 k c n false x.f0 x.f1 x.f2 x.f3) ((uR x || decide (x.f1 = 0)) && (uS x || decide (x.f2 = 0)) && lastB x c n) := by
  refine Ev.step (fun k => by rw [spec_InstrOk.j1, if_neg (by decide)]) ?_
  refine Ev.bind (named x h0 h1).1 ?_
  cases hR : uR x with
  | true => rw [Bool.true_or, Bool.true_and]; exact Ev.congr (fun k => if_pos rfl) (s_s x c n h0 h1)
  | false =>
    refine Ev.congr (fun k => if_neg (by decide)) ?_
    by_cases h2 : x.f1 = 0
    · rw [decide_eq_true h2, Bool.or_true, Bool.true_and]; exact Ev.congr (fun k => if_pos h2) (s_s x c n h0 h1)
    · rw [decide_eq_false h2, Bool.or_false, Bool.false_and, Bool.false_and]; exact Ev.congr (fun k => if_neg h2) (s_j2f x c n)
theorem s_j1f (x : In) (c n : Int) : Ev (fun k => spec_InstrOk.j1 k c n true x.f0 x.f1 x.f2 x.f3) false := Ev.at1 fun k => by rw [spec_InstrOk.j1, if_pos rfl]
theorem s_j0f (x : In) (c n : Int) : Ev (fun k => spec_InstrOk.j0 k c n true x.f0 x.f1 x.f2 x.f3) false := Ev.at1 fun k => by rw [spec_InstrOk.j0, if_pos rfl]
theorem s_j0 (x : In) (c n : Int) (h0 : 0 ≤ x.f0) (h1 : x.f0 ≤ 8) : Ev (fun k => spec_InstrOk.j0 k c n false x.f0 x.f1 x.f2 x.f3) ((decide (0 ≤ x.f1) && decide (x.f1 ≤ 3)) && (decide (0 ≤ x.f2) && decide (x.f2 ≤ 3)) && ((uR x || decide (x.f1 = 0)) && (uS x || decide (x.f2 = 0)) && lastB x c n)) := by
  refine Ev.step (fun k => by rw [spec_InstrOk.j0, if_neg (by decide), sIn_f, sIn_f, Option.bind_some, Option.bind_some]) ?_
  cases (decide (0 ≤ x.f1) && decide (x.f1 ≤ 3)) with
  | false => exact Ev.congr (fun k => if_neg (by decide)) (s_j1f x c n)
  | true =>
    refine Ev.congr (fun k => if_pos rfl) ?_
    cases (decide (0 ≤ x.f2) && decide (x.f2 ≤ 3)) with
    | false => exact s_j1f x c n
    | true => exact s_j1 x c n h0 h1
theorem sOk_ev (x : In) (c n : Int) : Ev (fun k => spec_InstrOk.f k x.f0 x.f1 x.f2 x.f3 c n) (okI x c n) := by
  unfold spec_InstrOk.f
  rw [sIn_f, sIn_f, sIn_f, okI_eq]
  simp only [Option.bind_some]
  cases (decide (1 ≤ c) && decide (c ≤ 16)) with
  | false => exact Ev.congr (fun k => if_neg (by decide)) (s_j0f x c n)
  | true =>
    refine Ev.congr (fun k => if_pos rfl) ?_
    cases (decide (0 ≤ n) && decide (n ≤ 16)) with
    | false => exact Ev.congr (fun k => if_neg (by decide)) (s_j0f x c n)
    | true =>
      refine Ev.congr (fun k => if_pos rfl) ?_
      by_cases h : 0 ≤ x.f0 ∧ x.f0 ≤ 8
      · have := s_j0 x c n h.1 h.2
        rw [decide_eq_true h.1, decide_eq_true h.2]
        simpa [Bool.and_assoc] using this
      · have e : (decide (0 ≤ x.f0) && decide (x.f0 ≤ 8)) = false := by rw [← Bool.decide_and]; exact decide_eq_false h
        rw [e]
        exact s_j0f x c n

/-! ### programs: ok -/
theorem rdL_at (l : List (List In)) (i : Nat) (h : i < l.length) : rd_L6 l (i : Int) = l[i] := by unfold rd_L6; rw [Int.toNat_natCast, getD_at _ _ _ h]
theorem rdI_at (l : List In) (i : Nat) (h : i < l.length) : rd_T63 l (i : Int) = l[i] := by unfold rd_T63; rw [Int.toNat_natCast, getD_at _ _ _ h]
theorem sPok_l1 (c : Int) (L : List (List In)) (hL : L.length ≤ 3) (t : Nat) (ht : t < L.length) (hl : (L[t]).length ≤ 16) (r : Bool) (hE : Ev (fun k => spec_ProgOk.l0 k (wrap64 ((t : Int) + 1)) c L) r) :
    ∀ (d i : Nat), d = (L[t]).length - i → i ≤ (L[t]).length → Ev (fun k => spec_ProgOk.l1 k t i c L) (((L[t]).drop i).all (fun x => okI x c (L[t]).length) && r) := by
  intro d
  have e := rdL_at L t ht
  have g0 : (0 : Int) ≤ (t : Int) := by omega
  have g1 : (t : Int) < (L.length : Int) := by omega
  induction d with
  | zero =>
    intro i hd hi
    have g : ¬ ((i : Int) < ((L[t]).length : Int)) := by omega
    rw [List.drop_eq_nil_of_le (by omega), List.all_nil, Bool.true_and]
    exact Ev.step (fun k => by rw [spec_ProgOk.l1, if_pos g0, if_pos g1, e, if_neg g]) hE
  | succ d ih =>
    intro i hd hi
    have hlt : i < (L[t]).length := by omega
    have g : (i : Int) < ((L[t]).length : Int) := by omega
    have g2 : (0 : Int) ≤ (i : Int) := by omega
    have hr := rdI_at (L[t]) i hlt
    have hw := wrap_succ (i := i) (n := (L[t]).length) hlt (by omega)
    refine Ev.step (fun k => by rw [spec_ProgOk.l1, if_pos g0, if_pos g1, e, if_pos g, if_pos g2, hr, hw]) ?_
    clear hw
    refine Ev.bind (sOk_ev _ c _) ?_
    rw [List.drop_eq_getElem_cons hlt, List.all_cons]
    cases okI (L[t])[i] c (L[t]).length with
    | true => rw [Bool.true_and]; exact Ev.congr (fun k => if_pos rfl) (ih (i + 1) (by omega) (by omega))
    | false => rw [Bool.false_and, Bool.false_and]; exact Ev.congr (f := fun _ => some false) (fun k => if_neg (by decide)) (Ev.now _)
theorem codeOk_eq (c : Int) (l : List In) : codeOk c l = (decide (l.length ≤ 16) && l.all (fun x => okI x c l.length)) := by
  unfold codeOk
  have e : l.any (fun x => !okI x c l.length) = !l.all (fun x => okI x c l.length) := by rw [List.any_eq_not_all_not]; simp
  rw [e]
  by_cases h : l.length ≤ 16
  · rw [decide_eq_true h, decide_eq_false (by omega)]; simp
  · rw [decide_eq_false h, decide_eq_true (by omega)]; simp
theorem sPok_l0 (c : Int) (L : List (List In)) (hL : L.length ≤ 3) : ∀ (d t : Nat), d = L.length - t → t ≤ L.length → Ev (fun k => spec_ProgOk.l0 k t c L) ((L.drop t).all (codeOk c)) := by
  intro d
  induction d with
  | zero =>
    intro t hd ht
    have g : ¬ ((t : Int) < (L.length : Int)) := by omega
    rw [List.drop_eq_nil_of_le (by omega), List.all_nil]
    exact Ev.at1 fun k => by rw [spec_ProgOk.l0, if_neg g]
  | succ d ih =>
    intro t hd ht
    have hlt : t < L.length := by omega
    have g0 : (0 : Int) ≤ (t : Int) := by omega
    have g1 : (t : Int) < (L.length : Int) := by omega
    have e := rdL_at L t hlt
    rw [List.drop_eq_getElem_cons hlt, List.all_cons, codeOk_eq]
    by_cases h16 : (L[t]).length ≤ 16
    · have g2 : ¬ (((L[t]).length : Int) > 16) := by omega
      refine Ev.step (fun k => by rw [spec_ProgOk.l0, if_pos g1, if_pos g0, e, if_neg g2]) ?_
      have h := sPok_l1 c L hL t hlt h16 _ (by rw [wrap_succ hlt (by omega)]; exact ih (t + 1) (by omega) (by omega)) (L[t]).length 0 (by omega) (by omega)
      rw [List.drop_zero] at h
      rw [decide_eq_true h16, Bool.true_and]
      exact h
    · have g2 : ((L[t]).length : Int) > 16 := by omega
      rw [decide_eq_false h16, Bool.false_and, Bool.false_and]
      exact Ev.at1 fun k => by rw [spec_ProgOk.l0, if_pos g1, if_pos g0, e, if_pos g2]
theorem sPok_ev (c : Int) (L : List (List In)) : Ev (fun k => spec_ProgOk.f k c L) (progOk c L) := by
  unfold spec_ProgOk.f progOk
  rw [sIn_f, sIn_f]
  simp only [Option.bind_some]
  cases (decide (1 ≤ c) && decide (c ≤ 16)) with
  | false => exact Ev.congr (fun k => if_neg (by decide)) (Ev.at1 fun k => by rw [spec_ProgOk.j0, if_pos rfl]; rfl)
  | true =>
    refine Ev.congr (fun k => if_pos rfl) ?_
    by_cases h : 1 ≤ (L.length : Int) ∧ (L.length : Int) ≤ 3
    · rw [decide_eq_true h.1, decide_eq_true h.2]
      refine Ev.step (fun k => by rw [spec_ProgOk.j0, if_neg (by decide)]) ?_
      have := sPok_l0 c L (by omega) L.length 0 (by omega) (by omega)
      rw [List.drop_zero] at this
      simpa using this
    · have e : (decide (1 ≤ (L.length : Int)) && decide ((L.length : Int) ≤ 3)) = false := by rw [← Bool.decide_and]; exact decide_eq_false h
      rw [e]
      exact Ev.at1 fun k => by rw [spec_ProgOk.j0]; exact if_pos rfl
end Go.Proofs.YtjnpmcgefkiocaaDoor.Q
