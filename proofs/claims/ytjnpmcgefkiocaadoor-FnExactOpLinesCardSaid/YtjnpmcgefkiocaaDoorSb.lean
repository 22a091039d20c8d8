/- Plain laws of FnExactOpLines: the lines of operations as bytes; what the printed functions compute. -/
import Derived.Test.YtjnpmcgefkiocaaDoorSa
import Derived.Test.YtjnpmcgefkiocaaDoorQx2
import Derived.Test.YtjnpmcgefkiocaaDoorQx2
import Derived.Test.YtjnpmcgefkiocaaDoorQx1
import Derived.Test.YtjnpmcgefkiocaaDoorQx3
import Derived.Lib.ItoaLen
import Derived.Lib.Join
namespace Go.Proofs.YtjnpmcgefkiocaaDoor.Q
open Go.RowKit Go.Proofs.YtjnpmcgefkiocaaDoorW.PrintWords Go.Proofs.YtjnpmcgefkiocaaDoorW.PrintLast Go.Proofs.YtjnpmcgefkiocaaDoorW.PrintMore
set_option linter.unusedVariables false
set_option linter.unusedSimpArgs false

theorem wrap_succ {i n : Nat} (h : i < n) (hn : n ≤ 9223372036854775807) : wrap64 ((i : Int) + 1) = ((i + 1 : Nat) : Int) := by unfold wrap64; omega
theorem w64_of (x y : Int) (h : x = y) (h0 : -9223372036854775808 ≤ y) (h1 : y ≤ 9223372036854775807) : wrap64 x = y := by subst h; unfold wrap64; omega
theorem round_ {d k : Nat} (h : d < k) : ∃ q, k = q + 1 := ⟨k - 1, by omega⟩
theorem getD_at {α : Type} (l : List α) (z : α) (i : Nat) (h : i < l.length) : l.getD i z = l[i] := by rw [List.getD_eq_getElem?_getD, List.getElem?_eq_getElem h]; rfl
theorem set_fill {α : Type} (A : List α) (z x : α) (i m : Nat) (h : A.length = i) : (A ++ List.replicate (m + 1) z).set i x = (A ++ [x]) ++ List.replicate m z := by
  subst h
  rw [List.set_append_right _ _ (Nat.le_refl _), Nat.sub_self, List.replicate_succ, List.set_cons_zero, List.append_assoc]
  rfl
theorem Ev.at1 {α : Type} {g : Nat → Option α} {r : α} (h : ∀ k, g (k + 1) = some r) : Ev g r := Ev.step (f := fun _ => some r) h (Ev.now _)
abbrev OpS := S42
abbrev OpL := S46

/-! ### toOpS, eqOpS -/
def conv (x : OpL) : OpS := ⟨x.f0, x.f1, x.f2⟩
theorem toOpS_l (l : List OpL) (hl : l.length ≤ 100000000) : ∀ (d i k : Nat), d = l.length - i → i ≤ l.length → d < k → laws_toOpS.l0 k l ((l.take i).map conv ++ List.replicate (l.length - i) z42) (i : Int) = some (l.map conv) := by
  intro d
  induction d with
  | zero =>
    intro i k hd hi hk
    obtain ⟨k, rfl⟩ := round_ hk
    simp only [laws_toOpS.l0]
    rw [if_neg (by omega), show l.length - i = 0 by omega, List.take_of_length_le (by omega)]
    simp
  | succ d ih =>
    intro i k hd hi hk
    obtain ⟨k, rfl⟩ := round_ hk
    have hlt : i < l.length := by omega
    simp only [laws_toOpS.l0]
    rw [if_pos (by omega), if_pos (by omega)]
    simp only [laws_toOp.f, Option.bind_some]
    rw [if_pos (by rw [List.length_append, List.length_map, List.length_take, List.length_replicate]; omega), wrap_succ hlt (by omega), Int.toNat_natCast, show l.length - i = (l.length - (i + 1)) + 1 by omega, set_fill _ _ _ _ _ (by rw [List.length_map, List.length_take]; omega)]
    have e : (l.take i).map conv ++ [(⟨(rd_T46 l (i : Int)).f0, (rd_T46 l (i : Int)).f1, (rd_T46 l (i : Int)).f2⟩ : OpS)] = (l.take (i + 1)).map conv := by
      rw [List.take_succ_eq_append_getElem hlt, List.map_append]
      unfold rd_T46
      rw [Int.toNat_natCast, getD_at _ _ _ hlt]
      rfl
    rw [e]
    exact ih (i + 1) k (by omega) (by omega) (by omega)
theorem toOpS_ev (l : List OpL) (hl : l.length ≤ 100000000) : Ev (fun k => laws_toOpS.f k l) (l.map conv) := by
  refine ⟨l.length + 1, fun k hk => ?_⟩
  show laws_toOpS.f k l = _
  unfold laws_toOpS.f
  rw [if_pos (by omega), if_pos (by omega)]
  have h := toOpS_l l hl l.length 0 k (by omega) (by omega) (by omega)
  simpa using h
theorem eqOpS_l (l : List OpS) (hl : l.length ≤ 100000000) : ∀ (d i k : Nat), d = l.length - i → i ≤ l.length → d < k → laws_eqOpS.l0 k l l (i : Int) = some true := by
  intro d
  induction d with
  | zero =>
    intro i k hd hi hk
    obtain ⟨k, rfl⟩ := round_ hk
    simp only [laws_eqOpS.l0]
    rw [if_neg (by omega)]
  | succ d ih =>
    intro i k hd hi hk
    obtain ⟨k, rfl⟩ := round_ hk
    simp only [laws_eqOpS.l0]
    rw [if_pos (by omega), if_pos (by omega), if_pos (by omega), wrap_succ (n := l.length) (by omega) (by omega)]
    rw [ih (i + 1) k (by omega) (by omega) (by omega)]
    simp [laws_eqOp.f]
theorem eqOpS_ev (l : List OpS) (hl : l.length ≤ 100000000) : Ev (fun k => laws_eqOpS.f k l l) true := by
  refine ⟨l.length + 1, fun k hk => ?_⟩
  show laws_eqOpS.f k l l = _
  unfold laws_eqOpS.f
  rw [if_pos rfl]
  exact eqOpS_l l hl l.length 0 k (by omega) (by omega) (by omega)

/-! ### bytes -/
def bs (l : List UInt8) : ByteArray := ⟨l.toArray⟩
theorem bs_app (a b : List UInt8) : bs a ++ bs b = bs (a ++ b) := by
  apply ByteArray.ext
  rw [ByteArray.data_append]
  simp [bs]
theorem bs_size (a : List UInt8) : (bs a).size = a.length := by simp [bs, ByteArray.size]
theorem bs_list (a : List UInt8) : (bs a).data.toList = a := by simp [bs]
def digs (a : Nat) : List UInt8 := if a = 0 then [] else Go.Lib.decDigits a
theorem digs_step (a : Nat) (h : a ≠ 0) : digs a = digs (a / 10) ++ [UInt8.ofNat (48 + a % 10)] := by
  unfold digs
  rw [if_neg h]
  by_cases c : a < 10
  · rw [if_pos (by omega), Go.Lib.decDigits, dif_pos c, show a % 10 = a by omega]; rfl
  · rw [if_neg (by omega)]
    conv => lhs; rw [Go.Lib.decDigits, dif_neg c]
theorem num_digit (x : Int) (h0 : -9223372036854775808 ≤ x) (h1 : x ≤ 9223372036854775807) :
    (Int.tmod x 10 < 0 → (wrap64 (48 + wrap64 (-(Int.tmod x 10)))) % 256 = ((48 + x.natAbs % 10 : Nat) : Int)) ∧ (¬ Int.tmod x 10 < 0 → (wrap64 (48 + Int.tmod x 10)) % 256 = ((48 + x.natAbs % 10 : Nat) : Int)) ∧
      (wrap64 (Int.tdiv x 10)).natAbs = x.natAbs / 10 ∧ -9223372036854775808 ≤ wrap64 (Int.tdiv x 10) ∧ wrap64 (Int.tdiv x 10) ≤ 9223372036854775807 := by
  by_cases c : 0 ≤ x
  · have e1 : Int.tmod x 10 = x % 10 := Int.tmod_eq_emod_of_nonneg c
    have e2 : Int.tdiv x 10 = x / 10 := Int.tdiv_eq_ediv_of_nonneg c
    rw [e1, e2]
    clear e1 e2
    unfold wrap64
    omega
  · obtain ⟨y, rfl⟩ : ∃ y : Int, x = -y := ⟨-x, by omega⟩
    have e1 : Int.tmod (-y) 10 = -(y % 10) := by rw [Int.neg_tmod, Int.tmod_eq_emod_of_nonneg (by omega)]
    have e2 : Int.tdiv (-y) 10 = -(y / 10) := by rw [Int.neg_tdiv, Int.tdiv_eq_ediv_of_nonneg (by omega)]
    rw [e1, e2]
    clear e1 e2
    unfold wrap64
    omega
theorem num_l : ∀ (d k : Nat) (x : Int) (out : List UInt8) (neg : Bool), x.natAbs < 10 ^ d → d < k → out.length + d ≤ 1000 → -9223372036854775808 ≤ x → x ≤ 9223372036854775807 →
    spec_l01Num.l0 k x (bs out) neg = some (bs (if neg then 45 :: (digs x.natAbs ++ out) else digs x.natAbs ++ out)) := by
  intro d
  induction d with
  | zero =>
    intro k x out neg ha hk ho h0 h1
    obtain ⟨k, rfl⟩ := round_ hk
    have hx : x = 0 := by simp at ha; omega
    subst hx
    rw [spec_l01Num.l0, if_pos rfl]
    have hd : digs (0 : Int).natAbs = [] := rfl
    rw [hd, List.nil_append]
    cases neg with
    | true => rw [if_pos rfl, if_pos (by rw [bs_size]; omega), if_pos rfl, show (⟨#[45]⟩ : ByteArray) = bs [45] from rfl, bs_app]; rfl
    | false => rw [if_neg (by decide), if_neg (by decide)]
  | succ d ih =>
    intro k x out neg ha hk ho h0 h1
    obtain ⟨k, rfl⟩ := round_ hk
    by_cases hx : x = 0
    · subst hx
      rw [spec_l01Num.l0, if_pos rfl]
      have hd : digs (0 : Int).natAbs = [] := rfl
      rw [hd, List.nil_append]
      cases neg with
      | true => rw [if_pos rfl, if_pos (by rw [bs_size]; omega), if_pos rfl, show (⟨#[45]⟩ : ByteArray) = bs [45] from rfl, bs_app]; rfl
      | false => rw [if_neg (by decide), if_neg (by decide)]
    · have ha0 : x.natAbs ≠ 0 := by omega
      have ha1 : x.natAbs / 10 < 10 ^ d := by rw [Nat.pow_succ] at ha; omega
      have hol : ([UInt8.ofNat (48 + x.natAbs % 10)] ++ out).length + d ≤ 1000 := by simp; omega
      have hsz : (bs [UInt8.ofNat (48 + x.natAbs % 10)]).size + (bs out).size ≤ 9223372036854775807 := by rw [bs_size, bs_size]; simp; omega
      obtain ⟨n1, n2, n3, n4, n5⟩ := num_digit x h0 h1
      have hs : ∀ z : Int, z = ((48 + x.natAbs % 10 : Nat) : Int) → strOfNums [z] = bs [UInt8.ofNat (48 + x.natAbs % 10)] := fun z hz => by subst hz; rfl
      have hmain : spec_l01Num.l0 k (wrap64 (Int.tdiv x 10)) (bs [UInt8.ofNat (48 + x.natAbs % 10)] ++ bs out) neg = some (bs (if neg then 45 :: (digs x.natAbs ++ out) else digs x.natAbs ++ out)) := by
        rw [bs_app, ih k _ ([UInt8.ofNat (48 + x.natAbs % 10)] ++ out) neg (by rw [n3]; exact ha1) (by omega) hol n4 n5, n3, digs_step x.natAbs ha0]
        simp only [List.append_assoc]
      clear n3 n4 n5 hol ha1
      rw [spec_l01Num.l0, if_neg hx]
      by_cases c : Int.tmod x 10 < 0
      · rw [if_pos c, n1 c, Option.bind_some, hs _ rfl, if_pos hsz]; exact hmain
      · rw [if_neg c, n2 c, Option.bind_some, hs _ rfl, if_pos hsz]; exact hmain
theorem num_ev (x : Int) (h0 : -9223372036854775808 ≤ x) (h1 : x ≤ 9223372036854775807) : Ev (fun k => spec_l01Num.f k x) (bs (Go.Lib.itoa x)) := by
  unfold spec_l01Num.f
  by_cases c : x = 0
  · subst c
    have e : Go.Lib.itoa 0 = [48] := by unfold Go.Lib.itoa; rw [if_neg (by omega)]; show Go.Lib.decDigits 0 = _; rw [Go.Lib.decDigits, dif_pos (by omega)]; rfl
    rw [e]
    exact Ev.congr (f := fun _ => some (bs [48])) (fun k => if_pos rfl) (Ev.now _)
  · refine Ev.congr (fun k => if_neg c) ?_
    refine ⟨21, fun k hk => ?_⟩
    show spec_l01Num.l0 k x (bs []) (decide (x < 0)) = _
    have hb : x.natAbs < 10 ^ 20 := by omega
    rw [num_l 20 k x [] (decide (x < 0)) hb (by omega) (by simp) h0 h1, List.append_nil]
    have hd : digs x.natAbs = Go.Lib.decDigits x.natAbs := by unfold digs; rw [if_neg (by omega)]
    rw [hd]
    unfold Go.Lib.itoa
    by_cases cn : x < 0
    · rw [decide_eq_true cn, if_pos rfl, if_pos cn]
    · rw [decide_eq_false cn, if_neg (by decide), if_neg cn, show x.natAbs = x.toNat by omega]

/-! ### the lines -/
def okR (x : OpS) : Bool := decide (-9999999 ≤ x.f0) && decide (x.f0 ≤ 9999999) && (decide (-9999999 ≤ x.f1) && decide (x.f1 ≤ 9999999)) && (decide (-9999999 ≤ x.f2) && decide (x.f2 ≤ 9999999))
def lineP (x : OpS) : List UInt8 := [111, 112, 32] ++ Go.Lib.itoa x.f0 ++ [32] ++ Go.Lib.itoa x.f1 ++ [32] ++ Go.Lib.itoa x.f2 ++ [10]
def linesP : List OpS → List UInt8 → List UInt8 × Bool
  | [], out => (out, true)
  | x :: r, out => if okR x then linesP r (out ++ lineP x) else ([], false)
theorem okR_iff (x : OpS) : okR x = true ↔ (-9999999 ≤ x.f0 ∧ x.f0 ≤ 9999999) ∧ (-9999999 ≤ x.f1 ∧ x.f1 ≤ 9999999) ∧ (-9999999 ≤ x.f2 ∧ x.f2 ≤ 9999999) := by
  unfold okR; simp only [Bool.and_eq_true, decide_eq_true_eq]; omega
theorem itoa_le {x : Int} (h : -9999999 ≤ x ∧ x ≤ 9999999) : (Go.Lib.itoa x).length ≤ 21 := Go.Lib.itoa_length_le x (by omega) (by omega)
theorem lineP_le {x : OpS} (h : okR x = true) : (lineP x).length ≤ 70 := by
  obtain ⟨a, b, c⟩ := (okR_iff x).mp h
  have := itoa_le a; have := itoa_le b; have := itoa_le c
  unfold lineP
  simp only [List.length_append, List.length_cons, List.length_nil]
  omega
theorem sIn_f (a b c : Int) : spec_l01In.f a b c = some (decide (b ≤ a) && decide (a ≤ c)) := by
  unfold spec_l01In.f
  by_cases h : b ≤ a
  · rw [if_pos h]; simp [h]
  · rw [if_neg h]; simp [h]
theorem rdT_at (l : List OpS) (i : Nat) (h : i < l.length) : rd_T42 l (i : Int) = l[i] := by unfold rd_T42; rw [Int.toNat_natCast, getD_at _ _ _ h]
theorem sline_j1 (l : List OpS) (out : List UInt8) (ho : out.length ≤ 1000000) (i : Int) (x : OpS) (hx : okR x = true) (r : ByteArray × Bool) (hE : Ev (fun k => spec_OpLines.l0 k l (bs (out ++ lineP x)) (wrap64 (i + 1))) r) :
    Ev (fun k => spec_OpLines.j1 k l (bs out) i false x.f0 x.f1 x.f2) r := by
  obtain ⟨a, b, c⟩ := (okR_iff x).mp hx
  have l1 := itoa_le a; have l2 := itoa_le b; have l3 := itoa_le c
  have g1 : (bs out).size + 3 ≤ 9223372036854775807 := by rw [bs_size]; omega
  have e1 : bs out ++ (⟨#[111, 112, 32]⟩ : ByteArray) = bs (out ++ [111, 112, 32]) := bs_app out [111, 112, 32]
  refine Ev.step (fun k => by rw [spec_OpLines.j1, if_neg (by decide), if_pos g1, e1]) ?_
  refine Ev.bind (num_ev x.f0 (by omega) (by omega)) ?_
  have g2 : (bs (out ++ [111, 112, 32])).size + (bs (Go.Lib.itoa x.f0)).size ≤ 9223372036854775807 := by rw [bs_size, bs_size]; simp; omega
  have e2 : bs (out ++ [111, 112, 32]) ++ bs (Go.Lib.itoa x.f0) = bs ((out ++ [111, 112, 32]) ++ Go.Lib.itoa x.f0) := bs_app _ _
  have g3 : (bs ((out ++ [111, 112, 32]) ++ Go.Lib.itoa x.f0)).size + 1 ≤ 9223372036854775807 := by rw [bs_size]; simp; omega
  have e3 : bs ((out ++ [111, 112, 32]) ++ Go.Lib.itoa x.f0) ++ (⟨#[32]⟩ : ByteArray) = bs (((out ++ [111, 112, 32]) ++ Go.Lib.itoa x.f0) ++ [32]) := bs_app _ [32]
  refine Ev.congr (fun k => by rw [if_pos g2, e2, if_pos g3, e3]) ?_
  refine Ev.bind (num_ev x.f1 (by omega) (by omega)) ?_
  have g4 : (bs (((out ++ [111, 112, 32]) ++ Go.Lib.itoa x.f0) ++ [32])).size + (bs (Go.Lib.itoa x.f1)).size ≤ 9223372036854775807 := by rw [bs_size, bs_size]; simp; omega
  have e4 := bs_app (((out ++ [111, 112, 32]) ++ Go.Lib.itoa x.f0) ++ [32]) (Go.Lib.itoa x.f1)
  have g5 : (bs ((((out ++ [111, 112, 32]) ++ Go.Lib.itoa x.f0) ++ [32]) ++ Go.Lib.itoa x.f1)).size + 1 ≤ 9223372036854775807 := by rw [bs_size]; simp; omega
  have e5 : bs ((((out ++ [111, 112, 32]) ++ Go.Lib.itoa x.f0) ++ [32]) ++ Go.Lib.itoa x.f1) ++ (⟨#[32]⟩ : ByteArray) = bs (((((out ++ [111, 112, 32]) ++ Go.Lib.itoa x.f0) ++ [32]) ++ Go.Lib.itoa x.f1) ++ [32]) := bs_app _ [32]
  refine Ev.congr (fun k => by rw [if_pos g4, e4, if_pos g5, e5]) ?_
  refine Ev.bind (num_ev x.f2 (by omega) (by omega)) ?_
  have g6 : (bs (((((out ++ [111, 112, 32]) ++ Go.Lib.itoa x.f0) ++ [32]) ++ Go.Lib.itoa x.f1) ++ [32])).size + (bs (Go.Lib.itoa x.f2)).size ≤ 9223372036854775807 := by rw [bs_size, bs_size]; simp; omega
  have e6 := bs_app (((((out ++ [111, 112, 32]) ++ Go.Lib.itoa x.f0) ++ [32]) ++ Go.Lib.itoa x.f1) ++ [32]) (Go.Lib.itoa x.f2)
  have g7 : (bs ((((((out ++ [111, 112, 32]) ++ Go.Lib.itoa x.f0) ++ [32]) ++ Go.Lib.itoa x.f1) ++ [32]) ++ Go.Lib.itoa x.f2)).size + 1 ≤ 9223372036854775807 := by rw [bs_size]; simp; omega
  have e7 : bs ((((((out ++ [111, 112, 32]) ++ Go.Lib.itoa x.f0) ++ [32]) ++ Go.Lib.itoa x.f1) ++ [32]) ++ Go.Lib.itoa x.f2) ++ (⟨#[10]⟩ : ByteArray) = bs (out ++ lineP x) := by
    rw [show (⟨#[10]⟩ : ByteArray) = bs [10] from rfl, bs_app]
    unfold lineP
    simp only [List.append_assoc]
  exact Ev.congr (fun k => by rw [if_pos g6, e6, if_pos g7, e7]) hE
theorem slines_l0 (l : List OpS) (hl : l.length ≤ 300) : ∀ (d i : Nat) (out : List UInt8), d = l.length - i → i ≤ l.length → out.length ≤ 70 * i → Ev (fun k => spec_OpLines.l0 k l (bs out) i) (bs (linesP (l.drop i) out).1, (linesP (l.drop i) out).2) := by
  intro d
  induction d with
  | zero =>
    intro i out hd hi ho
    have g : ¬ ((i : Int) < (l.length : Int)) := by omega
    rw [List.drop_eq_nil_of_le (by omega)]
    exact Ev.at1 fun k => by rw [spec_OpLines.l0, if_neg g]; rfl
  | succ d ih =>
    intro i out hd hi ho
    have hlt : i < l.length := by omega
    have g : (i : Int) < (l.length : Int) := by omega
    have g0 : (0 : Int) ≤ (i : Int) := by omega
    have hr := rdT_at l i hlt
    rw [List.drop_eq_getElem_cons hlt]
    have hb : ∀ b : Bool, b = true → Ev (fun k => spec_OpLines.j1 k l (bs out) i b (l[i]).f0 (l[i]).f1 (l[i]).f2) (bs [], false) := fun b hb => by
      subst hb; exact Ev.at1 fun k => by rw [spec_OpLines.j1, if_pos rfl]; rfl
    refine Ev.step (fun k => by rw [spec_OpLines.l0, if_pos g, if_pos g0, hr, sIn_f, sIn_f, sIn_f, Option.bind_some, Option.bind_some, Option.bind_some]) ?_
    simp only [linesP]
    cases hx : okR l[i] with
    | true =>
      obtain ⟨⟨a1, a2⟩, ⟨b1, b2⟩, ⟨c1, c2⟩⟩ := (okR_iff _).mp hx
      have hll := lineP_le hx
      rw [if_pos rfl]
      rw [decide_eq_true a1, decide_eq_true a2, decide_eq_true b1, decide_eq_true b2, decide_eq_true c1, decide_eq_true c2]
      refine Ev.congr (fun k => if_pos rfl) ?_
      refine Ev.congr (fun k => if_pos rfl) ?_
      refine sline_j1 l out (by omega) i l[i] hx _ ?_
      rw [wrap_succ (n := l.length) hlt (by omega)]
      exact ih (i + 1) _ (by omega) (by omega) (by rw [List.length_append]; omega)
    | false =>
      rw [if_neg (by decide)]
      have hn : ¬ ((-9999999 ≤ (l[i]).f0 ∧ (l[i]).f0 ≤ 9999999) ∧ (-9999999 ≤ (l[i]).f1 ∧ (l[i]).f1 ≤ 9999999) ∧ (-9999999 ≤ (l[i]).f2 ∧ (l[i]).f2 ≤ 9999999)) := fun h => by rw [(okR_iff _).mpr h] at hx; cases hx
      by_cases ca : -9999999 ≤ (l[i]).f0 ∧ (l[i]).f0 ≤ 9999999
      · refine Ev.congr (fun k => if_pos (by simpa using ca)) ?_
        by_cases cb : -9999999 ≤ (l[i]).f1 ∧ (l[i]).f1 ≤ 9999999
        · refine Ev.congr (fun k => if_pos (by simpa using cb)) ?_
          have cc : ¬ (-9999999 ≤ (l[i]).f2 ∧ (l[i]).f2 ≤ 9999999) := fun h => hn ⟨ca, cb, h⟩
          exact hb _ (by rw [← Bool.decide_and, decide_eq_false cc]; rfl)
        · refine Ev.congr (fun k => if_neg (by simpa using cb)) ?_
          exact hb _ rfl
      · refine Ev.congr (fun k => if_neg (by simpa using ca)) ?_
        exact hb _ rfl
def fullP (l : List OpS) : List UInt8 × Bool := if l.length ≤ 300 then linesP l [] else ([], false)
theorem sLines_ev (l : List OpS) : Ev (fun k => spec_OpLines.f k l) (bs (fullP l).1, (fullP l).2) := by
  unfold spec_OpLines.f fullP
  by_cases c : l.length ≤ 300
  · rw [if_pos c]
    refine Ev.congr (fun k => if_neg (by omega)) ?_
    have h := slines_l0 l c l.length 0 [] (by omega) (by omega) (by simp)
    rw [List.drop_zero] at h
    exact h
  · rw [if_neg c]
    exact Ev.congr (f := fun _ => some (bs [], false)) (fun k => if_pos (by omega)) (Ev.now _)
/- the program's -/
theorem itoa_f (x : Int) (h : -9999999 ≤ x ∧ x ≤ 9999999) : strconv_Itoa.f x = some (bs (Go.Lib.itoa x)) := by
  unfold strconv_Itoa.f; rw [if_pos (by omega)]; rfl
def spP (x : OpS) : List UInt8 := Go.Lib.itoa x.f0 ++ ([32] ++ Go.Lib.itoa x.f1 ++ ([32] ++ Go.Lib.itoa x.f2))
theorem spaced_ev (x : OpS) (hx : okR x = true) : Ev (fun k => impl_spaced.f k [x.f0, x.f1, x.f2]) (bs (spP x)) := by
  obtain ⟨a, b, c⟩ := (okR_iff x).mp hx
  have l1 := itoa_le a; have l2 := itoa_le b; have l3 := itoa_le c
  have i1 := itoa_f x.f0 a; have i2 := itoa_f x.f1 b; have i3 := itoa_f x.f2 c
  have hj : joinB [bs (Go.Lib.itoa x.f0), bs (Go.Lib.itoa x.f1), bs (Go.Lib.itoa x.f2)] (⟨#[32]⟩ : ByteArray) = spP x := by
    unfold joinB
    simp only [List.map_cons, List.map_nil, bs_list]
    rw [Go.Lib.join_cons]
    unfold Go.Lib.joinTail spP
    simp
  have hf : strings_Join.f [bs (Go.Lib.itoa x.f0), bs (Go.Lib.itoa x.f1), bs (Go.Lib.itoa x.f2)] (⟨#[32]⟩ : ByteArray) = some (bs (spP x)) := by
    unfold strings_Join.f
    rw [hj, if_pos ⟨by simp, by unfold spP; simp; omega⟩]; rfl
  have w1 : wrap64 (0 + 1) = 1 := by unfold wrap64; omega
  have w2 : wrap64 (1 + 1) = 2 := by unfold wrap64; omega
  have w3 : wrap64 (2 + 1) = 3 := by unfold wrap64; omega
  have r0 : rd [x.f0, x.f1, x.f2] 0 = x.f0 := rfl
  have r1 : rd [x.f0, x.f1, x.f2] 1 = x.f1 := rfl
  have r2 : rd [x.f0, x.f1, x.f2] 2 = x.f2 := rfl
  refine ⟨4, fun k hk => ?_⟩
  obtain ⟨q, rfl⟩ : ∃ q, k = q + 4 := ⟨k - 4, by omega⟩
  show impl_spaced.f (q + 4) _ = _
  unfold impl_spaced.f
  simp only [List.length_cons, List.length_nil]
  rw [impl_spaced.l0, if_pos (by decide), if_pos (by decide), if_pos (by simp), r0, i1, Option.bind_some, if_pos (by simp), w1]
  rw [impl_spaced.l0, if_pos (by decide), if_pos (by decide), if_pos (by simp), r1, i2, Option.bind_some, if_pos (by simp), w2]
  rw [impl_spaced.l0, if_pos (by decide), if_pos (by decide), if_pos (by simp), r2, i3, Option.bind_some, if_pos (by simp), w3]
  rw [impl_spaced.l0, if_neg (by decide)]
  show (strings_Join.f [bs (Go.Lib.itoa x.f0), bs (Go.Lib.itoa x.f1), bs (Go.Lib.itoa x.f2)] (⟨#[32]⟩ : ByteArray)).bind _ = _
  rw [hf]; rfl
theorem ilines_l0 (l : List OpS) (hl : l.length ≤ 300) : ∀ (d i : Nat) (out : List UInt8), d = l.length - i → i ≤ l.length → out.length ≤ 70 * i → Ev (fun k => impl_OpLines.l0 k (bs out) l l.length i) (bs (linesP (l.drop i) out).1, (linesP (l.drop i) out).2) := by
  intro d
  induction d with
  | zero =>
    intro i out hd hi ho
    have g : ¬ ((i : Int) < (l.length : Int)) := by omega
    rw [List.drop_eq_nil_of_le (by omega)]
    exact Ev.at1 fun k => by rw [impl_OpLines.l0, if_neg g]; rfl
  | succ d ih =>
    intro i out hd hi ho
    have hlt : i < l.length := by omega
    have g : (i : Int) < (l.length : Int) := by omega
    have g0 : (0 : Int) ≤ (i : Int) := by omega
    have hr := rdT_at l i hlt
    rw [List.drop_eq_getElem_cons hlt]
    refine Ev.step (fun k => by rw [impl_OpLines.l0, if_pos g, if_pos g0, if_pos g, hr]) ?_
    simp only [linesP]
    have hmm : okR l[i] = true ↔ ¬ mn (mn (l[i]).f0 (l[i]).f1) (l[i]).f2 < -9999999 ∧ ¬ mx (mx (l[i]).f0 (l[i]).f1) (l[i]).f2 > 9999999 := by
      rw [okR_iff]
      unfold mn mx
      constructor
      · intro h; constructor <;> (repeat' split) <;> omega
      · intro ⟨h, h'⟩
        revert h h'
        (repeat' split) <;> omega
    by_cases c1 : mn (mn (l[i]).f0 (l[i]).f1) (l[i]).f2 < -9999999
    · have hx : okR l[i] = false := by
        cases h : okR l[i] with
        | false => rfl
        | true => exact absurd c1 (hmm.mp h).1
      rw [hx, if_neg (by decide)]
      exact Ev.congr (f := fun _ => some (bs [], false)) (fun k => if_pos c1) (Ev.now _)
    refine Ev.congr (fun k => if_neg c1) ?_
    by_cases c2 : mx (mx (l[i]).f0 (l[i]).f1) (l[i]).f2 > 9999999
    · have hx : okR l[i] = false := by
        cases h : okR l[i] with
        | false => rfl
        | true => exact absurd c2 (hmm.mp h).2
      rw [hx, if_neg (by decide)]
      exact Ev.congr (f := fun _ => some (bs [], false)) (fun k => if_pos c2) (Ev.now _)
    refine Ev.congr (fun k => if_neg c2) ?_
    have hx : okR l[i] = true := hmm.mpr ⟨c1, c2⟩
    have hll := lineP_le hx
    obtain ⟨a, b, c⟩ := (okR_iff _).mp hx
    have l1 := itoa_le a; have l2 := itoa_le b; have l3 := itoa_le c
    have hsp : (spP l[i]).length ≤ 65 := by unfold spP; simp only [List.length_append, List.length_cons, List.length_nil]; omega
    rw [hx, if_pos rfl]
    refine Ev.bind (spaced_ev l[i] hx) ?_
    have e1 : (⟨#[111, 112, 32]⟩ : ByteArray) ++ bs (spP l[i]) = bs ([111, 112, 32] ++ spP l[i]) := bs_app [111, 112, 32] _
    have e2 : bs ([111, 112, 32] ++ spP l[i]) ++ (⟨#[10]⟩ : ByteArray) = bs (lineP l[i]) := by
      rw [show (⟨#[10]⟩ : ByteArray) = bs [10] from rfl, bs_app]
      unfold lineP spP
      simp only [List.append_assoc]
    have g1 : 3 + (bs (spP l[i])).size ≤ 9223372036854775807 := by rw [bs_size]; omega
    have g2 : (bs ([111, 112, 32] ++ spP l[i])).size + 1 ≤ 9223372036854775807 := by rw [bs_size, List.length_append]; simp only [List.length_cons, List.length_nil]; omega
    have g3 : (bs out).size + (bs (lineP l[i])).size ≤ 9223372036854775807 := by rw [bs_size, bs_size]; omega
    have hw := wrap_succ (i := i) (n := l.length) hlt (by omega)
    refine Ev.congr (fun k => by rw [if_pos g1, e1, if_pos g2, e2, if_pos g3, bs_app, hw]) ?_
    clear hw
    exact ih (i + 1) _ (by omega) (by omega) (by rw [List.length_append]; omega)
theorem iLines_ev (l : List OpS) : Ev (fun k => impl_OpLines.f k l) (bs (fullP l).1, (fullP l).2) := by
  unfold impl_OpLines.f fullP
  by_cases c : l.length ≤ 300
  · rw [if_pos c]
    refine Ev.congr (fun k => if_neg (by omega)) ?_
    have h := ilines_l0 l c l.length 0 [] (by omega) (by omega) (by simp)
    rw [List.drop_zero] at h
    exact h
  · rw [if_neg c]
    exact Ev.congr (f := fun _ => some (bs [], false)) (fun k => if_pos (by omega)) (Ev.now _)
end Go.Proofs.YtjnpmcgefkiocaaDoor.Q
