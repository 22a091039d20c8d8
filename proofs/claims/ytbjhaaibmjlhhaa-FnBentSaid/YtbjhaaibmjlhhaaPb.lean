/- Plain laws of the blocks: what packing makes, what reading a block and a script tells. No program here. -/
import Derived.Test.YtbjhaaibmjlhhaaPa
import Derived.Test.YtbjhaaibmjlhhaaRa
namespace Go.Proofs.Ytbjhaaibmjlhhaa.Q
open Go.RowKit Go.Proofs.YtbjhaaibmjlhhaaW.PrintWords Go.Proofs.YtbjhaaibmjlhhaaW.PrintLast Go.Proofs.YtbjhaaibmjlhhaaW.PrintMore
set_option linter.unusedVariables false
set_option linter.unusedSimpArgs false

theorem opOk_iff (x : OpS) : opOk x = true ↔ 0 ≤ x.f0 ∧ x.f0 ≤ 6 ∧ 0 ≤ x.f1 ∧ x.f1 ≤ 4 ∧ (x.f0 = 0 → x.f1 = 0) ∧ (1 ≤ x.f0 ∧ x.f0 ≤ 3 → 1 ≤ x.f2 ∧ x.f2 ≤ 60) ∧ (¬ (1 ≤ x.f0 ∧ x.f0 ≤ 3) → x.f2 = 0) := by
  unfold opOk
  by_cases c : 1 ≤ x.f0 ∧ x.f0 ≤ 3
  · rw [if_pos c]; simp only [Bool.and_eq_true, decide_eq_true_eq, Bool.not_eq_true', Bool.and_eq_false_imp, Bool.not_eq_false']; omega
  · rw [if_neg c]; simp only [Bool.and_eq_true, decide_eq_true_eq, Bool.not_eq_true', Bool.and_eq_false_imp, Bool.not_eq_false']; omega

def enc (x : OpS) : List Int := if 1 ≤ x.f0 ∧ x.f0 ≤ 3 then [5 * x.f0 + x.f1, x.f2] else [5 * x.f0 + x.f1]
def encs (c : List OpS) : List Int := (c.map enc).flatten
def sumFrom (s : Int) (l : List Int) : Int := l.foldl (fun s x => (31 * s + x) % 65521) s
def sealP (l : List Int) : List Int := l ++ [sumFrom 1 l / 256, sumFrom 1 l % 256]
def head2 (c : List OpS) : List Int := [(c.length : Int), ((encs c).length : Int)]
def blockOf (c : List OpS) : List Int := sealP (head2 c ++ encs c)
def packsN : Nat → List OpS → List Int
  | 0, _ => []
  | d + 1, l => if l = [] then [] else blockOf (l.take 16) ++ packsN d (l.drop 16)
def packs (l : List OpS) : List Int := packsN l.length l
theorem packsN_any : ∀ (d e : Nat) (l : List OpS), l.length ≤ d → l.length ≤ e → packsN d l = packsN e l
  | 0, 0, l => fun _ _ => rfl
  | 0, e + 1, l => fun h _ => by obtain rfl : l = [] := List.eq_nil_of_length_eq_zero (by omega); simp [packsN]
  | d + 1, 0, l => fun _ h => by obtain rfl : l = [] := List.eq_nil_of_length_eq_zero (by omega); simp [packsN]
  | d + 1, e + 1, l => fun h h' => by
    rw [packsN, packsN]
    by_cases c : l = []
    · rw [if_pos c, if_pos c]
    · have : 0 < l.length := List.length_pos_iff.mpr c
      rw [if_neg c, if_neg c, packsN_any d e (l.drop 16) (by rw [List.length_drop]; omega) (by rw [List.length_drop]; omega)]
theorem packs_nil : packs [] = [] := rfl
theorem packs_cons (l : List OpS) (h : l ≠ []) : packs l = blockOf (l.take 16) ++ packs (l.drop 16) := by
  have : 0 < l.length := List.length_pos_iff.mpr h
  unfold packs
  rw [packsN_any l.length (l.length + 1) l (by omega) (by omega), packsN, if_neg h, packsN_any l.length (l.drop 16).length (l.drop 16) (by rw [List.length_drop]; omega) (by omega)]

/-! ### sizes, bytes -/
theorem enc_len (x : OpS) : 1 ≤ (enc x).length ∧ (enc x).length ≤ 2 := by unfold enc; split <;> simp
theorem encs_cons (x : OpS) (c : List OpS) : encs (x :: c) = enc x ++ encs c := rfl
theorem encs_nil : encs [] = [] := rfl
theorem encs_app (a b : List OpS) : encs (a ++ b) = encs a ++ encs b := by unfold encs; rw [List.map_append, List.flatten_append]
theorem encs_len (c : List OpS) : c.length ≤ (encs c).length ∧ (encs c).length ≤ 2 * c.length := by
  induction c with
  | nil => simp [encs]
  | cons x c ih => rw [encs_cons, List.length_append, List.length_cons]; have := enc_len x; omega
theorem enc_byt (x : OpS) (h : opOk x = true) : Byt (enc x) := by
  have := (opOk_iff x).mp h
  unfold enc Byt
  split
  · intro y hy; simp at hy; omega
  · intro y hy; simp at hy; omega
theorem byt_app {a b : List Int} (ha : Byt a) (hb : Byt b) : Byt (a ++ b) := fun x hx => (List.mem_append.mp hx).elim (ha x) (hb x)
theorem byt_nil : Byt [] := fun _ h => by simp at h
theorem byt_take {l : List Int} (h : Byt l) (n : Nat) : Byt (l.take n) := fun x hx => h x (List.mem_of_mem_take hx)
theorem byt_drop {l : List Int} (h : Byt l) (n : Nat) : Byt (l.drop n) := fun x hx => h x (List.mem_of_mem_drop hx)
theorem encs_byt (c : List OpS) (h : c.all opOk = true) : Byt (encs c) := by
  induction c with
  | nil => exact byt_nil
  | cons x c ih => rw [List.all_cons, Bool.and_eq_true] at h; rw [encs_cons]; exact byt_app (enc_byt x h.1) (ih h.2)
theorem sum_step (s x : Int) : 0 ≤ (31 * s + x) % 65521 ∧ (31 * s + x) % 65521 < 65521 := by omega
theorem sumFrom_bd (l : List Int) : ∀ (s : Int), 0 ≤ s → s < 65521 → 0 ≤ sumFrom s l ∧ sumFrom s l < 65521 := by
  induction l with
  | nil => exact fun s h0 h1 => ⟨h0, h1⟩
  | cons x l ih => exact fun s h0 h1 => ih _ (sum_step s x).1 (sum_step s x).2
theorem sum_bd (l : List Int) : 0 ≤ sumFrom 1 l ∧ sumFrom 1 l < 65521 := sumFrom_bd l 1 (by omega) (by omega)
theorem seal_len (l : List Int) : (sealP l).length = l.length + 2 := by unfold sealP; simp
theorem seal_byt {l : List Int} (h : Byt l) : Byt (sealP l) := by
  have := sum_bd l
  refine byt_app h ?_
  intro x hx; simp at hx; omega
theorem block_len (c : List OpS) : (blockOf c).length = (encs c).length + 4 := by unfold blockOf head2; rw [seal_len]; simp
theorem head_byt (c : List OpS) (h : c.length ≤ 16) : Byt (head2 c) := by
  have := encs_len c
  intro x hx; unfold head2 at hx; simp at hx; omega
theorem block_byt (c : List OpS) (h : c.all opOk = true) (hl : c.length ≤ 16) : Byt (blockOf c) := seal_byt (byt_app (head_byt c hl) (encs_byt c h))
theorem all_take {l : List OpS} (h : l.all opOk = true) (n : Nat) : (l.take n).all opOk = true := by
  rw [List.all_eq_true] at h ⊢; exact fun x hx => h x (List.mem_of_mem_take hx)
theorem all_drop {l : List OpS} (h : l.all opOk = true) (n : Nat) : (l.drop n).all opOk = true := by
  rw [List.all_eq_true] at h ⊢; exact fun x hx => h x (List.mem_of_mem_drop hx)
theorem packs_byt : ∀ (d : Nat) (l : List OpS), l.length ≤ d → l.all opOk = true → Byt (packs l)
  | 0, l => fun h _ => by obtain rfl : l = [] := List.eq_nil_of_length_eq_zero (by omega); exact byt_nil
  | d + 1, l => fun h ha => by
    by_cases c : l = []
    · rw [c]; exact byt_nil
    · have : 0 < l.length := List.length_pos_iff.mpr c
      rw [packs_cons l c]
      exact byt_app (block_byt _ (all_take ha 16) (by rw [List.length_take]; omega)) (packs_byt d (l.drop 16) (by rw [List.length_drop]; omega) (all_drop ha 16))
theorem packs_len : ∀ (d : Nat) (l : List OpS), l.length ≤ d → l.length ≤ (packs l).length ∧ (packs l).length ≤ 6 * l.length
  | 0, l => fun h => by obtain rfl : l = [] := List.eq_nil_of_length_eq_zero (by omega); simp [packs_nil]
  | d + 1, l => fun h => by
    by_cases c : l = []
    · rw [c]; simp [packs_nil]
    · have : 0 < l.length := List.length_pos_iff.mpr c
      have h1 := packs_len d (l.drop 16) (by rw [List.length_drop]; omega)
      have h2 := encs_len (l.take 16)
      rw [packs_cons l c, List.length_append, block_len]
      rw [List.length_drop] at h1; rw [List.length_take] at h2
      omega

/-! ### reading -/
def unL : List Int → Option (OpS × List Int)
  | [] => none
  | x :: r => if 1 ≤ x / 5 ∧ x / 5 ≤ 3 then (match r with
      | [] => none
      | y :: r' => if opOk ⟨x / 5, x % 5, y⟩ then some (⟨x / 5, x % 5, y⟩, r') else none)
    else if opOk ⟨x / 5, x % 5, 0⟩ then some (⟨x / 5, x % 5, 0⟩, r) else none
def unsL : Nat → List Int → Option (List OpS × List Int)
  | 0, l => some ([], l)
  | n + 1, l => (unL l).bind fun p => (unsL n p.2).bind fun q => some (p.1 :: q.1, q.2)
theorem unL_enc (x : OpS) (h : opOk x = true) (r : List Int) : unL (enc x ++ r) = some (x, r) := by
  have hh := (opOk_iff x).mp h
  obtain ⟨a, t, v⟩ := x
  simp only at hh
  have e1 : (5 * a + t) / 5 = a := by omega
  have e2 : (5 * a + t) % 5 = t := by omega
  unfold enc
  by_cases c : 1 ≤ a ∧ a ≤ 3
  · rw [if_pos c]
    simp only [List.cons_append, List.nil_append, unL]
    rw [e1, e2, if_pos c, if_pos h]
  · rw [if_neg c]
    simp only [List.cons_append, List.nil_append, unL]
    have hv : v = 0 := hh.2.2.2.2.2.2 c
    subst hv
    rw [e1, e2, if_neg c, if_pos h]
theorem unsL_encs (c : List OpS) (h : c.all opOk = true) (r : List Int) : unsL c.length (encs c ++ r) = some (c, r) := by
  induction c with
  | nil => rfl
  | cons x c ih =>
    rw [List.all_cons, Bool.and_eq_true] at h
    rw [encs_cons, List.length_cons, List.append_assoc, unsL, unL_enc x h.1]
    simp only [Option.bind_some]
    rw [ih h.2]; rfl
theorem unL_app {l r s : List Int} {x : OpS} (h : unL l = some (x, r)) : unL (l ++ s) = some (x, r ++ s) := by
  cases l with
  | nil => simp [unL] at h
  | cons a l =>
    simp only [List.cons_append, unL] at h ⊢
    by_cases c : 1 ≤ a / 5 ∧ a / 5 ≤ 3
    · rw [if_pos c] at h ⊢
      cases l with
      | nil => simp at h
      | cons y l =>
        simp only [List.cons_append] at h ⊢
        by_cases d : opOk ⟨a / 5, a % 5, y⟩ = true
        · rw [if_pos d] at h ⊢; injection h with h; injection h with h1 h2; rw [h1, h2]
        · rw [if_neg d] at h; cases h
    · rw [if_neg c] at h ⊢
      by_cases d : opOk ⟨a / 5, a % 5, 0⟩ = true
      · rw [if_pos d] at h ⊢; injection h with h; injection h with h1 h2; rw [h1, h2]
      · rw [if_neg d] at h; cases h
theorem unsL_app : ∀ (n : Nat) {l r s : List Int} {x : List OpS}, unsL n l = some (x, r) → unsL n (l ++ s) = some (x, r ++ s)
  | 0, l, r, s, x => fun h => by simp only [unsL] at h ⊢; injection h with h; injection h with h1 h2; rw [h1, h2]
  | n + 1, l, r, s, x => fun h => by
    simp only [unsL] at h ⊢
    obtain ⟨p, hp, h⟩ := Option.bind_eq_some_iff.mp h
    obtain ⟨q, hq, h⟩ := Option.bind_eq_some_iff.mp h
    rw [unL_app (x := p.1) (r := p.2) hp]
    simp only [Option.bind_some]
    rw [unsL_app n (x := q.1) (r := q.2) hq]
    injection h with h; injection h with h1 h2
    simp only [Option.bind_some]; rw [h1, h2]
theorem unsL_num : ∀ (n m : Nat) {l : List Int} {x y : List OpS}, unsL n l = some (x, []) → unsL m l = some (y, []) → n = m
  | 0, 0, l, x, y => fun _ _ => rfl
  | 0, m + 1, l, x, y => fun h k => by simp only [unsL] at h k; injection h with h; injection h with h1 h2; subst h2; simp [unL] at k
  | n + 1, 0, l, x, y => fun k h => by simp only [unsL] at h k; injection h with h; injection h with h1 h2; subst h2; simp [unL] at k
  | n + 1, m + 1, l, x, y => fun h k => by
    simp only [unsL] at h k
    obtain ⟨p, hp, h⟩ := Option.bind_eq_some_iff.mp h
    obtain ⟨q, hq, h⟩ := Option.bind_eq_some_iff.mp h
    obtain ⟨p', hp', k⟩ := Option.bind_eq_some_iff.mp k
    obtain ⟨q', hq', k⟩ := Option.bind_eq_some_iff.mp k
    rw [hp] at hp'; injection hp' with hp'; subst hp'
    injection h with h; injection h with h1 h2
    injection k with k; injection k with k1 k2
    have a : unsL n p.2 = some (q.1, []) := by rw [hq, ← h2]
    have b : unsL m p.2 = some (q'.1, []) := by rw [hq', ← k2]
    rw [unsL_num n m a b]
/- the block at the head of bytes -/
def blkP (b : List Int) : Option (List OpS × Nat) :=
  if 2 ≤ b.length ∧ 1 ≤ rd b 0 ∧ rd b 0 ≤ 16 ∧ rd b 1 + 4 ≤ b.length then
    (unsL (rd b 0).toNat ((b.take (2 + (rd b 1).toNat)).drop 2)).bind fun p =>
      if p.2 = [] ∧ sumFrom 1 (b.take (2 + (rd b 1).toNat)) = 256 * rd b (2 + (rd b 1).toNat : Nat) + rd b (2 + (rd b 1).toNat + 1 : Nat) then some (p.1, (rd b 1).toNat + 4) else none
  else none
theorem blk_torn (b : List Int) (h : ¬ (2 ≤ b.length ∧ 1 ≤ rd b 0 ∧ rd b 0 ≤ 16 ∧ rd b 1 + 4 ≤ b.length)) : blkP b = none := by unfold blkP; rw [if_neg h]
theorem rd_app (a b : List Int) (i : Nat) (h : i < a.length) : rd (a ++ b) (i : Int) = rd a (i : Int) := by
  unfold rd; rw [Int.toNat_natCast, List.getD_eq_getElem?_getD, List.getD_eq_getElem?_getD, List.getElem?_append_left h]
theorem rd_take (a : List Int) (n i : Nat) (h : i < n) : rd (a.take n) (i : Int) = rd a (i : Int) := by
  unfold rd; rw [Int.toNat_natCast, List.getD_eq_getElem?_getD, List.getD_eq_getElem?_getD, List.getElem?_take]; rw [if_pos h]
theorem block_rd0 (c : List OpS) : rd (blockOf c) 0 = (c.length : Int) ∧ rd (blockOf c) 1 = ((encs c).length : Int) := ⟨rfl, rfl⟩
theorem blk_whole (c : List OpS) (h : c.all opOk = true) (h0 : 0 < c.length) (h1 : c.length ≤ 16) (r : List Int) : blkP (blockOf c ++ r) = some (c, (blockOf c).length) := by
  have hl := block_len c
  have e0 : rd (blockOf c ++ r) 0 = (c.length : Int) := rfl
  have e1 : rd (blockOf c ++ r) 1 = ((encs c).length : Int) := rfl
  have et : (blockOf c ++ r).take (2 + (encs c).length) = head2 c ++ encs c := by
    unfold blockOf sealP
    rw [List.append_assoc, List.take_append_of_le_length (by rw [List.length_append]; unfold head2; simp <;> omega)]
    exact List.take_of_length_le (by rw [List.length_append]; unfold head2; simp <;> omega)
  have hz : (head2 c ++ encs c).length = 2 + (encs c).length := by rw [List.length_append]; unfold head2; simp <;> omega
  have hb := sum_bd (head2 c ++ encs c)
  have g0 : rd (blockOf c ++ r) ((2 + (encs c).length : Nat) : Int) = sumFrom 1 (head2 c ++ encs c) / 256 := by
    unfold blockOf sealP rd
    rw [Int.toNat_natCast, List.append_assoc, List.getD_eq_getElem?_getD, List.getElem?_append_right (by omega), hz, Nat.sub_self]; rfl
  have g1 : rd (blockOf c ++ r) ((2 + (encs c).length + 1 : Nat) : Int) = sumFrom 1 (head2 c ++ encs c) % 256 := by
    unfold blockOf sealP rd
    rw [Int.toNat_natCast, List.append_assoc, List.getD_eq_getElem?_getD, List.getElem?_append_right (by omega), hz, show 2 + (encs c).length + 1 - (2 + (encs c).length) = 1 by omega]; rfl
  unfold blkP
  rw [e0, e1, if_pos (by rw [List.length_append]; omega), Int.toNat_natCast, Int.toNat_natCast, et]
  have hd : (head2 c ++ encs c).drop 2 = encs c ++ [] := by rw [List.append_nil]; rfl
  rw [hd, unsL_encs c h []]
  simp only [Option.bind_some]
  rw [if_pos ⟨trivial, by rw [g0, g1]; omega⟩, hl]
theorem blk_cut (c : List OpS) (h0 : 0 < c.length) (h1 : c.length ≤ 16) (m : Nat) (hm : m < (blockOf c).length) : blkP ((blockOf c).take m) = none := by
  apply blk_torn
  rw [List.length_take]
  intro ⟨g0, g1, g2, g3⟩
  have e1 := rd_take (blockOf c) m 1 (by omega)
  have e2 : rd (blockOf c) ((1 : Nat) : Int) = ((encs c).length : Int) := rfl
  rw [e2] at e1
  have e3 : rd ((blockOf c).take m) 1 = ((encs c).length : Int) := e1
  rw [e3] at g3
  rw [block_len] at hm g3
  omega
/- a script -/
def scanN : Nat → List Int → List OpS × Nat
  | 0, _ => ([], 0)
  | d + 1, b => match blkP b with
    | none => ([], 0)
    | some (o, n) => (o ++ (scanN d (b.drop n)).1, n + (scanN d (b.drop n)).2)
def status (r : List Int) : Int := if r.length = 0 then 0 else if r.length < 2 then 1 else if 1 ≤ rd r 0 ∧ rd r 0 ≤ 16 ∧ 1 ≤ rd r 1 ∧ rd r 1 ≤ 32 ∧ (r.length : Int) < rd r 1 + 4 then 1 else 2
theorem status_cut (c : List OpS) (h0 : 0 < c.length) (h1 : c.length ≤ 16) (m : Nat) (hm : m < (blockOf c).length) : status ((blockOf c).take m) ≠ 2 := by
  have hl := encs_len c
  have hbl := block_len c
  unfold status
  rw [List.length_take]
  by_cases c0 : min m (blockOf c).length = 0
  · rw [if_pos c0]; decide
  rw [if_neg c0]
  by_cases c1 : min m (blockOf c).length < 2
  · rw [if_pos c1]; decide
  rw [if_neg c1]
  have e0 : rd ((blockOf c).take m) 0 = (c.length : Int) := rd_take (blockOf c) m 0 (by omega)
  have e1 : rd ((blockOf c).take m) 1 = ((encs c).length : Int) := rd_take (blockOf c) m 1 (by omega)
  rw [e0, e1, if_pos (by omega)]; decide
theorem scan_packs : ∀ (d : Nat) (l : List OpS) (cut : Nat), l.length ≤ d → l.all opOk = true → cut ≤ (packs l).length → ∃ (j n : Nat), (∀ e, d < e → scanN e ((packs l).take cut) = (l.take j, n)) ∧ j ≤ l.length ∧ (j % 16 = 0 ∨ j = l.length) ∧ n ≤ cut ∧ status (((packs l).take cut).drop n) ≠ 2 ∧ (cut = (packs l).length → j = l.length ∧ n = cut)
  | 0, l, cut => fun h ha hc => by
    have : l = [] := List.eq_nil_of_length_eq_zero (by omega)
    subst this
    have hc0 : cut = 0 := by rw [packs_nil] at hc; exact Nat.le_zero.mp hc
    subst hc0
    refine ⟨0, 0, fun e he => ?_, Nat.le_refl _, .inl rfl, Nat.le_refl _, ?_, fun _ => ⟨rfl, rfl⟩⟩
    · obtain ⟨q, rfl⟩ : ∃ q, e = q + 1 := ⟨e - 1, by omega⟩
      rw [scanN]; rfl
    · decide
  | d + 1, l, cut => fun h ha hc => by
    by_cases c : l = []
    · subst c
      have hc0 : cut = 0 := by rw [packs_nil] at hc; exact Nat.le_zero.mp hc
      subst hc0
      refine ⟨0, 0, fun e he => ?_, Nat.le_refl _, .inl rfl, Nat.le_refl _, ?_, fun _ => ⟨rfl, rfl⟩⟩
      · obtain ⟨q, rfl⟩ : ∃ q, e = q + 1 := ⟨e - 1, by omega⟩
        rw [scanN]; rfl
      · decide
    have hl : 0 < l.length := List.length_pos_iff.mpr c
    have ht0 : 0 < (l.take 16).length := by rw [List.length_take]; omega
    have ht1 : (l.take 16).length ≤ 16 := by rw [List.length_take]; omega
    rw [packs_cons l c] at hc ⊢
    rw [List.length_append] at hc
    by_cases hcut : cut < (blockOf (l.take 16)).length
    · rw [List.take_append_of_le_length (by omega)]
      refine ⟨0, 0, fun e he => ?_, by omega, .inl rfl, by omega, ?_, ?_⟩
      · obtain ⟨q, rfl⟩ : ∃ q, e = q + 1 := ⟨e - 1, by omega⟩
        rw [scanN, blk_cut _ ht0 ht1 cut hcut]; rfl
      · rw [List.drop_zero]; exact status_cut _ ht0 ht1 cut hcut
      · intro he; rw [List.length_append] at he; omega
    · obtain ⟨j, n, hs, hj, hj16, hn, hst, hfull⟩ := scan_packs d (l.drop 16) (cut - (blockOf (l.take 16)).length) (by rw [List.length_drop]; omega) (all_drop ha 16) (by omega)
      have et : (blockOf (l.take 16) ++ packs (l.drop 16)).take cut = blockOf (l.take 16) ++ (packs (l.drop 16)).take (cut - (blockOf (l.take 16)).length) := by
        rw [List.take_append, List.take_of_length_le (by omega)]
      rw [et]
      rw [List.length_drop] at hj hj16 hfull
      refine ⟨(l.take 16).length + j, (blockOf (l.take 16)).length + n, fun e he => ?_, ?_, ?_, by omega, ?_, ?_⟩
      · obtain ⟨q, rfl⟩ : ∃ q, e = q + 1 := ⟨e - 1, by omega⟩
        rw [scanN, blk_whole _ (all_take ha 16) ht0 ht1]
        simp only []
        rw [List.drop_left, hs q (by omega)]
        simp only [Prod.mk.injEq, and_true]
        rw [List.length_take]
        by_cases cl : 16 ≤ l.length
        · rw [Nat.min_eq_left cl, List.take_add]
        · rw [Nat.min_eq_right (by omega), List.take_of_length_le (by omega), List.drop_eq_nil_of_le (by omega), List.take_nil, List.append_nil, List.take_of_length_le (by omega)]
      · rw [List.length_take]; omega
      · rw [List.length_take]; omega
      · rw [← List.drop_drop, List.drop_left]; exact hst
      · intro he
        rw [List.length_append] at he
        have := hfull (by omega)
        rw [List.length_take]; omega
end Go.Proofs.Ytbjhaaibmjlhhaa.Q
