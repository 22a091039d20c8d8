/- What the drawings tell (ops, bytes): they always tell something, within bounds. No program here. -/
import Derived.Test.YtbjhaaibmjlhhaaQx3
import Derived.Test.YtbjhaaibmjlhhaaQx7
namespace Go.Proofs.Ytbjhaaibmjlhhaa.Q
open Go.RowKit Go.Proofs.YtbjhaaibmjlhhaaW.PrintWords Go.Proofs.YtbjhaaibmjlhhaaW.PrintLast Go.Proofs.YtbjhaaibmjlhhaaW.PrintMore
set_option linter.unusedVariables false
set_option linter.unusedSimpArgs false

theorem wrap_succ {i n : Nat} (h : i < n) (hn : n ≤ 9223372036854775807) : wrap64 ((i : Int) + 1) = ((i + 1 : Nat) : Int) := by unfold wrap64; omega
theorem round_ {d k : Nat} (h : d < k) : ∃ q, k = q + 1 := ⟨k - 1, by omega⟩
theorem getD_at {α : Type} (l : List α) (z : α) (i : Nat) (h : i < l.length) : l.getD i z = l[i] := by rw [List.getD_eq_getElem?_getD, List.getElem?_eq_getElem h]; rfl
abbrev OpS := S38
def Byt (l : List Int) : Prop := ∀ x ∈ l, 0 ≤ x ∧ x ≤ 255

/-! ### the general drawings -/
theorem and255 (x : Int) : 0 ≤ Go.bits .and .i64 x 255 ∧ Go.bits .and .i64 x 255 ≤ 255 := by
  have h : (BitVec.ofInt 64 x &&& BitVec.ofInt 64 255).toNat ≤ 255 := by
    rw [BitVec.toNat_and]
    exact Nat.le_trans Nat.and_le_right (by decide)
  show 0 ≤ IntKind.i64.wrap ((BitVec.ofInt 64 x &&& BitVec.ofInt 64 255).toNat : Int) ∧ IntKind.i64.wrap ((BitVec.ofInt 64 x &&& BitVec.ofInt 64 255).toNat : Int) ≤ 255
  rw [i64_w]
  unfold wrap64
  omega
theorem byte_ok (b : List Int) (i h : Int) (hb : b.length ≤ 9223372036854775806) (hi : 0 ≤ i) : ∃ x i' h', spec_l01Byte.f b i h = some (x, i', h') ∧ 0 ≤ i' ∧ 0 ≤ x ∧ x ≤ 255 := by
  unfold spec_l01Byte.f
  by_cases c : i < (b.length : Int)
  · rw [if_pos c, if_pos hi]
    exact ⟨_, _, _, rfl, by unfold wrap64; omega, (and255 _).1, (and255 _).2⟩
  · rw [if_neg c]
    exact ⟨_, _, _, rfl, hi, (and255 _).1, (and255 _).2⟩
theorem below_ok (b : List Int) (i h n : Int) (hb : b.length ≤ 9223372036854775806) (hi : 0 ≤ i) : ∃ x i' h', spec_l01Below.f b i h n = some (x, i', h') ∧ 0 ≤ i' ∧ 0 ≤ x ∧ (0 < n → x < n) := by
  unfold spec_l01Below.f
  by_cases c : n ≤ 0
  · rw [if_pos c]
    exact ⟨_, _, _, rfl, hi, by omega, by omega⟩
  rw [if_neg c]
  obtain ⟨x, i1, h1, e1, hi1, hx0, hx1⟩ := byte_ok b i h hb hi
  by_cases c2 : n ≤ 256
  · rw [if_pos c2, e1, Option.bind_some, if_neg (by omega)]
    exact ⟨_, _, _, rfl, hi1, Int.tmod_nonneg _ hx0, fun _ => Int.tmod_lt_of_pos _ (by omega)⟩
  · obtain ⟨y, i2, h2, e2, hi2, hy0, hy1⟩ := byte_ok b i1 h1 hb hi1
    obtain ⟨z, i3, h3, e3, hi3, hz0, hz1⟩ := byte_ok b i2 h2 hb hi2
    rw [if_neg c2, e1, Option.bind_some, e2, Option.bind_some, e3, Option.bind_some, if_neg (by omega)]
    exact ⟨_, _, _, rfl, hi3, Int.tmod_nonneg _ (by unfold wrap64; omega), fun _ => Int.tmod_lt_of_pos _ (by omega)⟩
theorem once_ok (b : List Int) (i h n : Int) (hb : b.length ≤ 9223372036854775806) (hi : 0 ≤ i) : ∃ x i' h', spec_l01Once.f b i h n = some (x, i', h') ∧ 0 ≤ i' := by
  obtain ⟨x, i1, h1, e1, hi1, _⟩ := below_ok b i h n hb hi
  unfold spec_l01Once.f
  rw [e1, Option.bind_some]
  exact ⟨_, _, _, rfl, hi1⟩
theorem pick_ok (b : List Int) (i h : Int) (l : List Int) (hb : b.length ≤ 9223372036854775806) (hi : 0 ≤ i) (hl : 0 < l.length) : ∃ x i' h', spec_l01PickInt.f b i h l = some (x, i', h') ∧ 0 ≤ i' ∧ x ∈ l := by
  obtain ⟨x, i1, h1, e1, hi1, hx0, hx1⟩ := below_ok b i h l.length hb hi
  unfold spec_l01PickInt.f
  have hx := hx1 (by omega)
  rw [e1, Option.bind_some]
  simp only []
  rw [if_pos hx0, if_pos hx]
  refine ⟨_, _, _, rfl, hi1, ?_⟩
  unfold rd
  rw [getD_at _ _ _ (by omega)]
  exact List.getElem_mem _
theorem new_l (b : List Int) (hb : b.length ≤ 9223372036854775806) : ∀ (d i k : Nat) (h : Int), d = b.length - i → i ≤ b.length → d < k → ∃ h', spec_l01New.l0 k b h (i : Int) = some (b, 0, h')
  | d, i, 0, h => fun _ _ hk => absurd hk (Nat.not_lt_zero _)
  | d, i, k + 1, h => fun hd hi hk => by
    rw [spec_l01New.l0]
    by_cases c : (i : Int) < (b.length : Int)
    · rw [if_pos c]
      by_cases c2 : (i : Int) < 4000
      · rw [if_pos c2, if_pos (by omega), wrap_succ (n := b.length) (by omega) (by omega)]
        exact new_l b hb (d - 1) (i + 1) k _ (by omega) (by omega) (by omega)
      · rw [if_neg c2]; exact ⟨_, rfl⟩
    · rw [if_neg c]; exact ⟨_, rfl⟩
theorem new_ok (b : List Int) (hb : b.length ≤ 9223372036854775806) : ∃ h', Ev (fun k => spec_l01New.f k b) (b, 0, h') := by
  obtain ⟨h', e⟩ := new_l b hb b.length 0 (b.length + 1) (wrap64 (712712 + (b.length : Int))) (by omega) (by omega) (by omega)
  exact ⟨h', Ev.of (g := fun k => spec_l01New.f k b) (spec_l01New.mono b) (k := b.length + 1) e⟩
theorem size_ok (b : List Int) (m : Int) (hm : 0 ≤ m) (hb : b.length ≤ 9223372036854775806) : ∃ n, spec_l01Size.f b m = some n ∧ 0 ≤ n ∧ n ≤ m := by
  unfold spec_l01Size.f
  by_cases c : wrap64 (2 + wrap64 ((b.length : Int) / 16)) > m
  · rw [if_pos c]; exact ⟨_, rfl, hm, Int.le_refl _⟩
  · rw [if_neg c]; exact ⟨_, rfl, by unfold wrap64 at c ⊢; omega, by omega⟩


/-! ### spec.l17DrawOps -/
theorem draw_j2 (b : List Int) (n m : Nat) (hb : b.length ≤ 9223372036854775806) (hn : n ≤ 100000) (hm : m < n) (x5 : List OpS) (h5 : x5.length = m) (i h : Int) (hi : 0 ≤ i) (p q s : Int) :
    ∃ (y5 : List OpS) (i' h' : Int), (∀ k, spec_l17DrawOps.j2 (k + 1) n x5 m b i h p q s = spec_l17DrawOps.l0 k n y5 ((m + 1 : Nat) : Int) b i' h') ∧ y5.length = m + 1 ∧ 0 ≤ i' := by
  have hw : wrap64 ((m : Int) + 1) = ((m + 1 : Nat) : Int) := wrap_succ (n := n) (by omega) (by omega)
  obtain ⟨o, i1, h1, e1, hi1⟩ := once_ok b i h 100 hb hi
  cases o with
  | false => exact ⟨_, _, _, fun k => by simp only [spec_l17DrawOps.j2, e1, Option.bind_some]; rw [if_neg (by decide), if_pos (by omega), hw], by simp [h5], hi1⟩
  | true =>
    obtain ⟨y, i2, h2, e2, hi2, hy0, hy1⟩ := below_ok b i1 h1 3 hb hi1
    obtain ⟨p1, q1, s1, f1, g1, _⟩ := pick_ok b i2 h2 [(-1), 7, 0] hb hi2 (by decide)
    obtain ⟨p2, q2, s2, f2, g2, _⟩ := pick_ok b i2 h2 [(-1), 5, 1] hb hi2 (by decide)
    obtain ⟨p3, q3, s3, f3, g3, _⟩ := pick_ok b i2 h2 [0, 61, 1] hb hi2 (by decide)
    by_cases c0 : y = 0
    · exact ⟨_, _, _, fun k => by simp only [spec_l17DrawOps.j2, e1, e2, f1, Option.bind_some, if_true]; rw [if_pos c0, if_pos (by omega), hw], by simp [h5], g1⟩
    by_cases c1 : y = 1
    · exact ⟨_, _, _, fun k => by simp only [spec_l17DrawOps.j2, e1, e2, f2, Option.bind_some, if_true]; rw [if_neg c0, if_pos c1, if_pos (by omega), hw], by simp [h5], g2⟩
    by_cases c2 : y = 2
    · exact ⟨_, _, _, fun k => by simp only [spec_l17DrawOps.j2, e1, e2, f3, Option.bind_some, if_true]; rw [if_neg c0, if_neg c1, if_pos c2, if_pos (by omega), hw], by simp [h5], g3⟩
    · exact ⟨_, _, _, fun k => by simp only [spec_l17DrawOps.j2, e1, e2, Option.bind_some, if_true]; rw [if_neg c0, if_neg c1, if_neg c2, if_pos (by omega), hw], by simp [h5], hi2⟩
theorem hasX_f (a : Int) : ∃ t, spec_l17HasX.f a = some t := by
  unfold spec_l17HasX.f spec_l01In.f
  by_cases c : (1 : Int) ≤ a
  · rw [if_pos c]; exact ⟨_, rfl⟩
  · rw [if_neg c]; exact ⟨_, rfl⟩
theorem draw_j1 (b : List Int) (n m : Nat) (hb : b.length ≤ 9223372036854775806) (hn : n ≤ 100000) (hm : m < n) (x5 : List OpS) (h5 : x5.length = m) (i h : Int) (hi : 0 ≤ i) (p q s : Int) :
    ∃ (y5 : List OpS) (i' h' : Int), (∀ k, spec_l17DrawOps.j1 (k + 2) n x5 m b i h p q s = spec_l17DrawOps.l0 k n y5 ((m + 1 : Nat) : Int) b i' h') ∧ y5.length = m + 1 ∧ 0 ≤ i' := by
  obtain ⟨t, et⟩ := hasX_f p
  cases t with
  | false =>
    obtain ⟨y5, i', h', e, hl, hp⟩ := draw_j2 b n m hb hn hm x5 h5 i h hi p q s
    exact ⟨y5, i', h', fun k => by rw [← e k]; simp only [spec_l17DrawOps.j1, et, Option.bind_some]; rw [if_neg (by decide)], hl, hp⟩
  | true =>
    obtain ⟨y, i2, h2, e2, hi2, hy0, hy1⟩ := below_ok b i h 60 hb hi
    obtain ⟨y5, i', h', e, hl, hp⟩ := draw_j2 b n m hb hn hm x5 h5 i2 h2 hi2 p q (wrap64 (1 + y))
    exact ⟨y5, i', h', fun k => by rw [← e k]; simp only [spec_l17DrawOps.j1, et, e2, Option.bind_some, if_true], hl, hp⟩
theorem draw_l0 (b : List Int) (n : Nat) (hb : b.length ≤ 9223372036854775806) (hn : n ≤ 100000) : ∀ (d m : Nat) (x5 : List OpS) (i h : Int), d = n - m → m ≤ n → x5.length = m → 0 ≤ i →
    ∃ (r : List OpS × Int × Int), Ev (fun k => spec_l17DrawOps.l0 k n x5 m b i h) r ∧ r.1.length = n ∧ 0 ≤ r.2.1
  | 0, m, x5, i, h => fun hd hm h5 hi => ⟨(x5, i, h), Ev.step (f := fun _ => some (x5, i, h)) (fun k => by simp only [spec_l17DrawOps.l0]; rw [if_neg (by omega)]) (Ev.now _), by show x5.length = n; omega, hi⟩
  | d + 1, m, x5, i, h => fun hd hm h5 hi => by
    obtain ⟨x, i1, h1, e1, hi1, hx0, hx1⟩ := below_ok b i h 7 hb hi
    have key : ∃ (y5 : List OpS) (i' h' : Int), (∀ k, spec_l17DrawOps.l0 (k + 3) n x5 m b i h = spec_l17DrawOps.l0 k n y5 ((m + 1 : Nat) : Int) b i' h') ∧ y5.length = m + 1 ∧ 0 ≤ i' := by
      by_cases c : x > 0
      · obtain ⟨y, i2, h2, e2, hi2, hy0, hy1⟩ := below_ok b i1 h1 5 hb hi1
        obtain ⟨y5, i', h', e, hl, hp⟩ := draw_j1 b n m hb hn (by omega) x5 h5 i2 h2 hi2 x y 0
        exact ⟨y5, i', h', fun k => by rw [← e k, spec_l17DrawOps.l0, if_pos (by omega), e1, Option.bind_some]; simp only []; rw [if_pos c, e2, Option.bind_some], hl, hp⟩
      · obtain ⟨y5, i', h', e, hl, hp⟩ := draw_j1 b n m hb hn (by omega) x5 h5 i1 h1 hi1 x 0 0
        exact ⟨y5, i', h', fun k => by rw [← e k, spec_l17DrawOps.l0, if_pos (by omega), e1, Option.bind_some]; simp only []; rw [if_neg c], hl, hp⟩
    obtain ⟨y5, i', h', e, hl, hp⟩ := key
    obtain ⟨r, hE, hr⟩ := draw_l0 b n hb hn d (m + 1) y5 i' h' (by omega) (by omega) hl hp
    refine ⟨r, ?_, hr⟩
    obtain ⟨K, hK⟩ := hE
    refine ⟨K + 3, fun k hk => ?_⟩
    obtain ⟨q, rfl⟩ : ∃ q, k = q + 3 := ⟨k - 3, by omega⟩
    exact (e q).trans (hK q (by omega))
theorem drawOps_ok (b : List Int) (n : Nat) (hb : b.length ≤ 9223372036854775806) (hn : n ≤ 100000) (i h : Int) (hi : 0 ≤ i) : ∃ (r : List OpS × Int × Int), Ev (fun k => spec_l17DrawOps.f k b i h n) r ∧ r.1.length = n ∧ 0 ≤ r.2.1 :=
  draw_l0 b n hb hn n 0 [] i h (by omega) (by omega) rfl hi
theorem at_ok (l : List Int) (i : Nat) (hb : Byt l) (hl : l.length ≤ 9007199254740992) (hi : i < 1000) : ∃ x, laws_at.f l (i : Int) = some x ∧ 0 ≤ x ∧ x ≤ 255 := by
  unfold laws_at.f
  by_cases c : (i : Int) < (l.length : Int)
  · rw [if_pos c, if_pos (by omega)]
    have hx := hb (l[i]'(by omega)) (List.getElem_mem _)
    have e : rd l (i : Int) = l[i]'(by omega) := by unfold rd; rw [Int.toNat_natCast, getD_at _ _ _ (by omega)]
    rw [e]
    exact ⟨_, rfl, by unfold wrap64; omega, by unfold wrap64; omega⟩
  · rw [if_neg c]
    have e : wrap64 (wrap64 ((i : Int) * 13) + wrap64 ((l.length : Int) * 5)) = (i : Int) * 13 + (l.length : Int) * 5 := by unfold wrap64; omega
    rw [e]
    exact ⟨_, rfl, Int.tmod_nonneg _ (by omega), by have := Int.tmod_lt_of_pos ((i : Int) * 13 + (l.length : Int) * 5) (b := 256) (by omega); omega⟩
end Go.Proofs.Ytbjhaaibmjlhhaa.Q
