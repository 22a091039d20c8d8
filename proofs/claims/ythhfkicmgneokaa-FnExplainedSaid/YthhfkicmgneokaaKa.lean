/- What the drawings tell: they always tell something, within bounds (general draws; then the calls' draw). No program here. -/
import Derived.Test.YthhfkicmgneokaaJa
import Derived.Test.YthhfkicmgneokaaHh
namespace Go.Proofs.Ythhfkicmgneokaa.Q
open Go.RowKit Go.Proofs.YthhfkicmgneokaaW.PrintWords Go.Proofs.YthhfkicmgneokaaW.PrintLast Go.Proofs.YthhfkicmgneokaaW.PrintMore
set_option linter.unusedVariables false
set_option linter.unusedSimpArgs false

theorem and255 (x : Int) : 0 ≤ Go.bits .and .i64 x 255 ∧ Go.bits .and .i64 x 255 ≤ 255 := by
  have h : (BitVec.ofInt 64 x &&& BitVec.ofInt 64 255).toNat ≤ 255 := by
    rw [BitVec.toNat_and]
    exact Nat.le_trans Nat.and_le_right (by decide)
  show 0 ≤ IntKind.i64.wrap ((BitVec.ofInt 64 x &&& BitVec.ofInt 64 255).toNat : Int) ∧ IntKind.i64.wrap ((BitVec.ofInt 64 x &&& BitVec.ofInt 64 255).toNat : Int) ≤ 255
  rw [i64_w]
  unfold wrap64
  omega
theorem byte_ok (b : List Int) (i h : Int) (hb : b.length ≤ 9223372036854775806) (hi : 0 ≤ i) : ∃ x i' h', spec_l01Byte.f b i h = some (x, i', h') ∧ 0 ≤ i' ∧ 0 ≤ x ∧ x ≤ 255 := by
  unfold spec_l01Byte.f
  by_cases c : i < (b.length : Int)
  · rw [if_pos c, if_pos hi]
    exact ⟨_, _, _, rfl, by unfold wrap64; omega, (and255 _).1, (and255 _).2⟩
  · rw [if_neg c]
    exact ⟨_, _, _, rfl, hi, (and255 _).1, (and255 _).2⟩
theorem below_ok (b : List Int) (i h n : Int) (hb : b.length ≤ 9223372036854775806) (hi : 0 ≤ i) : ∃ x i' h', spec_l01Below.f b i h n = some (x, i', h') ∧ 0 ≤ i' ∧ 0 ≤ x ∧ (0 < n → x < n) := by
  unfold spec_l01Below.f
  by_cases c : n ≤ 0
  · rw [if_pos c]
    exact ⟨_, _, _, rfl, hi, by omega, by omega⟩
  rw [if_neg c]
  obtain ⟨x, i1, h1, e1, hi1, hx0, hx1⟩ := byte_ok b i h hb hi
  by_cases c2 : n ≤ 256
  · rw [if_pos c2, e1, Option.bind_some, if_neg (by omega)]
    exact ⟨_, _, _, rfl, hi1, Int.tmod_nonneg _ hx0, fun _ => Int.tmod_lt_of_pos _ (by omega)⟩
  · obtain ⟨y, i2, h2, e2, hi2, hy0, hy1⟩ := byte_ok b i1 h1 hb hi1
    obtain ⟨z, i3, h3, e3, hi3, hz0, hz1⟩ := byte_ok b i2 h2 hb hi2
    rw [if_neg c2, e1, Option.bind_some, e2, Option.bind_some, e3, Option.bind_some, if_neg (by omega)]
    exact ⟨_, _, _, rfl, hi3, Int.tmod_nonneg _ (by unfold wrap64; omega), fun _ => Int.tmod_lt_of_pos _ (by omega)⟩
theorem once_ok (b : List Int) (i h n : Int) (hb : b.length ≤ 9223372036854775806) (hi : 0 ≤ i) : ∃ x i' h', spec_l01Once.f b i h n = some (x, i', h') ∧ 0 ≤ i' := by
  obtain ⟨x, i1, h1, e1, hi1, _⟩ := below_ok b i h n hb hi
  unfold spec_l01Once.f
  rw [e1, Option.bind_some]
  exact ⟨_, _, _, rfl, hi1⟩
theorem pick_ok (b : List Int) (i h : Int) (l : List Int) (hb : b.length ≤ 9223372036854775806) (hi : 0 ≤ i) (hl : 0 < l.length) : ∃ x i' h', spec_l01PickInt.f b i h l = some (x, i', h') ∧ 0 ≤ i' ∧ x ∈ l := by
  obtain ⟨x, i1, h1, e1, hi1, hx0, hx1⟩ := below_ok b i h l.length hb hi
  unfold spec_l01PickInt.f
  have hx := hx1 (by omega)
  rw [e1, Option.bind_some]
  simp only []
  rw [if_pos hx0, if_pos hx]
  refine ⟨_, _, _, rfl, hi1, ?_⟩
  unfold rd
  rw [getD_at _ _ _ (by omega)]
  exact List.getElem_mem _
theorem new_l (b : List Int) (hb : b.length ≤ 9223372036854775806) : ∀ (d i k : Nat) (h : Int), d = b.length - i → i ≤ b.length → d < k → ∃ h', spec_l01New.l0 k b h (i : Int) = some (b, 0, h')
  | d, i, 0, h => fun _ _ hk => absurd hk (Nat.not_lt_zero _)
  | d, i, k + 1, h => fun hd hi hk => by
    rw [spec_l01New.l0]
    by_cases c : (i : Int) < (b.length : Int)
    · rw [if_pos c]
      by_cases c2 : (i : Int) < 4000
      · rw [if_pos c2, if_pos (by omega), wrap_succ (n := b.length) (by omega) (by omega)]
        exact new_l b hb (d - 1) (i + 1) k _ (by omega) (by omega) (by omega)
      · rw [if_neg c2]; exact ⟨_, rfl⟩
    · rw [if_neg c]; exact ⟨_, rfl⟩
theorem new_ok (b : List Int) (hb : b.length ≤ 9223372036854775806) : ∃ h', Ev (fun k => spec_l01New.f k b) (b, 0, h') := by
  obtain ⟨h', e⟩ := new_l b hb b.length 0 (b.length + 1) (wrap64 (712712 + (b.length : Int))) (by omega) (by omega) (by omega)
  exact ⟨h', Ev.of (g := fun k => spec_l01New.f k b) (spec_l01New.mono b) (k := b.length + 1) e⟩
theorem size_ok (b : List Int) (m : Int) (hm : 0 ≤ m) (hb : b.length ≤ 9223372036854775806) : ∃ n, spec_l01Size.f b m = some n ∧ 0 ≤ n ∧ n ≤ m := by
  unfold spec_l01Size.f
  by_cases c : wrap64 (2 + wrap64 ((b.length : Int) / 16)) > m
  · rw [if_pos c]; exact ⟨_, rfl, hm, Int.le_refl _⟩
  · rw [if_neg c]; exact ⟨_, rfl, by unfold wrap64 at c ⊢; omega, by omega⟩

/-! ### spec.l16DrawCalls -/
theorem draw_j3 (b : List Int) (n : Nat) (hb : b.length ≤ 9223372036854775806) (x5 : List S55) (c : Bool) (i h : Int) (h5 : x5.length = n) (hi : 0 ≤ i) (hc : c = true → 0 < n) :
    ∃ r, Ev (fun k => spec_l16DrawCalls.j3 k n x5 c b i h) r ∧ r.1.length = n := by
  cases c with
  | false => exact ⟨(x5, i, h), Ev.step (f := fun _ => some (x5, i, h)) (fun k => by simp only [spec_l16DrawCalls.j3]; rw [if_neg (by decide)]) (Ev.now _), h5⟩
  | true =>
    have hn := hc rfl
    obtain ⟨x, i1, h1, e1, hi1, hx0, hx1⟩ := below_ok b i h n hb hi
    obtain ⟨y, i2, h2, e2, hi2, hy0, hy1⟩ := below_ok b i1 h1 5 hb hi1
    have hx := hx1 (by omega)
    obtain ⟨p1, q1, s1, f1, g1, _⟩ := pick_ok b i2 h2 [(-1), 1000000, 1000001] hb hi2 (by decide)
    obtain ⟨p2, q2, s2, f2, g2, _⟩ := pick_ok b i2 h2 [(-2), 1000001, 1] hb hi2 (by decide)
    obtain ⟨p3, q3, s3, f3, g3, _⟩ := pick_ok b i2 h2 [(-1), wrap64 ((rd_T55 x5 x).f4 + 1)] hb hi2 (by simp)
    obtain ⟨p4, q4, s4, f4, g4, _⟩ := pick_ok b i2 h2 [1000000, 1000001] hb hi2 (by decide)
    have hxl : x < (x5.length : Int) := by omega
    have key : ∃ r, (∀ k, spec_l16DrawCalls.j3 (k + 1) n x5 true b i h = some r) ∧ r.1.length = n := by
      by_cases c0 : y = 0
      · exact ⟨_, fun k => by simp only [spec_l16DrawCalls.j3, e1, e2, f1, Option.bind_some, if_true]; rw [if_pos c0, if_pos hx0, if_pos hxl], by simp [h5]⟩
      by_cases c1 : y = 1
      · exact ⟨_, fun k => by simp only [spec_l16DrawCalls.j3, e1, e2, f2, Option.bind_some, if_true]; rw [if_neg c0, if_pos c1, if_pos hx0, if_pos hxl], by simp [h5]⟩
      by_cases c2 : y = 2
      · exact ⟨_, fun k => by simp only [spec_l16DrawCalls.j3, e1, e2, f3, Option.bind_some, if_true]; rw [if_neg c0, if_neg c1, if_pos c2, if_pos hx0, if_pos hxl], by simp [h5]⟩
      by_cases c3 : y = 3
      · exact ⟨_, fun k => by simp only [spec_l16DrawCalls.j3, e1, e2, f4, Option.bind_some, if_true]; rw [if_neg c0, if_neg c1, if_neg c2, if_pos c3, if_pos hx0, if_pos hxl], by simp [h5]⟩
      by_cases c4 : y = 4
      · exact ⟨_, fun k => by simp only [spec_l16DrawCalls.j3, e1, e2, Option.bind_some, if_true]; rw [if_neg c0, if_neg c1, if_neg c2, if_neg c3, if_pos c4, if_pos hx0, if_pos hxl], by simp [h5]⟩
      · exact ⟨_, fun k => by simp only [spec_l16DrawCalls.j3, e1, e2, Option.bind_some, if_true]; rw [if_neg c0, if_neg c1, if_neg c2, if_neg c3, if_neg c4], by simp [h5]⟩
    obtain ⟨r, hr, hl⟩ := key
    exact ⟨r, Ev.step (f := fun _ => some r) hr (Ev.now _), hl⟩
theorem draw_l1 (b : List Int) (n : Nat) (hb : b.length ≤ 9223372036854775806) (hn : n ≤ 9223372036854775806) : ∀ (d m : Nat) (x5 : List S55) (i h : Int), d = n - m → m ≤ n → x5.length = n → 0 ≤ i →
    ∃ r, Ev (fun k => spec_l16DrawCalls.l1 k n x5 m b i h) r ∧ r.1.length = n
  | 0, m, x5, i, h => fun hd hm h5 hi => by
    obtain ⟨o, i1, h1, e1, hi1⟩ := once_ok b i h 15 hb hi
    cases o with
    | true =>
      obtain ⟨r, hE, hl⟩ := draw_j3 b n hb x5 (decide ((n : Int) > 0)) i1 h1 h5 hi1 (fun hc => by have := of_decide_eq_true hc; omega)
      exact ⟨r, Ev.step (f := fun k => spec_l16DrawCalls.j3 k n x5 (decide ((n : Int) > 0)) b i1 h1) (fun k => by simp only [spec_l16DrawCalls.l1]; rw [if_neg (by omega)]; simp only [e1, Option.bind_some, if_true]) hE, hl⟩
    | false =>
      obtain ⟨r, hE, hl⟩ := draw_j3 b n hb x5 false i1 h1 h5 hi1 (fun hc => by simp at hc)
      exact ⟨r, Ev.step (f := fun k => spec_l16DrawCalls.j3 k n x5 false b i1 h1) (fun k => by simp only [spec_l16DrawCalls.l1]; rw [if_neg (by omega)]; simp only [e1, Option.bind_some]; rw [if_neg (by decide)]) hE, hl⟩
  | d + 1, m, x5, i, h => fun hd hm h5 hi => by
    obtain ⟨o, i1, h1, e1, hi1⟩ := once_ok b i h 3 hb hi
    have hw : wrap64 ((m : Int) + 1) = ((m + 1 : Nat) : Int) := wrap_succ (n := n) (by omega) (by omega)
    cases o with
    | true =>
      obtain ⟨x, i2, h2, e2, hi2, hx0, hx1⟩ := below_ok b i1 h1 n hb hi1
      have hx := hx1 (by omega)
      obtain ⟨r, hE, hl⟩ := draw_l1 b n hb hn d (m + 1) ((x5.set ((m : Nat) : Int).toNat (⟨(rd_T55 x5 x).f0, (rd_T55 x5 x).f1, (rd_T55 x5 x).f2, (rd_T55 x5 x).f3, (rd_T55 x5 x).f4⟩ : S55)).set (x : Int).toNat (⟨(rd_T55 x5 m).f0, (rd_T55 x5 m).f1, (rd_T55 x5 m).f2, (rd_T55 x5 m).f3, (rd_T55 x5 m).f4⟩ : S55)) i2 h2 (by omega) (by omega) (by simp [h5]) hi2
      exact ⟨r, Ev.step (f := fun k => spec_l16DrawCalls.l1 k n _ ((m + 1 : Nat) : Int) b i2 h2) (fun k => by simp only [spec_l16DrawCalls.l1]; rw [if_pos (by omega)]; simp only [e1, e2, Option.bind_some, if_true]; rw [if_pos (by omega), if_pos (by omega), if_pos hx0, if_pos (by omega), hw]) hE, hl⟩
    | false =>
      obtain ⟨r, hE, hl⟩ := draw_l1 b n hb hn d (m + 1) x5 i1 h1 (by omega) (by omega) h5 hi1
      exact ⟨r, Ev.step (f := fun k => spec_l16DrawCalls.l1 k n x5 ((m + 1 : Nat) : Int) b i1 h1) (fun k => by simp only [spec_l16DrawCalls.l1]; rw [if_pos (by omega)]; simp only [e1, Option.bind_some]; rw [if_neg (by decide), hw]) hE, hl⟩
theorem draw_j1 (b : List Int) (n m : Nat) (hb : b.length ≤ 9223372036854775806) (hn : n ≤ 1000) (hm : m < n)
    (IH : ∀ (y5 : List S55) (y6 : List Int) (y7 i h : Int), y5.length = m + 1 → y6.length ≤ m + 1 → 0 ≤ i → ∃ r, Ev (fun k => spec_l16DrawCalls.l0 k n y5 y6 y7 ((m + 1 : Nat) : Int) b i h) r ∧ r.1.length = n)
    (x5 : List S55) (x6 : List Int) (x7 i h : Int) (h5 : x5.length = m) (h6 : x6.length ≤ m) (hi : 0 ≤ i) (p : Bool) (q s t u : Int) :
    ∃ r, Ev (fun k => spec_l16DrawCalls.j1 k n x5 x6 x7 m b i h p q s t u) r ∧ r.1.length = n := by
  obtain ⟨o, i1, h1, e1, hi1⟩ := once_ok b i h 8 hb hi
  have hw : wrap64 ((m : Int) + 1) = ((m + 1 : Nat) : Int) := wrap_succ (n := n) (by omega) (by omega)
  cases o with
  | true =>
    obtain ⟨x, i2, h2, e2, hi2, hx0, hx1⟩ := below_ok b i1 h1 4 hb hi1
    obtain ⟨y, i3, h3, e3, hi3, hy0, hy1⟩ := below_ok b i2 h2 4 hb hi2
    obtain ⟨r, hE, hl⟩ := IH (x5 ++ [(⟨p, q, x, t, u⟩ : S55)]) x6 (wrap64 (x7 + y)) i3 h3 (by simp [h5]) (by omega) hi3
    exact ⟨r, Ev.step (f := fun k => spec_l16DrawCalls.l0 k n (x5 ++ [(⟨p, q, x, t, u⟩ : S55)]) x6 (wrap64 (x7 + y)) ((m + 1 : Nat) : Int) b i3 h3) (fun k => by simp only [spec_l16DrawCalls.j1, e1, e2, e3, Option.bind_some, if_true]; rw [if_pos (by omega), hw]) hE, hl⟩
  | false =>
    obtain ⟨y, i3, h3, e3, hi3, hy0, hy1⟩ := below_ok b i1 h1 4 hb hi1
    obtain ⟨r, hE, hl⟩ := IH (x5 ++ [(⟨p, q, s, t, u⟩ : S55)]) x6 (wrap64 (x7 + y)) i3 h3 (by simp [h5]) (by omega) hi3
    exact ⟨r, Ev.step (f := fun k => spec_l16DrawCalls.l0 k n (x5 ++ [(⟨p, q, s, t, u⟩ : S55)]) x6 (wrap64 (x7 + y)) ((m + 1 : Nat) : Int) b i3 h3) (fun k => by simp only [spec_l16DrawCalls.j1, e1, e3, Option.bind_some]; rw [if_neg (by decide), if_pos (by omega), hw]) hE, hl⟩
theorem draw_l0 (b : List Int) (n : Nat) (hb : b.length ≤ 9223372036854775806) (hn : n ≤ 1000) : ∀ (d m : Nat) (x5 : List S55) (x6 : List Int) (x7 i h : Int), d = n - m → m ≤ n → x5.length = m → x6.length ≤ m → 0 ≤ i →
    ∃ r, Ev (fun k => spec_l16DrawCalls.l0 k n x5 x6 x7 m b i h) r ∧ r.1.length = n
  | 0, m, x5, x6, x7, i, h => fun hd hm h5 h6 hi => by
    obtain ⟨r, hE, hl⟩ := draw_l1 b n hb (by omega) n 0 x5 i h (by omega) (by omega) (by omega) hi
    exact ⟨r, Ev.step (f := fun k => spec_l16DrawCalls.l1 k n x5 ((0 : Nat) : Int) b i h) (fun k => by simp only [spec_l16DrawCalls.l0]; rw [if_neg (by omega)]; rfl) hE, hl⟩
  | d + 1, m, x5, x6, x7, i, h => fun hd hm h5 h6 hi => by
    have IH := fun (y5 : List S55) (y6 : List Int) (y7 i h : Int) (a1 : y5.length = m + 1) (a2 : y6.length ≤ m + 1) (a3 : 0 ≤ i) => draw_l0 b n hb hn d (m + 1) y5 y6 y7 i h (by omega) (by omega) a1 a2 a3
    have hw : wrap64 ((m : Int) + 1) = ((m + 1 : Nat) : Int) := wrap_succ (n := n) (by omega) (by omega)
    obtain ⟨x, i1, h1, e1, hi1, hx0, hx1⟩ := below_ok b i h 4 hb hi
    obtain ⟨y, i2, h2, e2, hi2, hy0, hy1⟩ := below_ok b i1 h1 4 hb hi1
    obtain ⟨o, i3, h3, e3, hi3⟩ := once_ok b i2 h2 2 hb hi2
    cases o with
    | true =>
      by_cases c : (x6.length : Int) > 0
      · have hj : wrap64 ((x6.length : Int) - 1) = (x6.length : Int) - 1 := by unfold wrap64; omega
        obtain ⟨r, hE, hl⟩ := draw_j1 b n m hb hn (by omega) IH x5 (x6.take ((x6.length : Int) - 1).toNat) x7 i3 h3 h5 (by rw [List.length_take]; omega) hi3 false 0 (rd x6 ((x6.length : Int) - 1)) x7 (wrap64 (x7 + y))
        exact ⟨r, Ev.step (f := fun k => spec_l16DrawCalls.j1 k n x5 (x6.take ((x6.length : Int) - 1).toNat) x7 m b i3 h3 false 0 (rd x6 ((x6.length : Int) - 1)) x7 (wrap64 (x7 + y))) (fun k => by simp only [spec_l16DrawCalls.l0]; rw [if_pos (by omega)]; simp only [e1, e2, e3, hj, Option.bind_some, if_true]; rw [if_pos c, if_pos (by omega), if_pos (by omega), if_pos (by omega)]) hE, hl⟩
      · obtain ⟨r, hE, hl⟩ := draw_j1 b n m hb hn (by omega) IH x5 x6 x7 i3 h3 h5 h6 hi3 false 0 (-1) x7 (wrap64 (x7 + y))
        exact ⟨r, Ev.step (f := fun k => spec_l16DrawCalls.j1 k n x5 x6 x7 m b i3 h3 false 0 (-1) x7 (wrap64 (x7 + y))) (fun k => by simp only [spec_l16DrawCalls.l0]; rw [if_pos (by omega)]; simp only [e1, e2, e3, Option.bind_some, if_true]; rw [if_neg c]) hE, hl⟩
    | false =>
      obtain ⟨z, i4, h4, e4, hi4, hz0, hz1⟩ := below_ok b i3 h3 4 hb hi3
      obtain ⟨r, hE, hl⟩ := IH (x5 ++ [(⟨true, x, 0, x7, wrap64 (x7 + y)⟩ : S55)]) (x6 ++ [x]) (wrap64 (x7 + z)) i4 h4 (by simp [h5]) (by simp; omega) hi4
      exact ⟨r, Ev.step (f := fun k => spec_l16DrawCalls.l0 k n (x5 ++ [(⟨true, x, 0, x7, wrap64 (x7 + y)⟩ : S55)]) (x6 ++ [x]) (wrap64 (x7 + z)) ((m + 1 : Nat) : Int) b i4 h4) (fun k => by simp only [spec_l16DrawCalls.l0]; rw [if_pos (by omega)]; simp only [e1, e2, e3, e4, Option.bind_some]; rw [if_neg (by decide), if_pos (by omega), if_pos (by omega), hw]) hE, hl⟩
theorem drawCalls_ok (b : List Int) (n : Nat) (hb : b.length ≤ 9223372036854775806) (hn : n ≤ 1000) (i h : Int) (hi : 0 ≤ i) : ∃ r, Ev (fun k => spec_l16DrawCalls.f k b i h n) r ∧ r.1.length = n := by
  obtain ⟨x, i1, h1, e1, hi1, hx0, hx1⟩ := below_ok b i h 3 hb hi
  obtain ⟨r, hE, hl⟩ := draw_l0 b n hb hn n 0 [] [] x i1 h1 (by omega) (by omega) rfl (by simp) hi1
  exact ⟨r, Ev.congr (f := fun k => spec_l16DrawCalls.l0 k n [] [] x ((0 : Nat) : Int) b i1 h1) (fun k => by unfold spec_l16DrawCalls.f; rw [e1, Option.bind_some]; rfl) hE, hl⟩
theorem drawExplain_ok (b : List Int) (hb : b.length ≤ 9223372036854775806) : ∃ lc : List S55, Ev (fun k => spec_DrawExplain.f k b) lc ∧ lc.length ≤ 8 := by
  obtain ⟨h0, hN⟩ := new_ok b hb
  obtain ⟨s, eS, hs0, hs1⟩ := size_ok b 6 (by omega) hb
  obtain ⟨n, i1, h1, e1, hi1, hn0, hn1⟩ := below_ok b 0 h0 s hb (by omega)
  obtain ⟨o, i2, h2, e2, hi2⟩ := once_ok b i1 h1 30 hb hi1
  cases o with
  | true =>
    obtain ⟨m, i3, h3, e3, hi3, hm0, hm1⟩ := below_ok b i2 h2 2 hb hi2
    have hm := hm1 (by omega)
    have hw : wrap64 (7 + m) = (((7 + m).toNat : Nat) : Int) := by unfold wrap64; omega
    obtain ⟨r, hE, hl⟩ := drawCalls_ok b (7 + m).toNat hb (by omega) i3 h3 hi3
    refine ⟨r.1, ?_, by omega⟩
    unfold spec_DrawExplain.f
    refine Ev.bind hN ?_
    simp only [eS, e1, e2, e3, Option.bind_some, if_true, hw]
    exact Ev.bind hE (Ev.now _)
  | false =>
    have hn : n ≤ 6 := by
      by_cases c : 0 < s
      · have := hn1 c; omega
      · have hs : s = 0 := by omega
        subst hs
        have : spec_l01Below.f b 0 h0 0 = some (0, 0, h0) := by unfold spec_l01Below.f; rw [if_pos (Int.le_refl _)]
        rw [this] at e1
        injection e1 with e1
        injection e1 with e1
        omega
    have hw : n = ((n.toNat : Nat) : Int) := by omega
    obtain ⟨r, hE, hl⟩ := drawCalls_ok b n.toNat hb (by omega) i2 h2 hi2
    rw [← hw] at hE
    refine ⟨r.1, ?_, by omega⟩
    unfold spec_DrawExplain.f
    refine Ev.bind hN ?_
    simp only [eS, e1, e2, Option.bind_some]
    refine Ev.congr (fun k => if_neg (by decide)) ?_
    exact Ev.bind hE (Ev.now _)
end Go.Proofs.Ythhfkicmgneokaa.Q
