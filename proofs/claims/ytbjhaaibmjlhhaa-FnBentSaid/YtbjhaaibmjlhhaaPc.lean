/- What the printed functions on blocks compute, plainly (both laws). -/
import Derived.Test.YtbjhaaibmjlhhaaPb
import Derived.Test.YtbjhaaibmjlhhaaQx4
import Derived.Test.YtbjhaaibmjlhhaaQx15
import Derived.Test.YtbjhaaibmjlhhaaQx7
import Derived.Lib.Bytes
namespace Go.Proofs.Ytbjhaaibmjlhhaa.Q
open Go.RowKit Go.Proofs.YtbjhaaibmjlhhaaW.PrintWords Go.Proofs.YtbjhaaibmjlhhaaW.PrintLast Go.Proofs.YtbjhaaibmjlhhaaW.PrintMore
set_option linter.unusedVariables false
set_option linter.unusedSimpArgs false

theorem hasX_v (a : Int) : spec_l17HasX.f a = some (decide (1 ≤ a ∧ a ≤ 3)) := by
  unfold spec_l17HasX.f spec_l01In.f
  by_cases c : (1 : Int) ≤ a
  · rw [if_pos c, Option.bind_some]; simp [c]
  · rw [if_neg c, Option.bind_some]; simp [c]
theorem ihasX_v (a : Int) : impl_hasX.f a = some (decide (1 ≤ a ∧ a ≤ 3)) := by
  unfold impl_hasX.f
  rw [within_f, Option.bind_some]
  simp
theorem sIn_f (a b c : Int) : spec_l01In.f a b c = some (decide (b ≤ a) && decide (a ≤ c)) := by
  unfold spec_l01In.f
  by_cases h : b ≤ a
  · rw [if_pos h]; simp [h]
  · rw [if_neg h]; simp [h]
theorem sOpOk_f (k : Nat) (a t v : Int) : spec_OpOk.f (k + 1) a t v = some (opOk ⟨a, t, v⟩) := by
  unfold spec_OpOk.f opOk
  simp only [spec_OpOk.j0, spec_l10Worker.f, spec_l17HasX.f, sIn_f, Option.bind_some]
  by_cases h1 : 0 ≤ a <;> by_cases h2 : a ≤ 6 <;> by_cases h3 : 0 ≤ t <;> by_cases h4 : t ≤ 4 <;> by_cases h5 : a = 0 <;> by_cases h6 : t = 0 <;> by_cases h7 : 1 ≤ a <;> by_cases h8 : a ≤ 3 <;> simp [h1, h2, h3, h4, h5, h6, h7, h8] <;> first | omega | rfl | (rw [Bool.eq_iff_iff]; simp; omega) | (rw [Bool.eq_iff_iff]; simp)
theorem iOpOk_f (k : Nat) (a t v : Int) : impl_OpOk.f (k + 1) a t v = some (opOk ⟨a, t, v⟩) := by
  unfold impl_OpOk.f opOk
  simp only [impl_OpOk.j0, impl_isWorker.f, impl_hasX.f, within_f, Option.bind_some]
  by_cases h1 : 0 ≤ a <;> by_cases h2 : a ≤ 6 <;> by_cases h3 : 0 ≤ t <;> by_cases h4 : t ≤ 4 <;> by_cases h5 : a = 0 <;> by_cases h6 : t = 0 <;> by_cases h7 : 1 ≤ a <;> by_cases h8 : a ≤ 3 <;> simp [h1, h2, h3, h4, h5, h6, h7, h8] <;> first | omega | rfl | (rw [Bool.eq_iff_iff]; simp; omega) | (rw [Bool.eq_iff_iff]; simp)
theorem Ev.at1 {α : Type} {g : Nat → Option α} {r : α} (h : ∀ k, g (k + 1) = some r) : Ev g r := Ev.step (f := fun _ => some r) h (Ev.now _)
theorem sOpOk_ev (x : OpS) : Ev (fun k => spec_OpOk.f k x.f0 x.f1 x.f2) (opOk x) := Ev.at1 fun k => sOpOk_f k _ _ _
theorem enc_val (x : OpS) (h : opOk x = true) : wrap64 (wrap64 (5 * x.f0) + x.f1) % 256 = 5 * x.f0 + x.f1 ∧ ((1 ≤ x.f0 ∧ x.f0 ≤ 3) → x.f2 % 256 = x.f2) := by
  have := (opOk_iff x).mp h
  exact ⟨by unfold wrap64; omega, fun _ => by omega⟩
theorem sPackOp_ev (x : OpS) (h : opOk x = true) : Ev (fun k => spec_PackOp.f k x.f0 x.f1 x.f2) (enc x) := by
  refine Ev.at1 fun k => ?_
  have hv := enc_val x h
  unfold spec_PackOp.f enc
  rw [sOpOk_f, Option.bind_some, if_pos h, Option.bind_some, hasX_v, Option.bind_some, hv.1]
  by_cases c : 1 ≤ x.f0 ∧ x.f0 ≤ 3
  · rw [if_pos (decide_eq_true c), if_pos (by simp), if_pos c, hv.2 c]; rfl
  · rw [if_neg (by simpa using c), if_neg c]

/-! ### bytes -/
theorem bytes_l (l : List Int) (hl : l.length ≤ 100000000) : ∀ (d i k : Nat) (x3 : List Int), d = l.length - i → i ≤ l.length → d < k → x3.length ≤ i → spec_l01Bytes.l0 k l x3 (i : Int) = some (x3 ++ l.drop i) := by
  intro d
  induction d with
  | zero =>
    intro i k x3 hd hi hk h3
    obtain ⟨k, rfl⟩ := round_ hk
    rw [spec_l01Bytes.l0, if_neg (by omega), List.drop_eq_nil_of_le (by omega), List.append_nil]
  | succ d ih =>
    intro i k x3 hd hi hk h3
    obtain ⟨k, rfl⟩ := round_ hk
    have hlt : i < l.length := by omega
    have hr : rd l (i : Int) = l[i] := by unfold rd; rw [Int.toNat_natCast, getD_at _ _ _ hlt]
    rw [spec_l01Bytes.l0, if_pos (by omega), if_pos (by omega), if_pos (by omega), wrap_succ (n := l.length) hlt (by omega), ih (i + 1) k _ (by omega) (by omega) (by omega) (by simp; omega), hr, List.drop_eq_getElem_cons hlt, List.append_assoc]; rfl
theorem bytes_ev (l : List Int) (hl : l.length ≤ 100000000) : Ev (fun k => spec_l01Bytes.f k l) l := by
  refine ⟨l.length + 1, fun k hk => ?_⟩
  show spec_l01Bytes.f k l = _
  unfold spec_l01Bytes.f
  have h := bytes_l l hl l.length 0 k [] (by omega) (by omega) (by omega) (by simp)
  simpa using h
theorem join_l (l : List Int) (n : Nat) (hl : l.length ≤ 100000000) (hn : n ≤ 100000000) : ∀ (d i k : Nat) (x5 : List Int), d = l.length - i → i ≤ l.length → d < k → x5.length ≤ n + i → spec_l01Join.l0 k l x5 (i : Int) = some (x5 ++ l.drop i) := by
  intro d
  induction d with
  | zero =>
    intro i k x3 hd hi hk h3
    obtain ⟨k, rfl⟩ := round_ hk
    rw [spec_l01Join.l0, if_neg (by omega), List.drop_eq_nil_of_le (by omega), List.append_nil]
  | succ d ih =>
    intro i k x3 hd hi hk h3
    obtain ⟨k, rfl⟩ := round_ hk
    have hlt : i < l.length := by omega
    have hr : rd l (i : Int) = l[i] := by unfold rd; rw [Int.toNat_natCast, getD_at _ _ _ hlt]
    rw [spec_l01Join.l0, if_pos (by omega), if_pos (by omega), if_pos (by omega), wrap_succ (n := l.length) hlt (by omega), ih (i + 1) k _ (by omega) (by omega) (by omega) (by simp; omega), hr, List.drop_eq_getElem_cons hlt, List.append_assoc]; rfl
theorem join_ev (a b : List Int) (ha : a.length ≤ 100000000) (hb : b.length ≤ 100000000) : Ev (fun k => spec_l01Join.f k a b) (a ++ b) := by
  unfold spec_l01Join.f
  refine Ev.bind (bytes_ev a ha) ?_
  refine ⟨b.length + 1, fun k hk => ?_⟩
  have h := join_l b a.length hb ha b.length 0 k a (by omega) (by omega) (by omega) (by simp)
  simpa using h
theorem rd_byt {l : List Int} (h : Byt l) (i : Nat) (hi : i < l.length) : rd l (i : Int) = l[i] ∧ 0 ≤ l[i] ∧ l[i] ≤ 255 := by
  refine ⟨by unfold rd; rw [Int.toNat_natCast, getD_at _ _ _ hi], h _ (List.getElem_mem _)⟩
theorem sum_round (s x : Int) (hs0 : 0 ≤ s) (hs : s < 65521) (hx0 : 0 ≤ x) (hx : x ≤ 255) : Int.tmod (wrap64 (wrap64 (31 * s) + wrap64 x)) 65521 = (31 * s + x) % 65521 := by
  have e : wrap64 (wrap64 (31 * s) + wrap64 x) = 31 * s + x := by unfold wrap64; omega
  rw [e, Int.tmod_eq_emod_of_nonneg (by omega)]
theorem ssum_l (l : List Int) (hl : l.length ≤ 100000000) (hb : Byt l) : ∀ (d i k : Nat) (s : Int), d = l.length - i → i ≤ l.length → d < k → 0 ≤ s → s < 65521 → spec_SumBytes.l0 k l s (i : Int) = some (sumFrom s (l.drop i)) := by
  intro d
  induction d with
  | zero =>
    intro i k s hd hi hk h0 h1
    obtain ⟨k, rfl⟩ := round_ hk
    rw [spec_SumBytes.l0, if_neg (by omega), List.drop_eq_nil_of_le (by omega)]; rfl
  | succ d ih =>
    intro i k s hd hi hk h0 h1
    obtain ⟨k, rfl⟩ := round_ hk
    have hlt : i < l.length := by omega
    obtain ⟨hr, hx0, hx1⟩ := rd_byt hb i hlt
    rw [spec_SumBytes.l0, if_pos (by omega), if_pos (by omega), hr, sum_round s _ h0 h1 hx0 hx1, wrap_succ (n := l.length) hlt (by omega), ih (i + 1) k _ (by omega) (by omega) (by omega) (sum_step _ _).1 (sum_step _ _).2, List.drop_eq_getElem_cons hlt]; rfl
theorem ssum_ev (l : List Int) (hl : l.length ≤ 100000000) (hb : Byt l) : Ev (fun k => spec_SumBytes.f k l) (sumFrom 1 l) :=
  ⟨l.length + 1, fun k hk => ssum_l l hl hb l.length 0 k 1 (by omega) (by omega) (by omega) (by omega) (by omega)⟩
theorem isum_l (l : List Int) (hl : l.length ≤ 100000000) (hb : Byt l) : ∀ (d i k : Nat) (s : Int), d = l.length - i → i ≤ l.length → d < k → 0 ≤ s → s < 65521 → impl_SumBytes.l0 k s l l.length (i : Int) = some (sumFrom s (l.drop i)) := by
  intro d
  induction d with
  | zero =>
    intro i k s hd hi hk h0 h1
    obtain ⟨k, rfl⟩ := round_ hk
    rw [impl_SumBytes.l0, if_neg (by omega), List.drop_eq_nil_of_le (by omega)]; rfl
  | succ d ih =>
    intro i k s hd hi hk h0 h1
    obtain ⟨k, rfl⟩ := round_ hk
    have hlt : i < l.length := by omega
    obtain ⟨hr, hx0, hx1⟩ := rd_byt hb i hlt
    rw [impl_SumBytes.l0, if_pos (by omega), if_pos (by omega), if_pos (by omega), hr, sum_round s _ h0 h1 hx0 hx1, wrap_succ (n := l.length) hlt (by omega), ih (i + 1) k _ (by omega) (by omega) (by omega) (sum_step _ _).1 (sum_step _ _).2, List.drop_eq_getElem_cons hlt]; rfl
theorem isum_ev (l : List Int) (hl : l.length ≤ 100000000) (hb : Byt l) : Ev (fun k => impl_SumBytes.f k l) (sumFrom 1 l) :=
  ⟨l.length + 1, fun k hk => isum_l l hl hb l.length 0 k 1 (by omega) (by omega) (by omega) (by omega) (by omega)⟩
theorem clone_v (l : List Int) (hl : l.length ≤ 100000000) : slices_Clone_byte_byte.f l = some l := by unfold slices_Clone_byte_byte.f; rw [if_pos (by omega)]
theorem sealed_ev (l : List Int) (hl : l.length ≤ 100000000) (hb : Byt l) : Ev (fun k => impl_sealed.f k l) (sealP l) := by
  unfold impl_sealed.f
  refine Ev.bind (isum_ev l hl hb) ?_
  have hs := sum_bd l
  refine Ev.congr (f := fun _ => some (sealP l)) (fun k => ?_) (Ev.now _)
  rw [clone_v l hl, Option.bind_some, Option.bind_some]
  simp only [List.length_cons, List.length_nil]
  rw [if_pos (by omega), show (sumFrom 1 l / 256) % 256 = sumFrom 1 l / 256 by omega]
  rfl
theorem u8_inj {a b : Int} (a0 : 0 ≤ a) (a1 : a ≤ 255) (b0 : 0 ≤ b) (b1 : b ≤ 255) (h : UInt8.ofNat a.toNat = UInt8.ofNat b.toNat) : a = b := by
  have := congrArg UInt8.toNat h
  simp at this
  omega
theorem bytesOf_inj : ∀ (a b : List Int), Byt a → Byt b → Go.Lib.bytesOf a = Go.Lib.bytesOf b → a = b
  | [], [] => fun _ _ _ => rfl
  | [], y :: b => fun _ _ h => by simp [Go.Lib.bytesOf] at h
  | x :: a, [] => fun _ _ h => by simp [Go.Lib.bytesOf] at h
  | x :: a, y :: b => fun ha hb h => by
    simp only [Go.Lib.bytesOf, List.map_cons, List.cons.injEq] at h
    have hx := ha x (List.mem_cons_self ..)
    have hy := hb y (List.mem_cons_self ..)
    rw [u8_inj hx.1 hx.2 hy.1 hy.2 h.1, bytesOf_inj a b (fun z hz => ha z (List.mem_cons_of_mem _ hz)) (fun z hz => hb z (List.mem_cons_of_mem _ hz)) h.2]
theorem equal_v (a b : List Int) (ha : Byt a) (hb : Byt b) : bytes_Equal.f a b = some (decide (a = b)) := by
  unfold bytes_Equal.f
  rw [Go.Lib.strOfNums_toList, Go.Lib.strOfNums_toList]
  by_cases c : a = b
  · subst c; simp
  · have : ¬ Go.Lib.bytesOf a = Go.Lib.bytesOf b := fun h => c (bytesOf_inj a b ha hb h)
    simp [c, this]

/-! ### spec.PackOps -/
def fin (l : List OpS) (out : List Int) : List Int × Bool := if l.all opOk = true ∧ out.length + (packs l).length ≤ 4000 then (out ++ packs l, true) else ([], false)
theorem rdT_at (l : List OpS) (i : Nat) (h : i < l.length) : rd_T38 l (i : Int) = l[i] := by unfold rd_T38; rw [Int.toNat_natCast, getD_at _ _ _ h]
theorem pack_l1 (l : List OpS) (hl : l.length ≤ 100000) (x4 : List Int) (i te : Nat) (hto : te ≤ l.length) : ∀ (d p : Nat) (x7 : List Int), d = te - p → p ≤ te → x7.length ≤ 2 * p →
    (((l.take te).drop p).all opOk = false → Ev (fun k => spec_PackOps.l1 k l x4 i te x7 p) ([], false)) ∧
    (((l.take te).drop p).all opOk = true → ∀ r, Ev (fun k => spec_PackOps.l1 k l x4 i te (x7 ++ encs ((l.take te).drop p)) te) r → Ev (fun k => spec_PackOps.l1 k l x4 i te x7 p) r) := by
  intro d
  induction d with
  | zero =>
    intro p x7 hd hp h7
    have : p = te := by omega
    subst this
    rw [List.drop_eq_nil_of_le (by rw [List.length_take]; omega)]
    refine ⟨fun h => by simp at h, fun _ r hr => ?_⟩
    rw [encs_nil, List.append_nil] at hr
    exact hr
  | succ d ih =>
    intro p x7 hd hp h7
    have hlt : p < l.length := by omega
    have hlt' : p < (l.take te).length := by rw [List.length_take]; omega
    rw [List.drop_eq_getElem_cons hlt', List.all_cons, List.getElem_take]
    have hr : rd_T38 l (p : Int) = l[p] := rdT_at l p hlt
    have hw := wrap_succ (i := p) (n := l.length) hlt (by omega)
    have he := enc_len l[p]
    have h0 : ((p : Int) < (te : Int)) := by omega
    have h1 : (0 : Int) ≤ (p : Int) := by omega
    have h2 : (p : Int) < (l.length : Int) := by omega
    refine ⟨fun h => ?_, fun h r hE => ?_⟩
    · refine Ev.step (fun k => by rw [spec_PackOps.l1, if_pos h0, if_pos h1, if_pos h2, hr, hw]) ?_
      refine Ev.bind (sOpOk_ev l[p]) ?_
      cases c : opOk l[p] with
      | false => exact Ev.congr (f := fun _ => some ([], false)) (fun k => if_neg (by decide)) (Ev.now _)
      | true =>
        rw [c, Bool.true_and] at h
        refine Ev.congr (fun k => if_pos rfl) ?_
        refine Ev.bind (sPackOp_ev l[p] c) ?_
        refine Ev.bind (join_ev x7 (enc l[p]) (by omega) (by omega)) ?_
        exact (ih (p + 1) (x7 ++ enc l[p]) (by omega) (by omega) (by rw [List.length_append]; omega)).1 h
    · rw [Bool.and_eq_true] at h
      refine Ev.step (fun k => by rw [spec_PackOps.l1, if_pos h0, if_pos h1, if_pos h2, hr, hw]) ?_
      refine Ev.bind (sOpOk_ev l[p]) ?_
      refine Ev.congr (fun k => if_pos h.1) ?_
      refine Ev.bind (sPackOp_ev l[p] h.1) ?_
      refine Ev.bind (join_ev x7 (enc l[p]) (by omega) (by omega)) ?_
      refine (ih (p + 1) (x7 ++ enc l[p]) (by omega) (by omega) (by rw [List.length_append]; omega)).2 h.2 r ?_
      rw [List.append_assoc, ← encs_cons]
      exact hE
theorem pack_exit (l c : List OpS) (hl : l.length ≤ 100000) (out : List Int) (ho : out.length ≤ 4000) (i te : Nat) (hit : i ≤ te) (hto : te ≤ l.length) (hc : c.length = te - i) (hc16 : c.length ≤ 16) (hok : c.all opOk = true) (r : List Int × Bool)
    (hr : out.length + (blockOf c).length ≤ 4000 → Ev (fun k => spec_PackOps.l0 k l (out ++ blockOf c) ((i + 16 : Nat) : Int)) r) (hr' : ¬ out.length + (blockOf c).length ≤ 4000 → r = ([], false)) :
    Ev (fun k => spec_PackOps.l1 k l out i te (encs c) te) r := by
  have hel := encs_len c
  have hbl := block_len c
  have e0 : wrap64 ((te : Int) - (i : Int)) % 256 = (c.length : Int) := by unfold wrap64; omega
  have e1 : ((encs c).length : Int) % 256 = ((encs c).length : Int) := by omega
  refine Ev.step (fun k => by rw [spec_PackOps.l1, if_neg (Int.lt_irrefl _), e0, e1]) ?_
  refine Ev.bind (join_ev [(c.length : Int), ((encs c).length : Int)] (encs c) (by simp) (by omega)) ?_
  have hhl : (head2 c ++ encs c).length = (encs c).length + 2 := by rw [List.length_append]; unfold head2; simp; omega
  refine Ev.bind (ssum_ev (head2 c ++ encs c) (by omega) (byt_app (head_byt c hc16) (encs_byt c hok))) ?_
  have hs := sum_bd (head2 c ++ encs c)
  have d0 : wrap64 (Int.tdiv (sumFrom 1 (head2 c ++ encs c)) 256) % 256 = sumFrom 1 (head2 c ++ encs c) / 256 := by rw [Int.tdiv_eq_ediv_of_nonneg (by omega)]; unfold wrap64; omega
  have d1 : Int.tmod (sumFrom 1 (head2 c ++ encs c)) 256 % 256 = sumFrom 1 (head2 c ++ encs c) % 256 := by rw [Int.tmod_eq_emod_of_nonneg (by omega)]; omega
  have hw : wrap64 (4000 - (out.length : Int)) = 4000 - (out.length : Int) := by unfold wrap64; omega
  have hw2 : wrap64 ((i : Int) + 16) = ((i + 16 : Nat) : Int) := by unfold wrap64; omega
  have key : ∀ k : Nat, ((some (([(wrap64 (Int.tdiv (sumFrom 1 (head2 c ++ encs c)) 256)) % 256, (Int.tmod (sumFrom 1 (head2 c ++ encs c)) 256) % 256] : List Int) : List Int)).bind fun y254 => (if (head2 c ++ encs c).length + y254.length < 140737488355328 then ((some (head2 c ++ encs c ++ y254 : List Int)).bind fun y257 => (if (y257.length : Int) > (wrap64 (4000 - (out.length : Int))) then (some (([] : List Int), false)) else ((spec_l01Join.f k out y257).bind fun t260 => (spec_PackOps.l0 k l t260 (wrap64 ((i : Int) + 16)))))) else (none))) =
      if ((blockOf c).length : Int) > 4000 - (out.length : Int) then some ([], false) else (spec_l01Join.f k out (blockOf c)).bind fun t260 => spec_PackOps.l0 k l t260 ((i + 16 : Nat) : Int) := by
    intro k
    rw [Option.bind_some, d0, d1]
    rw [if_pos (by rw [hhl]; simp; omega), Option.bind_some, hw, hw2]
    rfl
  refine Ev.congr key ?_
  by_cases hf : out.length + (blockOf c).length ≤ 4000
  · refine Ev.congr (fun k => if_neg (by omega)) ?_
    exact Ev.bind (join_ev out (blockOf c) (by omega) (by omega)) (hr hf)
  · rw [hr' hf]
    exact Ev.congr (f := fun _ => some ([], false)) (fun k => if_pos (by omega)) (Ev.now _)
theorem pack_l0 (l : List OpS) (hl : l.length ≤ 100000) : ∀ (d i : Nat) (out : List Int), l.length - i ≤ d → out.length ≤ 4000 → i ≤ l.length + 16 → Ev (fun k => spec_PackOps.l0 k l out i) (fin (l.drop i) out) := by
  intro d
  induction d using Nat.strongRecOn with
  | ind d ih =>
  intro i out hd ho hi
  by_cases hlt : i < l.length
  · have hne : l.drop i ≠ [] := by intro h; have := congrArg List.length h; rw [List.length_drop] at this; simp at this; omega
    have hseg : ∀ te, te = min (i + 16) l.length → (l.take te).drop i = (l.drop i).take 16 := by
      intro te h
      rw [List.drop_take]
      by_cases c : i + 16 ≤ l.length
      · rw [h, Nat.min_eq_left c]; congr 1; omega
      · rw [h, Nat.min_eq_right (by omega), List.take_of_length_le (by rw [List.length_drop]; omega), List.take_of_length_le (by rw [List.length_drop]; omega)]
    have hmain : ∀ te : Nat, te = min (i + 16) l.length → Ev (fun k => spec_PackOps.l1 k l out i te [] i) (fin (l.drop i) out) := by
      intro te hto
      have hs := hseg te hto
      have hsl : ((l.drop i).take 16).length = te - i := by rw [List.length_take, List.length_drop]; omega
      have h1 := pack_l1 l hl out i te (by omega) (te - i) i [] rfl (by omega) (by simp)
      rw [hs] at h1
      cases hall : ((l.drop i).take 16).all opOk with
      | false =>
        have hfin : fin (l.drop i) out = ([], false) := by
          unfold fin
          rw [if_neg]
          rintro ⟨ha, _⟩
          rw [all_take ha 16] at hall; cases hall
        rw [hfin]
        exact h1.1 hall
      | true =>
        refine h1.2 hall _ ?_
        rw [List.nil_append]
        refine pack_exit l _ hl out ho i te (by omega) (by omega) hsl (by rw [hsl]; omega) hall _ (fun hf => ?_) (fun hf => ?_)
        · have := ih (l.length - (i + 16)) (by omega) (i + 16) (out ++ blockOf ((l.drop i).take 16)) (by omega) (by rw [List.length_append]; omega) (by omega)
          have he : fin (l.drop i) out = fin (l.drop (i + 16)) (out ++ blockOf ((l.drop i).take 16)) := by
            have hd16 : (l.drop i).drop 16 = l.drop (i + 16) := by rw [List.drop_drop]
            have ha : (l.drop i).all opOk = (l.drop (i + 16)).all opOk := by
              conv => lhs; rw [← List.take_append_drop 16 (l.drop i)]
              rw [List.all_append, hall, Bool.true_and, hd16]
            unfold fin
            rw [packs_cons _ hne, hd16, ha, List.length_append, List.length_append, Nat.add_assoc, List.append_assoc]
          rw [he]
          exact this
        · unfold fin
          rw [if_neg]
          rintro ⟨_, hb⟩
          rw [packs_cons _ hne, List.length_append] at hb
          omega
    have hwi : wrap64 ((i : Int) + 16) = ((i + 16 : Nat) : Int) := by unfold wrap64; omega
    have hi0 : (i : Int) < (l.length : Int) := by omega
    by_cases c : i + 16 > l.length
    · have hc : ((i + 16 : Nat) : Int) > (l.length : Int) := by omega
      refine Ev.step (fun k => by rw [spec_PackOps.l0, if_pos hi0, hwi, if_pos hc]) ?_
      refine Ev.step (fun k => by rw [spec_PackOps.j1]) ?_
      exact hmain l.length (by omega)
    · have hc : ¬ ((i + 16 : Nat) : Int) > (l.length : Int) := by omega
      refine Ev.step (fun k => by rw [spec_PackOps.l0, if_pos hi0, hwi, if_neg hc]) ?_
      refine Ev.step (fun k => by rw [spec_PackOps.j1]) ?_
      exact hmain (i + 16) (by omega)
  · have hi0 : ¬ (i : Int) < (l.length : Int) := by omega
    have hfin : fin (l.drop i) out = (out, true) := by
      rw [List.drop_eq_nil_of_le (by omega)]
      unfold fin
      rw [if_pos ⟨rfl, by rw [packs_nil]; simpa using ho⟩, packs_nil, List.append_nil]
    rw [hfin]
    exact Ev.at1 fun k => by rw [spec_PackOps.l0, if_neg hi0]
theorem sPack_ev (l : List OpS) (hl : l.length ≤ 100000) : Ev (fun k => spec_PackOps.f k l) (fin l []) := by
  have h := pack_l0 l hl l.length 0 [] (by omega) (by simp) (by omega)
  exact h

/-! ### impl: one op, one block, a script -/
theorem unL_drop {l : List Int} {i : Nat} {x : OpS} {r : List Int} (hi : i ≤ l.length) (h : unL (l.drop i) = some (x, r)) : ∃ j, i < j ∧ j ≤ l.length ∧ r = l.drop j := by
  by_cases c : i < l.length
  · rw [List.drop_eq_getElem_cons c] at h
    simp only [unL] at h
    by_cases c1 : 1 ≤ l[i] / 5 ∧ l[i] / 5 ≤ 3
    · rw [if_pos c1] at h
      by_cases c2 : i + 1 < l.length
      · rw [List.drop_eq_getElem_cons c2] at h
        simp only [] at h
        by_cases c3 : opOk ⟨l[i] / 5, l[i] % 5, l[i + 1]⟩ = true
        · rw [if_pos c3] at h; injection h with h; injection h with h1 h2; exact ⟨i + 2, by omega, by omega, h2.symm⟩
        · rw [if_neg c3] at h; cases h
      · rw [List.drop_eq_nil_of_le (by omega)] at h; simp at h
    · rw [if_neg c1] at h
      by_cases c3 : opOk ⟨l[i] / 5, l[i] % 5, 0⟩ = true
      · rw [if_pos c3] at h; injection h with h; injection h with h1 h2; exact ⟨i + 1, by omega, by omega, h2.symm⟩
      · rw [if_neg c3] at h; cases h
  · rw [List.drop_eq_nil_of_le (by omega)] at h; simp [unL] at h
def unV (l : List Int) (i : Nat) : Int × Int × Int × Int := match unL (l.drop i) with
  | none => (0, 0, 0, -1)
  | some (x, r) => (x.f0, x.f1, x.f2, ((l.length - r.length : Nat) : Int))
theorem w64_of (x y : Int) (h : x = y) (h0 : -9223372036854775808 ≤ y) (h1 : y ≤ 9223372036854775807) : wrap64 x = y := by subst h; unfold wrap64; omega
theorem un_div (x : Int) (h0 : 0 ≤ x) (h1 : x ≤ 255) : wrap64 x = x ∧ wrap64 (Int.tdiv x 5) = x / 5 ∧ Int.tmod x 5 = x % 5 :=
  ⟨w64_of _ _ rfl (by omega) (by omega), w64_of _ _ (Int.tdiv_eq_ediv_of_nonneg h0) (by omega) (by omega), Int.tmod_eq_emod_of_nonneg h0⟩
theorem iUn_f (k : Nat) (l : List Int) (hl : l.length ≤ 100000000) (hb : Byt l) (i : Nat) : impl_UnpackOp.f (k + 1) l (i : Int) = some (unV l i) := by
  by_cases c : i < l.length
  · obtain ⟨hr, hx0, hx1⟩ := rd_byt hb i c
    obtain ⟨x, hx⟩ : ∃ x, x = l[i] := ⟨_, rfl⟩
    rw [← hx] at hr hx0 hx1
    have g0 : (decide ((0 : Int) ≤ (i : Int)) && decide ((i : Int) ≤ (l.length : Int) - 1)) = true := by simp; omega
    have g1 : (0 : Int) ≤ (i : Int) := by omega
    have g2 : (i : Int) < (l.length : Int) := by omega
    have hun : unL (l.drop i) = unL (x :: l.drop (i + 1)) := by rw [List.drop_eq_getElem_cons c, ← hx]
    have g3 : i + 1 < l.length → ¬ (((i + 1 : Nat) : Int) = (l.length : Int)) := by omega
    have g3' : ¬ i + 1 < l.length → (((i + 1 : Nat) : Int) = (l.length : Int)) := by omega
    have g4 : (0 : Int) ≤ ((i + 1 : Nat) : Int) := by omega
    have g5 : i + 1 < l.length → ((i + 1 : Nat) : Int) < (l.length : Int) := by omega
    have g6 : ¬ i + 1 < l.length → l.length ≤ i + 1 := by omega
    have g7 : i + 1 < l.length → l.length - (l.length - (i + 2)) = i + 2 := by omega
    have g8 : l.length - (l.length - (i + 1)) = i + 1 := by omega
    have hw1 : wrap64 ((i : Int) + 1) = ((i + 1 : Nat) : Int) := wrap_succ c (Nat.le_trans hl (by decide))
    have hw2 : i + 1 < l.length → wrap64 (((i + 1 : Nat) : Int) + 1) = ((i + 2 : Nat) : Int) := fun h => wrap_succ h (Nat.le_trans hl (by decide))
    have hw : wrap64 ((l.length : Int) - 1) = (l.length : Int) - 1 := by clear hw1 hw2; exact w64_of _ _ rfl (by omega) (by omega)
    obtain ⟨hwr, hq, hm⟩ := un_div x hx0 hx1
    obtain ⟨q, hq'⟩ : ∃ q, q = x / 5 := ⟨_, rfl⟩
    obtain ⟨m, hm'⟩ : ∃ m, m = x % 5 := ⟨_, rfl⟩
    rw [← hq'] at hq
    rw [← hm'] at hm
    unfold impl_UnpackOp.f
    rw [within_f, Option.bind_some, hw, if_pos g0, if_pos g1, if_pos g2, hr, hwr, hq, hm, ihasX_v, Option.bind_some, hw1]
    by_cases c1 : 1 ≤ q ∧ q ≤ 3
    · rw [if_pos (decide_eq_true c1)]
      by_cases c2 : i + 1 < l.length
      · obtain ⟨hr2, hy0, hy1⟩ := rd_byt hb (i + 1) c2
        obtain ⟨y, hy⟩ : ∃ y, y = l[i + 1] := ⟨_, rfl⟩
        rw [← hy] at hr2 hy0 hy1
        have hun2 : unL (x :: l.drop (i + 1)) = if opOk ⟨q, m, y⟩ then some (⟨q, m, y⟩, l.drop (i + 2)) else none := by
          rw [List.drop_eq_getElem_cons c2, ← hy, hq', hm']
          rw [hq'] at c1
          simp only [unL]
          rw [if_pos c1]
        have hwr2 : wrap64 y = y := (un_div y hy0 hy1).1
        rw [if_neg (g3 c2), if_pos g4, if_pos (g5 c2), hr2, hwr2, iOpOk_f, Option.bind_some, hw2 c2]
        unfold unV
        rw [hun, hun2]
        by_cases c3 : opOk ⟨q, m, y⟩ = true
        · rw [if_pos c3, if_pos c3]
          simp only []
          rw [List.length_drop, g7 c2]
        · rw [if_neg c3, if_neg c3]
      · have hun2 : unL (x :: l.drop (i + 1)) = none := by
          rw [List.drop_eq_nil_of_le (g6 c2)]
          rw [hq'] at c1
          simp only [unL]
          rw [if_pos c1]
        unfold unV
        rw [hun, hun2, if_pos (g3' c2)]
    · have hun2 : unL (x :: l.drop (i + 1)) = if opOk ⟨q, m, 0⟩ then some (⟨q, m, 0⟩, l.drop (i + 1)) else none := by
        rw [hq', hm']
        rw [hq'] at c1
        simp only [unL]
        rw [if_neg c1]
      rw [if_neg (by simpa using c1), iOpOk_f, Option.bind_some]
      unfold unV
      rw [hun, hun2]
      by_cases c3 : opOk ⟨q, m, 0⟩ = true
      · rw [if_pos c3, if_pos c3]
        simp only []
        rw [List.length_drop, g8]
      · rw [if_neg c3, if_neg c3]
  · have hd : l.drop i = [] := List.drop_eq_nil_of_le (by omega)
    have g0 : ¬ (decide ((0 : Int) ≤ (i : Int)) && decide ((i : Int) ≤ (l.length : Int) - 1)) = true := by simp; omega
    have hw : wrap64 ((l.length : Int) - 1) = (l.length : Int) - 1 := w64_of _ _ rfl (by omega) (by omega)
    unfold impl_UnpackOp.f
    rw [within_f, Option.bind_some, hw, if_neg g0]
    unfold unV
    rw [hd]; rfl
theorem unV_none {l : List Int} {i : Nat} (h : unL (l.drop i) = none) : unV l i = (0, 0, 0, -1) := by unfold unV; rw [h]
theorem unV_some {l : List Int} {i j : Nat} {x : OpS} (hj : j ≤ l.length) (h : unL (l.drop i) = some (x, l.drop j)) : unV l i = (x.f0, x.f1, x.f2, (j : Int)) := by
  unfold unV; rw [h]; simp only []; rw [List.length_drop, show l.length - (l.length - j) = j by omega]
/- the loop of a block: what is told -/
def blkV (e : Nat) (L : List Int) (ok : Bool) (x5 : List OpS) : Option (List OpS × List Int) → List OpS × Int
  | none => ([], 0)
  | some (xs, r) => if r = [] ∧ ok = true then (x5 ++ xs, ((e + 2 : Nat) : Int)) else ([], 0)
theorem iblk_l (b : List Int) (hb : Byt b) (hl : b.length ≤ 100000000) (e n : Nat) (he : e + 2 ≤ b.length) (hn : n ≤ 300) : ∀ (d j i : Nat) (x5 : List OpS), d = n - j → j ≤ n → i ≤ e → x5.length ≤ j →
    Ev (fun k => impl_block.l0 k b e x5 i n j) (blkV e (b.take e) (decide (sealP (b.take e) = b.take (e + 2))) x5 (unsL d ((b.take e).drop i))) := by
  have htl : (b.take e).length = e := by rw [List.length_take]; omega
  intro d
  induction d with
  | zero =>
    intro j i x5 hd hj hi h5
    have hw : wrap64 ((e : Int) + 2) = ((e + 2 : Nat) : Int) := by unfold wrap64; omega
    simp only [unsL, blkV, List.append_nil]
    by_cases c : i = e
    · subst c
      have g1 : ¬ ((j : Int) < (n : Int)) := by omega
      have g3 : (0 : Int) ≤ ((i + 2 : Nat) : Int) := by omega
      have g4 : ((i + 2 : Nat) : Int) ≤ (b.length : Int) := by omega
      have g5 : (0 : Int) ≤ (i : Int) := by omega
      have g6 : (i : Int) ≤ (b.length : Int) := by omega
      refine Ev.step (fun k => by rw [impl_block.l0, if_neg g1, if_pos rfl, if_pos g5, if_pos g6, hw, Int.toNat_natCast, Int.toNat_natCast]) ?_
      refine Ev.bind (sealed_ev (b.take i) (by omega) (byt_take hb i)) ?_
      refine Ev.congr (fun k => by rw [if_pos g3, if_pos g4, equal_v _ _ (seal_byt (byt_take hb i)) (byt_take hb (i + 2)), Option.bind_some]) ?_
      have hdn : (b.take i).drop i = [] := List.drop_eq_nil_of_le (by omega)
      rw [hdn]
      by_cases c2 : sealP (b.take i) = b.take (i + 2)
      · have hv : (if ([] : List Int) = [] ∧ decide (sealP (b.take i) = b.take (i + 2)) = true then (x5, ((i + 2 : Nat) : Int)) else (([] : List OpS), (0 : Int))) = (x5, ((i + 2 : Nat) : Int)) := if_pos ⟨rfl, by simpa using c2⟩
        rw [hv]
        exact Ev.congr (f := fun _ => some (x5, ((i + 2 : Nat) : Int))) (fun k => if_pos (by simpa using c2)) (Ev.now _)
      · have hv : (if ([] : List Int) = [] ∧ decide (sealP (b.take i) = b.take (i + 2)) = true then (x5, ((i + 2 : Nat) : Int)) else (([] : List OpS), (0 : Int))) = (([] : List OpS), (0 : Int)) := if_neg (fun h => c2 (by simpa using h.2))
        rw [hv]
        exact Ev.congr (f := fun _ => some (([] : List OpS), (0 : Int))) (fun k => if_neg (by simpa using c2)) (Ev.now _)
    · have hne : (b.take e).drop i ≠ [] := by intro h; have := congrArg List.length h; rw [List.length_drop, htl] at this; simp at this; omega
      rw [if_neg (fun h => hne h.1)]
      exact Ev.at1 fun k => by rw [impl_block.l0, if_neg (by omega), if_neg (by omega)]
  | succ d ih =>
    intro j i x5 hd hj hi h5
    have g1 : ((j : Int) < (n : Int)) := by omega
    have g5 : (0 : Int) ≤ (e : Int) := by omega
    have g6 : (e : Int) ≤ (b.length : Int) := by omega
    have hU : Ev (fun k => impl_UnpackOp.f k (b.take e) (i : Int)) (unV (b.take e) i) := Ev.at1 fun k => iUn_f k (b.take e) (by omega) (byt_take hb e) i
    have hw1 : wrap64 ((j : Int) + 1) = ((j + 1 : Nat) : Int) := wrap_succ (n := n) (by omega) (by omega)
    refine Ev.step (fun k => by rw [impl_block.l0, if_pos g1, if_pos g5, if_pos g6, Int.toNat_natCast, hw1]) ?_
    refine Ev.bind hU ?_
    simp only [unsL]
    cases hu : unL ((b.take e).drop i) with
    | none =>
      rw [unV_none hu, Option.bind_none]
      exact Ev.congr (f := fun _ => some (([] : List OpS), (0 : Int))) (fun k => if_pos (by decide)) (Ev.now _)
    | some p =>
      obtain ⟨x, r⟩ := p
      obtain ⟨i2, hi1, hi2, hr⟩ := unL_drop (by omega) hu
      subst hr
      rw [htl] at hi2
      rw [unV_some (by omega) hu, Option.bind_some]
      have g7 : ¬ ((i2 : Int) < 0) := by omega
      have g8 : x5.length < 5864062014805 := by omega
      refine Ev.congr (fun k => by rw [if_neg g7, if_pos g8]) ?_
      have := ih (j + 1) i2 (x5 ++ [x]) (by omega) (by omega) hi2 (by simp; omega)
      have hv : blkV e (b.take e) (decide (sealP (b.take e) = b.take (e + 2))) x5 ((unsL d ((b.take e).drop i2)).bind fun q => some (x :: q.1, q.2)) = blkV e (b.take e) (decide (sealP (b.take e) = b.take (e + 2))) (x5 ++ [x]) (unsL d ((b.take e).drop i2)) := by
        cases unsL d ((b.take e).drop i2) with
        | none => rfl
        | some q => obtain ⟨xs, r⟩ := q; simp only [Option.bind_some, blkV, List.append_assoc, List.singleton_append]
      rw [hv]
      exact this
theorem seal_iff (b : List Int) (hb : Byt b) (e : Nat) (he : e + 2 ≤ b.length) : sealP (b.take e) = b.take (e + 2) ↔ sumFrom 1 (b.take e) = 256 * rd b (e : Nat) + rd b (e + 1 : Nat) := by
  have hs := sum_bd (b.take e)
  obtain ⟨h0, a0, a1⟩ := rd_byt hb e (by omega)
  obtain ⟨h1, b0, b1⟩ := rd_byt hb (e + 1) (by omega)
  have ht : b.take (e + 2) = b.take e ++ [b[e]'(by omega), b[e + 1]'(by omega)] := by
    rw [List.take_succ_eq_append_getElem (by omega : e + 1 < b.length), List.take_succ_eq_append_getElem (by omega : e < b.length), List.append_assoc]; rfl
  rw [h0, h1, ht]
  unfold sealP
  rw [List.append_cancel_left_eq]
  simp only [List.cons.injEq, and_true]
  omega
def blkR : Option (List OpS × Nat) → List OpS × Int
  | none => ([], 0)
  | some (o, n) => (o, (n : Int))
theorem iblk_ev (b : List Int) (hb : Byt b) (hl : b.length ≤ 100000000) : Ev (fun k => impl_block.f k b) (blkR (blkP b)) := by
  unfold impl_block.f
  have hj0 : blkP b = none → Ev (fun k => impl_block.j0 k b true) (blkR (blkP b)) := fun h => by
    rw [h]; exact Ev.at1 fun k => by rw [impl_block.j0, if_pos rfl]; rfl
  by_cases c : b.length < 2
  · refine Ev.congr (fun k => if_pos (by omega)) ?_
    exact hj0 (blk_torn b (by omega))
  refine Ev.congr (fun k => if_neg (by omega)) ?_
  refine Ev.congr (fun k => if_pos (by omega)) ?_
  obtain ⟨h0, a0, a1⟩ := rd_byt hb 0 (by omega)
  obtain ⟨h1, b0, b1⟩ := rd_byt hb 1 (by omega)
  have h0' : rd b 0 = b[0]'(by omega) := h0
  have h1' : rd b 1 = b[1]'(by omega) := h1
  have w0 : wrap64 (rd b 0) = rd b 0 := by rw [h0']; unfold wrap64; omega
  have w1 : wrap64 (rd b 1) = rd b 1 := by rw [h1']; unfold wrap64; omega
  have w2 : wrap64 (rd b 1 + 4) = rd b 1 + 4 := by rw [h1']; unfold wrap64; omega
  have r0 : 0 ≤ rd b 1 := by rw [h1']; exact b0
  have w3 : wrap64 (2 + rd b 1) = ((2 + (rd b 1).toNat : Nat) : Int) := by rw [h1']; unfold wrap64; omega
  rw [w0, within_f]
  refine Ev.bind (Ev.now _) ?_
  by_cases c2 : 1 ≤ rd b 0 ∧ rd b 0 ≤ 16
  · refine Ev.congr (fun k => if_pos (by simpa using c2)) ?_
    refine Ev.congr (fun k => if_pos (by omega)) ?_
    rw [w1, w2]
    by_cases c3 : rd b 1 + 4 ≤ b.length
    · have hd : decide ((b.length : Int) < rd b 1 + 4) = false := decide_eq_false (by omega)
      rw [hd]
      have hc : (2 ≤ b.length ∧ 1 ≤ rd b 0 ∧ rd b 0 ≤ 16 ∧ rd b 1 + 4 ≤ b.length) := ⟨by omega, c2.1, c2.2, c3⟩
      have hj0 : (rd b 0) = (((rd b 0).toNat : Nat) : Int) := by omega
      have g0 : 0 < (b.length : Int) := by omega
      have g1 : 1 < (b.length : Int) := by omega
      have hmain := iblk_l b hb hl (2 + (rd b 1).toNat) (rd b 0).toNat (by omega) (by omega) (rd b 0).toNat 0 2 [] rfl (by omega) (by omega) (by simp)
      rw [← hj0] at hmain
      refine Ev.step (fun k => by rw [impl_block.j0, if_neg (by decide), if_pos g1, if_pos g0, w0, w1, w3]) ?_
      have hv : blkR (blkP b) = blkV (2 + (rd b 1).toNat) (b.take (2 + (rd b 1).toNat)) (decide (sealP (b.take (2 + (rd b 1).toNat)) = b.take (2 + (rd b 1).toNat + 2))) [] (unsL (rd b 0).toNat ((b.take (2 + (rd b 1).toNat)).drop 2)) := by
        unfold blkP
        rw [if_pos hc]
        have hsi := seal_iff b hb (2 + (rd b 1).toNat) (by omega)
        cases unsL (rd b 0).toNat ((b.take (2 + (rd b 1).toNat)).drop 2) with
        | none => rfl
        | some p =>
          obtain ⟨xs, r⟩ := p
          simp only [Option.bind_some, blkV, List.nil_append, decide_eq_true_eq, hsi]
          by_cases cc : r = [] ∧ sumFrom 1 (b.take (2 + (rd b 1).toNat)) = 256 * rd b ((2 + (rd b 1).toNat : Nat) : Int) + rd b ((2 + (rd b 1).toNat + 1 : Nat) : Int)
          · rw [if_pos cc, if_pos cc]; simp only [blkR]; congr 1; omega
          · rw [if_neg cc, if_neg cc]; rfl
      rw [hv]
      exact hmain
    · have hd : decide ((b.length : Int) < rd b 1 + 4) = true := decide_eq_true (by omega)
      rw [hd]
      exact hj0 (blk_torn b (by omega))
  · refine Ev.congr (fun k => if_neg (by simpa using c2)) ?_
    exact hj0 (blk_torn b (by omega))
theorem blkP_pos {b : List Int} (hb : Byt b) {o : List OpS} {n : Nat} (h : blkP b = some (o, n)) : 4 ≤ n ∧ n ≤ b.length ∧ o.length ≤ n := by
  unfold blkP at h
  by_cases c : 2 ≤ b.length ∧ 1 ≤ rd b 0 ∧ rd b 0 ≤ 16 ∧ rd b 1 + 4 ≤ b.length
  · obtain ⟨h1', b0, _⟩ := rd_byt hb 1 (by omega)
    have r0 : 0 ≤ rd b 1 := by have h1'' : rd b 1 = b[1]'(by omega) := h1'; rw [h1'']; exact b0
    clear h1' b0
    rw [if_pos c] at h
    obtain ⟨p, hp, h⟩ := Option.bind_eq_some_iff.mp h
    by_cases c2 : p.2 = [] ∧ sumFrom 1 (b.take (2 + (rd b 1).toNat)) = 256 * rd b ((2 + (rd b 1).toNat : Nat) : Int) + rd b ((2 + (rd b 1).toNat + 1 : Nat) : Int)
    · rw [if_pos c2] at h
      injection h with h; injection h with h1 h2
      have hlen : ∀ (m : Nat) (l : List Int) (q : List OpS × List Int), unsL m l = some q → q.1.length + q.2.length ≤ l.length := by
        intro m
        induction m with
        | zero => intro l q hq; simp only [unsL] at hq; injection hq with hq; subst hq; simp
        | succ m ih =>
          intro l q hq
          simp only [unsL] at hq
          obtain ⟨u, hu, hq⟩ := Option.bind_eq_some_iff.mp hq
          obtain ⟨v, hv, hq⟩ := Option.bind_eq_some_iff.mp hq
          injection hq with hq; subst hq
          have := ih _ _ hv
          obtain ⟨j, hj1, hj2, hj3⟩ := unL_drop (l := l) (i := 0) (x := u.1) (r := u.2) (by omega) (by simpa using hu)
          rw [hj3, List.length_drop] at this
          simp only [List.length_cons]; omega
      have hl2 := hlen _ _ _ hp
      rw [c2.1, List.length_drop, List.length_take] at hl2
      simp only [List.length_nil] at hl2
      rw [h1] at hl2
      omega
    · rw [if_neg c2] at h; cases h
  · rw [if_neg c] at h; cases h
def scanR (b : List Int) (x5 : List OpS) (i : Nat) (p : List OpS × Nat) : List OpS × Int × Int := (x5 ++ p.1, ((i + p.2 : Nat) : Int), status (b.drop (i + p.2)))
theorem scan_len : ∀ (d : Nat) (b : List Int), Byt b → (scanN d b).2 ≤ b.length ∧ (scanN d b).1.length ≤ (scanN d b).2
  | 0, b => fun _ => by simp [scanN]
  | d + 1, b => fun hb => by
    rw [scanN]
    cases h : blkP b with
    | none => simp
    | some p =>
      obtain ⟨o, n⟩ := p
      have hp := blkP_pos hb h
      have := scan_len d (b.drop n) (byt_drop hb n)
      simp only []
      rw [List.length_drop] at this
      rw [List.length_append]
      omega
theorem iscan_l (b : List Int) (hb : Byt b) (hl : b.length ≤ 4000) : ∀ (d i : Nat) (x5 : List OpS), b.length - i ≤ d → i ≤ b.length → x5.length ≤ i → Ev (fun k => impl_ScanOps.l0 k b x5 i) (scanR b x5 i (scanN (d + 1) (b.drop i))) := by
  intro d
  induction d using Nat.strongRecOn with
  | ind d ih =>
  intro i x5 hd hi h5
  have g0 : (0 : Int) ≤ (i : Int) := by omega
  have g1 : (i : Int) ≤ (b.length : Int) := by omega
  refine Ev.step (fun k => by rw [impl_ScanOps.l0, if_pos g0, if_pos g1, Int.toNat_natCast]) ?_
  refine Ev.bind (iblk_ev (b.drop i) (byt_drop hb i) (by rw [List.length_drop]; omega)) ?_
  rw [scanN]
  cases h : blkP (b.drop i) with
  | none =>
    refine Ev.congr (fun k => if_pos (show (blkR none).2 = 0 from rfl)) ?_
    have hR : scanR b x5 i ([], 0) = (x5, (i : Int), status (b.drop i)) := by unfold scanR; simp
    rw [hR]
    by_cases c0 : (b.drop i).length = 0
    · have hs : status (b.drop i) = 0 := by unfold status; rw [if_pos c0]
      rw [hs]
      exact Ev.congr (f := fun _ => some (x5, (i : Int), (0 : Int))) (fun k => if_pos (by omega)) (Ev.now _)
    refine Ev.congr (fun k => if_neg (by omega)) ?_
    by_cases c1 : (b.drop i).length < 2
    · have hs : status (b.drop i) = 1 := by unfold status; rw [if_neg c0, if_pos c1]
      rw [hs]
      exact Ev.congr (f := fun _ => some (x5, (i : Int), (1 : Int))) (fun k => if_pos (by omega)) (Ev.now _)
    refine Ev.congr (fun k => if_neg (by omega)) ?_
    refine Ev.congr (fun k => if_pos (by omega)) ?_
    obtain ⟨h0, a0, a1⟩ := rd_byt (byt_drop hb i) 0 (by omega)
    obtain ⟨h1, b0, b1⟩ := rd_byt (byt_drop hb i) 1 (by omega)
    have h0' : rd (b.drop i) 0 = (b.drop i)[0]'(by omega) := h0
    have h1' : rd (b.drop i) 1 = (b.drop i)[1]'(by omega) := h1
    have w0 : wrap64 (rd (b.drop i) 0) = rd (b.drop i) 0 := by rw [h0']; unfold wrap64; omega
    have w1 : wrap64 (rd (b.drop i) 1) = rd (b.drop i) 1 := by rw [h1']; unfold wrap64; omega
    have w2 : wrap64 (rd (b.drop i) 1 + 4) = rd (b.drop i) 1 + 4 := by rw [h1']; unfold wrap64; omega
    rw [w0, w1, w2, within_f, within_f]
    refine Ev.bind (Ev.now _) ?_
    by_cases c2 : 1 ≤ rd (b.drop i) 0 ∧ rd (b.drop i) 0 ≤ 16
    · refine Ev.congr (fun k => if_pos (by simpa using c2)) ?_
      refine Ev.congr (fun k => if_pos (by omega)) ?_
      refine Ev.bind (Ev.now _) ?_
      by_cases c3 : 1 ≤ rd (b.drop i) 1 ∧ rd (b.drop i) 1 ≤ 32
      · refine Ev.congr (fun k => if_pos (by simpa using c3)) ?_
        by_cases c4 : ((b.drop i).length : Int) < rd (b.drop i) 1 + 4
        · have hs : status (b.drop i) = 1 := by unfold status; rw [if_neg c0, if_neg c1, if_pos ⟨c2.1, c2.2, c3.1, c3.2, c4⟩]
          rw [hs]
          exact Ev.congr (f := fun _ => some (x5, (i : Int), (1 : Int))) (fun k => if_pos c4) (Ev.now _)
        · have hs : status (b.drop i) = 2 := by unfold status; rw [if_neg c0, if_neg c1, if_neg (fun h => c4 h.2.2.2.2)]
          rw [hs]
          exact Ev.congr (f := fun _ => some (x5, (i : Int), (2 : Int))) (fun k => if_neg c4) (Ev.now _)
      · have hs : status (b.drop i) = 2 := by unfold status; rw [if_neg c0, if_neg c1, if_neg (fun h => c3 ⟨h.2.2.1, h.2.2.2.1⟩)]
        rw [hs]
        exact Ev.congr (f := fun _ => some (x5, (i : Int), (2 : Int))) (fun k => if_neg (by simpa using c3)) (Ev.now _)
    · have hs : status (b.drop i) = 2 := by unfold status; rw [if_neg c0, if_neg c1, if_neg (fun h => c2 ⟨h.1, h.2.1⟩)]
      rw [hs]
      exact Ev.congr (f := fun _ => some (x5, (i : Int), (2 : Int))) (fun k => if_neg (by simpa using c2)) (Ev.now _)
  | some p =>
    obtain ⟨o, n⟩ := p
    have hp := blkP_pos (byt_drop hb i) h
    rw [List.length_drop] at hp
    have g2 : ¬ ((n : Int) = 0) := by omega
    have g3 : x5.length + o.length < 5864062014805 := by omega
    have hw : wrap64 ((i : Int) + (n : Int)) = ((i + n : Nat) : Int) := by unfold wrap64; omega
    refine Ev.congr (fun k => if_neg (show ¬ (blkR (some (o, n))).2 = 0 from g2)) ?_
    refine Ev.congr (fun k => if_pos (show x5.length + (blkR (some (o, n))).1.length < 5864062014805 from g3)) ?_
    show Ev (fun k => impl_ScanOps.l0 k b (x5 ++ o) (wrap64 ((i : Int) + (n : Int)))) _
    rw [hw]
    have := ih (d - 1) (by omega) (i + n) (x5 ++ o) (by omega) (by omega) (by rw [List.length_append]; omega)
    rw [show d - 1 + 1 = d by omega] at this
    have he : scanR b x5 i (o ++ (scanN d ((b.drop i).drop n)).1, n + (scanN d ((b.drop i).drop n)).2) = scanR b (x5 ++ o) (i + n) (scanN d (b.drop (i + n))) := by
      rw [List.drop_drop]
      unfold scanR
      simp only []
      rw [List.append_assoc, Nat.add_assoc]
    rw [he]
    exact this
def scanV (b : List Int) : List OpS × Int × Int := if b.length ≤ 4000 then scanR b [] 0 (scanN (b.length + 1) b) else ([], 0, 2)
theorem iscan_ev (b : List Int) (hb : Byt b) : Ev (fun k => impl_ScanOps.f k b) (scanV b) := by
  unfold impl_ScanOps.f scanV
  by_cases c : b.length ≤ 4000
  · rw [if_pos c]
    refine Ev.congr (fun k => if_neg (by omega)) ?_
    have h := iscan_l b hb c b.length 0 [] (by omega) (by omega) (by simp)
    rw [List.drop_zero] at h
    exact h
  · rw [if_neg c]
    exact Ev.congr (f := fun _ => some (([] : List OpS), (0 : Int), (2 : Int))) (fun k => if_pos (by omega)) (Ev.now _)
theorem same_l (l : List OpS) (hl : l.length ≤ 100000000) : ∀ (d i k : Nat), d = l.length - i → i ≤ l.length → d < k → laws_sameOps.l0 k l l (i : Int) = some true := by
  intro d
  induction d with
  | zero =>
    intro i k hd hi hk
    obtain ⟨k, rfl⟩ := round_ hk
    rw [laws_sameOps.l0, if_neg (by omega)]
  | succ d ih =>
    intro i k hd hi hk
    obtain ⟨k, rfl⟩ := round_ hk
    have hlt : i < l.length := by omega
    rw [laws_sameOps.l0, if_pos (by omega), if_pos (by omega), if_pos (by omega), if_neg (by simp), wrap_succ (n := l.length) hlt (by omega)]
    exact ih (i + 1) k (by omega) (by omega) (by omega)
theorem same_ev (l : List OpS) (hl : l.length ≤ 100000000) : Ev (fun k => laws_sameOps.f k l l) true := by
  refine ⟨l.length + 1, fun k hk => ?_⟩
  show laws_sameOps.f k l l = _
  unfold laws_sameOps.f
  rw [if_pos rfl]
  exact same_l l hl l.length 0 k (by omega) (by omega) (by omega)
end Go.Proofs.Ytbjhaaibmjlhhaa.Q
