/- What the printed functions on packing and unpacking compute, plainly (FnPacked). -/
import Derived.Test.YtbjhaaibmjlhhaaPc
import Derived.Test.YtbjhaaibmjlhhaaRb
import Derived.Test.YtbjhaaibmjlhhaaQx17
import Derived.Test.YtbjhaaibmjlhhaaQx12
namespace Go.Proofs.Ytbjhaaibmjlhhaa.Q
open Go.RowKit Go.Proofs.YtbjhaaibmjlhhaaW.PrintWords Go.Proofs.YtbjhaaibmjlhhaaW.PrintLast Go.Proofs.YtbjhaaibmjlhhaaW.PrintMore
set_option linter.unusedVariables false
set_option linter.unusedSimpArgs false

theorem iPackOp_ev (x : OpS) (h : opOk x = true) : Ev (fun k => impl_PackOp.f k x.f0 x.f1 x.f2) (enc x) := by
  refine Ev.at1 fun k => ?_
  have hv := enc_val x h
  unfold impl_PackOp.f enc
  rw [iOpOk_f, Option.bind_some, if_pos h, ihasX_v, Option.bind_some, hv.1]
  by_cases c : 1 ≤ x.f0 ∧ x.f0 ≤ 3
  · rw [if_pos (decide_eq_true c), if_pos c, hv.2 c]
  · rw [if_neg (by simpa using c), if_neg c]
theorem packed_l1 (l : List OpS) (out : List Int) (n : Int) (seg : List OpS) (hs : seg.length ≤ 16) (hok : seg.all opOk = true) : ∀ (d p : Nat) (body : List Int), d = seg.length - p → p ≤ seg.length → body.length ≤ 2 * p →
    ∀ r, Ev (fun k => impl_packed.l1 k l out n (body ++ encs (seg.drop p)) seg seg.length seg.length) r → Ev (fun k => impl_packed.l1 k l out n body seg seg.length p) r := by
  intro d
  induction d with
  | zero =>
    intro p body hd hp hb r hE
    have : p = seg.length := by omega
    subst this
    rw [List.drop_length, encs_nil, List.append_nil] at hE
    exact hE
  | succ d ih =>
    intro p body hd hp hb r hE
    have hlt : p < seg.length := by omega
    have hr : rd_T38 seg (p : Int) = seg[p] := rdT_at seg p hlt
    have hw := wrap_succ (i := p) (n := seg.length) hlt (by omega)
    have he := enc_len seg[p]
    have h0 : ((p : Int) < (seg.length : Int)) := by omega
    have h1 : (0 : Int) ≤ (p : Int) := by omega
    have hx : opOk seg[p] = true := List.all_eq_true.mp hok _ (List.getElem_mem _)
    have hbl : body.length + (enc seg[p]).length < 140737488355328 := by omega
    rw [List.drop_eq_getElem_cons hlt, encs_cons, ← List.append_assoc] at hE
    refine Ev.step (fun k => by rw [impl_packed.l1, if_pos h0, if_pos h1, if_pos h0, hr, hw]) ?_
    refine Ev.bind (iPackOp_ev seg[p] hx) ?_
    refine Ev.congr (fun k => if_pos hbl) ?_
    exact ih (p + 1) (body ++ enc seg[p]) (by omega) (by omega) (by rw [List.length_append]; omega) r hE
theorem packed_l0 : ∀ (d : Nat) (l : List OpS) (out : List Int), l.length ≤ d → l.all opOk = true → out.length + 6 * l.length ≤ 100000000 → Ev (fun k => impl_packed.l0 k l out) (out ++ packs l) := by
  intro d
  induction d using Nat.strongRecOn with
  | ind d ih =>
  intro l out hd hok ho
  by_cases c : l = []
  · subst c
    rw [packs_nil, List.append_nil]
    exact Ev.at1 fun k => by rw [impl_packed.l0, if_neg (by simp)]
  have hl : 0 < l.length := List.length_pos_iff.mpr c
  have hmn : mn 16 (l.length : Int) = (((l.take 16).length : Nat) : Int) := by
    rw [List.length_take]; unfold mn
    by_cases c2 : (l.length : Int) < 16
    · rw [if_pos c2]; omega
    · rw [if_neg c2]; omega
  have htl : (l.take 16).length ≤ 16 ∧ (l.take 16).length ≤ l.length ∧ 0 < (l.take 16).length := by rw [List.length_take]; omega
  have g0 : (l.length : Int) > 0 := by omega
  have g1 : (0 : Int) ≤ (((l.take 16).length : Nat) : Int) := by omega
  have g2 : (((l.take 16).length : Nat) : Int) ≤ (l.length : Int) := by omega
  have ht2 : l.take (l.take 16).length = l.take 16 := by
    rw [List.length_take]
    by_cases c2 : 16 ≤ l.length
    · rw [Nat.min_eq_left c2]
    · rw [Nat.min_eq_right (by omega), List.take_of_length_le (by omega), List.take_of_length_le (by omega)]
  have hd2 : l.drop (l.take 16).length = l.drop 16 := by
    rw [List.length_take]
    by_cases c2 : 16 ≤ l.length
    · rw [Nat.min_eq_left c2]
    · rw [Nat.min_eq_right (by omega), List.drop_eq_nil_of_le (by omega), List.drop_eq_nil_of_le (by omega)]
  have hbl := block_len (l.take 16)
  have hel := encs_len (l.take 16)
  refine Ev.step (fun k => by rw [impl_packed.l0, if_pos g0, hmn, if_pos g1, if_pos g2, Int.toNat_natCast, ht2, Option.bind_some]) ?_
  refine packed_l1 l out _ (l.take 16) htl.1 (all_take hok 16) (l.take 16).length 0 [] (by omega) (by omega) (by simp) _ ?_
  rw [List.drop_zero, List.nil_append]
  have e0 : (((l.take 16).length : Nat) : Int) % 256 = ((l.take 16).length : Int) := by omega
  have e1 : ((encs (l.take 16)).length : Int) % 256 = ((encs (l.take 16)).length : Int) := by omega
  have g4 : [((l.take 16).length : Int), ((encs (l.take 16)).length : Int)].length + (encs (l.take 16)).length < 140737488355328 := by simp; omega
  refine Ev.step (fun k => by rw [impl_packed.l1, if_neg (Int.lt_irrefl _), e0, e1, Option.bind_some, if_pos g4]) ?_
  refine Ev.bind (sealed_ev (head2 (l.take 16) ++ encs (l.take 16)) (by rw [List.length_append]; unfold head2; simp; omega) (byt_app (head_byt _ htl.1) (encs_byt _ (all_take hok 16)))) ?_
  have hseal : sealP (head2 (l.take 16) ++ encs (l.take 16)) = blockOf (l.take 16) := rfl
  rw [hseal]
  have g5 : out.length + (blockOf (l.take 16)).length < 140737488355328 := by omega
  refine Ev.congr (fun k => by rw [if_pos g5, if_pos g1, if_pos g2, Int.toNat_natCast, hd2]) ?_
  have := ih (d - 1) (by omega) (l.drop 16) (out ++ blockOf (l.take 16)) (by rw [List.length_drop]; omega) (all_drop hok 16) (by rw [List.length_append, List.length_drop]; rw [List.length_take] at hel; omega)
  rw [List.append_assoc, ← packs_cons l c] at this
  exact this
theorem packed_ev (l : List OpS) (hl : l.length ≤ 100000) (hok : l.all opOk = true) : Ev (fun k => impl_packed.f k l) (packs l) :=
  packed_l0 l.length l [] (by omega) hok (by simp; omega)
theorem any_all (l : List OpS) : (l.any fun x => !opOk x) = !(l.all opOk) := by
  induction l with
  | nil => rfl
  | cons x l ih => rw [List.any_cons, List.all_cons, ih]; cases opOk x <;> rfl
theorem iPack_ev (l : List OpS) (hl : l.length ≤ 100000) : Ev (fun k => impl_PackOps.f k l) (fin l []) := by
  have hpl := packs_len l.length l (Nat.le_refl _)
  unfold impl_PackOps.f
  by_cases c : (l.length : Int) > 4000
  · have hf : fin l [] = ([], false) := by unfold fin; rw [if_neg]; rintro ⟨_, h⟩; simp at h; omega
    rw [hf]
    exact Ev.congr (f := fun _ => some ([], false)) (fun k => if_pos c) (Ev.now _)
  refine Ev.congr (fun k => if_neg c) ?_
  cases ha : l.all opOk with
  | false =>
    have hf : fin l [] = ([], false) := by unfold fin; rw [if_neg]; rintro ⟨h, _⟩; rw [ha] at h; cases h
    rw [hf]
    exact Ev.congr (f := fun _ => some ([], false)) (fun k => if_pos (by rw [any_all, ha]; rfl)) (Ev.now _)
  | true =>
    refine Ev.congr (fun k => if_neg (by rw [any_all, ha]; decide)) ?_
    refine Ev.bind (packed_ev l hl ha) ?_
    by_cases c2 : (packs l).length > 4000
    · have hf : fin l [] = ([], false) := by unfold fin; rw [if_neg]; rintro ⟨_, h⟩; simp at h; omega
      rw [hf]
      exact Ev.congr (f := fun _ => some ([], false)) (fun k => if_pos (by omega)) (Ev.now _)
    · have hf : fin l [] = (packs l, true) := by unfold fin; rw [if_pos ⟨ha, by simp; omega⟩]; rfl
      rw [hf]
      exact Ev.congr (f := fun _ => some (packs l, true)) (fun k => if_neg (by omega)) (Ev.now _)
theorem sameB_l (l : List Int) (hl : l.length ≤ 100000000) : ∀ (d i k : Nat), d = l.length - i → i ≤ l.length → d < k → laws_sameBytes.l0 k l l (i : Int) = some true := by
  intro d
  induction d with
  | zero =>
    intro i k hd hi hk
    obtain ⟨k, rfl⟩ := round_ hk
    rw [laws_sameBytes.l0, if_neg (by omega)]
  | succ d ih =>
    intro i k hd hi hk
    obtain ⟨k, rfl⟩ := round_ hk
    have hlt : i < l.length := by omega
    rw [laws_sameBytes.l0, if_pos (by omega), if_pos (by omega), if_pos (by omega), if_pos rfl, wrap_succ (n := l.length) hlt (by omega)]
    exact ih (i + 1) k (by omega) (by omega) (by omega)
theorem sameB_ev (l : List Int) (hl : l.length ≤ 100000000) : Ev (fun k => laws_sameBytes.f k l l) true := by
  refine ⟨l.length + 1, fun k hk => ?_⟩
  show laws_sameBytes.f k l l = _
  unfold laws_sameBytes.f
  rw [if_pos rfl]
  exact sameB_l l hl l.length 0 k (by omega) (by omega) (by omega)
theorem take_drop_status (b : List Int) (cut : Nat) : status ((b.take cut).drop cut) = 0 := by
  rw [List.drop_eq_nil_of_le (by rw [List.length_take]; omega)]; rfl
/- what a script's reading tells of a packed script that is cut -/
theorem scan_cut (l : List OpS) (hl : l.length ≤ 100000) (hok : l.all opOk = true) (hp : (packs l).length ≤ 4000) (cut : Nat) (hc : cut ≤ (packs l).length) :
    ∃ (j n : Nat) (s : Int), scanV ((packs l).take cut) = (l.take j, (n : Int), s) ∧ j ≤ l.length ∧ (j % 16 = 0 ∨ j = l.length) ∧ n ≤ cut ∧ s ≠ 2 ∧ (cut = (packs l).length → j = l.length ∧ n = cut ∧ s = 0) := by
  obtain ⟨j, n, hs, hj, hj16, hn, hst, hfull⟩ := scan_packs l.length l cut (Nat.le_refl _) hok hc
  refine ⟨j, n, status (((packs l).take cut).drop n), ?_, hj, hj16, hn, hst, fun h => ⟨(hfull h).1, (hfull h).2, by rw [(hfull h).2]; exact take_drop_status _ _⟩⟩
  have hlen : ((packs l).take cut).length = cut := by rw [List.length_take]; omega
  unfold scanV
  rw [if_pos (by omega)]
  have hany : ∀ (d : Nat) (b : List Int), Byt b → b.length ≤ d → ∀ e, b.length < e → scanN e b = scanN (b.length + 1) b := by
    intro d
    induction d using Nat.strongRecOn with
    | ind d ih =>
    intro b hbb hb e he
    obtain ⟨e, rfl⟩ : ∃ q, e = q + 1 := ⟨e - 1, by omega⟩
    rw [scanN, scanN]
    cases h : blkP b with
    | none => rfl
    | some p =>
      obtain ⟨o, m⟩ := p
      have hpos := blkP_pos hbb h
      have hdl : (b.drop m).length = b.length - m := List.length_drop ..
      simp only []
      rw [ih (d - 1) (by omega) (b.drop m) (byt_drop hbb m) (by omega) e (by omega), ih (d - 1) (by omega) (b.drop m) (byt_drop hbb m) (by omega) b.length (by omega)]
  have h1 := hs (l.length + 1 + cut) (by omega)
  rw [hany cut _ (byt_take (packs_byt l.length l (Nat.le_refl _) hok) cut) (by omega) (l.length + 1 + cut) (by omega)] at h1
  rw [h1]
  unfold scanR
  simp
theorem unpack_ev (l : List OpS) (hl : l.length ≤ 100000) (hok : l.all opOk = true) (hp : (packs l).length ≤ 4000) : Ev (fun k => impl_UnpackOps.f k (packs l)) (l, true) := by
  obtain ⟨j, n, s, hs, hj, hj16, hn, hst, hfull⟩ := scan_cut l hl hok hp (packs l).length (Nat.le_refl _)
  obtain ⟨rfl, rfl, rfl⟩ := hfull rfl
  rw [List.take_length, List.take_length] at hs
  have hb := packs_byt l.length l (Nat.le_refl _) hok
  unfold impl_UnpackOps.f
  refine Ev.bind (iscan_ev (packs l) hb) ?_
  rw [hs]
  refine Ev.congr (fun k => if_pos rfl) ?_
  refine Ev.bind (packed_ev l hl hok) ?_
  refine Ev.congr (f := fun _ => some (l, true)) (fun k => ?_) (Ev.now _)
  rw [equal_v _ _ hb hb, Option.bind_some, if_pos (by simp)]
theorem longest_ev (b : List Int) (hb : Byt b) (hl : b.length ≤ 100000) (o : List OpS) (n : Nat) (s : Int) (hs : scanV b = (o, (n : Int), s)) (hn : n ≤ b.length) : Ev (fun k => impl_Longest.f k b) (b.take n) := by
  unfold impl_Longest.f
  refine Ev.bind (iscan_ev b hb) ?_
  rw [hs]
  have g0 : (0 : Int) ≤ (n : Int) := by omega
  have g1 : (n : Int) ≤ (b.length : Int) := by omega
  refine Ev.congr (f := fun _ => some (b.take n)) (fun k => ?_) (Ev.now _)
  simp only []
  rw [if_pos g0, if_pos g1, Int.toNat_natCast, clone_v _ (by rw [List.length_take]; omega), Option.bind_some]
theorem drawPack_ok (b : List Int) (hb : b.length ≤ 9223372036854775806) : ∃ l : List OpS, Ev (fun k => spec_DrawPackOps.f k b) l ∧ l.length ≤ 2200 := by
  obtain ⟨h0, hN⟩ := new_ok b hb
  obtain ⟨s, eS, hs0, hs1⟩ := size_ok b 60 (by omega) hb
  obtain ⟨n, i1, h1, e1, hi1, hn0, hn1⟩ := below_ok b 0 h0 s hb (Int.le_refl _)
  obtain ⟨o, i2, h2, e2, hi2⟩ := once_ok b i1 h1 60 hb hi1
  have hn60 : n ≤ 60 := by
    by_cases c : 0 < s
    · have := hn1 c; omega
    · have hs : s = 0 := by omega
      subst hs
      have : spec_l01Below.f b 0 h0 0 = some (0, 0, h0) := by unfold spec_l01Below.f; rw [if_pos (Int.le_refl _)]
      rw [this] at e1
      injection e1 with e1
      injection e1 with e1
      omega
  cases o with
  | true =>
    obtain ⟨r, hE, hl, _⟩ := drawOps_ok b 2200 hb (by omega) i2 h2 hi2
    refine ⟨r.1, ?_, by omega⟩
    unfold spec_DrawPackOps.f spec_l17Ops.f
    have hE' : Ev (fun k => spec_l17DrawOps.f k b i2 h2 2200) r := hE
    refine Ev.bind (a := r.1) (Ev.bind hN ?_) (Ev.now _)
    simp only [eS, e1, e2, Option.bind_some, if_true]
    exact Ev.bind hE' (Ev.now _)
  | false =>
    obtain ⟨r, hE, hl, _⟩ := drawOps_ok b n.toNat hb (by omega) i2 h2 hi2
    refine ⟨r.1, ?_, by omega⟩
    unfold spec_DrawPackOps.f spec_l17Ops.f
    rw [show ((n.toNat : Nat) : Int) = n by omega] at hE
    refine Ev.bind (a := r.1) (Ev.bind hN ?_) (Ev.now _)
    simp only [eS, e1, e2, Option.bind_some]
    refine Ev.congr (fun k => if_neg (by decide)) ?_
    exact Ev.bind hE (Ev.now _)
end Go.Proofs.Ytbjhaaibmjlhhaa.Q
