/- By hand: the closures of impl.orders: slices.IndexFunc and ContainsFunc over ints, slices.Clone, and the inner test. -/
import Derived.Test.YthhfkicmgneokaaHa
import Derived.Test.YthhfkicmgneokaaQx2
import Derived.Test.YthhfkicmgneokaaQx2
import Derived.Deep.RegionWith
import Derived.WalkSpells
namespace Go.Proofs.Ythhfkicmgneokaa.Q
open Go.RowKit Go.Proofs.YthhfkicmgneokaaW.PrintWords Go.Proofs.YthhfkicmgneokaaW.PrintLast Go.Proofs.YthhfkicmgneokaaW.PrintMore
set_option linter.unusedVariables false
set_option linter.unusedSimpArgs false

/-! ### slices.IndexFunc, slices.ContainsFunc over ints -/
/-- A row that isn't empty stands somewhere. -/
theorem slice1_ {α : Type} {d : Kd α} {e base : Nat} {ok : Nat → Prop} {w : World} {v : Value} {xs : List α} (h : d.R e w base ok v xs) (hn : 0 < xs.length) : ∃ (ad : Addr) (c : Nat), v = .slice (some ad) xs.length c := by
  obtain ⟨g, c, he, _⟩ := Kd.R_form h hn
  exact ⟨_, c, he⟩

set_option maxHeartbeats 1000000 in
set_option maxRecDepth 100000 in
theorem idxfInt (F : Nat) (hE : Enters F) (cap : Array Value) (p : Int → Bool) (A : Option Addr) (c : Nat) (l : List Int) (w : World) (hr0 : Kd.C (Kd.int .i64) w A l.length l) (hc0 : l.length ≤ c)
    (hf : ∀ (x : Int) (W : World), x ∈ l → Below w.heap.size w W → Calls Try.prog F (#[.int .i64 x] ++ cap) W (fun e W' => e = .returned (.bool (p x)) ∧ Below W.heap.size W W')) :
    Calls Try.prog 86 #[.slice A l.length c, .func (.func F) #[] cap] w fun e w' => e = .returned (.int .i64 (idxp p l 0)) ∧ Below w.heap.size w w' := by
  have HR0 := Aside0.mk hr0
  have HC0 := Aside0.mk hc0
  have HF := Aside0.mk hf
  have he := hE
  unfold Enters at he
  have hle : l.length ≤ 9223372036854775807 := hr0.2.1
  clear hr0 hc0 hf hE
  have HB := Aside0.mk (Below.refl w.heap.size w)
  go_enter Try.func86, Try.ntmps86
  go_wp2
  go_loopg [5, 8] l.length (fun kq v5 v8 w' => ∃ (i : Nat), v8 = .int .i64 (i : Int) ∧ Aside0 (i ≤ l.length) ∧ Aside0 (idxp p l 0 = idxp p (l.drop i) i) ∧ Aside0 (kq = l.length - i) ∧ Aside0 (Below w.heap.size w w'))
  case atStart => exact ⟨0, rfl, ⟨Nat.zero_le _⟩, ⟨rfl⟩, ⟨rfl⟩, HB⟩
  case round =>
    obtain ⟨i, rfl, HI, HX, HK1, HB⟩ := hrel
    by_cases hlt : i < l.length
    · obtain ⟨ad, e124, h0⟩ := Kd.at_int HR0.out (i : Int) (by omega) (by omega)
      cases e124
      replace h0 := (HB.out.cell (World.block_lt_of_cell? w _ h0)).trans h0
      simp only [Int.toNat_natCast] at h0
      have HS := Aside0.mk (idxp_step p 0 l i hlt)
      have HM := Aside0.mk (show rd l (i : Int) ∈ l by unfold rd; rw [Int.toNat_natCast, List.getD_eq_getElem?_getD, List.getElem?_eq_getElem hlt]; exact List.getElem_mem _)
      cases hp : p (rd l (i : Int)) with
      | false =>
        have HP := Aside0.mk hp
        clear hp
        go_wp2_with ((with_reducible refine (HF.out (rd l (i : Int)) _ HM.out HB.out).mono ?_); rintro e w1 ⟨rfl, hb⟩; rw [HP.out]; have HB1 := Aside0.mk (below_step HB.out hb); clear hb)
        go_roundg (l.length - (i + 1))
        case measure => have := HK1.out; omega
        case rel => exact ⟨i + 1, by first | rfl | (simp; done), ⟨by omega⟩, ⟨by rw [HX.out, HS.out, if_neg (Bool.eq_false_iff.mp (show p (l.getD i 0) = false from HP.out))]⟩, ⟨rfl⟩, HB1⟩
      | true =>
        have HP := Aside0.mk hp
        clear hp
        go_wp2_with ((with_reducible refine (HF.out (rd l (i : Int)) _ HM.out HB.out).mono ?_); rintro e w1 ⟨rfl, hb⟩; rw [HP.out]; have HB1 := Aside0.mk (below_step HB.out hb); clear hb)
        go_ret
        exact ⟨by rw [HX.out, HS.out, if_pos (show p (l.getD i 0) = true from HP.out)]; rfl, HB1.out⟩
    · have HS := Aside0.mk (idxp_end p l i hlt)
      go_wp2
      go_ret
      exact ⟨by rw [HX.out, HS.out]; rfl, HB.out⟩

set_option maxHeartbeats 1000000 in
set_option maxRecDepth 100000 in
theorem hasfInt (F : Nat) (hE : Enters F) (cap : Array Value) (p : Int → Bool) (A : Option Addr) (c : Nat) (l : List Int) (w : World) (hr0 : Kd.C (Kd.int .i64) w A l.length l) (hc0 : l.length ≤ c)
    (hf : ∀ (x : Int) (W : World), x ∈ l → Below w.heap.size w W → Calls Try.prog F (#[.int .i64 x] ++ cap) W (fun e W' => e = .returned (.bool (p x)) ∧ Below W.heap.size W W')) :
    Calls Try.prog 65 #[.slice A l.length c, .func (.func F) #[] cap] w fun e w' => e = .returned (.bool (l.any p)) ∧ Below w.heap.size w w' := by
  have HI := Aside0.mk (idxfInt F hE cap p A c l w hr0 hc0 hf)
  have HA := Aside0.mk (idxp_any p l 0 (Int.le_refl 0))
  clear hr0 hc0 hf hE
  go_enter Try.func65, Try.ntmps65
  go_wp2_with (go_at_call 86; refine HI.out.mono ?_; rintro e w1 ⟨rfl, hb⟩; have HB1 := Aside0.mk hb; clear hb)
  go_ret
  exact ⟨by rw [← HA.out]; first | rfl | simp, HB1.out⟩

/-! ### slices.Clone over ints -/
set_option maxHeartbeats 1000000 in
set_option maxRecDepth 100000 in
theorem cloneNil (c : Nat) (w : World) : Calls Try.prog 67 #[.slice none 0 c] w fun e w' => e = .returned (.slice none 0 0) ∧ Below w.heap.size w w' := by
  have hq := fun (w : World) (c : Nat) => Lib.run_eql_slice_nil (P := Try.prog) w 23 3 none 0 c 0 0 Try.underlying23
  go_enter Try.func67, Try.ntmps67
  go_wp2
  go_ret
  exact ⟨rfl, Below.refl _ _⟩

set_option maxHeartbeats 1000000 in
set_option maxRecDepth 100000 in
theorem cloneSome (ad : Addr) (c : Nat) (l : List Int) (w : World) (hr0 : Kd.C (Kd.int .i64) w (some ad) l.length l) (hc0 : l.length ≤ c) (hl : l.length * 8 ≤ 140737488355328) :
    Calls Try.prog 67 #[.slice (some ad) l.length c] w fun e w' => ∃ v ad' c', e = .returned v ∧ v = .slice (some ad') l.length c' ∧ Kd.R (Kd.int .i64) 3 w' w.heap.size (fun _ => True) v l ∧ Below w.heap.size w w' := by
  have hq := fun (w : World) (c : Nat) => Lib.run_eql_slice_nil (P := Try.prog) w 23 3 (some ad) l.length c 0 0 Try.underlying23
  have HR0 := Aside0.mk hr0
  have HC0 := Aside0.mk hc0
  have HL := Aside0.mk hl
  clear hr0 hc0 hl
  have HB := Aside0.mk (Below.refl w.heap.size w)
  go_enter Try.func67, Try.ntmps67
  go_wp2_with (first
    | ((with_reducible refine gate_dst (N := 5) rfl ?_); refine Kd.R_lit (Kd.int .i64) w.heap.size 3 ?hg (N := 5) ?hd (xs := ([] : List Int)) (inner := []) (ok := fun _ => True) (okp := fun _ => True) ?hr ?hp (fun _ hk => hk) trivial (Below.refl _ _) (Nat.le_refl _) (by simp) ?_; (case hd => rfl); (case hg => rfl); (case hr => first | (go_simp; done) | (go_simp; rfl)); (case hp => exact (Reps.none _ _)); intro v1 w1 ho hb hg_ hnew_; have HO := Aside0.mk ho; have HB1 := Aside0.mk hb; have HN := Aside0.mk hnew_; clear hg_ hnew_ ho hb)
    | ((with_reducible refine gate_builtin (b := .append) (xs := #[.tmp 5, .tmp 6]) rfl ?_); at_builtin; refine Kd.R_append_rows (Kd.int .i64) (Rr := (Kd.int .i64).K w1) (w0 := w) w.heap.size rfl (.tmp 5) (.tmp 6) 23 3 (.int .i64 0) 8 rfl Try.underlying23 info3 rfl (by decide) (by omega) v1 ([] : List Int) l (some ad) l.length c (fun _ => True) (fun _ => False) rfl rfl HO.out (Kd.C_below HR0.out HB1.out) (fun _ _ h => h) (fun _ hk => hk.elim) (fun _ _ => trivial) HB1.out HB1.out.size (by have := HL.out; simp; omega) ?_; intro v2 w2 ho hb hg hat; have HO2 := Aside0.mk ho; have HB2 := Aside0.mk hb; have HAT := Aside0.mk hat; clear ho hb hg hat))
  go_ret
  obtain ⟨A, c2, e2⟩ := Kd.R_slice HO2.out
  have hA : ∃ ad', A = some ad' := by
    cases A with
    | some ad' => exact ⟨ad', rfl⟩
    | none =>
      subst e2
      obtain ⟨b, hb, _⟩ := HN.out
      rcases HAT.out with h | ⟨b', h, _⟩
      · rw [← h] at hb; simp [Value.ownBlock] at hb
      · simp [Value.ownBlock] at h
  obtain ⟨ad', rfl⟩ := hA
  exact ⟨v2, ad', c2, rfl, e2, HO2.out, HB2.out⟩

theorem cloneV {base : Nat} {ok : Nat → Prop} (v : Value) (l : List Int) (w : World) (hv : Kd.V (Kd.int .i64) 3 w base ok v l) (hl : l.length * 8 ≤ 140737488355328) :
    Calls Try.prog 67 #[v] w fun e w' => ∃ v', e = .returned v' ∧ Kd.R (Kd.int .i64) 3 w' w.heap.size (fun _ => True) v' l ∧ Below w.heap.size w w' := by
  obtain ⟨A, c, rfl, hc, hf⟩ := hv
  have hr := Kd.F_now hf
  cases A with
  | some ad => exact (cloneSome ad c l w hr hc hl).mono fun e w' ⟨v, ad', c', he, hv, hR, hb⟩ => ⟨v, he, hR, hb⟩
  | none =>
    have h0 : l = [] := by
      cases l with
      | nil => rfl
      | cons x r => obtain ⟨ad, h, _⟩ := hr.2.2 (by simp); cases h
    subst h0
    exact (cloneNil c w).mono fun e w' ⟨he, hb⟩ => ⟨_, he, Kd.R_nil _ _ _ _ _, hb⟩

def ahead (a b : S55) : Bool := callOk a && callOk b && decide (a.f4 < b.f3)
theorem ahead_f (a b : S55) : impl_Ahead.f 1 a.f0 a.f1 a.f2 a.f3 a.f4 b.f0 b.f1 b.f2 b.f3 b.f4 = some (ahead a b) := by
  unfold impl_Ahead.f ahead
  rw [callOk_f, callOk_f]
  cases callOk a <;> cases callOk b <;> simp

abbrev cb (x : S55) : Obj := .cells #[.bool x.f0, .int .i64 x.f1, .int .i64 x.f2, .int .i64 x.f3, .int .i64 x.f4] 55 (0, 0)

set_option maxHeartbeats 1000000 in
set_option maxRecDepth 100000 in
theorem aheadk_calls (g bc : Nat) (x : S55) (Ac : Option Addr) (cc : Nat) (lc : List S55) (k : Int) (w : World) (hg : w.heap[g]? = some (cb x)) (hc : w.heap[bc]? = some (.cells #[.slice Ac lc.length cc] 26 (0, 0)))
    (hr : Kd.C k55 w Ac lc.length lc) (h0 : 0 ≤ k) (h1 : k < lc.length) :
    Calls Try.prog 66 #[.int .i64 k, .pointer (some ⟨g, 0, none⟩), .pointer (some ⟨bc, 0, none⟩)] w fun e w' => e = .returned (.bool (ahead x (rd_T55 lc k))) ∧ Below w.heap.size w w' := by
  obtain ⟨ad, e, q0, q1, q2, q3, q4⟩ := at_T55 hr k h0 h1
  cases e
  have c0 : w.cell? ⟨g, 0, none⟩ = some (.bool x.f0) := (blk_cell hg 0).trans rfl
  have c1 : w.cell? ⟨g, 1, none⟩ = some (.int .i64 x.f1) := (blk_cell hg 1).trans rfl
  have c2 : w.cell? ⟨g, 2, none⟩ = some (.int .i64 x.f2) := (blk_cell hg 2).trans rfl
  have c3 : w.cell? ⟨g, 3, none⟩ = some (.int .i64 x.f3) := (blk_cell hg 3).trans rfl
  have c4 : w.cell? ⟨g, 4, none⟩ = some (.int .i64 x.f4) := (blk_cell hg 4).trans rfl
  have d0 := cell_of_one hc
  clear hg hc hr
  go_enter Try.func66, Try.ntmps66
  go_wp2
  go_region_with (go_at_call 51; refine (impl_Ahead.calls 1 _ _ _ _ _ _ _ _ _ _ _ _ (ahead_f x (rd_T55 lc k))).mono ?_; rintro e w' ⟨rfl, hb⟩)
  all_goals go_wp2
  all_goals go_ret
  all_goals exact ⟨rfl, below_step (below_drew (Below.refl _ _)) hb⟩

end Go.Proofs.Ythhfkicmgneokaa.Q
