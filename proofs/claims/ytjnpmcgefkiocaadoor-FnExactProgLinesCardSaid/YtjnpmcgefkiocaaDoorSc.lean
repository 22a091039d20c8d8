/- By hand: impl.ProgOk (a closure over the program and the code at hand, given to slices.ContainsFunc). -/
import Derived.Test.YtjnpmcgefkiocaaDoorQx6
import Derived.Deep.RegionWith
import Derived.WalkSpells
import Derived.Laws.EntriesVeiled
namespace Go.Proofs.YtjnpmcgefkiocaaDoor.Q
open Go.RowKit Go.Proofs.YtjnpmcgefkiocaaDoorW.PrintWords Go.Proofs.YtjnpmcgefkiocaaDoorW.PrintLast Go.Proofs.YtjnpmcgefkiocaaDoorW.PrintMore
set_option linter.unusedVariables false
set_option linter.unusedSimpArgs false

/-! ### plain words -/
def idxp {α : Type} (p : α → Bool) : List α → Int → Int
  | [], _ => -1
  | x :: r, i => if p x then i else idxp p r (i + 1)
theorem idxp_step {α : Type} (p : α → Bool) (z : α) (l : List α) (i : Nat) (h : i < l.length) : idxp p (l.drop i) i = if p (l.getD i z) then (i : Int) else idxp p (l.drop (i + 1)) ((i + 1 : Nat) : Int) := by
  rw [List.drop_eq_getElem_cons h, idxp, List.getD_eq_getElem?_getD, List.getElem?_eq_getElem h]; rfl
theorem idxp_end {α : Type} (p : α → Bool) (l : List α) (i : Nat) (h : ¬ i < l.length) : idxp p (l.drop i) i = -1 := by
  rw [List.drop_eq_nil_of_le (by omega), idxp]
theorem idxp_any {α : Type} (p : α → Bool) (l : List α) (i : Int) (h : 0 ≤ i) : decide (0 ≤ idxp p l i) = l.any p := by
  induction l generalizing i with
  | nil => simp [idxp]
  | cons x r ih =>
    rw [idxp, List.any_cons]
    by_cases hp : p x = true
    · rw [if_pos hp, hp]; simp [h]
    · rw [if_neg hp, ih (i + 1) (by omega), Bool.eq_false_iff.mpr hp]; simp
def Enters (F : Nat) : Prop := ∀ args w, (callFunc F args).run Tryd.prog w = .ok (.enter F args) w
abbrev cv (x : S63) : Value := .agg #[.int .i64 x.f0, .int .i64 x.f1, .int .i64 x.f2, .int .i64 x.f3]

/-! ### impl.InstrOk, plainly -/
theorem within_f (a b c : Int) : impl_within.f a b c = some (decide (b ≤ a) && decide (a ≤ c)) := by
  unfold impl_within.f
  by_cases h : a ≥ b
  · rw [if_pos h]; simp [show b ≤ a from h]
  · rw [if_neg h]; simp [show ¬ b ≤ a from h]
def uR (x : S63) : Bool := x.f0 != 4
def uS (x : S63) : Bool := decide (x.f0 = 1 ∨ x.f0 = 8 ∨ x.f0 = 5 ∨ x.f0 = 7)
def uN (x : S63) : Bool := !decide (x.f0 = 1 ∨ x.f0 = 8 ∨ x.f0 = 4)
def okI (x : S63) (c n : Int) : Bool :=
  (decide (1 ≤ c) && decide (c ≤ 16)) && (decide (0 ≤ n) && decide (n ≤ 16)) && (decide (0 ≤ x.f0) && decide (x.f0 ≤ 8)) && (decide (0 ≤ x.f1) && decide (x.f1 ≤ 3)) && (decide (0 ≤ x.f2) && decide (x.f2 ≤ 3))
   && (uR x || decide (x.f1 = 0)) && (uS x || decide (x.f2 = 0)) &&
   (if uN x then (if x.f0 = 0 then decide (-1000 ≤ x.f3) && decide (x.f3 ≤ 1000) else if x.f0 = 6 then decide (0 ≤ x.f3) && decide (x.f3 ≤ n) else decide (0 ≤ x.f3) && decide (x.f3 ≤ wrap64 (c - 1))) else decide (x.f3 = 0))
theorem usesR_f (x : S63) : impl_Instr_usesR.f x.f0 x.f1 x.f2 x.f3 = some (uR x) := rfl
theorem usesS_f (x : S63) : impl_Instr_usesS.f x.f0 x.f1 x.f2 x.f3 = some (uS x) := by
  unfold impl_Instr_usesS.f uS
  by_cases h1 : x.f0 = 1
  · simp [h1]
  · by_cases h2 : x.f0 = 8
    · simp [h2]
    · by_cases h3 : x.f0 = 5
      · simp [h3]
      · simp only [h1, h2, h3, if_false, false_or]; congr 1
theorem usesN_f (x : S63) : impl_Instr_usesN.f x.f0 x.f1 x.f2 x.f3 = some (uN x) := by
  unfold impl_Instr_usesN.f uN
  by_cases h1 : x.f0 = 1
  · simp [h1]
  · by_cases h2 : x.f0 = 8
    · simp [h2]
    · simp only [h1, h2, if_false, false_or]; congr 1
theorem okI_j1 (x : S63) (c n : Int) (k : Nat) (b : Bool) : impl_InstrOk.j1 (k + 1) c n b x.f0 x.f1 x.f2 x.f3 = some (!b && (if uN x then (if x.f0 = 0 then decide (-1000 ≤ x.f3) && decide (x.f3 ≤ 1000) else if x.f0 = 6 then decide (0 ≤ x.f3) && decide (x.f3 ≤ n) else decide (0 ≤ x.f3) && decide (x.f3 ≤ wrap64 (c - 1))) else decide (x.f3 = 0))) := by
  cases b with
  | true => simp only [impl_InstrOk.j1, if_true]; rfl
  | false =>
    simp only [impl_InstrOk.j1, usesN_f, within_f, Option.bind_some, Bool.false_eq_true, if_false, Bool.not_false, Bool.true_and]
    cases uN x with
    | false => simp only [Bool.false_eq_true, if_false]; congr 1
    | true => simp only [if_true]; split; rfl; split <;> rfl
theorem okI_j0 (x : S63) (c n : Int) (k : Nat) (b : Bool) : impl_InstrOk.j0 (k + 2) c n b x.f0 x.f1 x.f2 x.f3 = some (!b && ((uR x || decide (x.f1 = 0)) && (uS x || decide (x.f2 = 0)) && (if uN x then (if x.f0 = 0 then decide (-1000 ≤ x.f3) && decide (x.f3 ≤ 1000) else if x.f0 = 6 then decide (0 ≤ x.f3) && decide (x.f3 ≤ n) else decide (0 ≤ x.f3) && decide (x.f3 ≤ wrap64 (c - 1))) else decide (x.f3 = 0)))) := by
  have hne : (x.f2 != 0) = !decide (x.f2 = 0) := by by_cases h : x.f2 = 0 <;> simp [h]
  cases b with
  | true => simp only [impl_InstrOk.j0, if_true]; rfl
  | false =>
    simp only [impl_InstrOk.j0, usesR_f, usesS_f, okI_j1, Option.bind_some, Bool.false_eq_true, if_false, Bool.not_false, Bool.true_and, hne]
    generalize (if uN x then (if x.f0 = 0 then decide (-1000 ≤ x.f3) && decide (x.f3 ≤ 1000) else if x.f0 = 6 then decide (0 ≤ x.f3) && decide (x.f3 ≤ n) else decide (0 ≤ x.f3) && decide (x.f3 ≤ wrap64 (c - 1))) else decide (x.f3 = 0)) = G
    cases uR x <;> cases uS x <;> by_cases h1 : x.f1 = 0 <;> simp [h1]
theorem okI_f (x : S63) (c n : Int) (k : Nat) : impl_InstrOk.f (k + 2) x.f0 x.f1 x.f2 x.f3 c n = some (okI x c n) := by
  unfold impl_InstrOk.f okI
  simp only [within_f, impl_isRegister.f, okI_j0, Option.bind_some]
  generalize (if uN x then (if x.f0 = 0 then decide (-1000 ≤ x.f3) && decide (x.f3 ≤ 1000) else if x.f0 = 6 then decide (0 ≤ x.f3) && decide (x.f3 ≤ n) else decide (0 ≤ x.f3) && decide (x.f3 ≤ wrap64 (c - 1))) else decide (x.f3 = 0)) = G
  generalize (decide (1 ≤ c) && decide (c ≤ 16)) = b1
  generalize (decide (0 ≤ n) && decide (n ≤ 16)) = b2
  generalize (decide (0 ≤ x.f0) && decide (x.f0 ≤ 8)) = b3
  generalize (decide (0 ≤ x.f1) && decide (x.f1 ≤ 3)) = b4
  generalize (decide (0 ≤ x.f2) && decide (x.f2 ≤ 3)) = b5
  cases b1 <;> cases b2 <;> cases b3 <;> cases b4 <;> cases b5 <;> simp [Bool.and_assoc]

/-! ### slices.IndexFunc, slices.ContainsFunc over instructions -/
set_option maxHeartbeats 1000000 in
set_option maxRecDepth 100000 in
theorem idxfI (F : Nat) (hE : Enters F) (cap : Array Value) (p : S63 → Bool) (A : Option Addr) (c : Nat) (l : List S63) (w : World) (hr0 : Kd.C k63 w A l.length l) (hc0 : l.length ≤ c)
    (hf : ∀ (x : S63) (W : World), Below w.heap.size w W → Calls Tryd.prog F (#[cv x] ++ cap) W (fun e W' => e = .returned (.bool (p x)) ∧ Below W.heap.size W W')) :
    Calls Tryd.prog 48 #[.slice A l.length c, .func (.func F) #[] cap] w fun e w' => e = .returned (.int .i64 (idxp p l 0)) ∧ Below w.heap.size w w' := by
  have HR0 := Aside0.mk hr0
  have HC0 := Aside0.mk hc0
  have HF := Aside0.mk hf
  have he := hE
  unfold Enters at he
  have hle : l.length ≤ 9223372036854775807 := hr0.2.1
  clear hr0 hc0 hf hE
  have HB := Aside0.mk (Below.refl w.heap.size w)
  go_enter Tryd.func48, Tryd.ntmps48
  go_wp2
  go_loopg [5, 8] l.length (fun kq v5 v8 w' => ∃ (i : Nat), v8 = .int .i64 (i : Int) ∧ Aside0 (i ≤ l.length) ∧ Aside0 (idxp p l 0 = idxp p (l.drop i) i) ∧ Aside0 (kq = l.length - i) ∧ Aside0 (Below w.heap.size w w'))
  case atStart => exact ⟨0, rfl, ⟨Nat.zero_le _⟩, ⟨rfl⟩, ⟨rfl⟩, HB⟩
  case round =>
    obtain ⟨i, rfl, HI, HX, HK1, HB⟩ := hrel
    by_cases hlt : i < l.length
    · obtain ⟨ad, e124, h0, h1, h2, h3⟩ := at_T63 HR0.out (i : Int) (by omega) (by omega)
      cases e124
      replace h0 := (HB.out.cell (World.block_lt_of_cell? w _ h0)).trans h0
      replace h1 := (HB.out.cell (World.block_lt_of_cell? w _ h1)).trans h1
      replace h2 := (HB.out.cell (World.block_lt_of_cell? w _ h2)).trans h2
      replace h3 := (HB.out.cell (World.block_lt_of_cell? w _ h3)).trans h3
      simp only [Int.toNat_natCast] at h0 h1 h2 h3
      have HS := Aside0.mk (idxp_step p z63 l i hlt)
      cases hp : p (rd_T63 l (i : Int)) with
      | false =>
        have HP := Aside0.mk hp
        clear hp
        go_wp2_with ((with_reducible refine (HF.out (rd_T63 l (i : Int)) _ HB.out).mono ?_); rintro e w1 ⟨rfl, hb⟩; rw [HP.out]; have HB1 := Aside0.mk (below_step HB.out hb); clear hb)
        go_roundg (l.length - (i + 1))
        case measure => have := HK1.out; omega
        case rel => exact ⟨i + 1, by first | rfl | (simp; done), ⟨by omega⟩, ⟨by rw [HX.out, HS.out, if_neg (Bool.eq_false_iff.mp (show p (l.getD i z63) = false from HP.out))]⟩, ⟨rfl⟩, HB1⟩
      | true =>
        have HP := Aside0.mk hp
        clear hp
        go_wp2_with ((with_reducible refine (HF.out (rd_T63 l (i : Int)) _ HB.out).mono ?_); rintro e w1 ⟨rfl, hb⟩; rw [HP.out]; have HB1 := Aside0.mk (below_step HB.out hb); clear hb)
        go_ret
        exact ⟨by rw [HX.out, HS.out, if_pos (show p (l.getD i z63) = true from HP.out)]; rfl, HB1.out⟩
    · have HS := Aside0.mk (idxp_end p l i hlt)
      go_wp2
      go_ret
      exact ⟨by rw [HX.out, HS.out]; rfl, HB.out⟩

set_option maxHeartbeats 1000000 in
set_option maxRecDepth 100000 in
theorem hasfI (F : Nat) (hE : Enters F) (cap : Array Value) (p : S63 → Bool) (A : Option Addr) (c : Nat) (l : List S63) (w : World) (hr0 : Kd.C k63 w A l.length l) (hc0 : l.length ≤ c)
    (hf : ∀ (x : S63) (W : World), Below w.heap.size w W → Calls Tryd.prog F (#[cv x] ++ cap) W (fun e W' => e = .returned (.bool (p x)) ∧ Below W.heap.size W W')) :
    Calls Tryd.prog 34 #[.slice A l.length c, .func (.func F) #[] cap] w fun e w' => e = .returned (.bool (l.any p)) ∧ Below w.heap.size w w' := by
  have HI := Aside0.mk (idxfI F hE cap p A c l w hr0 hc0 hf)
  have HA := Aside0.mk (idxp_any p l 0 (Int.le_refl 0))
  clear hr0 hc0 hf hE
  go_enter Tryd.func34, Tryd.ntmps34
  go_wp2_with (go_at_call 48; refine HI.out.mono ?_; rintro e w1 ⟨rfl, hb⟩; have HB1 := Aside0.mk hb; clear hb)
  go_ret
  exact ⟨by rw [← HA.out]; first | rfl | simp, HB1.out⟩

/-! ### the closure -/
set_option maxHeartbeats 1000000 in
set_option maxRecDepth 100000 in
theorem okCl (gp gc : Nat) (c : Int) (A : Option Addr) (n cc : Nat) (A1 : Option Addr) (n1 cc1 : Nat) (x : S63) (W : World)
    (h1 : W.heap[gp]? = some (.cells #[.int .i64 c, .slice A n cc] 37 (0, 0))) (h2 : W.heap[gc]? = some (.cells #[.slice A1 n1 cc1] 53 (0, 0))) :
    Calls Tryd.prog 35 (#[cv x] ++ #[.pointer (some ⟨gp, 0, none⟩), .pointer (some ⟨gc, 0, none⟩)]) W (fun e W' => e = .returned (.bool (!okI x c n1)) ∧ Below W.heap.size W W') := by
  obtain ⟨x0, x1, x2, x3⟩ := x
  have HC := Aside0.mk (fun (W : World) => impl_InstrOk.calls 2 x0 x1 x2 x3 c n1 (okI ⟨x0, x1, x2, x3⟩ c n1) W (okI_f ⟨x0, x1, x2, x3⟩ c n1 0))
  have b0 := below_alloc (Below.refl W.heap.size W) (.cells #[.int .i64 x0, .int .i64 x1, .int .i64 x2, .int .i64 x3] 63 (0, 0))
  have g1 := (b0.block _ (blk_lt h1)).trans h1
  have g2 := (b0.block _ (blk_lt h2)).trans h2
  have p1 : (W.alloc (.cells #[.int .i64 x0, .int .i64 x1, .int .i64 x2, .int .i64 x3] 63 (0, 0))).cell? ⟨gp, 0, none⟩ = some (.int .i64 c) := (blk_cell g1 0).trans rfl
  have p2 : (W.alloc (.cells #[.int .i64 x0, .int .i64 x1, .int .i64 x2, .int .i64 x3] 63 (0, 0))).cell? ⟨gc, 0, none⟩ = some (.slice A1 n1 cc1) := (blk_cell g2 0).trans rfl
  have q1 := blk_frozen g1 0
  have q2 := blk_frozen g2 0
  clear b0 g1 g2
  clear h1 h2
  have HB := Aside0.mk (Below.refl W.heap.size W)
  go_enter Tryd.func35, Tryd.ntmps35
  go_wp2_with (go_at_call 36; (refine (HC.out _).mono ?_); rintro e w1 ⟨rfl, hb⟩; have HB1 := Aside0.mk (below_step (below_alloc HB.out _) hb); clear hb)
  go_ret
  exact ⟨rfl, HB1.out⟩

def codeOk (c : Int) (l : List S63) : Bool := !(decide ((l.length : Int) > 16) || l.any (fun x => !okI x c l.length))
def progOk (c : Int) (l : List (List S63)) : Bool := (decide (1 ≤ c) && decide (c ≤ 16)) && (decide (1 ≤ (l.length : Int)) && decide ((l.length : Int) ≤ 3)) && l.all (codeOk c)
def impl_ProgOk.f (k : Nat) (a0_0 : Int) (l0_1 : List (List S63)) : Option Bool := some (progOk a0_0 l0_1)
theorem impl_ProgOk.mono : ∀ a0 a1 k, LeO (impl_ProgOk.f k a0 a1) (impl_ProgOk.f (k + 1) a0 a1) := fun _ _ _ => LeO.refl _
theorem all_step {α : Type} (p : α → Bool) (z : α) (l : List α) (i : Nat) (h : i < l.length) : (l.drop i).all p = (p (l.getD i z) && (l.drop (i + 1)).all p) := by
  rw [List.drop_eq_getElem_cons h, List.all_cons, List.getD_eq_getElem?_getD, List.getElem?_eq_getElem h]; rfl
theorem one_set {w : World} {g t : Nat} {v : Value} (h : w.heap[g]? = some (.cells #[v] t (0, 0))) (u : Value) : (w.setCell ⟨g, 0, none⟩ u).heap[g]? = some (.cells #[u] t (0, 0)) := one_setCell h

set_option maxHeartbeats 2000000 in
set_option maxRecDepth 100000 in
theorem impl_ProgOk.calls (k : Nat) (a0_0 : Int) (A0_1 : Option Addr) (c0_1 : Nat) (l0_1 : List (List S63)) (r : Bool) (w : World) (hr0_1 : Kd.C (Kd.slice 63 k63) w A0_1 l0_1.length l0_1) (hc0_1 : l0_1.length ≤ c0_1) (h : impl_ProgOk.f k a0_0 l0_1 = some r) :
    Calls Tryd.prog 24 #[.agg #[.int .i64 a0_0, .slice A0_1 l0_1.length c0_1]] w fun e w' => e = .returned (.bool r) ∧ Below w.heap.size w w' := by
  obtain rfl := Option.some.inj h
  have hu := Tryd.underlying37
  have hle : l0_1.length ≤ 9223372036854775807 := hr0_1.2.1
  have HR0 := Aside0.mk hr0_1
  have HC0 := Aside0.mk hc0_1
  clear hr0_1 hc0_1 h
  have HW1 := Aside0.mk (within_f a0_0 1 16)
  have HW2 := Aside0.mk (within_f (l0_1.length : Int) 1 3)
  have HP := Aside0.mk (show progOk a0_0 l0_1 = ((decide (1 ≤ a0_0) && decide (a0_0 ≤ 16)) && (decide (1 ≤ (l0_1.length : Int)) && decide ((l0_1.length : Int) ≤ 3)) && l0_1.all (codeOk a0_0)) from rfl)
  have HB := Aside0.mk (Below.refl w.heap.size w)
  generalize (decide (1 ≤ a0_0) && decide (a0_0 ≤ 16)) = b1 at HW1 HP
  generalize (decide (1 ≤ (l0_1.length : Int)) && decide ((l0_1.length : Int) ≤ 3)) = b2 at HW2 HP
  go_enter Tryd.func24, Tryd.ntmps24
  go_upto_region 1 with ((with_reducible refine gate_dst (N := 1) rfl ?_); (try (refine gate_guard (by rfl) ?_; dsimp only)); refine box_event ?hg (N := 1) ?hd (cs := #[.int .i64 a0_0, .slice A0_1 l0_1.length c0_1]) (t := 37) ?hr ?_; (case hd => rfl); (case hg => rfl); (case hr => first | (go_simp; done) | (go_simp; rfl)); intro gp hg w3 hbox hb; have n0_ := Aside0.mk (below_step HB.out hb); have BKP := Aside0.mk hbox; have GEP := Aside0.mk (Nat.le_of_eq hg.symm : w.heap.size ≤ gp); clear HB; have HB := n0_; clear n0_; clear hb hbox hg)
  (try simp only [Act.put, List.setIfInBounds_toArray, List.set_cons_zero, List.set_cons_succ])
  have hp0 : w3.cell? ⟨gp, 0, none⟩ = some (.int .i64 a0_0) := (blk_cell BKP.out 0).trans rfl
  have hp1 : w3.cell? ⟨gp, 1, none⟩ = some (.slice A0_1 l0_1.length c0_1) := (blk_cell BKP.out 1).trans rfl
  have hq0 := blk_frozen BKP.out 0
  have hq1 := blk_frozen BKP.out 1
  cases b1 with
  | false =>
    go_wp2_with (first | ((with_reducible refine gate_callee (f := 33) rfl ?_); refine goesL_ (some 7) rfl rfl Tryd.func33 (by kernel_rfl) rfl #[.int .i64 a0_0, .int .i64 1, .int .i64 16] rfl (by (try simp only [List.map_toArray, List.map_cons, List.map_nil]); first | done | rfl) ?_; (with_reducible refine (impl_within.calls a0_0 1 16 false _ HW1.out).mono ?_); rintro e w' ⟨rfl, ⟨nd, rfl⟩⟩; refine ⟨_, rfl, ?_⟩))
    go_ret
    exact ⟨by rw [HP.out]; rfl, by with_reducible repeat (first | exact HB.out | apply below_alloc | apply pw_below_drewN | apply below_drew1)⟩
  | true =>
    cases b2 with
    | false =>
      go_wp2_with (first | ((with_reducible refine gate_callee (f := 33) rfl ?_); refine goesL_ (some 7) rfl rfl Tryd.func33 (by kernel_rfl) rfl #[.int .i64 a0_0, .int .i64 1, .int .i64 16] rfl (by (try simp only [List.map_toArray, List.map_cons, List.map_nil]); first | done | rfl | (simp only [List.length_drop, List.length_take]; rfl)) ?_; (with_reducible refine (impl_within.calls a0_0 1 16 true _ HW1.out).mono ?_); rintro e w' ⟨rfl, ⟨nd, rfl⟩⟩; refine ⟨_, rfl, ?_⟩) | (go_at_call 33; (with_reducible refine (impl_within.calls (l0_1.length : Int) 1 3 false _ HW2.out).mono ?_); rintro e w' ⟨rfl, ⟨nd, rfl⟩⟩))
      go_ret
      exact ⟨by rw [HP.out]; rfl, by with_reducible repeat (first | exact HB.out | apply below_alloc | apply pw_below_drewN | apply below_drew1)⟩
    | true =>
      go_wp2_with (first | ((with_reducible refine gate_callee (f := 33) rfl ?_); refine goesL_ (some 7) rfl rfl Tryd.func33 (by kernel_rfl) rfl #[.int .i64 a0_0, .int .i64 1, .int .i64 16] rfl (by (try simp only [List.map_toArray, List.map_cons, List.map_nil]); first | done | rfl | (simp only [List.length_drop, List.length_take]; rfl)) ?_; (with_reducible refine (impl_within.calls a0_0 1 16 true _ HW1.out).mono ?_); rintro e w' ⟨rfl, ⟨nd, rfl⟩⟩; refine ⟨_, rfl, ?_⟩) | (go_at_call 33; (with_reducible refine (impl_within.calls (l0_1.length : Int) 1 3 true _ HW2.out).mono ?_); rintro e w' ⟨rfl, ⟨nd, rfl⟩⟩))
      go_loopg [19] l0_1.length (fun kq v19 w' => ∃ (i : Nat), v19 = .int .i64 (i : Int) ∧ Aside0 (i ≤ l0_1.length) ∧ Aside0 (l0_1.all (codeOk a0_0) = (l0_1.drop i).all (codeOk a0_0)) ∧ Aside0 (kq = l0_1.length - i) ∧ Aside0 (w'.heap[gp]? = some (.cells #[.int .i64 a0_0, .slice A0_1 l0_1.length c0_1] 37 (0, 0))) ∧ Aside0 (Below w.heap.size w w'))
      case atStart => exact ⟨0, rfl, ⟨Nat.zero_le _⟩, ⟨rfl⟩, ⟨rfl⟩, ⟨by (with_reducible repeat (first | refine blk_drewN ?_ _ | refine blk_drew ?_ | refine blk_alloc ?_ _)); exact BKP.out⟩, ⟨by with_reducible repeat (first | exact HB.out | apply below_alloc | apply pw_below_drewN | apply below_drew1)⟩⟩
      case round =>
        clear BKP HB hp0 hp1 hq0 hq1
        obtain ⟨i, rfl, HI, HX, HK1, BKP, HB⟩ := hrel
        by_cases hlt : i < l0_1.length
        · obtain ⟨ad, Ai, ci, e124, hx, hl, hi⟩ := at_L6 HR0.out (i : Int) (by omega) (by omega)
          cases e124
          have HS : (l0_1.drop i).all (codeOk a0_0) = (codeOk a0_0 (rd_L6 l0_1 (i : Int)) && (l0_1.drop (i + 1)).all (codeOk a0_0)) := by
            unfold rd_L6
            rw [Int.toNat_natCast]
            exact all_step (codeOk a0_0) [] l0_1 i hlt
          replace hx := (HB.out.cell (World.block_lt_of_cell? w _ hx)).trans hx
          simp only [Int.toNat_natCast] at hx
          generalize rd_L6 l0_1 (i : Int) = code at HS hx hl hi
          have HS := Aside0.mk HS
          have HRC := Aside0.mk hi
          have HCC := Aside0.mk hl
          clear hi hl
          have hln : code.length ≤ 9223372036854775807 := HRC.out.2.1
          go_upto_region 6 with (first
            | ((with_reducible refine gate_dst (N := 4) rfl ?_); refine box_event ?hg (N := 4) ?hd (cs := #[.slice none 0 0]) (t := 53) ?hr ?_; (case hd => rfl); (case hg => rfl); (case hr => first | (go_simp; done) | (go_simp; rfl)); intro gc hg w5 hbox hb; have n0_ := Aside0.mk (below_step HB.out hb); have BKC := Aside0.mk hbox; have hcg : w5.cell? ⟨gc, 0, none⟩ = some (.slice none 0 0) := (blk_cell hbox 0).trans rfl; have hfg := blk_frozen hbox 0; have GEC := Aside0.mk (show w.heap.size ≤ gc from by rw [hg]; exact below_size HB.out); have NE := Aside0.mk (show gp ≠ gc from by rw [hg]; exact Nat.ne_of_lt (blk_lt BKP.out)); have n1_ := Aside0.mk (blk_below BKP.out hb); clear HB BKP; have HB := n0_; have BKP := n1_; clear n0_ n1_ hb hbox hg)
            | ((with_reducible refine gate_store (t := 53) (p := 4) rfl ?_); refine store_event (t := 53) (p := 4) (v := ?vo_) (w1 := w5.setCell ⟨gc, 0, none⟩ (.slice Ai code.length ci)) ?hg ?ho ?hn ?hr ?_; (case ho => rfl); (case hg => rfl); (case hn => rfl); (case hr => first | (go_simp; done) | (go_simp; rfl)); intro w6 hw; have n0_ := Aside0.mk (show Below w.heap.size w w6 from by rw [hw]; exact below_set HB.out GEC.out); have n1_ := Aside0.mk (show w6.heap[gp]? = some (.cells #[.int .i64 a0_0, .slice (some ad) l0_1.length c0_1] 37 (0, 0)) from by rw [hw]; exact (Below.heap_setCell w5 _ _ gp NE.out).trans BKP.out); have n2_ := Aside0.mk (show w6.heap[gc]? = some (.cells #[.slice Ai code.length ci] 53 (0, 0)) from by rw [hw]; exact one_setCell BKC.out); clear HB BKP BKC hw; have HB := n0_; have BKP := n1_; have BKC := n2_; clear n0_ n1_ n2_))
          (try simp only [Act.put, List.setIfInBounds_toArray, List.set_cons_zero, List.set_cons_succ])
          have hc0 : w6.cell? ⟨gc, 0, none⟩ = some (.slice Ai code.length ci) := (blk_cell BKC.out 0).trans rfl
          have hf0 := blk_frozen BKC.out 0
          clear hcg hfg
          have HF := Aside0.mk (hasfI 35 (fun args w => enters_ Tryd.func35 (by kernel_rfl) rfl args w) #[.pointer (some ⟨gp, 0, none⟩), .pointer (some ⟨gc, 0, none⟩)] (fun x => !okI x a0_0 code.length) Ai ci code w6 (Kd.C_below HRC.out HB.out) HCC.out (fun x W hb => okCl gp gc a0_0 (some ad) l0_1.length c0_1 Ai code.length ci x W (blk_below BKP.out hb) (blk_below BKC.out hb)))
          have HD := Aside0.mk (show codeOk a0_0 code = !(decide ((code.length : Int) > 16) || code.any (fun x => !okI x a0_0 code.length)) from rfl)
          generalize code.any (fun x => !okI x a0_0 code.length) = b4 at HF HD
          by_cases h16 : (code.length : Int) > 16
          · have c16 : decide ((code.length : Int) > 16) = true := decide_eq_true h16
            have HQ := Aside0.mk (show codeOk a0_0 code = false from by rw [HD.out, c16]; rfl)
            clear h16
            go_wp2
            go_ret
            exact ⟨by rw [HP.out, HX.out, HS.out, HQ.out]; rfl, HB.out⟩
          · have c16 : decide ((code.length : Int) > 16) = false := decide_eq_false h16
            clear h16
            cases b4 with
            | true =>
              have HQ := Aside0.mk (show codeOk a0_0 code = false from by rw [HD.out, c16]; rfl)
              go_wp2_with (go_at_call 34; (refine HF.out.mono ?_); rintro e w7 ⟨rfl, hb⟩; have HB1 := Aside0.mk (below_step HB.out hb); clear hb)
              go_ret
              exact ⟨by rw [HP.out, HX.out, HS.out, HQ.out]; rfl, HB1.out⟩
            | false =>
              have HQ := Aside0.mk (show codeOk a0_0 code = true from by rw [HD.out, c16]; rfl)
              go_wp2_with (go_at_call 34; (refine HF.out.mono ?_); rintro e w7 ⟨rfl, hb⟩; have HB1 := Aside0.mk (below_step HB.out hb); have BKP1 := Aside0.mk (blk_below BKP.out hb); clear hb)
              go_roundg (l0_1.length - (i + 1))
              case measure => have := HK1.out; omega
              case rel => exact ⟨i + 1, by first | rfl | (simp; done), ⟨by omega⟩, ⟨by rw [HX.out, HS.out, HQ.out, Bool.true_and]⟩, ⟨rfl⟩, BKP1, HB1⟩
        · have HS := Aside0.mk (show (l0_1.drop i).all (codeOk a0_0) = true from by rw [List.drop_eq_nil_of_le (by omega)]; rfl)
          go_wp2
          go_ret
          exact ⟨by rw [HP.out, HX.out, HS.out]; rfl, HB.out⟩
end Go.Proofs.YtjnpmcgefkiocaaDoor.Q
