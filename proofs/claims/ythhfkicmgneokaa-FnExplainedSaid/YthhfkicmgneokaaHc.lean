/- By hand: impl.orders with its recursive closure, for any visit. -/
import Derived.Test.YthhfkicmgneokaaHb
import Derived.Deep.RegionLaw
namespace Go.Proofs.Ythhfkicmgneokaa.Q
open Go.RowKit Go.Proofs.YthhfkicmgneokaaW.PrintWords Go.Proofs.YthhfkicmgneokaaW.PrintLast Go.Proofs.YthhfkicmgneokaaW.PrintMore
set_option linter.unusedVariables false
set_option linter.unusedSimpArgs false

/-! ### what may turn: new blocks, and one block -/
structure Kp (bs : Nat) (w w' : World) : Prop where
 b : Below 0 w w'
 k : KeepBut w w' bs none
theorem Kp.refl (bs : Nat) (w : World) : Kp bs w w := ⟨Below.refl _ _, KeepBut.refl _ _ _⟩
theorem Kp.trans {bs : Nat} {w w1 w2 : World} (h : Kp bs w w1) (h2 : Kp bs w1 w2) : Kp bs w w2 := ⟨h.b.trans h2.b, h.k.trans h2.k (.inl rfl)⟩
theorem Kp.of_below {bs : Nat} {w w' : World} (h : Below w.heap.size w w') : Kp bs w w' := ⟨h.mono (Nat.zero_le _), KeepBut.of_below h _ _⟩
theorem Kp.drew (bs : Nat) (w : World) : Kp bs w w.drew := Kp.of_below (below_drew (Below.refl _ _))
theorem Kp.alloc (bs : Nat) (w : World) (o : Obj) : Kp bs w (w.alloc o) := Kp.of_below (below_alloc (Below.refl _ _) o)
theorem Kp.set (bs : Nat) (w : World) (j : Nat) (u : Value) : Kp bs w (w.setCell ⟨bs, j, none⟩ u) := ⟨(Below.refl 0 w).setCell (Nat.zero_le _) u, (KeepBut.refl _ _ _).set_ j u⟩
theorem Kp.blk {bs g : Nat} {w w' : World} {o : Obj} (h : Kp bs w w') (hb : w.heap[g]? = some o) (hg : g ≠ bs) : w'.heap[g]? = some o := h.k.blk hb hg (by simp)
/-- Below what was there ahead of the kept block. -/
theorem Kp.below {bs : Nat} {w0 w w' : World} (h : Kp bs w w') (h0 : Below w0.heap.size w0 w) (hs : w0.heap.size ≤ bs) : Below w0.heap.size w0 w' :=
 ⟨h.b.os.trans h0.os, h.b.tape.trans h0.tape, h.b.output.trans h0.output, Nat.le_trans h0.size h.b.size, fun i hi => (h.k.2 i (Nat.lt_of_lt_of_le hi h0.size) (by omega) (by simp)).trans (h0.block i hi)⟩

/-! ### the pure search -/
def runL {σ : Type} (f : Nat → σ → σ × Bool) : List Nat → σ → σ × Bool
 | [], s => (s, true)
 | i :: r, s => if (f i s).2 then runL f r (f i s).1 else ((f i s).1, false)
def blocked (lc : List S55) (ord : List Int) (i : Nat) : Bool := ord.contains (i : Int) || ord.any (fun k => ahead (rd_T55 lc i) (rd_T55 lc k))
def stepS (x : S55) (st : List Int) : Option (List Int) :=
 if x.f0 = true then some (st ++ [x.f1])
 else if st.length = 0 then (if x.f2 = -1 then some st else none)
 else if x.f2 = rd st ((st.length : Int) - 1) then some (st.take (st.length - 1)) else none
def ext {σ : Type} (lc : List S55) (step : σ → List Int → σ × Bool) : Nat → List Int → List Int → σ → σ × Bool
 | 0, ord, _, s => step s ord
 | d + 1, ord, st, s => runL (fun i s => if blocked lc ord i then (s, true) else match stepS (rd_T55 lc i) st with
   | none => (s, true)
   | some st' => ext lc step d (ord ++ [(i : Int)]) st' s) (List.range lc.length) s

/-! ### slices.Contains -/
theorem index_f (l : List Int) (a : Int) (n : Nat) (hn : n = l.length) (hle : l.length ≤ 9223372036854775807) : ∀ (d i k : Nat), d = l.length - i → i ≤ l.length → d < k → slices_Index_int_int.l0 k l a (n : Int) (i : Int) = some (idxp (fun x => a == x) (l.drop i) i) := by
 intro d
 induction d with
 | zero =>
  intro i k hd hi hk
  obtain ⟨k, rfl⟩ : ∃ m, k = m + 1 := ⟨k - 1, by omega⟩
  simp only [slices_Index_int_int.l0]
  rw [if_neg (by omega), idxp_end _ _ _ (by omega)]
 | succ d ih =>
  intro i k hd hi hk
  obtain ⟨k, rfl⟩ : ∃ m, k = m + 1 := ⟨k - 1, by omega⟩
  simp only [slices_Index_int_int.l0]
  have hw : wrap64 ((i : Int) + 1) = ((i + 1 : Nat) : Int) := by unfold wrap64; omega
  rw [if_pos (by omega), if_pos (by omega), if_pos (by omega), idxp_step _ 0 l i (by omega), hw, ih (i + 1) k (by omega) (by omega) (by omega)]
  have hrd : rd l (i : Int) = l.getD i 0 := rfl
  rw [hrd]
  by_cases h : a = l.getD i 0
  ·rw [if_pos h, if_pos (beq_iff_eq.mpr h)]
  ·rw [if_neg h, if_neg (fun hh => h (beq_iff_eq.mp hh))]
theorem contains_f (l : List Int) (a : Int) (hle : l.length ≤ 9223372036854775807) : slices_Contains_int_int.f (l.length + 1) l a = some (l.contains a) := by
 unfold slices_Contains_int_int.f slices_Index_int_int.f
 have h := index_f l a l.length rfl hle l.length 0 (l.length + 1) (by omega) (by omega) (by omega)
 rw [List.drop_zero] at h
 rw [show ((0 : Int)) = ((0 : Nat) : Int) from rfl, h, Option.bind_some]
 have h2 := idxp_any (fun x => a == x) l 0 (Int.le_refl 0)
 rw [List.contains_eq_any_beq, ← h2]
 rfl

/-! ### words for a region with a call of a function value -/
section
variable {P : Program} {ops : Array Oper} {Q : Exit → Act → World → Prop}
/-- A call through a function value, as one step of a region that draws. -/
theorem goesV_ {oi : Oper} {N : Option Tmp} {a : Act} {w : World} {K : Act → World → Prop} {f : FuncId} {fn : Func} {s : Operand} {cap : Array Value} {os : Array Operand} {ts : Array TypeId} (hf : P.funcs[f]? = some fn) (hname : (fn.name == "runtime.NumGoroutine") = false) (hb : fn.body.isSome = true) (args : Array Value)
  (hw : Region.wanted oi (yielded ops a.tmps) = true) (hN : oi.dst = N) (hop : oi.op = .call { callee := .value s, args := os, argTypes := ts }) (hs : a.eval s = .func (.func f) #[] cap) (hargs : os.map a.eval = args)
  (h : Calls P f (args ++ cap) w fun e w' => ∃ v, e = .returned v ∧ K (a.put N v) w') : if Region.wanted oi (yielded ops a.tmps) = true then Oper.wp P oi a w K Q else K (a.put N undef) w := by
 refine call_ f (args ++ cap) hw hN ?_ h
 have he := enters_ hf hname hb (args ++ cap) w
 unfold execOp
 simp [hop, resolve, Deferred.ofValue, invoke, hs, hargs, he]
end
theorem C_one (W : World) (i : Int) : Kd.C (Kd.int .i64) (W.alloc (.cells #[.int .i64 i] 3)) (some ⟨W.heap.size, 0, none⟩) 1 [i] := by
 have hb : (W.alloc (.cells #[.int .i64 i] 3)).heap[W.heap.size]? = some (.cells #[.int .i64 i] 3 (0, 0)) := by show (W.heap.push _)[W.heap.size]? = _; rw [Array.getElem?_push_size]
 have hc := cell_of_one hb
 refine ⟨rfl, by omega, fun _ => ⟨_, rfl, fun j x hx => ⟨[.int .i64 i], ?_⟩⟩⟩
 match j, hx with
 | 0, hx =>
  have hx' : i = x := by simpa using hx
  subst hx'
  refine ⟨rfl, rfl, fun k u hu => ?_⟩
  match k, hu with
  | 0, hu =>
   have hu' : Value.int .i64 i = u := by simpa using hu
   subst hu'
   exact hc
  | k + 1, hu => simp at hu
 | j + 1, hx => simp at hx

/-! ### a visit -/
structure Visit (σ : Type) (Fv : Nat) (cap : Array Value) (bs base : Nat) (St : World → σ → Prop) (step : σ → List Int → σ × Bool) : Prop where
 enters : Enters Fv
 keep : ∀ {w w' : World} {s : σ}, St w s → Below w.heap.size w w' → St w' s
 call : ∀ (w : World) (s : σ) (ad : Addr) (c : Nat) (xs : List Int), St w s → Kd.R (Kd.int .i64) 3 w base (fun k => k ≠ bs) (.slice (some ad) xs.length c) xs →
  Calls Try.prog Fv (#[.slice (some ad) xs.length c] ++ cap) w fun e w' => e = .returned (.bool (step s xs).2) ∧ St w' (step s xs).1 ∧ Kp bs w w'

structure Env (bs bc bv be : Nat) (Ac : Option Addr) (cc : Nat) (lc : List S55) (Fv : Nat) (cap : Array Value) (w : World) : Prop where
 sz : bs < w.heap.size
 ne : bc ≠ bs ∧ bv ≠ bs ∧ be ≠ bs
 c : w.heap[bc]? = some (.cells #[.slice Ac lc.length cc] 26 (0, 0))
 v : w.heap[bv]? = some (.cells #[.func (.func Fv) #[] cap] 62 (0, 0))
 e : w.heap[be]? = some (.cells #[.func (.func 63) #[] #[.pointer (some ⟨bc, 0, none⟩), .pointer (some ⟨bv, 0, none⟩), .pointer (some ⟨be, 0, none⟩)]] 30 (0, 0))
 r : ∀ W', Kp bs w W' → Kd.C k55 W' Ac lc.length lc
theorem Env.step {bs bc bv be : Nat} {Ac : Option Addr} {cc : Nat} {lc : List S55} {Fv : Nat} {cap : Array Value} {w w' : World} (h : Env bs bc bv be Ac cc lc Fv cap w) (k : Kp bs w w') : Env bs bc bv be Ac cc lc Fv cap w' :=
 ⟨Nat.lt_of_lt_of_le h.sz k.b.size, h.ne, k.blk h.c h.ne.1, k.blk h.v h.ne.2.1, k.blk h.e h.ne.2.2, fun W' hk => h.r W' (k.trans hk)⟩

section
variable {σ : Type} {Fv : Nat} {cap : Array Value} {bs base bc bv be cc : Nat} {Ac : Option Addr} {lc : List S55} {St : World → σ → Prop} {step : σ → List Int → σ × Bool}

set_option maxHeartbeats 2000000 in
set_option maxRecDepth 100000 in
theorem extend_end (V : Visit σ Fv cap bs base St step) (ord st : List Int) (ad : Addr) (c : Nat) (vs : Value) (s : σ) (w : World) (hl : ord.length = lc.length)
  (HE : Env bs bc bv be Ac cc lc Fv cap w) (hS : St w s) (hO : Kd.R (Kd.int .i64) 3 w base (fun k => k ≠ bs) (.slice (some ad) ord.length c) ord) (hV : Kd.V (Kd.int .i64) 3 w base (fun k => k ≠ bs) vs st) :
  Calls Try.prog 63 #[.slice (some ad) ord.length c, vs, .pointer (some ⟨bc, 0, none⟩), .pointer (some ⟨bv, 0, none⟩), .pointer (some ⟨be, 0, none⟩)] w fun e w' => e = .returned (.bool (step s ord).2) ∧ St w' (step s ord).1 ∧ Kp bs w w' := by
 obtain ⟨As, cs, rfl, hcs, hfs⟩ := hV
 have q1 := cell_of_one HE.c
 have q2 := cell_of_one HE.v
 have he := V.enters
 unfold Enters at he
 have HC := Aside0.mk (V.call w s ad c ord hS hO)
 have e1 : ((ord.length : Int) == (lc.length : Int)) = true := beq_iff_eq.mpr (by omega)
 have e2 : (ord.length == lc.length) = true := beq_iff_eq.mpr hl
 clear V HE hS hO hfs hcs hl
 go_enter Try.func63, Try.ntmps63
 go_wp2_with ((with_reducible refine HC.out.mono ?_); rintro e w1 ⟨rfl, hs1, hk1⟩; have HS1 := Aside0.mk hs1; have HK1 := Aside0.mk hk1; clear hs1 hk1)
 go_ret
 exact ⟨rfl, HS1.out, HK1.out⟩

theorem runL_step (f : Nat → σ → σ × Bool) (n i : Nat) (s : σ) (h : i < n) : runL f ((List.range n).drop i) s = if (f i s).2 then runL f ((List.range n).drop (i + 1)) (f i s).1 else ((f i s).1, false) := by
 rw [List.drop_eq_getElem_cons (by simpa using h), runL, List.getElem_range]
theorem runL_end (f : Nat → σ → σ × Bool) (n i : Nat) (s : σ) (h : ¬ i < n) : runL f ((List.range n).drop i) s = (s, true) := by
 rw [List.drop_eq_nil_of_le (by simp; omega), runL]

def rowF (lc : List S55) (step : σ → List Int → σ × Bool) (d : Nat) (ord st : List Int) (i : Nat) (s : σ) : σ × Bool :=
 if blocked lc ord i then (s, true) else match stepS (rd_T55 lc i) st with
   | none => (s, true)
   | some st' => ext lc step d (ord ++ [(i : Int)]) st' s
theorem ext_succ (d : Nat) (ord st : List Int) (s : σ) : ext lc step (d + 1) ord st s = runL (rowF lc step d ord st) (List.range lc.length) s := rfl

set_option maxHeartbeats 4000000 in
set_option maxRecDepth 100000 in
theorem extend_calls (V : Visit σ Fv cap bs base St step) (hlc : lc.length ≤ 7) (hbase : base ≤ bs) : ∀ (d : Nat) (ord st : List Int) (ad : Addr) (c : Nat) (vs : Value) (s : σ) (w : World), ord.length + d = lc.length → (∀ k ∈ ord, 0 ≤ k ∧ k < lc.length) → st.length ≤ ord.length →
  Env bs bc bv be Ac cc lc Fv cap w → St w s → Kd.R (Kd.int .i64) 3 w base (fun k => k ≠ bs) (.slice (some ad) ord.length c) ord → Kd.V (Kd.int .i64) 3 w base (fun k => k ≠ bs) vs st →
  Calls Try.prog 63 #[.slice (some ad) ord.length c, vs, .pointer (some ⟨bc, 0, none⟩), .pointer (some ⟨bv, 0, none⟩), .pointer (some ⟨be, 0, none⟩)] w fun e w' => e = .returned (.bool (ext lc step d ord st s).2) ∧ St w' (ext lc step d ord st s).1 ∧ Kp bs w w' := by
 intro d
 induction d with
 | zero =>
  intro ord st ad c vs s w hl hk hsl HE hS hO hV
  exact extend_end V ord st ad c vs s w (by omega) HE hS hO hV
 | succ d ih =>
  intro ord st ad c vs s w hl hk hsl HE hS hO hV
  obtain ⟨As, cs, rfl, hcs, hfs⟩ := hV
  have q1 := cell_of_one HE.c
  have e1 : ((ord.length : Int) == (lc.length : Int)) = false := beq_eq_false_iff_ne.mpr (by omega)
  have e2 : (ord.length == lc.length) = false := beq_eq_false_iff_ne.mpr (by omega)
  have IH := Aside0.mk ih
  have HV := Aside0.mk V
  have HE0 := Aside0.mk HE
  have HS0 := Aside0.mk hS
  have HO := Aside0.mk hO
  have HVs := Aside0.mk hfs
  have HCs := Aside0.mk hcs
  have HL := Aside0.mk hl
  have HK := Aside0.mk hk
  have HSL := Aside0.mk hsl
  have HX := Aside0.mk (ext_succ (lc := lc) (step := step) d ord st s)
  clear ih V HE hS hO hfs hcs hl hk hsl
  go_enter Try.func63, Try.ntmps63
  go_wp2
  go_loopg [22] lc.length (fun kq v22 w' => ∃ (i : Nat) (s1 : σ), v22 = .int .i64 (i : Int) ∧ Aside0 (i ≤ lc.length) ∧ Aside0 (runL (rowF lc step d ord st) (List.range lc.length) s = runL (rowF lc step d ord st) ((List.range lc.length).drop i) s1) ∧ Aside0 (kq = lc.length - i) ∧ Aside0 (St w' s1) ∧ Aside0 (Kp bs w w'))
  case atStart => exact ⟨0, s, rfl, ⟨Nat.zero_le _⟩, ⟨rfl⟩, ⟨rfl⟩, HS0, ⟨Kp.refl _ _⟩⟩
  case round =>
   obtain ⟨i, s1, rfl, HI, HR, HK1, HS1, HKp⟩ := hrel
   clear q1 e1 e2
   have HE1 := Aside0.mk (HE0.out.step HKp.out)
   by_cases hlt : i < lc.length
   ·have HRS := Aside0.mk (runL_step (rowF lc step d ord st) lc.length i s1 hlt)
    obtain ⟨adc, ec, h0, h1, h2, h3, h4⟩ := at_T55 (HE1.out.r _ (Kp.refl _ _)) (i : Int) (by omega) (by omega)
    cases ec
    simp only [Int.toNat_natCast] at h0 h1 h2 h3 h4
    obtain ⟨x, hx⟩ : ∃ x, x = rd_T55 lc (i : Int) := ⟨_, rfl⟩
    rw [← hx] at h0 h1 h2 h3 h4
    have HXd := Aside0.mk hx
    clear hx
    have HG := Aside0.mk (show (wr.alloc (cb x)).heap[wr.heap.size]? = some (cb x) from by show (wr.heap.push _)[wr.heap.size]? = _; rw [Array.getElem?_push_size])
    have HCt := Aside0.mk (contains_f ord (i : Int) (by have := HL.out; omega))
    have HE2 := Aside0.mk (HE1.out.step (Kp.alloc bs wr (cb x)))
    have HGne := Aside0.mk (show wr.heap.size ≠ bs by have := HE1.out.sz; omega)
    have HF := Aside0.mk (fun (w1 : World) (h1 : Below (wr.alloc (cb x)).heap.size (wr.alloc (cb x)) w1) =>
      hasfInt 66 (fun args w => enters_ Try.func66 (by kernel_rfl) rfl args w) #[.pointer (some ⟨wr.heap.size, 0, none⟩), .pointer (some ⟨bc, 0, none⟩)] (fun k => ahead x (rd_T55 lc k)) (some ad) c ord w1
       (Kd.C_below (Kd.C_alloc (Kd.R_reads' (Kd.R_keep HO.out HKp.out.k (fun _ h => h))).2.2 _) h1) (Kd.R_reads' HO.out).2.1
       (fun k W hk hW => aheadk_calls wr.heap.size bc x (some adc) cc lc k W
        (((Kp.of_below h1).trans (Kp.of_below hW)).blk HG.out HGne.out) (((HE2.out.step (Kp.of_below h1)).step (Kp.of_below hW)).c) (((HE2.out.step (Kp.of_below h1)).step (Kp.of_below hW)).r _ (Kp.refl _ _)) (HK.out k hk).1 (HK.out k hk).2))
    obtain ⟨xb, xv, xr, xf, xt⟩ := x
    cases hco : ord.contains (i : Int) with
    | true =>
     rw [hco] at HCt
     have HRF := Aside0.mk (show rowF lc step d ord st i s1 = (s1, true) by unfold rowF blocked; rw [hco]; rfl)
     clear hco
     go_wp2_with ((go_at_call 64; (refine (slices_Contains_int_int.calls (ord.length + 1) _ _ ord (i : Int) true _ ?sa ?sb HCt.out).mono ?_); (case sa => exact Kd.C_alloc (Kd.R_reads' (Kd.R_keep HO.out HKp.out.k (fun _ h => h))).2.2 _); (case sb => exact (Kd.R_reads' HO.out).2.1); rintro e w1 ⟨rfl, hd⟩; have HD := Aside0.mk hd.below; clear hd))
     go_roundg (lc.length - (i + 1))
     case measure => have := HK1.out; omega
     case rel => exact ⟨i + 1, s1, by first | rfl | (simp; done), ⟨by omega⟩, ⟨by rw [HR.out, HRS.out, HRF.out]; rfl⟩, ⟨rfl⟩, ⟨HV.out.keep HS1.out (below_step (below_alloc (Below.refl _ _) _) HD.out)⟩, ⟨HKp.out.trans (Kp.of_below (below_step (below_alloc (Below.refl _ _) _) HD.out))⟩⟩
    | false =>
     rw [hco] at HCt
     cases hah : ord.any (fun k => ahead ⟨xb, xv, xr, xf, xt⟩ (rd_T55 lc k)) with
     | true =>
      have HRF := Aside0.mk (show rowF lc step d ord st i s1 = (s1, true) by unfold rowF blocked; rw [hco, ← HXd.out, hah]; rfl)
      rw [hah] at HF
      clear hco hah
      go_wp2_with (first | (go_at_call 64; (refine (slices_Contains_int_int.calls (ord.length + 1) _ _ ord (i : Int) false _ ?sa ?sb HCt.out).mono ?_); (case sa => exact Kd.C_alloc (Kd.R_reads' (Kd.R_keep HO.out HKp.out.k (fun _ h => h))).2.2 _); (case sb => exact (Kd.R_reads' HO.out).2.1); rintro e w1 ⟨rfl, hd⟩; have HD := Aside0.mk hd.below; clear hd) | (go_at_call 65; (refine (HF.out _ HD.out).mono ?_); rintro e w2 ⟨rfl, hd⟩; have HD2 := Aside0.mk (below_step HD.out hd); clear hd))
      go_roundg (lc.length - (i + 1))
      case measure => have := HK1.out; omega
      case rel => exact ⟨i + 1, s1, by first | rfl | (simp; done), ⟨by omega⟩, ⟨by rw [HR.out, HRS.out, HRF.out]; rfl⟩, ⟨rfl⟩, ⟨HV.out.keep HS1.out (below_step (below_alloc (Below.refl _ _) _) HD2.out)⟩, ⟨HKp.out.trans (Kp.of_below (below_step (below_alloc (Below.refl _ _) _) HD2.out))⟩⟩
     | false =>
      have HRF := Aside0.mk (show rowF lc step d ord st i s1 = match stepS ⟨xb, xv, xr, xf, xt⟩ st with | none => (s1, true) | some st' => ext lc step d (ord ++ [(i : Int)]) st' s1 by unfold rowF blocked; rw [hco, ← HXd.out, hah]; rfl)
      rw [hah] at HF
      clear hco hah
      cases xb with
      | true =>
       obtain ⟨st4, hst4⟩ : ∃ z, z = st ++ [xv] := ⟨_, rfl⟩
       have HRF4 := Aside0.mk (show rowF lc step d ord st i s1 = ext lc step d (ord ++ [(i : Int)]) st4 s1 by rw [HRF.out, hst4]; rfl)
       have HL4 := Aside0.mk (show st4.length ≤ ord.length + 1 by rw [hst4]; have := HSL.out; simp; omega)
       have HST4 := Aside0.mk hst4
       clear hst4
       go_wp2_with (first | (go_at_call 64; (refine (slices_Contains_int_int.calls (ord.length + 1) _ _ ord (i : Int) false _ ?sa ?sb HCt.out).mono ?_); (case sa => exact Kd.C_alloc (Kd.R_reads' (Kd.R_keep HO.out HKp.out.k (fun _ h => h))).2.2 _); (case sb => exact (Kd.R_reads' HO.out).2.1); rintro e w1 ⟨rfl, hd⟩; have HD := Aside0.mk hd.below; clear hd) | (go_at_call 65; (refine (HF.out _ HD.out).mono ?_); rintro e w2 ⟨rfl, hd⟩; have HD2 := Aside0.mk (below_step HD.out hd); clear hd) | (go_at_call 67; (refine (cloneV (base := base) (ok := fun k => k ≠ bs) (.slice As st.length cs) st w2 ?sa ?sb).mono ?_); (case sa => exact Kd.V_keep (Kd.V_mk HCs.out HVs.out) (HKp.out.trans (Kp.of_below (below_step (below_alloc (Below.refl _ _) _) HD2.out))).k (fun _ h => h)); (case sb => have := HL.out; have := HSL.out; omega); rintro e w3 ⟨v3, rfl, hR3, hd⟩; have HR3 := Aside0.mk hR3; have HB3 := Aside0.mk hd; have HD3 := Aside0.mk (below_step HD2.out hd); have HG3 := Aside0.mk (((Kp.of_below HD2.out).trans (Kp.of_below hd)).blk HG.out HGne.out); clear hd hR3; have g0 : w3.cell? ⟨wr.heap.size, 0, none⟩ = some _ := (blk_cell HG3.out 0).trans rfl; have g1 : w3.cell? ⟨wr.heap.size, 1, none⟩ = some _ := (blk_cell HG3.out 1).trans rfl; have g2 : w3.cell? ⟨wr.heap.size, 2, none⟩ = some _ := (blk_cell HG3.out 2).trans rfl) | ((with_reducible refine gate_builtin (b := .append) (xs := #[.tmp 42, .tmp 45]) rfl ?_); at_builtin; refine Kd.R_append (Kd.int .i64) (w0 := w2) w2.heap.size rfl (.tmp 42) (.tmp 45) 23 3 (.int .i64 0) 8 rfl Try.underlying23 info3 rfl (by decide) (by omega) v3 st xv [.int .i64 xv] (fun _ => True) (fun _ => False) rfl rfl ?aP (fun _ hk => hk.elim) ?aF ?aO ?aB ?aS ?aL ?_; (case aP => exact rfl); (case aB => exact HB3.out); (case aF => exact (fun _ _ => trivial)); (case aO => exact HR3.out); (case aS => exact HB3.out.size); (case aL => have := HL.out; have := HSL.out; omega); intro v4 w4 ho hb hg hat; have HR4 := Aside0.mk ho; have HB4 := Aside0.mk hb; have HD4 := Aside0.mk (below_step HD2.out hb); clear ho hb hg hat))
       have HV4 := Aside0.mk (show Kd.V (Kd.int .i64) 3 w4 base (fun k => k ≠ bs) v4 st4 from by
        have hq := HR4.out
        rw [← HST4.out] at hq
        exact Kd.R_V (Kd.R_mono (Kd.R_bound hq) (fun k hk => by have h1_ := hk.2.1; have h2_ := HE2.out.sz; have h3_ := HD2.out.size; exact Nat.ne_of_gt (Nat.lt_of_lt_of_le h2_ (Nat.le_trans h3_ h1_)))))
       have HE4 := Aside0.mk (HE2.out.step (Kp.of_below HD4.out))
       have e0 := cell_of_one HE4.out.e
       have HO4 := Aside0.mk (Kd.R_keep HO.out (HKp.out.trans (Kp.of_below (below_step (below_alloc (Below.refl _ _) _) HD4.out))).k (fun _ h => h))
       have HSZ := Aside0.mk HE4.out.sz
       have HK4 := Aside0.mk (show ∀ k ∈ ord ++ [(i : Int)], 0 ≤ k ∧ k < lc.length from fun k hk => by
        rcases List.mem_append.1 hk with h | h
        ·exact HK.out k h
        ·rw [List.mem_singleton.1 h]; omega)
       have ec1 : ∀ W, Below w4.heap.size w4 W → W.cell? ⟨be, 0, none⟩ = some (.func (.func 63) #[] #[.pointer (some ⟨bc, 0, none⟩), .pointer (some ⟨bv, 0, none⟩), .pointer (some ⟨be, 0, none⟩)]) := fun W hW => pw_cell_below hW e0
       have EC := Aside0.mk ec1
       have ex1 := fun o => EC.out (w4.alloc o) (below_alloc (Below.refl _ _) o)
       clear ec1
       cases hext : (ext lc step d (ord ++ [(i : Int)]) st4 s1).2
       all_goals have HEXT := Aside0.mk hext
       all_goals clear hext
       ·go_region_law (first
         | (refine goes_ Try.func67 (by kernel_rfl) rfl #[.slice (some ad) ord.length c] (by rfl) rfl rfl (by (try simp only [List.map_toArray, List.map_cons, List.map_nil]); first | done | rfl) ?_; (refine (cloneSome ad c ord _ ?sa ?sb ?sc).mono ?_); (case sa => exact Kd.C_below (Kd.R_reads' HO4.out).2.2 (by repeat (first | exact Below.refl _ _ | apply below_alloc | apply below_drew))); (case sb => exact (Kd.R_reads' HO4.out).2.1); (case sc => have := HL.out; omega); rintro e w5 ⟨v5, ad5, c5, rfl, rfl, hR5, hb5⟩; refine ⟨_, rfl, ?_⟩; have HR5 := Aside0.mk (Kd.R_lower (base' := w4.heap.size) hR5 (below_size (by repeat (first | exact Below.refl _ _ | apply below_alloc | apply below_drew)))); have HB5 := Aside0.mk (below_step (w := w4) (by repeat (first | exact Below.refl _ _ | apply below_alloc | apply below_drew)) hb5); have HBn := Aside0.mk hb5; have ey0 := EC.out _ HB5.out; have ey1 := fun o => EC.out _ (below_alloc HB5.out o); clear hR5 hb5)
         | (refine Kd.R_append_rows_step (Kd.int .i64) (Rr := fun x cs => cs = [.int .i64 x]) (w0 := w4) w4.heap.size (by rfl) (.tmp 74) (.tmp 76) 23 3 (.int .i64 0) 8 rfl Try.underlying23 info3 rfl (by decide) (by omega) (.slice (some ad5) ord.length c5) ord [(i : Int)] _ 1 1 (fun _ => True) (fun _ => False) rfl rfl ?aO ?aR (fun _ _ h => h) (fun _ hk => hk.elim) (fun _ _ => trivial) ?aB ?aS ?aL ?_; (case aO => (with_reducible repeat (first | apply Kd.R_alloc | apply Kd.R_drewN | apply Kd.R_drew)); exact HR5.out); (case aR => first | exact C_one _ _ | exact Kd.C_below (C_one w4.drew _) HBn.out); (case aB => repeat (first | exact HB5.out | apply below_alloc | apply below_drew)); (case aS => exact below_size (by repeat (first | exact HB5.out | apply below_alloc | apply below_drew))); (case aL => have := HL.out; simp; omega); intro v6 w6 ho hb hg hat; obtain ⟨ad6, c6, rfl⟩ := slice1_ ho (by simp); have HR6 := Aside0.mk ho; have HB6 := Aside0.mk hb; have ez0 := EC.out _ HB6.out; clear ho hb hg hat)
         | (refine goesV_ Try.func63 (by kernel_rfl) rfl #[.slice (some ad6) (ord.length + 1) c6, v4] (by rfl) rfl rfl (by rfl) (by (try simp only [List.map_toArray, List.map_cons, List.map_nil]); first | done | rfl) ?_; rw [show ((#[.slice (some ad6) (ord.length + 1) c6, v4] : Array Value) ++ #[.pointer (some ⟨bc, 0, none⟩), .pointer (some ⟨bv, 0, none⟩), .pointer (some ⟨be, 0, none⟩)]) = #[.slice (some ad6) (ord ++ [(i : Int)]).length c6, v4, .pointer (some ⟨bc, 0, none⟩), .pointer (some ⟨bv, 0, none⟩), .pointer (some ⟨be, 0, none⟩)] from by rw [List.length_append]; rfl]; (refine (IH.out (ord ++ [(i : Int)]) st4 ad6 c6 v4 s1 _ ?qa ?qb ?qc ?qd ?qe ?qf ?qg).mono ?_); (case qa => have := HL.out; simp; omega); (case qb => exact HK4.out); (case qc => have := HL4.out; simp; omega); (case qd => exact HE4.out.step (Kp.of_below HB6.out)); (case qe => exact HV.out.keep HS1.out (below_step (below_step (below_alloc (Below.refl _ _) _) HD4.out) HB6.out)); (case qf => exact Kd.R_lower (Kd.R_mono (Kd.R_bound HR6.out) (fun k hk => by have := hk.2.1; have := HSZ.out; omega)) (Nat.le_of_lt (Nat.lt_of_le_of_lt hbase HSZ.out))); (case qg => exact Kd.V_keep HV4.out (KeepBut.of_below HB6.out _ _) (fun _ h => h)); rintro e w7 ⟨rfl, hs7, hk7⟩; rw [HEXT.out]; refine ⟨_, rfl, ?_⟩; have HS7 := Aside0.mk hs7; have HK7 := Aside0.mk ((Kp.of_below HB6.out).trans hk7); clear hs7 hk7))
        all_goals go_wp2
        all_goals go_ret
        all_goals exact ⟨by rw [HX.out, HR.out, HRS.out, HRF4.out, HEXT.out]; rfl, by rw [HX.out, HR.out, HRS.out, HRF4.out, HEXT.out]; exact HS7.out, HKp.out.trans ((Kp.of_below (below_step (below_alloc (Below.refl _ _) _) HD4.out)).trans HK7.out)⟩
       ·go_region_law (first
         | (refine goes_ Try.func67 (by kernel_rfl) rfl #[.slice (some ad) ord.length c] (by rfl) rfl rfl (by (try simp only [List.map_toArray, List.map_cons, List.map_nil]); first | done | rfl) ?_; (refine (cloneSome ad c ord _ ?sa ?sb ?sc).mono ?_); (case sa => exact Kd.C_below (Kd.R_reads' HO4.out).2.2 (by repeat (first | exact Below.refl _ _ | apply below_alloc | apply below_drew))); (case sb => exact (Kd.R_reads' HO4.out).2.1); (case sc => have := HL.out; omega); rintro e w5 ⟨v5, ad5, c5, rfl, rfl, hR5, hb5⟩; refine ⟨_, rfl, ?_⟩; have HR5 := Aside0.mk (Kd.R_lower (base' := w4.heap.size) hR5 (below_size (by repeat (first | exact Below.refl _ _ | apply below_alloc | apply below_drew)))); have HB5 := Aside0.mk (below_step (w := w4) (by repeat (first | exact Below.refl _ _ | apply below_alloc | apply below_drew)) hb5); have HBn := Aside0.mk hb5; have ey0 := EC.out _ HB5.out; have ey1 := fun o => EC.out _ (below_alloc HB5.out o); clear hR5 hb5)
         | (refine Kd.R_append_rows_step (Kd.int .i64) (Rr := fun x cs => cs = [.int .i64 x]) (w0 := w4) w4.heap.size (by rfl) (.tmp 74) (.tmp 76) 23 3 (.int .i64 0) 8 rfl Try.underlying23 info3 rfl (by decide) (by omega) (.slice (some ad5) ord.length c5) ord [(i : Int)] _ 1 1 (fun _ => True) (fun _ => False) rfl rfl ?aO ?aR (fun _ _ h => h) (fun _ hk => hk.elim) (fun _ _ => trivial) ?aB ?aS ?aL ?_; (case aO => (with_reducible repeat (first | apply Kd.R_alloc | apply Kd.R_drewN | apply Kd.R_drew)); exact HR5.out); (case aR => first | exact C_one _ _ | exact Kd.C_below (C_one w4.drew _) HBn.out); (case aB => repeat (first | exact HB5.out | apply below_alloc | apply below_drew)); (case aS => exact below_size (by repeat (first | exact HB5.out | apply below_alloc | apply below_drew))); (case aL => have := HL.out; simp; omega); intro v6 w6 ho hb hg hat; obtain ⟨ad6, c6, rfl⟩ := slice1_ ho (by simp); have HR6 := Aside0.mk ho; have HB6 := Aside0.mk hb; have ez0 := EC.out _ HB6.out; clear ho hb hg hat)
         | (refine goesV_ Try.func63 (by kernel_rfl) rfl #[.slice (some ad6) (ord.length + 1) c6, v4] (by rfl) rfl rfl (by rfl) (by (try simp only [List.map_toArray, List.map_cons, List.map_nil]); first | done | rfl) ?_; rw [show ((#[.slice (some ad6) (ord.length + 1) c6, v4] : Array Value) ++ #[.pointer (some ⟨bc, 0, none⟩), .pointer (some ⟨bv, 0, none⟩), .pointer (some ⟨be, 0, none⟩)]) = #[.slice (some ad6) (ord ++ [(i : Int)]).length c6, v4, .pointer (some ⟨bc, 0, none⟩), .pointer (some ⟨bv, 0, none⟩), .pointer (some ⟨be, 0, none⟩)] from by rw [List.length_append]; rfl]; (refine (IH.out (ord ++ [(i : Int)]) st4 ad6 c6 v4 s1 _ ?qa ?qb ?qc ?qd ?qe ?qf ?qg).mono ?_); (case qa => have := HL.out; simp; omega); (case qb => exact HK4.out); (case qc => have := HL4.out; simp; omega); (case qd => exact HE4.out.step (Kp.of_below HB6.out)); (case qe => exact HV.out.keep HS1.out (below_step (below_step (below_alloc (Below.refl _ _) _) HD4.out) HB6.out)); (case qf => exact Kd.R_lower (Kd.R_mono (Kd.R_bound HR6.out) (fun k hk => by have := hk.2.1; have := HSZ.out; omega)) (Nat.le_of_lt (Nat.lt_of_le_of_lt hbase HSZ.out))); (case qg => exact Kd.V_keep HV4.out (KeepBut.of_below HB6.out _ _) (fun _ h => h)); rintro e w7 ⟨rfl, hs7, hk7⟩; rw [HEXT.out]; refine ⟨_, rfl, ?_⟩; have HS7 := Aside0.mk hs7; have HK7 := Aside0.mk ((Kp.of_below HB6.out).trans hk7); clear hs7 hk7))
        all_goals go_wp2
        all_goals go_roundg (lc.length - (i + 1))
        all_goals first
         | (case measure => have := HK1.out; omega)
         | (case rel => exact ⟨i + 1, (ext lc step d (ord ++ [(i : Int)]) st4 s1).1, by first | rfl | (simp; done), ⟨by omega⟩, ⟨by rw [HR.out, HRS.out, HRF4.out, HEXT.out]; rfl⟩, ⟨rfl⟩, HS7, ⟨HKp.out.trans ((Kp.of_below (below_step (below_alloc (Below.refl _ _) _) HD4.out)).trans HK7.out)⟩⟩)
      | false =>
       by_cases hn : st.length = 0
       ·have n1 : ((st.length : Int) == 0) = true := beq_iff_eq.mpr (by omega)
        have n2 : (st.length == 0) = true := beq_iff_eq.mpr hn
        have n3 : decide (0 < (st.length : Int)) = false := decide_eq_false (by omega)
        have n4 : decide (0 < st.length) = false := decide_eq_false (by omega)
        by_cases hr : xr = -1
        ·have r1 : (xr == -1) = true := beq_iff_eq.mpr hr
         have HRF4 := Aside0.mk (show rowF lc step d ord st i s1 = ext lc step d (ord ++ [(i : Int)]) st s1 by rw [HRF.out]; unfold stepS; rw [if_neg (by simp), if_pos hn, if_pos hr])
         have HL4 := Aside0.mk (show st.length ≤ ord.length + 1 by have := HSL.out; omega)
         clear hr hn
         go_wp2_with (first | (go_at_call 64; (refine (slices_Contains_int_int.calls (ord.length + 1) _ _ ord (i : Int) false _ ?sa ?sb HCt.out).mono ?_); (case sa => exact Kd.C_alloc (Kd.R_reads' (Kd.R_keep HO.out HKp.out.k (fun _ h => h))).2.2 _); (case sb => exact (Kd.R_reads' HO.out).2.1); rintro e w1 ⟨rfl, hd⟩; have HD := Aside0.mk hd.below; clear hd) | (go_at_call 65; (refine (HF.out _ HD.out).mono ?_); rintro e w2 ⟨rfl, hd⟩; have HD2 := Aside0.mk (below_step HD.out hd); clear hd) | (go_at_call 67; (refine (cloneV (base := base) (ok := fun k => k ≠ bs) (.slice As st.length cs) st w2 ?sa ?sb).mono ?_); (case sa => exact Kd.V_keep (Kd.V_mk HCs.out HVs.out) (HKp.out.trans (Kp.of_below (below_step (below_alloc (Below.refl _ _) _) HD2.out))).k (fun _ h => h)); (case sb => have := HL.out; have := HSL.out; omega); rintro e w3 ⟨v3, rfl, hR3, hd⟩; have HR3 := Aside0.mk hR3; have HB3 := Aside0.mk hd; have HD3 := Aside0.mk (below_step HD2.out hd); have HG3 := Aside0.mk (((Kp.of_below HD2.out).trans (Kp.of_below hd)).blk HG.out HGne.out); clear hd hR3; have g0 : w3.cell? ⟨wr.heap.size, 0, none⟩ = some _ := (blk_cell HG3.out 0).trans rfl; have g1 : w3.cell? ⟨wr.heap.size, 1, none⟩ = some _ := (blk_cell HG3.out 1).trans rfl; have g2 : w3.cell? ⟨wr.heap.size, 2, none⟩ = some _ := (blk_cell HG3.out 2).trans rfl))
         have HV3 := Aside0.mk (show Kd.V (Kd.int .i64) 3 w3 base (fun k => k ≠ bs) v3 st from Kd.R_V (Kd.R_mono (Kd.R_bound HR3.out) (fun k hk => by have h1_ := hk.2.1; have h2_ := HE2.out.sz; have h3_ := HD2.out.size; exact Nat.ne_of_gt (Nat.lt_of_lt_of_le h2_ (Nat.le_trans h3_ h1_)))))
         clear n1 n2 n3 n4 r1
         have HE4 := Aside0.mk (HE2.out.step (Kp.of_below HD3.out))
         have e0 := cell_of_one HE4.out.e
         have HO4 := Aside0.mk (Kd.R_keep HO.out (HKp.out.trans (Kp.of_below (below_step (below_alloc (Below.refl _ _) _) HD3.out))).k (fun _ h => h))
         have HSZ := Aside0.mk HE4.out.sz
         have HK4 := Aside0.mk (show ∀ k ∈ ord ++ [(i : Int)], 0 ≤ k ∧ k < lc.length from fun k hk => by
          rcases List.mem_append.1 hk with h | h
          ·exact HK.out k h
          ·rw [List.mem_singleton.1 h]; omega)
         have ec1 : ∀ W, Below w3.heap.size w3 W → W.cell? ⟨be, 0, none⟩ = some (.func (.func 63) #[] #[.pointer (some ⟨bc, 0, none⟩), .pointer (some ⟨bv, 0, none⟩), .pointer (some ⟨be, 0, none⟩)]) := fun W hW => pw_cell_below hW e0
         have EC := Aside0.mk ec1
         have ex1 := fun o => EC.out (w3.alloc o) (below_alloc (Below.refl _ _) o)
         clear ec1
         cases hext : (ext lc step d (ord ++ [(i : Int)]) st s1).2
         all_goals have HEXT := Aside0.mk hext
         all_goals clear hext
         ·go_region_law (first
           | (refine goes_ Try.func67 (by kernel_rfl) rfl #[.slice (some ad) ord.length c] (by rfl) rfl rfl (by (try simp only [List.map_toArray, List.map_cons, List.map_nil]); first | done | rfl) ?_; (refine (cloneSome ad c ord _ ?sa ?sb ?sc).mono ?_); (case sa => exact Kd.C_below (Kd.R_reads' HO4.out).2.2 (by repeat (first | exact Below.refl _ _ | apply below_alloc | apply below_drew))); (case sb => exact (Kd.R_reads' HO4.out).2.1); (case sc => have := HL.out; omega); rintro e w5 ⟨v5, ad5, c5, rfl, rfl, hR5, hb5⟩; refine ⟨_, rfl, ?_⟩; have HR5 := Aside0.mk (Kd.R_lower (base' := w3.heap.size) hR5 (below_size (by repeat (first | exact Below.refl _ _ | apply below_alloc | apply below_drew)))); have HB5 := Aside0.mk (below_step (w := w3) (by repeat (first | exact Below.refl _ _ | apply below_alloc | apply below_drew)) hb5); have HBn := Aside0.mk hb5; have ey0 := EC.out _ HB5.out; have ey1 := fun o => EC.out _ (below_alloc HB5.out o); clear hR5 hb5)
           | (refine Kd.R_append_rows_step (Kd.int .i64) (Rr := fun x cs => cs = [.int .i64 x]) (w0 := w3) w3.heap.size (by rfl) (.tmp 74) (.tmp 76) 23 3 (.int .i64 0) 8 rfl Try.underlying23 info3 rfl (by decide) (by omega) (.slice (some ad5) ord.length c5) ord [(i : Int)] _ 1 1 (fun _ => True) (fun _ => False) rfl rfl ?aO ?aR (fun _ _ h => h) (fun _ hk => hk.elim) (fun _ _ => trivial) ?aB ?aS ?aL ?_; (case aO => (with_reducible repeat (first | apply Kd.R_alloc | apply Kd.R_drewN | apply Kd.R_drew)); exact HR5.out); (case aR => first | exact C_one _ _ | exact Kd.C_below (C_one w3.drew _) HBn.out); (case aB => repeat (first | exact HB5.out | apply below_alloc | apply below_drew)); (case aS => exact below_size (by repeat (first | exact HB5.out | apply below_alloc | apply below_drew))); (case aL => have := HL.out; simp; omega); intro v6 w6 ho hb hg hat; obtain ⟨ad6, c6, rfl⟩ := slice1_ ho (by simp); have HR6 := Aside0.mk ho; have HB6 := Aside0.mk hb; have ez0 := EC.out _ HB6.out; clear ho hb hg hat)
           | (refine goesV_ Try.func63 (by kernel_rfl) rfl #[.slice (some ad6) (ord.length + 1) c6, v3] (by rfl) rfl rfl (by rfl) (by (try simp only [List.map_toArray, List.map_cons, List.map_nil]); first | done | rfl) ?_; rw [show ((#[.slice (some ad6) (ord.length + 1) c6, v3] : Array Value) ++ #[.pointer (some ⟨bc, 0, none⟩), .pointer (some ⟨bv, 0, none⟩), .pointer (some ⟨be, 0, none⟩)]) = #[.slice (some ad6) (ord ++ [(i : Int)]).length c6, v3, .pointer (some ⟨bc, 0, none⟩), .pointer (some ⟨bv, 0, none⟩), .pointer (some ⟨be, 0, none⟩)] from by rw [List.length_append]; rfl]; (refine (IH.out (ord ++ [(i : Int)]) st ad6 c6 v3 s1 _ ?qa ?qb ?qc ?qd ?qe ?qf ?qg).mono ?_); (case qa => have := HL.out; simp; omega); (case qb => exact HK4.out); (case qc => have := HL4.out; simp; omega); (case qd => exact HE4.out.step (Kp.of_below HB6.out)); (case qe => exact HV.out.keep HS1.out (below_step (below_step (below_alloc (Below.refl _ _) _) HD3.out) HB6.out)); (case qf => exact Kd.R_lower (Kd.R_mono (Kd.R_bound HR6.out) (fun k hk => by have := hk.2.1; have := HSZ.out; omega)) (Nat.le_of_lt (Nat.lt_of_le_of_lt hbase HSZ.out))); (case qg => exact Kd.V_keep HV3.out (KeepBut.of_below HB6.out _ _) (fun _ h => h)); rintro e w7 ⟨rfl, hs7, hk7⟩; rw [HEXT.out]; refine ⟨_, rfl, ?_⟩; have HS7 := Aside0.mk hs7; have HK7 := Aside0.mk ((Kp.of_below HB6.out).trans hk7); clear hs7 hk7))
          all_goals go_wp2
          all_goals go_ret
          all_goals exact ⟨by rw [HX.out, HR.out, HRS.out, HRF4.out, HEXT.out]; rfl, by rw [HX.out, HR.out, HRS.out, HRF4.out, HEXT.out]; exact HS7.out, HKp.out.trans ((Kp.of_below (below_step (below_alloc (Below.refl _ _) _) HD3.out)).trans HK7.out)⟩
         ·go_region_law (first
           | (refine goes_ Try.func67 (by kernel_rfl) rfl #[.slice (some ad) ord.length c] (by rfl) rfl rfl (by (try simp only [List.map_toArray, List.map_cons, List.map_nil]); first | done | rfl) ?_; (refine (cloneSome ad c ord _ ?sa ?sb ?sc).mono ?_); (case sa => exact Kd.C_below (Kd.R_reads' HO4.out).2.2 (by repeat (first | exact Below.refl _ _ | apply below_alloc | apply below_drew))); (case sb => exact (Kd.R_reads' HO4.out).2.1); (case sc => have := HL.out; omega); rintro e w5 ⟨v5, ad5, c5, rfl, rfl, hR5, hb5⟩; refine ⟨_, rfl, ?_⟩; have HR5 := Aside0.mk (Kd.R_lower (base' := w3.heap.size) hR5 (below_size (by repeat (first | exact Below.refl _ _ | apply below_alloc | apply below_drew)))); have HB5 := Aside0.mk (below_step (w := w3) (by repeat (first | exact Below.refl _ _ | apply below_alloc | apply below_drew)) hb5); have HBn := Aside0.mk hb5; have ey0 := EC.out _ HB5.out; have ey1 := fun o => EC.out _ (below_alloc HB5.out o); clear hR5 hb5)
           | (refine Kd.R_append_rows_step (Kd.int .i64) (Rr := fun x cs => cs = [.int .i64 x]) (w0 := w3) w3.heap.size (by rfl) (.tmp 74) (.tmp 76) 23 3 (.int .i64 0) 8 rfl Try.underlying23 info3 rfl (by decide) (by omega) (.slice (some ad5) ord.length c5) ord [(i : Int)] _ 1 1 (fun _ => True) (fun _ => False) rfl rfl ?aO ?aR (fun _ _ h => h) (fun _ hk => hk.elim) (fun _ _ => trivial) ?aB ?aS ?aL ?_; (case aO => (with_reducible repeat (first | apply Kd.R_alloc | apply Kd.R_drewN | apply Kd.R_drew)); exact HR5.out); (case aR => first | exact C_one _ _ | exact Kd.C_below (C_one w3.drew _) HBn.out); (case aB => repeat (first | exact HB5.out | apply below_alloc | apply below_drew)); (case aS => exact below_size (by repeat (first | exact HB5.out | apply below_alloc | apply below_drew))); (case aL => have := HL.out; simp; omega); intro v6 w6 ho hb hg hat; obtain ⟨ad6, c6, rfl⟩ := slice1_ ho (by simp); have HR6 := Aside0.mk ho; have HB6 := Aside0.mk hb; have ez0 := EC.out _ HB6.out; clear ho hb hg hat)
           | (refine goesV_ Try.func63 (by kernel_rfl) rfl #[.slice (some ad6) (ord.length + 1) c6, v3] (by rfl) rfl rfl (by rfl) (by (try simp only [List.map_toArray, List.map_cons, List.map_nil]); first | done | rfl) ?_; rw [show ((#[.slice (some ad6) (ord.length + 1) c6, v3] : Array Value) ++ #[.pointer (some ⟨bc, 0, none⟩), .pointer (some ⟨bv, 0, none⟩), .pointer (some ⟨be, 0, none⟩)]) = #[.slice (some ad6) (ord ++ [(i : Int)]).length c6, v3, .pointer (some ⟨bc, 0, none⟩), .pointer (some ⟨bv, 0, none⟩), .pointer (some ⟨be, 0, none⟩)] from by rw [List.length_append]; rfl]; (refine (IH.out (ord ++ [(i : Int)]) st ad6 c6 v3 s1 _ ?qa ?qb ?qc ?qd ?qe ?qf ?qg).mono ?_); (case qa => have := HL.out; simp; omega); (case qb => exact HK4.out); (case qc => have := HL4.out; simp; omega); (case qd => exact HE4.out.step (Kp.of_below HB6.out)); (case qe => exact HV.out.keep HS1.out (below_step (below_step (below_alloc (Below.refl _ _) _) HD3.out) HB6.out)); (case qf => exact Kd.R_lower (Kd.R_mono (Kd.R_bound HR6.out) (fun k hk => by have := hk.2.1; have := HSZ.out; omega)) (Nat.le_of_lt (Nat.lt_of_le_of_lt hbase HSZ.out))); (case qg => exact Kd.V_keep HV3.out (KeepBut.of_below HB6.out _ _) (fun _ h => h)); rintro e w7 ⟨rfl, hs7, hk7⟩; rw [HEXT.out]; refine ⟨_, rfl, ?_⟩; have HS7 := Aside0.mk hs7; have HK7 := Aside0.mk ((Kp.of_below HB6.out).trans hk7); clear hs7 hk7))
          all_goals go_wp2
          all_goals go_roundg (lc.length - (i + 1))
          all_goals first
           | (case measure => have := HK1.out; omega)
           | (case rel => exact ⟨i + 1, (ext lc step d (ord ++ [(i : Int)]) st s1).1, by first | rfl | (simp; done), ⟨by omega⟩, ⟨by rw [HR.out, HRS.out, HRF4.out, HEXT.out]; rfl⟩, ⟨rfl⟩, HS7, ⟨HKp.out.trans ((Kp.of_below (below_step (below_alloc (Below.refl _ _) _) HD3.out)).trans HK7.out)⟩⟩)
        ·have r1 : (xr == -1) = false := beq_eq_false_iff_ne.mpr hr
         have HRF4 := Aside0.mk (show rowF lc step d ord st i s1 = (s1, true) by rw [HRF.out]; unfold stepS; rw [if_neg (by simp), if_pos hn, if_neg hr])
         clear hr hn
         go_wp2_with (first | (go_at_call 64; (refine (slices_Contains_int_int.calls (ord.length + 1) _ _ ord (i : Int) false _ ?sa ?sb HCt.out).mono ?_); (case sa => exact Kd.C_alloc (Kd.R_reads' (Kd.R_keep HO.out HKp.out.k (fun _ h => h))).2.2 _); (case sb => exact (Kd.R_reads' HO.out).2.1); rintro e w1 ⟨rfl, hd⟩; have HD := Aside0.mk hd.below; clear hd) | (go_at_call 65; (refine (HF.out _ HD.out).mono ?_); rintro e w2 ⟨rfl, hd⟩; have HD2 := Aside0.mk (below_step HD.out hd); clear hd) | (go_at_call 67; (refine (cloneV (base := base) (ok := fun k => k ≠ bs) (.slice As st.length cs) st w2 ?sa ?sb).mono ?_); (case sa => exact Kd.V_keep (Kd.V_mk HCs.out HVs.out) (HKp.out.trans (Kp.of_below (below_step (below_alloc (Below.refl _ _) _) HD2.out))).k (fun _ h => h)); (case sb => have := HL.out; have := HSL.out; omega); rintro e w3 ⟨v3, rfl, hR3, hd⟩; have HR3 := Aside0.mk hR3; have HB3 := Aside0.mk hd; have HD3 := Aside0.mk (below_step HD2.out hd); have HG3 := Aside0.mk (((Kp.of_below HD2.out).trans (Kp.of_below hd)).blk HG.out HGne.out); clear hd hR3; have g0 : w3.cell? ⟨wr.heap.size, 0, none⟩ = some _ := (blk_cell HG3.out 0).trans rfl; have g1 : w3.cell? ⟨wr.heap.size, 1, none⟩ = some _ := (blk_cell HG3.out 1).trans rfl; have g2 : w3.cell? ⟨wr.heap.size, 2, none⟩ = some _ := (blk_cell HG3.out 2).trans rfl))
         go_quiet (fail)
         go_wp2
         go_roundg (lc.length - (i + 1))
         case measure => have := HK1.out; omega
         case rel => exact ⟨i + 1, s1, by first | rfl | (simp; done), ⟨by omega⟩, ⟨by rw [HR.out, HRS.out, HRF4.out]; rfl⟩, ⟨rfl⟩, ⟨HV.out.keep HS1.out (pw_below_drewN (below_step (below_alloc (Below.refl _ _) _) HD3.out) _)⟩, ⟨HKp.out.trans (Kp.of_below (pw_below_drewN (below_step (below_alloc (Below.refl _ _) _) HD3.out) _))⟩⟩
       ·have n1 : ((st.length : Int) == 0) = false := beq_eq_false_iff_ne.mpr (by omega)
        have n2 : (st.length == 0) = false := beq_eq_false_iff_ne.mpr hn
        have n3 : decide (0 < (st.length : Int)) = true := decide_eq_true (by omega)
        have n4 : decide (0 < st.length) = true := decide_eq_true (by omega)
        have HN := Aside0.mk hn
        have HP := Aside0.mk (show 0 < st.length by omega)
        clear hn
        by_cases hr : xr = rd st ((st.length : Int) - 1)
        ·obtain ⟨st4, hst4⟩ : ∃ z, z = st.take (st.length - 1) := ⟨_, rfl⟩
         have HRF4 := Aside0.mk (show rowF lc step d ord st i s1 = ext lc step d (ord ++ [(i : Int)]) st4 s1 by rw [HRF.out, hst4]; unfold stepS; rw [if_neg (by simp), if_neg HN.out, if_pos hr])
         have HL4 := Aside0.mk (show st4.length ≤ ord.length + 1 by rw [hst4]; have := HSL.out; simp; omega)
         have HST4 := Aside0.mk hst4
         have r1 : (xr == rd st ((st.length : Int) - 1)) = true := beq_iff_eq.mpr hr
         clear hst4 hr
         go_wp2_with (first | (go_at_call 64; (refine (slices_Contains_int_int.calls (ord.length + 1) _ _ ord (i : Int) false _ ?sa ?sb HCt.out).mono ?_); (case sa => exact Kd.C_alloc (Kd.R_reads' (Kd.R_keep HO.out HKp.out.k (fun _ h => h))).2.2 _); (case sb => exact (Kd.R_reads' HO.out).2.1); rintro e w1 ⟨rfl, hd⟩; have HD := Aside0.mk hd.below; clear hd) | (go_at_call 65; (refine (HF.out _ HD.out).mono ?_); rintro e w2 ⟨rfl, hd⟩; have HD2 := Aside0.mk (below_step HD.out hd); clear hd) | (go_at_call 67; (refine (cloneV (base := base) (ok := fun k => k ≠ bs) (.slice As st.length cs) st w2 ?sa ?sb).mono ?_); (case sa => exact Kd.V_keep (Kd.V_mk HCs.out HVs.out) (HKp.out.trans (Kp.of_below (below_step (below_alloc (Below.refl _ _) _) HD2.out))).k (fun _ h => h)); (case sb => have := HL.out; have := HSL.out; omega); rintro e w3 ⟨v3, rfl, hR3, hd⟩; have HR3 := Aside0.mk hR3; have HB3 := Aside0.mk hd; have HD3 := Aside0.mk (below_step HD2.out hd); have HG3 := Aside0.mk (((Kp.of_below HD2.out).trans (Kp.of_below hd)).blk HG.out HGne.out); clear hd hR3; have g0 : w3.cell? ⟨wr.heap.size, 0, none⟩ = some _ := (blk_cell HG3.out 0).trans rfl; have g1 : w3.cell? ⟨wr.heap.size, 1, none⟩ = some _ := (blk_cell HG3.out 1).trans rfl; have g2 : w3.cell? ⟨wr.heap.size, 2, none⟩ = some _ := (blk_cell HG3.out 2).trans rfl))
         obtain ⟨ads, eas, hads3⟩ := Kd.at_int (Kd.F_now (Kd.F_keep HVs.out (HKp.out.trans (Kp.of_below (below_step (below_alloc (Below.refl _ _) _) HD3.out))).k (fun _ h => h))) ((st.length : Int) - 1) (by have := HP.out; omega) (by omega)
         cases eas
         have y3 : ((st.length : Int) - 1).toNat = st.length - 1 := by have := HP.out; omega
         rw [y3] at hads3
         have y1 : 0 ≤ (st.length : Int) - 1 := by have := HP.out; omega
         have y0 : 1 ≤ (st.length : Int) := by have := HP.out; omega
         have y2 : (st.length : Int) - 1 < (st.length : Int) := by omega
         have y4 : IntKind.i64.wrap ((st.length : Int) - 1) = (st.length : Int) - 1 := IntWalk.i64_in _ (by have := HP.out; have := HL.out; have := HSL.out; omega)
         obtain ⟨A3, c3, e3⟩ := Kd.R_slice HR3.out
         subst e3
         have hc3 : st.length ≤ c3 := (Kd.R_reads' HR3.out).2.1
         go_quiet (fail)
         go_wp2
         obtain ⟨w4, hw4⟩ : ∃ w4, w4 = w3.drewN nq := ⟨_, rfl⟩
         have hg4 : Below w3.heap.size w3 w4 := by rw [hw4]; exact pw_below_drewN (Below.refl _ _) _
         have HG4 := Aside0.mk hg4
         have HD4 := Aside0.mk (below_step HD3.out hg4)
         obtain ⟨v4, hv4⟩ : ∃ v4, v4 = Value.slice A3 (st.length - 1) c3 := ⟨_, rfl⟩
         have HV4 := Aside0.mk (show Kd.V (Kd.int .i64) 3 w4 base (fun k => k ≠ bs) v4 st4 from by
          rw [hv4, HST4.out]
          have h : Kd.V (Kd.int .i64) 3 w4 base (fun k => k ≠ bs) (.slice A3 st.length c3) st := Kd.V_map (Kd.R_V (e := 3) (base' := base) (Kd.R_mono (ok' := fun k => k ≠ bs) (Kd.R_bound HR3.out) (fun k hk => by have h1_ := hk.2.1; have h2_ := HE2.out.sz; have h3_ := HD2.out.size; exact Nat.ne_of_gt (Nat.lt_of_lt_of_le h2_ (Nat.le_trans h3_ h1_))))) (fun _ hf => Kd.F_below hf HG4.out)
          obtain ⟨A', c', he', hl', hf'⟩ := h
          injection he' with ha' hn' hcc'
          subst ha' hcc'
          have hlen : (st.take (st.length - 1)).length = st.length - 1 := by simp
          obtain ⟨st5, hst5⟩ : ∃ z, z = st.take (st.length - 1) := ⟨_, rfl⟩
          rw [← hst5] at hlen ⊢
          rw [← hlen]
          exact Kd.V_mk (by rw [hlen]; omega) (by rw [hst5]; exact Kd.F_take hf' (by omega)))
         rw [← hw4, ← hv4]
         clear hw4 hv4 hg4 n1 n2 n3 n4 r1 y0 y1 y2 y3 y4 hads3 hc3
         have HE4 := Aside0.mk (HE2.out.step (Kp.of_below HD4.out))
         have e0 := cell_of_one HE4.out.e
         have HO4 := Aside0.mk (Kd.R_keep HO.out (HKp.out.trans (Kp.of_below (below_step (below_alloc (Below.refl _ _) _) HD4.out))).k (fun _ h => h))
         have HSZ := Aside0.mk HE4.out.sz
         have HK4 := Aside0.mk (show ∀ k ∈ ord ++ [(i : Int)], 0 ≤ k ∧ k < lc.length from fun k hk => by
          rcases List.mem_append.1 hk with h | h
          ·exact HK.out k h
          ·rw [List.mem_singleton.1 h]; omega)
         have ec1 : ∀ W, Below w4.heap.size w4 W → W.cell? ⟨be, 0, none⟩ = some (.func (.func 63) #[] #[.pointer (some ⟨bc, 0, none⟩), .pointer (some ⟨bv, 0, none⟩), .pointer (some ⟨be, 0, none⟩)]) := fun W hW => pw_cell_below hW e0
         have EC := Aside0.mk ec1
         have ex1 := fun o => EC.out (w4.alloc o) (below_alloc (Below.refl _ _) o)
         clear ec1
         cases hext : (ext lc step d (ord ++ [(i : Int)]) st4 s1).2
         all_goals have HEXT := Aside0.mk hext
         all_goals clear hext
         ·go_region_law (first
           | (refine goes_ Try.func67 (by kernel_rfl) rfl #[.slice (some ad) ord.length c] (by rfl) rfl rfl (by (try simp only [List.map_toArray, List.map_cons, List.map_nil]); first | done | rfl) ?_; (refine (cloneSome ad c ord _ ?sa ?sb ?sc).mono ?_); (case sa => exact Kd.C_below (Kd.R_reads' HO4.out).2.2 (by repeat (first | exact Below.refl _ _ | apply below_alloc | apply below_drew))); (case sb => exact (Kd.R_reads' HO4.out).2.1); (case sc => have := HL.out; omega); rintro e w5 ⟨v5, ad5, c5, rfl, rfl, hR5, hb5⟩; refine ⟨_, rfl, ?_⟩; have HR5 := Aside0.mk (Kd.R_lower (base' := w4.heap.size) hR5 (below_size (by repeat (first | exact Below.refl _ _ | apply below_alloc | apply below_drew)))); have HB5 := Aside0.mk (below_step (w := w4) (by repeat (first | exact Below.refl _ _ | apply below_alloc | apply below_drew)) hb5); have HBn := Aside0.mk hb5; have ey0 := EC.out _ HB5.out; have ey1 := fun o => EC.out _ (below_alloc HB5.out o); clear hR5 hb5)
           | (refine Kd.R_append_rows_step (Kd.int .i64) (Rr := fun x cs => cs = [.int .i64 x]) (w0 := w4) w4.heap.size (by rfl) (.tmp 74) (.tmp 76) 23 3 (.int .i64 0) 8 rfl Try.underlying23 info3 rfl (by decide) (by omega) (.slice (some ad5) ord.length c5) ord [(i : Int)] _ 1 1 (fun _ => True) (fun _ => False) rfl rfl ?aO ?aR (fun _ _ h => h) (fun _ hk => hk.elim) (fun _ _ => trivial) ?aB ?aS ?aL ?_; (case aO => (with_reducible repeat (first | apply Kd.R_alloc | apply Kd.R_drewN | apply Kd.R_drew)); exact HR5.out); (case aR => first | exact C_one _ _ | exact Kd.C_below (C_one w4.drew _) HBn.out); (case aB => repeat (first | exact HB5.out | apply below_alloc | apply below_drew)); (case aS => exact below_size (by repeat (first | exact HB5.out | apply below_alloc | apply below_drew))); (case aL => have := HL.out; simp; omega); intro v6 w6 ho hb hg hat; obtain ⟨ad6, c6, rfl⟩ := slice1_ ho (by simp); have HR6 := Aside0.mk ho; have HB6 := Aside0.mk hb; have ez0 := EC.out _ HB6.out; clear ho hb hg hat)
           | (refine goesV_ Try.func63 (by kernel_rfl) rfl #[.slice (some ad6) (ord.length + 1) c6, v4] (by rfl) rfl rfl (by rfl) (by (try simp only [List.map_toArray, List.map_cons, List.map_nil]); first | done | rfl) ?_; rw [show ((#[.slice (some ad6) (ord.length + 1) c6, v4] : Array Value) ++ #[.pointer (some ⟨bc, 0, none⟩), .pointer (some ⟨bv, 0, none⟩), .pointer (some ⟨be, 0, none⟩)]) = #[.slice (some ad6) (ord ++ [(i : Int)]).length c6, v4, .pointer (some ⟨bc, 0, none⟩), .pointer (some ⟨bv, 0, none⟩), .pointer (some ⟨be, 0, none⟩)] from by rw [List.length_append]; rfl]; (refine (IH.out (ord ++ [(i : Int)]) st4 ad6 c6 v4 s1 _ ?qa ?qb ?qc ?qd ?qe ?qf ?qg).mono ?_); (case qa => have := HL.out; simp; omega); (case qb => exact HK4.out); (case qc => have := HL4.out; simp; omega); (case qd => exact HE4.out.step (Kp.of_below HB6.out)); (case qe => exact HV.out.keep HS1.out (below_step (below_step (below_alloc (Below.refl _ _) _) HD4.out) HB6.out)); (case qf => exact Kd.R_lower (Kd.R_mono (Kd.R_bound HR6.out) (fun k hk => by have := hk.2.1; have := HSZ.out; omega)) (Nat.le_of_lt (Nat.lt_of_le_of_lt hbase HSZ.out))); (case qg => exact Kd.V_keep HV4.out (KeepBut.of_below HB6.out _ _) (fun _ h => h)); rintro e w7 ⟨rfl, hs7, hk7⟩; rw [HEXT.out]; refine ⟨_, rfl, ?_⟩; have HS7 := Aside0.mk hs7; have HK7 := Aside0.mk ((Kp.of_below HB6.out).trans hk7); clear hs7 hk7))
          all_goals go_wp2
          all_goals go_ret
          all_goals exact ⟨by rw [HX.out, HR.out, HRS.out, HRF4.out, HEXT.out]; rfl, by rw [HX.out, HR.out, HRS.out, HRF4.out, HEXT.out]; exact HS7.out, HKp.out.trans ((Kp.of_below (below_step (below_alloc (Below.refl _ _) _) HD4.out)).trans HK7.out)⟩
         ·go_region_law (first
           | (refine goes_ Try.func67 (by kernel_rfl) rfl #[.slice (some ad) ord.length c] (by rfl) rfl rfl (by (try simp only [List.map_toArray, List.map_cons, List.map_nil]); first | done | rfl) ?_; (refine (cloneSome ad c ord _ ?sa ?sb ?sc).mono ?_); (case sa => exact Kd.C_below (Kd.R_reads' HO4.out).2.2 (by repeat (first | exact Below.refl _ _ | apply below_alloc | apply below_drew))); (case sb => exact (Kd.R_reads' HO4.out).2.1); (case sc => have := HL.out; omega); rintro e w5 ⟨v5, ad5, c5, rfl, rfl, hR5, hb5⟩; refine ⟨_, rfl, ?_⟩; have HR5 := Aside0.mk (Kd.R_lower (base' := w4.heap.size) hR5 (below_size (by repeat (first | exact Below.refl _ _ | apply below_alloc | apply below_drew)))); have HB5 := Aside0.mk (below_step (w := w4) (by repeat (first | exact Below.refl _ _ | apply below_alloc | apply below_drew)) hb5); have HBn := Aside0.mk hb5; have ey0 := EC.out _ HB5.out; have ey1 := fun o => EC.out _ (below_alloc HB5.out o); clear hR5 hb5)
           | (refine Kd.R_append_rows_step (Kd.int .i64) (Rr := fun x cs => cs = [.int .i64 x]) (w0 := w4) w4.heap.size (by rfl) (.tmp 74) (.tmp 76) 23 3 (.int .i64 0) 8 rfl Try.underlying23 info3 rfl (by decide) (by omega) (.slice (some ad5) ord.length c5) ord [(i : Int)] _ 1 1 (fun _ => True) (fun _ => False) rfl rfl ?aO ?aR (fun _ _ h => h) (fun _ hk => hk.elim) (fun _ _ => trivial) ?aB ?aS ?aL ?_; (case aO => (with_reducible repeat (first | apply Kd.R_alloc | apply Kd.R_drewN | apply Kd.R_drew)); exact HR5.out); (case aR => first | exact C_one _ _ | exact Kd.C_below (C_one w4.drew _) HBn.out); (case aB => repeat (first | exact HB5.out | apply below_alloc | apply below_drew)); (case aS => exact below_size (by repeat (first | exact HB5.out | apply below_alloc | apply below_drew))); (case aL => have := HL.out; simp; omega); intro v6 w6 ho hb hg hat; obtain ⟨ad6, c6, rfl⟩ := slice1_ ho (by simp); have HR6 := Aside0.mk ho; have HB6 := Aside0.mk hb; have ez0 := EC.out _ HB6.out; clear ho hb hg hat)
           | (refine goesV_ Try.func63 (by kernel_rfl) rfl #[.slice (some ad6) (ord.length + 1) c6, v4] (by rfl) rfl rfl (by rfl) (by (try simp only [List.map_toArray, List.map_cons, List.map_nil]); first | done | rfl) ?_; rw [show ((#[.slice (some ad6) (ord.length + 1) c6, v4] : Array Value) ++ #[.pointer (some ⟨bc, 0, none⟩), .pointer (some ⟨bv, 0, none⟩), .pointer (some ⟨be, 0, none⟩)]) = #[.slice (some ad6) (ord ++ [(i : Int)]).length c6, v4, .pointer (some ⟨bc, 0, none⟩), .pointer (some ⟨bv, 0, none⟩), .pointer (some ⟨be, 0, none⟩)] from by rw [List.length_append]; rfl]; (refine (IH.out (ord ++ [(i : Int)]) st4 ad6 c6 v4 s1 _ ?qa ?qb ?qc ?qd ?qe ?qf ?qg).mono ?_); (case qa => have := HL.out; simp; omega); (case qb => exact HK4.out); (case qc => have := HL4.out; simp; omega); (case qd => exact HE4.out.step (Kp.of_below HB6.out)); (case qe => exact HV.out.keep HS1.out (below_step (below_step (below_alloc (Below.refl _ _) _) HD4.out) HB6.out)); (case qf => exact Kd.R_lower (Kd.R_mono (Kd.R_bound HR6.out) (fun k hk => by have := hk.2.1; have := HSZ.out; omega)) (Nat.le_of_lt (Nat.lt_of_le_of_lt hbase HSZ.out))); (case qg => exact Kd.V_keep HV4.out (KeepBut.of_below HB6.out _ _) (fun _ h => h)); rintro e w7 ⟨rfl, hs7, hk7⟩; rw [HEXT.out]; refine ⟨_, rfl, ?_⟩; have HS7 := Aside0.mk hs7; have HK7 := Aside0.mk ((Kp.of_below HB6.out).trans hk7); clear hs7 hk7))
          all_goals go_wp2
          all_goals go_roundg (lc.length - (i + 1))
          all_goals first
           | (case measure => have := HK1.out; omega)
           | (case rel => exact ⟨i + 1, (ext lc step d (ord ++ [(i : Int)]) st4 s1).1, by first | rfl | (simp; done), ⟨by omega⟩, ⟨by rw [HR.out, HRS.out, HRF4.out, HEXT.out]; rfl⟩, ⟨rfl⟩, HS7, ⟨HKp.out.trans ((Kp.of_below (below_step (below_alloc (Below.refl _ _) _) HD4.out)).trans HK7.out)⟩⟩)
        ·have r1 : (xr == rd st ((st.length : Int) - 1)) = false := beq_eq_false_iff_ne.mpr hr
         have HRF4 := Aside0.mk (show rowF lc step d ord st i s1 = (s1, true) by rw [HRF.out]; unfold stepS; rw [if_neg (by simp), if_neg HN.out, if_neg hr])
         clear hr
         go_wp2_with (first | (go_at_call 64; (refine (slices_Contains_int_int.calls (ord.length + 1) _ _ ord (i : Int) false _ ?sa ?sb HCt.out).mono ?_); (case sa => exact Kd.C_alloc (Kd.R_reads' (Kd.R_keep HO.out HKp.out.k (fun _ h => h))).2.2 _); (case sb => exact (Kd.R_reads' HO.out).2.1); rintro e w1 ⟨rfl, hd⟩; have HD := Aside0.mk hd.below; clear hd) | (go_at_call 65; (refine (HF.out _ HD.out).mono ?_); rintro e w2 ⟨rfl, hd⟩; have HD2 := Aside0.mk (below_step HD.out hd); clear hd) | (go_at_call 67; (refine (cloneV (base := base) (ok := fun k => k ≠ bs) (.slice As st.length cs) st w2 ?sa ?sb).mono ?_); (case sa => exact Kd.V_keep (Kd.V_mk HCs.out HVs.out) (HKp.out.trans (Kp.of_below (below_step (below_alloc (Below.refl _ _) _) HD2.out))).k (fun _ h => h)); (case sb => have := HL.out; have := HSL.out; omega); rintro e w3 ⟨v3, rfl, hR3, hd⟩; have HR3 := Aside0.mk hR3; have HB3 := Aside0.mk hd; have HD3 := Aside0.mk (below_step HD2.out hd); have HG3 := Aside0.mk (((Kp.of_below HD2.out).trans (Kp.of_below hd)).blk HG.out HGne.out); clear hd hR3; have g0 : w3.cell? ⟨wr.heap.size, 0, none⟩ = some _ := (blk_cell HG3.out 0).trans rfl; have g1 : w3.cell? ⟨wr.heap.size, 1, none⟩ = some _ := (blk_cell HG3.out 1).trans rfl; have g2 : w3.cell? ⟨wr.heap.size, 2, none⟩ = some _ := (blk_cell HG3.out 2).trans rfl))
         obtain ⟨ads, eas, hads3⟩ := Kd.at_int (Kd.F_now (Kd.F_keep HVs.out (HKp.out.trans (Kp.of_below (below_step (below_alloc (Below.refl _ _) _) HD3.out))).k (fun _ h => h))) ((st.length : Int) - 1) (by have := HP.out; omega) (by omega)
         cases eas
         have y3 : ((st.length : Int) - 1).toNat = st.length - 1 := by have := HP.out; omega
         rw [y3] at hads3
         have y1 : 0 ≤ (st.length : Int) - 1 := by have := HP.out; omega
         have y0 : 1 ≤ (st.length : Int) := by have := HP.out; omega
         have y2 : (st.length : Int) - 1 < (st.length : Int) := by omega
         have y4 : IntKind.i64.wrap ((st.length : Int) - 1) = (st.length : Int) - 1 := IntWalk.i64_in _ (by have := HP.out; have := HL.out; have := HSL.out; omega)
         go_quiet (fail)
         clear y0 y1 y2 y3 y4
         go_wp2
         go_roundg (lc.length - (i + 1))
         case measure => have := HK1.out; omega
         case rel => exact ⟨i + 1, s1, by first | rfl | (simp; done), ⟨by omega⟩, ⟨by rw [HR.out, HRS.out, HRF4.out]; rfl⟩, ⟨rfl⟩, ⟨HV.out.keep HS1.out (pw_below_drewN (below_step (below_alloc (Below.refl _ _) _) HD3.out) _)⟩, ⟨HKp.out.trans (Kp.of_below (pw_below_drewN (below_step (below_alloc (Below.refl _ _) _) HD3.out) _))⟩⟩
   ·have HRS := Aside0.mk (runL_end (rowF lc step d ord st) lc.length i s1 hlt)
    go_wp2
    go_ret
    exact ⟨by rw [HX.out, HR.out, HRS.out]; rfl, by rw [HX.out, HR.out, HRS.out]; exact HS1.out, HKp.out⟩

end
end Go.Proofs.Ythhfkicmgneokaa.Q
