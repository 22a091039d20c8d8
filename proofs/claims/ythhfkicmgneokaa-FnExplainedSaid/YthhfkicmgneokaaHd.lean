/- By hand: impl.orders, and the three functions that use it: impl.Explains, impl.CountOrders, impl.Explain. -/
import Derived.Test.YthhfkicmgneokaaHc
import Derived.Laws.EntriesVeiled
import Derived.Test.YthhfkicmgneokaaQx13
namespace Go.Proofs.Ythhfkicmgneokaa.Q
open Go.RowKit Go.Proofs.YthhfkicmgneokaaW.PrintWords Go.Proofs.YthhfkicmgneokaaW.PrintLast Go.Proofs.YthhfkicmgneokaaW.PrintMore
set_option linter.unusedVariables false
set_option linter.unusedSimpArgs false

theorem below_of_grown {w w1 : World} (h : w.grownBy w1 none) : Below w.heap.size w w1 := ⟨h.os, h.tape, h.output, h.size, fun i hi => h.block i hi (by simp)⟩
theorem nonnil {α : Type} {d : Kd α} {e base : Nat} {ok : Nat → Prop} {w : World} {v : Value} {xs : List α} {p : Nat → Prop} (h : d.R e w base ok v xs) (hn : ∃ b, v.ownBlock = some b ∧ p b) : ∃ ad c, v = .slice (some ad) xs.length c := by
  obtain ⟨A, c, rfl⟩ := Kd.R_slice h
  cases A with
  | some ad => exact ⟨ad, c, rfl⟩
  | none => obtain ⟨b, hb, _⟩ := hn; simp [Value.ownBlock] at hb

section
variable {σ : Type} {Fv : Nat} {cap : Array Value} {bs base cc : Nat} {Ac : Option Addr} {lc : List S55} {St : World → σ → Prop} {step : σ → List Int → σ × Bool}
set_option maxHeartbeats 2000000 in
set_option maxRecDepth 100000 in
theorem orders_calls (V : Visit σ Fv cap bs base St step) (hlc : lc.length ≤ 7) (hbase : base ≤ bs) (s : σ) (w : World) (hbs : bs < w.heap.size) (hS : St w s) (hr : ∀ W', Kp bs w W' → Kd.C k55 W' Ac lc.length lc) :
    Calls Try.prog 43 #[.slice Ac lc.length cc, .func (.func Fv) #[] cap] w fun e w' => e = .returned (.tuple #[]) ∧ St w' (ext lc step lc.length [] [] s).1 ∧ Kp bs w w' := by
  have HV := Aside0.mk V
  have HS := Aside0.mk hS
  have HR := Aside0.mk hr
  have hmf : ∀ (fn : Fn) (first cap : Array Value) (w : World), (Instr.makeFunc fn first cap).run Try.prog w = .ok (.func fn first cap) w := fun _ _ _ _ => rfl
  clear V hS hr
  have hsz : ∀ (W : World) (o : Obj), (W.alloc o).heap.size = W.heap.size + 1 := fun W o => by show (W.heap.push o).size = _; simp
  have hat : ∀ (W : World) (o : Obj), (W.alloc o).heap[W.heap.size]? = some o := fun W o => by show (W.heap.push o)[W.heap.size]? = _; rw [Array.getElem?_push_size]
  have hup : ∀ (W : World) (o o' : Obj) (g : Nat), W.heap[g]? = some o' → (W.alloc o).heap[g]? = some o' := fun W o o' g h => (Below.heap_alloc W o g (blk_lt h)).trans h
  have HEv := Aside0.mk (fun (o1 : Obj) => show Env bs w.heap.size (w.heap.size + 1) (w.heap.size + 1 + 1) Ac cc lc Fv cap
      ((((w.alloc (.cells #[.slice Ac lc.length cc] 26)).alloc (.cells #[.func (.func Fv) #[] cap] 62)).alloc (.cells #[.func (.func 63) #[] #[.pointer (some ⟨w.heap.size, 0, none⟩), .pointer (some ⟨w.heap.size + 1, 0, none⟩), .pointer (some ⟨w.heap.size + 1 + 1, 0, none⟩)]] 30))) from by
    refine ⟨by rw [hsz, hsz, hsz]; omega, ⟨by omega, by omega, by omega⟩, ?_, ?_, ?_, fun W' hk => HR.out W' ((((Kp.alloc bs _ _).trans (Kp.alloc bs _ _)).trans (Kp.alloc bs _ _)).trans hk)⟩
    · exact hup _ _ _ _ (hup _ _ _ _ (hat _ _))
    · refine hup _ _ _ _ ?_
      have h := hat (w.alloc (.cells #[.slice Ac lc.length cc] 26)) (.cells #[.func (.func Fv) #[] cap] 62)
      rw [hsz] at h
      exact h
    · have h := hat ((w.alloc (.cells #[.slice Ac lc.length cc] 26)).alloc (.cells #[.func (.func Fv) #[] cap] 62)) (.cells #[.func (.func 63) #[] #[.pointer (some ⟨w.heap.size, 0, none⟩), .pointer (some ⟨w.heap.size + 1, 0, none⟩), .pointer (some ⟨w.heap.size + 1 + 1, 0, none⟩)]] 30)
      rw [hsz, hsz] at h
      exact h)
  clear hsz hat hup
  go_enter Try.func43, Try.ntmps43
  go_wp2_with (first
    | ((with_reducible refine gate_dst (N := 7) rfl ?_); refine Kd.R_lit (Kd.int .i64) base 3 ?hg (N := 7) ?hd (xs := ([] : List Int)) (inner := []) (ok := fun k => k ≠ bs) (okp := fun _ => False) ?hr ?hp (fun _ hk => hk.elim) ?hf (Below.refl _ _) ?hb (by simp) ?_; (case hd => rfl); (case hg => rfl); (case hr => first | (go_simp; done) | (go_simp; rfl)); (case hp => exact (Reps.none _ _)); (case hf => have := HEv.out (.cells #[] 0); have := this.sz; exact Nat.ne_of_gt this); (case hb => have := HEv.out (.cells #[] 0); have := this.sz; omega); intro v1 w1 ho hb hg_ hnew_; obtain ⟨ad1, c1, rfl⟩ := nonnil ho hnew_; have HO := Aside0.mk ho; have HGr := Aside0.mk (below_of_grown hg_); clear hg_ hnew_ ho hb)
    | (go_at_call 63; (refine (extend_calls (Ac := Ac) (cc := cc) HV.out hlc hbase lc.length [] [] ad1 c1 (.slice none 0 0) s w1 ?qa ?qb ?qc ?qd ?qe HO.out ?qf).mono ?_); (case qa => simp); (case qb => simp); (case qc => simp); (case qd => exact (HEv.out (.cells #[] 0)).step (Kp.of_below HGr.out)); (case qe => exact HV.out.keep HS.out (below_step (below_alloc (below_alloc (below_alloc (Below.refl _ _) _) _) _) HGr.out)); (case qf => exact Kd.R_V (base' := base) (Kd.R_nil _ _ w1 base _)); rintro e w2 ⟨rfl, hs2, hk2⟩; have HS2 := Aside0.mk hs2; have HK2 := Aside0.mk ((Kp.of_below (below_step (below_alloc (below_alloc (below_alloc (Below.refl _ _) _) _) _) HGr.out)).trans hk2); clear hs2 hk2))
  go_end0
  exact ⟨rfl, HS2.out, HK2.out⟩
end
end Go.Proofs.Ythhfkicmgneokaa.Q
