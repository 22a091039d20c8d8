/- By hand: spec.l16Draw (a state made beside another result) and spec.DrawExplain. -/
import Derived.Test.YthhfkicmgneokaaQx24
namespace Go.Proofs.Ythhfkicmgneokaa.Q
open Go.RowKit Go.Proofs.YthhfkicmgneokaaW.PrintWords Go.Proofs.YthhfkicmgneokaaW.PrintLast Go.Proofs.YthhfkicmgneokaaW.PrintMore
set_option linter.unusedVariables false
set_option linter.unusedSimpArgs false

def spec_DrawExplain.f (k : Nat) (l0 : List Int) : Option (List S55) :=
 (spec_l01New.f k l0).bind fun a => (spec_l01Size.f l0 6).bind fun s => (spec_l01Below.f a.1 a.2.1 a.2.2 s).bind fun n => (spec_l01Once.f a.1 n.2.1 n.2.2 30).bind fun o =>
  if o.1 = true then (spec_l01Below.f a.1 o.2.1 o.2.2 2).bind fun m => (spec_l16DrawCalls.f k a.1 m.2.1 m.2.2 (wrap64 (7 + m.1))).bind fun d => some d.1
  else (spec_l16DrawCalls.f k a.1 o.2.1 o.2.2 n.1).bind fun d => some d.1

theorem spec_DrawExplain.mono : ∀ a0 k, LeO (spec_DrawExplain.f k a0) (spec_DrawExplain.f (k + 1) a0) := by
 intro a0 k
 unfold spec_DrawExplain.f
 refine LeO.bind (spec_l01New.mono _ _) (fun a => LeO.bind (LeO.refl _) (fun s => LeO.bind (LeO.refl _) (fun n => LeO.bind (LeO.refl _) (fun o => LeO.ite ?_ ?_))))
 ·exact LeO.bind (LeO.refl _) (fun m => LeO.bind (spec_l16DrawCalls.mono _ _ _ _ _) (fun _ => LeO.refl _))
 ·exact LeO.bind (spec_l16DrawCalls.mono _ _ _ _ _) (fun _ => LeO.refl _)

set_option maxHeartbeats 8000000 in
set_option maxRecDepth 100000 in
theorem spec_l16Draw.calls (k : Nat) (A0 : Option Addr) (c0 : Nat) (l0 : List Int) (r : List S55) (w : World) (hr0 : Kd.C (Kd.int .u8) w A0 l0.length l0) (hc0 : l0.length ≤ c0) (h : spec_DrawExplain.f k l0 = some r) :
  Calls Try.prog 50 #[.slice A0 l0.length c0] w fun e w' => ∃ (p_ v0_ : Value), e = .returned (.tuple #[p_, v0_]) ∧ Kd.R k55 55 w' w.heap.size (fun _ => True) v0_ r ∧ Below w.heap.size w w' := by
 unfold spec_DrawExplain.f at h
 obtain ⟨⟨a1, a2, a3⟩, hA, h⟩ := Option.bind_eq_some_iff.mp h
 obtain ⟨s, hS, h⟩ := Option.bind_eq_some_iff.mp h
 obtain ⟨⟨n1, n2, n3⟩, hN, h⟩ := Option.bind_eq_some_iff.mp h
 obtain ⟨⟨o1, o2, o3⟩, hO, h⟩ := Option.bind_eq_some_iff.mp h
 have HA := Aside0.mk hA
 have HS := Aside0.mk hS
 have HN := Aside0.mk hN
 have HO := Aside0.mk hO
 have HR0 := Aside0.mk hr0
 have HC0 := Aside0.mk hc0
 have HB0 := Aside0.mk (Below.refl w.heap.size w)
 clear hA hS hN hO hr0 hc0
 cases o1 with
 | true =>
  replace h := (if_pos rfl).symm.trans h
  obtain ⟨⟨m1, m2, m3⟩, hM, h⟩ := Option.bind_eq_some_iff.mp h
  obtain ⟨⟨d1, d2, d3⟩, hD, h⟩ := Option.bind_eq_some_iff.mp h
  obtain rfl := Option.some.inj h
  have HM := Aside0.mk hM
  have HD := Aside0.mk hD
  clear hM hD h
  go_enter Try.func50, Try.ntmps50
  go_wp2_with (first
   | (go_at_call 70; (with_reducible refine (spec_l01New.calls k A0 c0 l0 a1 a2 a3 w _ ?qa HR0.out HC0.out HA.out).mono ?_); (case qa => with_reducible repeat (first | exact HB0.out | apply below_alloc | apply pw_below_drewN | apply below_drew1)); rintro e w1 ⟨g, rfl, hi, hb, hb2⟩; have HI1 := Aside0.mk hi; have HB1 := Aside0.mk hb; clear hi hb hb2)
   | (go_at_call 72; (with_reducible refine (spec_l01Size.calls A0 c0 l0 6 s _ ?qa HC0.out HS.out).mono ?_); (case qa => repeat (first | exact (Kd.C_below HR0.out HB1.out) | (with_reducible refine Kd.C_alloc ?_ _) | (with_reducible refine Kd.C_drewN ?_ _) | (with_reducible refine Kd.C_drew ?_))); rintro e w' ⟨rfl, ⟨nd, rfl⟩⟩)
   | (go_at_call 71; (with_reducible refine (spec_l01Below.calls g a1 a2 a3 s n1 n2 n3 w _ ?qa ?qb HN.out).mono ?_); (case qa => with_reducible repeat (first | exact HI1.out | apply IsS105.alloc | apply IsS105.drewN | apply IsS105.drew)); (case qb => with_reducible repeat (first | exact HB1.out | apply below_alloc | apply pw_below_drewN | apply below_drew1)); rintro e w2 ⟨rfl, hi, hb, hk⟩; have HI2 := Aside0.mk hi; have HB2 := Aside0.mk hb; clear hi hb hk)
   | (go_at_call 73; (with_reducible refine (spec_l01Once.calls g a1 n2 n3 30 true o2 o3 w _ ?qa ?qb HO.out).mono ?_); (case qa => with_reducible repeat (first | exact HI2.out | apply IsS105.alloc | apply IsS105.drewN | apply IsS105.drew)); (case qb => with_reducible repeat (first | exact HB2.out | apply below_alloc | apply pw_below_drewN | apply below_drew1)); rintro e w3 ⟨rfl, hi, hb, hk⟩; have HI3 := Aside0.mk hi; have HB3 := Aside0.mk hb; clear hi hb hk)
   | (go_at_call 71; (with_reducible refine (spec_l01Below.calls g a1 o2 o3 2 m1 m2 m3 w _ ?qa ?qb HM.out).mono ?_); (case qa => with_reducible repeat (first | exact HI3.out | apply IsS105.alloc | apply IsS105.drewN | apply IsS105.drew)); (case qb => with_reducible repeat (first | exact HB3.out | apply below_alloc | apply pw_below_drewN | apply below_drew1)); rintro e w4 ⟨rfl, hi, hb, hk⟩; have HI4 := Aside0.mk hi; have HB4 := Aside0.mk hb; clear hi hb hk)
   | (go_at_call 74; (with_reducible refine (spec_l16DrawCalls.calls k g a1 m2 m3 (wrap64 (7 + m1)) d1 d2 d3 w _ ?qa ?qb HD.out).mono ?_); (case qa => with_reducible repeat (first | exact HI4.out | apply IsS105.alloc | apply IsS105.drewN | apply IsS105.drew)); (case qb => with_reducible repeat (first | exact HB4.out | apply below_alloc | apply pw_below_drewN | apply below_drew1)); rintro e w5 ⟨v0, rfl, ho, hi, hb, hk⟩; have HV := Aside0.mk (Kd.R_lower ho (below_size (by with_reducible repeat (first | exact HB4.out | apply below_alloc | apply pw_below_drewN | apply below_drew1)))); have HB5 := Aside0.mk hb; clear hi hb hk ho))
  go_ret2
  exact ⟨_, _, rfl, by (with_reducible repeat (first | apply Kd.R_alloc | apply Kd.R_drewN | apply Kd.R_drew)); exact HV.out, by with_reducible repeat (first | exact HB5.out | apply below_alloc | apply pw_below_drewN | apply below_drew1)⟩
 | false =>
  replace h := (if_neg (show ¬ (false = true) by decide)).symm.trans h
  obtain ⟨⟨d1, d2, d3⟩, hD, h⟩ := Option.bind_eq_some_iff.mp h
  obtain rfl := Option.some.inj h
  have HD := Aside0.mk hD
  clear hD h
  go_enter Try.func50, Try.ntmps50
  go_wp2_with (first
   | (go_at_call 70; (with_reducible refine (spec_l01New.calls k A0 c0 l0 a1 a2 a3 w _ ?qa HR0.out HC0.out HA.out).mono ?_); (case qa => with_reducible repeat (first | exact HB0.out | apply below_alloc | apply pw_below_drewN | apply below_drew1)); rintro e w1 ⟨g, rfl, hi, hb, hb2⟩; have HI1 := Aside0.mk hi; have HB1 := Aside0.mk hb; clear hi hb hb2)
   | (go_at_call 72; (with_reducible refine (spec_l01Size.calls A0 c0 l0 6 s _ ?qa HC0.out HS.out).mono ?_); (case qa => repeat (first | exact (Kd.C_below HR0.out HB1.out) | (with_reducible refine Kd.C_alloc ?_ _) | (with_reducible refine Kd.C_drewN ?_ _) | (with_reducible refine Kd.C_drew ?_))); rintro e w' ⟨rfl, ⟨nd, rfl⟩⟩)
   | (go_at_call 71; (with_reducible refine (spec_l01Below.calls g a1 a2 a3 s n1 n2 n3 w _ ?qa ?qb HN.out).mono ?_); (case qa => with_reducible repeat (first | exact HI1.out | apply IsS105.alloc | apply IsS105.drewN | apply IsS105.drew)); (case qb => with_reducible repeat (first | exact HB1.out | apply below_alloc | apply pw_below_drewN | apply below_drew1)); rintro e w2 ⟨rfl, hi, hb, hk⟩; have HI2 := Aside0.mk hi; have HB2 := Aside0.mk hb; clear hi hb hk)
   | (go_at_call 73; (with_reducible refine (spec_l01Once.calls g a1 n2 n3 30 false o2 o3 w _ ?qa ?qb HO.out).mono ?_); (case qa => with_reducible repeat (first | exact HI2.out | apply IsS105.alloc | apply IsS105.drewN | apply IsS105.drew)); (case qb => with_reducible repeat (first | exact HB2.out | apply below_alloc | apply pw_below_drewN | apply below_drew1)); rintro e w3 ⟨rfl, hi, hb, hk⟩; have HI3 := Aside0.mk hi; have HB3 := Aside0.mk hb; clear hi hb hk)
   | (go_at_call 74; (with_reducible refine (spec_l16DrawCalls.calls k g a1 o2 o3 n1 d1 d2 d3 w _ ?qa ?qb HD.out).mono ?_); (case qa => with_reducible repeat (first | exact HI3.out | apply IsS105.alloc | apply IsS105.drewN | apply IsS105.drew)); (case qb => with_reducible repeat (first | exact HB3.out | apply below_alloc | apply pw_below_drewN | apply below_drew1)); rintro e w5 ⟨v0, rfl, ho, hi, hb, hk⟩; have HV := Aside0.mk (Kd.R_lower ho (below_size (by with_reducible repeat (first | exact HB3.out | apply below_alloc | apply pw_below_drewN | apply below_drew1)))); have HB5 := Aside0.mk hb; clear hi hb hk ho))
  go_ret2
  exact ⟨_, _, rfl, by (with_reducible repeat (first | apply Kd.R_alloc | apply Kd.R_drewN | apply Kd.R_drew)); exact HV.out, by with_reducible repeat (first | exact HB5.out | apply below_alloc | apply pw_below_drewN | apply below_drew1)⟩

set_option maxHeartbeats 8000000 in
set_option maxRecDepth 100000 in
theorem spec_DrawExplain.calls (k : Nat) (A0 : Option Addr) (c0 : Nat) (l0 : List Int) (r : List S55) (w : World) (hr0 : Kd.C (Kd.int .u8) w A0 l0.length l0) (hc0 : l0.length ≤ c0) (h : spec_DrawExplain.f k l0 = some r) :
  Calls Try.prog 24 #[.slice A0 l0.length c0] w fun e w' => ∃ v0_ : Value, e = .returned v0_ ∧ Kd.R k55 55 w' w.heap.size (fun _ => True) v0_ r ∧ Below w.heap.size w w' := by
 have HR0 := Aside0.mk hr0
 have HC0 := Aside0.mk hc0
 have HF := Aside0.mk h
 clear hr0 hc0 h
 go_enter Try.func24, Try.ntmps24
 go_wp2_with (first
  | (go_at_call 50; (with_reducible refine (spec_l16Draw.calls k A0 c0 l0 r w HR0.out HC0.out HF.out).mono ?_); rintro e w1 ⟨p, v, rfl, hv, hb⟩; have HV := Aside0.mk hv; have HB := Aside0.mk hb; clear hv hb))
 go_ret
 exact ⟨_, rfl, by (with_reducible repeat (first | apply Kd.R_alloc | apply Kd.R_drewN | apply Kd.R_drew)); exact HV.out, by with_reducible repeat (first | exact HB.out | apply below_alloc | apply pw_below_drewN | apply below_drew1)⟩
end Go.Proofs.Ythhfkicmgneokaa.Q
