-- Written by a program of this session (qrow.py): Lean checks every line.
import Derived.Test.YtjnpmcgefkiocaaDoorQx0
import Derived.Deep.Slices
import Derived.Deep.Fields
import Derived.Deep.Matrix
import Derived.ChangeSame
import Derived.ProofKit
import Derived.OpenShut
import Derived.SizedLaws
namespace Go.Proofs.YtjnpmcgefkiocaaDoor.Q
open Go.RowKit Go.ChangeShapes Go.WideShapes Go.Deep Go.Proofs.YtjnpmcgefkiocaaDoorW.PrintWords Go.Proofs.YtjnpmcgefkiocaaDoorW.PrintLast
set_option linter.unusedVariables false
/-! ### from what an argument reads as to Kd.K: generic -/
/-- Whatever reads at type t is, cell for cell, a value of kind d. -/
def Opens {α : Type} (P : Program) (t : TypeId) (d : Kd α) (wf : α → Prop) : Prop :=
  ∀ (H : Type) (enc : TypeId × Value → H) (w : World) (base : Nat) (held : Bool) (n : Nat) (cs : List Value) (y : DataW H × List MemPlace),
    DataW.trod enc P w base (fun _ => true) held n t cs = some y → ∃ x, d.K w x cs ∧ wf x
theorem opens_int {P : Program} {t : TypeId} {k : IntKind} (ht : P.underlying t = some (.int k)) : Opens P t (Kd.int k) (fun x => (Lit.int k x).wf = true) := by
  intro H enc w base held n cs y h
  obtain ⟨z, rfl, _, hz⟩ := DataW.trod_int ht h
  exact ⟨z, rfl, hz⟩
theorem opens_bool {P : Program} {t : TypeId} (ht : P.underlying t = some .bool) : Opens P t Kd.bool (fun _ => True) := by
  intro H enc w base held n cs y h
  obtain ⟨z, rfl, _⟩ := DataW.trod_bool ht h
  exact ⟨z, rfl, trivial⟩
theorem opens_slice {α : Type} {P : Program} {t e : TypeId} {d : Kd α} {wf : α → Prop} (ht : P.underlying t = some (.slice e)) (hs : P.cellsOf e = d.sz) (ho : Opens P e d wf) (z : α) : Opens P t (Kd.slice e d) (fun xs => ∀ x ∈ xs, wf x) := by
  intro H enc w base held n cs y h
  rcases open_slice ht h with ⟨rfl, _⟩ | ⟨a, len, cap, m, n', D, Pl, rfl, _, hl, hm, hmm, _, hi⟩
  · exact ⟨[], ⟨none, 0, rfl, Nat.le_refl _, Kd.C_nil _ _⟩, fun x hx => by cases hx⟩
  · simp only [if_true] at hmm
    subst hmm
    have each : ∀ i, i < len → ∃ x : α, wf x ∧ ∃ c, d.K w x c ∧ ∀ j u, c[j]? = some u → w.cell? (a.add (i * d.sz + j)) = some u := by
      intro i hil
      obtain ⟨cs', hc, ht'⟩ := hi i (by omega)
      obtain ⟨x, hK, hw⟩ := ho H enc w base held n' cs' _ ht'
      obtain ⟨_, hcl, hat⟩ := World.cells?_some hc
      refine ⟨x, hw, cs', hK, fun j u hu => ?_⟩
      have hj : j < cs'.length := (List.getElem?_eq_some_iff.1 hu).1
      have h1 := hat j (by omega)
      rw [hs, Go.Deep.add_add] at h1
      exact h1.trans hu
    have each' : ∀ i, i < len → ∃ x : Option α, ∃ x', x = some x' ∧ wf x' ∧ ∃ c, d.K w x' c ∧ ∀ j u, c[j]? = some u → w.cell? (a.add (i * d.sz + j)) = some u := fun i hil => by
      obtain ⟨x, hx⟩ := each i hil
      exact ⟨some x, x, rfl, hx⟩
    obtain ⟨g0, hg0⟩ := choose_lt each'
    have hg : ∀ i, i < len → wf ((g0 i).getD z) ∧ ∃ c, d.K w ((g0 i).getD z) c ∧ ∀ j u, c[j]? = some u → w.cell? (a.add (i * d.sz + j)) = some u := by
      intro i hil
      obtain ⟨x', hx, hh⟩ := hg0 i hil
      rw [hx]
      exact hh
    have hlen : ((List.range len).map fun i => (g0 i).getD z).length = len := by simp
    refine ⟨(List.range len).map fun i => (g0 i).getD z, ⟨some a, m, by rw [hlen], by rw [hlen]; exact hl, ⟨rfl, by rw [hlen]; unfold maxLen at hm; omega, fun hn => ⟨a, rfl, fun j p hj => ?_⟩⟩⟩, fun x hx => ?_⟩
    · have hjl : j < len := by have := (List.getElem?_eq_some_iff.1 hj).1; rw [hlen] at this; exact this
      rw [List.getElem?_map, List.getElem?_range hjl] at hj
      obtain rfl := Option.some.inj hj
      obtain ⟨_, c, hK, hc⟩ := hg j hjl
      exact ⟨c, d.K_len hK, hK, hc⟩
    · obtain ⟨j, hj, rfl⟩ := List.mem_map.1 hx
      exact (hg j (List.mem_range.1 hj)).1
/-- One field of a struct's cells. -/
theorem opens_field {α : Type} {H : Type} {enc : TypeId × Value → H} {P : Program} {w : World} {base : Nat} {held : Bool} {n : Nat} {cs : List Value} {xs : List (DataW H × List MemPlace)} {fs : Array Field} {d : Kd α} {wf : α → Prop} (hl : xs.length = fs.size)
    (hf : ∀ (i : Nat) (f : Field), fs[i]? = some f → DataW.trod enc P w base (fun _ => true) held n f.type ((cs.drop f.offset).take (P.cellsOf f.type)) = xs[i]?) (j : Nat) (f : Field) (hj : fs[j]? = some f) (ho : Opens P f.type d wf) (off sz : Nat) (hoff : f.offset = off) (hsz : P.cellsOf f.type = sz) :
    ∃ x, d.K w x ((cs.drop off).take sz) ∧ wf x := by
  have hjl : j < xs.length := by have := (Array.getElem?_eq_some_iff.1 hj).1; omega
  have h := hf j f hj
  rw [List.getElem?_eq_getElem hjl, hoff, hsz] at h
  exact ho H enc w base held n _ _ h
/-- A slice that came in. -/
theorem opened_slice {α H : Type} {enc : TypeId × Value → H} {P : Program} {w : World} {base : Nat} {held : Bool} {t e : TypeId} {d : Kd α} {wf : List α → Prop} {a : Option Addr} {len cap : Nat} {y : DataW H} {ps : List MemPlace} (ho : Opens P t (Kd.slice e d) wf)
    (h : DataW.Trod enc P w base (fun _ => true) held t (.slice a len cap) y ps) : ∃ l : List α, l.length = len ∧ d.C w a l.length l ∧ l.length ≤ cap ∧ wf l := by
  obtain ⟨fuel, hf⟩ := h
  obtain ⟨l, ⟨A, c, hcs, hc, hC⟩, hw⟩ := ho H enc w base held fuel _ _ hf
  simp [Value.cells] at hcs
  obtain ⟨rfl, rfl, rfl⟩ := hcs
  exact ⟨l, rfl, hC, hc, hw⟩
theorem part_cells (cs : List Value) (o s n : Nat) (h : o + s = n) : cs.drop o = (cs.drop o).take s ++ cs.drop n := by
  subst h
  rw [← List.drop_drop, List.take_append_drop]

def wfT81 (x : S81) : Prop := (fun x : Int => (Lit.int .i64 x).wf = true) x.f0 ∧ (fun x : Int => (Lit.int .i64 x).wf = true) x.f1 ∧ (fun x : Int => (Lit.int .i64 x).wf = true) x.f2 ∧ (fun x : Int => (Lit.int .i64 x).wf = true) x.f3
set_option maxRecDepth 100000 in
theorem opens_T81 : Opens Tryd.prog 81 k81 wfT81 := by
  intro H enc w base held n cs y h
  obtain ⟨xs, n', _, _, hcl, hl, hf⟩ := DataW.trod_struct Tryd.underlying81 h
  have hsz : cs.length = 4 := hcl.trans (by kernel_rfl)
  obtain ⟨x0, K0, W0⟩ := opens_field (n := n') hl hf 0 _ rfl (opens_int Tryd.underlying3) 0 1 rfl (by kernel_rfl)
  obtain ⟨x1, K1, W1⟩ := opens_field (n := n') hl hf 1 _ rfl (opens_int Tryd.underlying3) 1 1 rfl (by kernel_rfl)
  obtain ⟨x2, K2, W2⟩ := opens_field (n := n') hl hf 2 _ rfl (opens_int Tryd.underlying3) 2 1 rfl (by kernel_rfl)
  obtain ⟨x3, K3, W3⟩ := opens_field (n := n') hl hf 3 _ rfl (opens_int Tryd.underlying3) 3 1 rfl (by kernel_rfl)
  refine ⟨⟨x0, x1, x2, x3⟩, ?_, ⟨W0, W1, W2, W3⟩⟩
  have e0 : cs = cs.drop 0 := rfl
  rw [e0]
  exact ⟨(cs.drop 0).take 1, cs.drop 1, part_cells cs 0 1 1 rfl, K0, ⟨(cs.drop 1).take 1, cs.drop 2, part_cells cs 1 1 2 rfl, K1, ⟨(cs.drop 2).take 1, cs.drop 3, part_cells cs 2 1 3 rfl, K2, (by rw [← List.take_of_length_le (l := cs.drop 3) (i := 1) (by simp; omega)]; exact K3)⟩⟩⟩
end Go.Proofs.YtjnpmcgefkiocaaDoor.Q
