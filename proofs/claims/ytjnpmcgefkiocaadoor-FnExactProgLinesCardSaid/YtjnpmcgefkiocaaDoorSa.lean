/- By hand: strconv.Itoa and strings.Join (contracts of the shelf) in the form that the printed texts ask for; the laid table stays. -/
import Derived.Test.YtjnpmcgefkiocaaDoorQx0
import Derived.Test.YtjnpmcgefkiocaaDoorShelf
import Derived.Lib.SmallJoins
import Derived.Lib.AppendIntMem
namespace Go.Proofs.YtjnpmcgefkiocaaDoor.Q
open Go.RowKit Go.Proofs.YtjnpmcgefkiocaaDoorW.PrintWords Go.Proofs.YtjnpmcgefkiocaaDoorW.PrintLast Go.Proofs.YtjnpmcgefkiocaaDoorW.PrintMore
set_option linter.unusedVariables false
set_option linter.unusedSimpArgs false

/- The table of powers of ten that strconv reads is as the program's text lays it. -/
def TabW (w : World) : Prop := Go.Lib.TabIs Tryd.prog w "internal/strconv.uint64pow10" .u64 Go.Lib.pow10Tab
theorem tab_of {w W : World} (h : TabW w) (hb : Below w.heap.size w W) : TabW W := by
  cases hg : Tryd.prog.globalNamed "internal/strconv.uint64pow10" with
  | none =>
    unfold TabW Go.Lib.TabIs World.var? at h
    rw [hg] at h
    cases h
  | some g => exact Go.Joins.tab_stays hg h hb (Nat.le_refl _)

def strconv_Itoa.f (a0 : Int) : Option ByteArray := if -9223372036854775808 ≤ a0 ∧ a0 ≤ 9223372036854775807 then some ⟨(Go.Lib.itoa a0).toArray⟩ else none
theorem strconv_Itoa.calls (a0 : Int) (r : ByteArray) (w : World) (h : strconv_Itoa.f a0 = some r) (htab : TabW w := by exact tab_of HT.out (by with_reducible repeat (first | exact HB.out | apply below_alloc | apply pw_below_drewN | apply below_drew1))) :
    Calls Tryd.prog 25 #[.int .i64 a0] w fun e w' => e = .returned (.string r) ∧ Below w.heap.size w w' := by
  unfold strconv_Itoa.f at h
  by_cases c : -9223372036854775808 ≤ a0 ∧ a0 ≤ 9223372036854775807
  · rw [if_pos c] at h
    obtain rfl := Option.some.inj h
    refine (Tryd.strconv_Itoa a0 c.1 c.2 w htab).mono ?_
    rintro e w' ⟨rfl, k, os, rfl⟩
    exact ⟨rfl, Go.Lib.below_grow _ _ (Nat.le_refl _) k os⟩
  · rw [if_neg c] at h; cases h

def joinB (l : List ByteArray) (sep : ByteArray) : List UInt8 := Go.Lib.join (l.map (·.data.toList)) sep.data.toList
def strings_Join.f (l0 : List ByteArray) (a1 : ByteArray) : Option ByteArray := if l0.length ≤ 140737488355328 ∧ (joinB l0 a1).length ≤ 140737488355328 then some ⟨(joinB l0 a1).toArray⟩ else none
theorem strings_Join.calls (A0 : Option Addr) (c0 : Nat) (l0 : List ByteArray) (a1 : ByteArray) (r : ByteArray) (w : World) (hr0 : Kd.C Kd.string w A0 l0.length l0) (hc0 : l0.length ≤ c0) (h : strings_Join.f l0 a1 = some r) :
    Calls Tryd.prog 28 #[.slice A0 l0.length c0, .string a1] w fun e w' => e = .returned (.string r) ∧ Below w.heap.size w w' := by
  unfold strings_Join.f at h
  by_cases c : l0.length ≤ 140737488355328 ∧ (joinB l0 a1).length ≤ 140737488355328
  · rw [if_pos c] at h
    obtain rfl := Option.some.inj h
    by_cases c0 : l0 = []
    · subst c0
      refine (Tryd.strings_Join_none A0 _ a1 w).mono ?_
      rintro e w' ⟨rfl, rfl⟩
      exact ⟨rfl, Below.refl _ _⟩
    have hp : 0 < l0.length := List.length_pos_iff.mpr c0
    obtain ⟨ad, rfl, h0⟩ := Kd.at_string hr0 0 (Int.le_refl 0) (by omega)
    obtain ⟨bk, o, s⟩ := ad
    have hs : s = none := by
      cases s with
      | none => rfl
      | some k =>
        exfalso
        have e : (Addr.mk bk o (some k)).add (0 : Int).toNat = ⟨bk, o, some k⟩ := rfl
        rw [e] at h0
        unfold World.cell? at h0
        cases hk : w.heap[bk]? with
        | none => rw [hk] at h0; cases h0
        | some ob => rw [hk] at h0; cases ob <;> simp at h0
    subst hs
    have hbk : bk < w.heap.size := by
      have := World.block_lt_of_cell? w _ h0
      simpa [Addr.add] using this
    refine (Tryd.strings_Join bk o _ l0 a1 w (fun j x hj => ?_) hbk c.1 hc0 c.2).mono ?_
    · obtain ⟨hjl, hjx⟩ := List.getElem?_eq_some_iff.mp hj
      obtain ⟨ad2, e2, hc⟩ := Kd.at_string hr0 (j : Int) (by omega) (by omega)
      obtain rfl := Option.some.inj e2
      rw [Int.toNat_natCast] at hc
      have ea : (Addr.mk bk o none).add j = ⟨bk, o + j, none⟩ := by
        unfold Addr.add
        by_cases hj0 : j = 0
        · subst hj0; rw [if_pos rfl]; rfl
        · rw [if_neg hj0]
      rw [ea] at hc
      rw [hc]
      unfold rdOf
      rw [Int.toNat_natCast, List.getD_eq_getElem?_getD, hj]
      rfl
    · rintro e w' ⟨rfl, hb⟩
      exact ⟨rfl, hb⟩
  · rw [if_neg c] at h; cases h
end Go.Proofs.YtjnpmcgefkiocaaDoor.Q
