/- Contracts of leaves, in the printer's form: strings.Join. -/
import Derived.Test.YtfkgbklkjnhipaaGreatDoorPx0
import Derived.Test.YtfkgbklkjnhipaaGreatDoorShelfB
import Derived.Lib.Hide
namespace Go.Proofs.YtfkgbklkjnhipaaGreatDoor.P
open Go.RowKit Go.Proofs.YtfkgbklkjnhipaaGreatDoorW.PrintWords Go.Proofs.YtfkgbklkjnhipaaGreatDoorW.PrintLast Go.Proofs.YtfkgbklkjnhipaaGreatDoorW.PrintMore
set_option linter.unusedVariables false
set_option linter.unusedSimpArgs false
def joinB (xs : List ByteArray) (sep : ByteArray) : ByteArray := ⟨(Lib.join (xs.map (·.data.toList)) sep.data.toList).toArray⟩
def strings_Join.f (l0 : List ByteArray) (a1 : ByteArray) : Option ByteArray := if l0.length ≤ 140737488355328 ∧ (joinB l0 a1).size ≤ 140737488355328 then some (joinB l0 a1) else none
theorem strings_Join.calls (A0 : Option Addr) (c0 : Nat) (l0 : List ByteArray) (a1 : ByteArray) (r : ByteArray) (w : World) (hr0 : Kd.C Kd.string w A0 l0.length l0) (hc0 : l0.length ≤ c0) (h : strings_Join.f l0 a1 = some r) :
    Calls Tryz.prog 81 #[.slice A0 l0.length c0, .string a1] w fun e w' => e = .returned (.string r) ∧ Below w.heap.size w w' := by
  have hc : l0.length ≤ 140737488355328 ∧ (joinB l0 a1).size ≤ 140737488355328 := by
    apply Classical.byContradiction
    intro hne
    simp [strings_Join.f, hne] at h
  obtain rfl : joinB l0 a1 = r := by simpa [strings_Join.f, hc] using h
  clear h
  cases l0 with
  | nil => exact (Tryz.strings_Join_none A0 c0 a1 w).mono fun e w' ⟨h1, h2⟩ => ⟨h1, h2 ▸ Below.refl _ _⟩
  | cons x l =>
    obtain ⟨ad, rfl, h0⟩ := Kd.at_string hr0 0 (by omega) (by simp)
    obtain ⟨b, o, sp⟩ := ad
    obtain rfl : sp = none := by
      cases sp with
      | none => rfl
      | some q => simp [World.cell?, Addr.add] at h0; split at h0 <;> simp_all
    have hb : b < w.heap.size := World.block_lt_of_cell? w ⟨b, o, none⟩ (by simpa [Addr.add] using h0)
    refine (Tryz.strings_Join b o c0 (x :: l) a1 w ?_ hb hc.1 hc0 ?_).mono fun e w' ⟨h1, h2⟩ => ⟨h1, h2⟩
    · intro j y hj
      have hlt : j < (x :: l).length := (List.getElem?_eq_some_iff.1 hj).1
      obtain ⟨ad', e, h1⟩ := Kd.at_string hr0 (j : Int) (by omega) (by omega)
      obtain rfl := Option.some.inj e
      have hv : rdOf ByteArray.empty (x :: l) (j : Int) = y := by
        simp [rdOf, hj]
      rw [hv] at h1
      have ha : (⟨b, o, none⟩ : Addr).add (j : Int).toNat = ⟨b, o + j, none⟩ := by unfold Addr.add; split <;> simp_all
      rw [ha] at h1
      exact h1
    · have := hc.2
      simpa [joinB, ByteArray.size] using this
end Go.Proofs.YtfkgbklkjnhipaaGreatDoor.P
