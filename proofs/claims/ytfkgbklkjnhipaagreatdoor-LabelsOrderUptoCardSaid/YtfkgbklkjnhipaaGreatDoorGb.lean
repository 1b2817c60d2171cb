/- Contracts of two functions of Go's library, in the printer's form: strings.Compare, unicode/utf8.ValidString (by the shelf's own). -/
import Derived.Test.YtfkgbklkjnhipaaGreatDoorPx0
import Derived.Test.YtfkgbklkjnhipaaGreatDoorShelf
import Derived.Laws.Strings
namespace Go.Proofs.YtfkgbklkjnhipaaGreatDoor.P
open Go.RowKit Go.Proofs.YtfkgbklkjnhipaaGreatDoorW.PrintWords Go.Proofs.YtfkgbklkjnhipaaGreatDoorW.PrintLast Go.Proofs.YtfkgbklkjnhipaaGreatDoorW.PrintMore
set_option linter.unusedVariables false
set_option linter.unusedSimpArgs false

/-- utf8's two tables hold what start-up lays. -/
def Tabs (w : World) : Prop := Lib.Utf8Tabs (Tryz.laysValid_ren.g 3) (Tryz.laysValid_ren.g 4) w
theorem Tabs_below {w w1 : World} (h : Tabs w) (hb : Below w.heap.size w w1) : Tabs w1 := Utf8Tabs_below h hb

def sideB (a b : ByteArray) : Int := if Op.bytesLess a.toList b.toList = true then -1 else if Op.bytesLess b.toList a.toList = true then 1 else 0
def strings_Compare.f (a0 a1 : ByteArray) : Option Int := some (sideB a0 a1)
theorem compareBytes_side : ∀ (a b : List UInt8), Lib.compareBytes a b = if Op.bytesLess a b = true then -1 else if Op.bytesLess b a = true then 1 else 0
  | [], [] => by simp [Lib.compareBytes, Op.bytesLess]
  | [], b :: y => by simp [Lib.compareBytes, Op.bytesLess]
  | a :: x, [] => by simp [Lib.compareBytes, Op.bytesLess]
  | a :: x, b :: y => by
    have ih := compareBytes_side x y
    simp only [Lib.compareBytes, Op.bytesLess]
    by_cases h1 : a < b
    · simp [h1]
    · by_cases h2 : b < a
      · have hne : ¬ a = b := fun e => by subst e; exact h1 h2
        simp [h1, h2, hne]
      · have he : a = b := by
          have q1 : ¬ a.toNat < b.toNat := fun h => h1 (UInt8.lt_iff_toNat_lt.2 h)
          have q2 : ¬ b.toNat < a.toNat := fun h => h2 (UInt8.lt_iff_toNat_lt.2 h)
          apply UInt8.toNat_inj.1
          omega
        subst he
        simp [h1, ih]
theorem strings_Compare.calls (a0 a1 : ByteArray) (r : Int) (w : World) (h : strings_Compare.f a0 a1 = some r) :
    Calls Tryz.prog 100 #[.string a0, .string a1] w fun e w' => e = .returned (.int .i64 r) ∧ Drawn0 w w' := by
  refine (Tryz.strings_Compare a0 a1 w).mono ?_
  rintro e w' ⟨rfl, rfl⟩
  have hr : sideB a0 a1 = r := Option.some.inj h
  refine ⟨?_, Drawn0.refl _⟩
  rw [compareBytes_side, ← hr, sideB, Go.ByteArray.toList_eq, Go.ByteArray.toList_eq]

def utf8_ValidString.f (a0 : ByteArray) : Option Bool := if a0.size ≤ 9223372036854775807 then some (Lib.validD a0.data.toList) else none
theorem utf8_ValidString.calls (a0 : ByteArray) (r : Bool) (w : World) (h : utf8_ValidString.f a0 = some r) (hT : Tabs w) :
    Calls Tryz.prog 131 #[.string a0] w fun e w' => e = .returned (.bool r) ∧ Below w.heap.size w w' := by
  have hs : a0.size ≤ 9223372036854775807 := by
    apply Classical.byContradiction
    intro hn
    simp [utf8_ValidString.f, hn] at h
  have hr : Lib.validD a0.data.toList = r := by simpa [utf8_ValidString.f, hs] using h
  have := Any.utf8_ValidString Tryz.laysValid a0 w hs hT
  rw [hr] at this
  exact this
end Go.Proofs.YtfkgbklkjnhipaaGreatDoor.P
