-- Printed by wip/tools/gen.py (a program of this session) that runs the kit's printer with given contracts.
import Derived.Test.YtfkgbklkjnhipaaGreatDoorPx0
import Derived.Test.YtfkgbklkjnhipaaGreatDoorPx11
namespace Go.Proofs.YtfkgbklkjnhipaaGreatDoor.P
open Go.RowKit Go.Proofs.YtfkgbklkjnhipaaGreatDoorW.PrintWords Go.Proofs.YtfkgbklkjnhipaaGreatDoorW.PrintLast Go.Proofs.YtfkgbklkjnhipaaGreatDoorW.PrintMore
attribute [local go_sem] max2_int min2_int max_two min_two max_three min_three max_four min_four   -- for this text's walks alone
attribute [local go_sem high] str_leq str_gtr str_geq
set_option linter.unusedVariables false
set_option linter.unusedSimpArgs false

/-! ### api_Label_191: function 191 -/
def api_Label_191.f : Nat → List (S67) → Int → Int → Int → Option ((List (S67))) := fun _ _ _ _ _ => none
theorem api_Label_191.mono : ∀ a0 a1 a2 a3 k, LeO (api_Label_191.f k a0 a1 a2 a3) (api_Label_191.f (k + 1) a0 a1 a2 a3) := by
  intros
  intro r h
  simp [api_Label_191.f] at h
theorem api_Label_191.calls (k : Nat) : ∀ (P0_ : Nat → Prop) (u9000_ : Value) (l0 : List (S67)) (a1 : Int) (a2 : Int) (a3 : Int)  (r : List (S67)) (w0 w : World) (hB : Below w0.heap.size w0 w) (ho0 : Kd.R k67 67 w w0.heap.size P0_ u9000_ l0) (h : api_Label_191.f k l0 a1 a2 a3 = some r),
    Calls Tryz.prog 191 #[u9000_, .int .i64 a1, .int .i64 a2, .int .i64 a3, .func (.func 146) #[] #[]] w fun e w' => e = .returned (.tuple #[]) ∧ Kd.R k67 67 w' w0.heap.size (fun k_ => (P0_ k_ ∨ w.heap.size ≤ k_)) u9000_ r ∧ Below w0.heap.size w0 w' ∧ Kept w w' (fun k_ => P0_ k_) := by
  intros; rename_i h
  simp [api_Label_191.f] at h

end Go.Proofs.YtfkgbklkjnhipaaGreatDoor.P
