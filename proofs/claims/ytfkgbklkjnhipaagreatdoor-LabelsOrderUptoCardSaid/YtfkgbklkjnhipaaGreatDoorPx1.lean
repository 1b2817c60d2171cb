-- Printed by wip/tools/gen.py (a program of this session) that runs the kit's printer with given contracts.
import Derived.Test.YtfkgbklkjnhipaaGreatDoorPx0
namespace Go.Proofs.YtfkgbklkjnhipaaGreatDoor.P
open Go.RowKit Go.Proofs.YtfkgbklkjnhipaaGreatDoorW.PrintWords Go.Proofs.YtfkgbklkjnhipaaGreatDoorW.PrintLast Go.Proofs.YtfkgbklkjnhipaaGreatDoorW.PrintMore
attribute [local go_sem] max2_int min2_int max_two min_two max_three min_three max_four min_four   -- for this text's walks alone
attribute [local go_sem high] str_leq str_gtr str_geq
set_option linter.unusedVariables false
set_option linter.unusedSimpArgs false

theorem eqA67 (d : Nat) (w : World) (x0 y0 : ByteArray) (x1 y1 : ByteArray) :
    (Op.equalIn (d + 2) 67 (.agg #[.string x0, .string x1]) (.agg #[.string y0, .string y1])).run Tryz.prog w = .ok (x0.toList == y0.toList && (x1.toList == y1.toList)) w := by
  refine eqA_of Tryz.underlying67 (by kernel_rfl) ?_
  refine eqf_cons (by rfl) (by go_simp; rfl) (by go_simp; rfl) (by go_simp) ?_
  exact eqf_last (by rfl) (by go_simp; rfl) (by go_simp; rfl) (by go_simp)
end Go.Proofs.YtfkgbklkjnhipaaGreatDoor.P
