/- Arguments by their types: words. -/
import Derived.Test.YtjkchmegnfbfoaaGreatDoorTie
import Derived.Test.YtjkchmegnfbfoaaGreatDoorQ04
namespace Go.Proofs.YtjkchmegnfbfoaaGreatDoor
open Go Go.ChangeShapes Go.WideShapes Go.RowKit
set_option linter.unusedSimpArgs false
set_option linter.unusedVariables false
set_option maxRecDepth 100000

theorem i64_arg {W : World} {b : Nat} {v : Value} (h : Value.okWide Tryz.prog W .any b 2 v) : ∃ z : Int, -9223372036854775808 ≤ z ∧ z ≤ 9223372036854775807 ∧ v = .int .i64 z := by
  simp only [Value.okWide, Tryz.underlying2] at h
  exact cell_i64 h
end Go.Proofs.YtjkchmegnfbfoaaGreatDoor
