/- The statements on the mix of three (chapter 8): what each comes to when it is called. -/
import Derived.Test.YtiokfaiioealdaaGreatDoorWMixR
import Derived.Test.YtiokfaiioealdaaGreatDoorLStr
import Derived.Test.YtiokfaiioealdaaGreatDoorLibEq
import Derived.Test.YtiokfaiioealdaaGreatDoorProg
namespace Go.Proofs.YtiokfaiioealdaaGreatDoor
open Go.RowKit Go.Proofs.YtiokfaiioealdaaGreatDoor.L
set_option linter.unusedVariables false
set_option linter.unusedSimpArgs false

theorem size_int (w : World) : (sizeOf 3).run Tryz.prog w = .ok 1 w := by kernel_rfl
theorem eql3 (a b c x y z : Int) (w : World) : (binOp .eql 61 (.agg #[.int .i64 a, .int .i64 b, .int .i64 c]) (.agg #[.int .i64 x, .int .i64 y, .int .i64 z])).run Tryz.prog w = .ok (.bool ([a, b, c] == [x, y, z])) w :=
  run_eql_ints w 61 3 3 Tryz.underlying61 Tryz.underlying3 size_int [a, b, c] [x, y, z] rfl rfl
attribute [go_sem ↓] eql3
theorem num2_is (ok : Bool) (v e : Int) : ∃ a b, num2 ok v e = .tuple #[.int .i64 a, .int .i64 b] := ⟨_, _, rfl⟩
theorem tr3_is (ok : Bool) (a b c : Int) : ∃ x y z e, tr3 ok a b c = .tuple #[.agg #[.int .i64 x, .int .i64 y, .int .i64 z], .int .i64 e] := ⟨_, _, _, _, rfl⟩
theorem num2_no (v e : Int) : num2 false v e = .tuple #[.int .i64 0, .int .i64 e] := rfl
theorem tr3_no (a b c : Int) : tr3 false a b c = .tuple #[.agg #[.int .i64 0, .int .i64 0, .int .i64 0], .int .i64 800] := rfl
end Go.Proofs.YtiokfaiioealdaaGreatDoor
