/- The statements on the table's chances (chapter 6): what each comes to when it is called. -/
import Derived.Test.YtiokfaiioealdaaGreatDoorWNum
namespace Go.Proofs.YtiokfaiioealdaaGreatDoor
open Go.RowKit Go.Proofs.YtiokfaiioealdaaGreatDoor.L
set_option linter.unusedVariables false
set_option linter.unusedSimpArgs false

theorem knot_at : ∀ n : Nat, n < 31 → ((tab.drop 1).take 31).getD n 0 = tab.getD (n + 1) 0 := by decide
theorem num_any (e : Int) (w : World) : Calls Tryz.prog 18 #[.int .i64 e] w fun e' w' => e' = .returned (.int .i64 e) ∧ w = w' := by
  go_enter Tryz.func18, Tryz.ntmps18
  go_wp2
  go_ret
  exact ⟨rfl, rfl⟩

theorem sq_0 : sq 0 = 2047 := by decide +kernel
theorem sq_up : sq 2048 = 4095 := by decide +kernel
theorem sq_down : sq (-2048) = 0 := by decide +kernel
theorem sq_least : sq (-2047) = 1 := by decide +kernel
theorem st_mid : st 2047 = 0 := by decide +kernel
theorem ok_mid : stOk 2047 = true := by decide +kernel
theorem ok_over : stOk 4096 = false := by decide +kernel

end Go.Proofs.YtiokfaiioealdaaGreatDoor
