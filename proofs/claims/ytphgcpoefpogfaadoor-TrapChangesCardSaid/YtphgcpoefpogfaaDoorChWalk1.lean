import Derived.Test.YtphgcpoefpogfaaDoorProg
import Derived.Test.YtphgcpoefpogfaaDoorChPure
import Derived.WalkKit
import Derived.BigCall
import Derived.Lib.OthersKept
import Derived.Lib.Hide
import Derived.Laws.RangeAny
namespace Go.Proofs.YtphgcpoefpogfaaDoor.Ch
open Go.RowKit

/-! The classes of characters at runes. -/
def letI' (n : Int) : Bool := (decide (97 ≤ n) && decide (n ≤ 122)) || (decide (65 ≤ n) && decide (n ≤ 90))
def digI (n : Int) : Bool := decide (48 ≤ n) && decide (n ≤ 57)
def harmI (n : Int) : Bool := n == 95 || n == 45 || n == 46 || n == 47 || n == 44 || n == 58 || n == 43 || n == 37 || n == 64 || n == 94

theorem isDigit_any (n : Int) (w : World) : Calls Tryd.prog 54 #[.int .i32 n] w fun e w' => e = .returned (.bool (digI n)) ∧ w' = w := by
  by_cases h1 : 48 ≤ n <;> by_cases h2 : n ≤ 57
  all_goals
    have HS := Lib.hid (show digI n = (decide (48 ≤ n) && decide (n ≤ 57)) from rfl)
    go_enter Tryd.func54, Tryd.ntmps54
    go_wp2
    go_ret
    exact ⟨by rw [HS.out]; simp [h1, h2], rfl⟩

theorem isLetter_any (n : Int) (w : World) : Calls Tryd.prog 53 #[.int .i32 n] w fun e w' => e = .returned (.bool (letI' n)) ∧ w' = w := by
  by_cases h1 : 97 ≤ n <;> by_cases h2 : n ≤ 122 <;> by_cases h3 : 65 ≤ n <;> by_cases h4 : n ≤ 90
  all_goals first
    | omega
    | (have HS := Lib.hid (show letI' n = ((decide (97 ≤ n) && decide (n ≤ 122)) || (decide (65 ≤ n) && decide (n ≤ 90))) from rfl)
       go_enter Tryd.func53, Tryd.ntmps53
       go_wp2
       go_ret
       exact ⟨by rw [HS.out]; simp [h1, h2, h3, h4], rfl⟩)

theorem harmless_any (n : Int) (w : World) : Calls Tryd.prog 55 #[.int .i32 n] w fun e w' => e = .returned (.bool (harmI n)) ∧ w' = w := by
  have HS := Lib.hid (show harmI n = (n == 95 || n == 45 || n == 46 || n == 47 || n == 44 || n == 58 || n == 43 || n == 37 || n == 64 || n == 94) from rfl)
  go_enter Tryd.func55, Tryd.ntmps55
  go_wp2
  all_goals go_ret
  all_goals exact ⟨by rw [HS.out]; simp [*], rfl⟩
end Go.Proofs.YtphgcpoefpogfaaDoor.Ch
