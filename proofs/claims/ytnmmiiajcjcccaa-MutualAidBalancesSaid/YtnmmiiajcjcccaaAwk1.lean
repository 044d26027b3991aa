import Derived.Test.YtnmmiiajcjcccaaRAsk3
import Derived.Test.YtnmmiiajcjcccaaRun1
import Derived.Test.YtnmmiiajcjcccaaAid12
namespace Go.Proofs.Ytnmmiiajcjcccaa
set_option linter.unusedVariables false
open Go.RowKit Go.Own Go.Quo Go.Aid
/-! ### The values that the chapter fixes -/
def awF : List Int := [5, 0, 1]
def awW : List Int := [1, 2, 3]
def awL : List (Int × Int) := [(0, 1), (0, 2), (0, 1), (0, 2)]
theorem aw_plan : planF (tot (shoF (leftF awF awW))) (surF (leftF awF awW)) (shoF (leftF awF awW)) = awL := by decide
theorem aw_fair : FairP awF.length (leftF awF awW) awL := by
  have := plan_fair (n := awF.length) (L := leftF awF awW) _ _ _ [] (GSt.start rfl) (Nat.le_refl (tot (shoF (leftF awF awW))))
  rwa [List.nil_append, aw_plan] at this
theorem aw_unfair : ¬ FairP awF.length (leftF awF awW) (awL.take 3) := fun h => by
  rcases h.stop with h1 | h1
  · exact absurd (h1 0 (by decide)) (by decide)
  · exact absurd (h1 2 (by decide)) (by decide)
def awS1 : LSt := ⟨3, [⟨0, 1, 7⟩], [⟨0, 1, 7⟩]⟩
theorem aw_lend1 : lendF ⟨3, [], []⟩ ⟨0, 1, 7⟩ = (awS1, 0) := by rfl
theorem aw_lend2 : lendF awS1 ⟨2, 1, 7⟩ = (awS1, 5) := by rfl
theorem aw_debts : debts awS1.n awS1.all = [1, -1, 0] := by rfl
theorem aw_ask : (askS [1, -1, 0] 2 [3, 1, 9]).map Int.ofNat = [1, 0] := by
  have := refN_eq [1, -1, 0] 2 [3, 1, 9]
  rw [← this]; decide
theorem aw_back1 : backF awS1 7 = (⟨3, [], [⟨0, 1, 7⟩]⟩, 0) := by rfl
theorem aw_back2 : backF ⟨3, [], [⟨0, 1, 7⟩]⟩ 7 = (⟨3, [], [⟨0, 1, 7⟩]⟩, 4) := by rfl
end Go.Proofs.Ytnmmiiajcjcccaa
