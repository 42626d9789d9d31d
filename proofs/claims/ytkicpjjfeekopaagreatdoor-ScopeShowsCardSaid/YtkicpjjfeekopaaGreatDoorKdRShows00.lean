/- The law ScopeShows, of any string. -/
import Derived.Test.YtkicpjjfeekopaaGreatDoorKe00
set_option linter.unusedVariables false
set_option linter.unusedSimpArgs false
set_option linter.unusedSectionVars false
namespace Go.Proofs.YtkicpjjfeekopaaGreatDoor
open Go.RowKit Go.Maps
theorem shows_any (s : ByteArray) (w : World) (hG : Glob w) : Calls Tryz.prog 4 #[.string s] w fun e w' => e = .returned (.bool true) ∧ Fr (fun _ => False) w w' := by
  by_cases h : 2000 < s.size
  · exact shows_long s w hG h
  · have e : s = ⟨s.data.toList.toArray⟩ := by cases s; rfl
    have := shows_short s.data.toList w hG (by have : s.data.toList.length = s.size := Array.length_toList; omega)
    rw [← e] at this
    exact this
end Go.Proofs.YtkicpjjfeekopaaGreatDoor
