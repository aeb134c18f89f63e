/- More of what the calendar's functions and their references answer, for CalendarRows (the door's laws): why, Check, the first tick that is no sync point. No memory in sight. -/
import Derived.Test.YtnhelpbchfeadaaDoorCalCalendarRows
import Derived.Test.YtnhelpbchfeadaaDoorTells18
namespace Go.Proofs.YtnhelpbchfeadaaDoor.CalCalendarRows
open Go.RowKit Go.Proofs.YtnhelpbchfeadaaDoor.QCalendarRows Go.Proofs.YtnhelpbchfeadaaDoorW.PrintWords Go.Proofs.YtnhelpbchfeadaaDoorW.PrintLast Go.Proofs.YtnhelpbchfeadaaDoorW.PrintMore Go.Proofs.YtnhelpbchfeadaaDoor.Kit Go.Proofs.YtnhelpbchfeadaaDoor.Er Go.Proofs.YtnhelpbchfeadaaDoor.Tells

def Ok (b c t : Int) : Prop := 2 ≤ b ∧ b ≤ 4096 ∧ 1 ≤ c ∧ c < b ∧ 0 ≤ t ∧ t < 1099511627776
theorem bad_yes {b t : Int} (h : ¬ (2 ≤ b ∧ b ≤ 4096 ∧ 0 ≤ t ∧ t < 1099511627776)) : calendar_bad.f b t = some true := by
  unfold calendar_bad.f
  by_cases h1 : b < 2
  · rw [if_pos h1]
  by_cases h2 : b > 4096
  · rw [if_neg h1, if_pos h2]
  by_cases h3 : t < 0
  · rw [if_neg h1, if_neg h2, if_pos h3]
  rw [if_neg h1, if_neg h2, if_neg h3, if_pos (by omega)]
theorem chk_ok {b c t : Int} (h : Ok b c t) : geyserref18_Check.f b c t = some 0 := by
  obtain ⟨h1, h2, h3, h4, h5, h6⟩ := h
  unfold geyserref18_Check.f
  rw [if_neg (by omega), if_neg (by omega), if_neg (by omega), if_neg (by omega), if_neg (by omega), if_neg (by omega)]
theorem chk_bad {b c t : Int} (h : ¬ Ok b c t) : geyserref18_Check.f b c t = some 1 := by
  unfold geyserref18_Check.f
  by_cases h1 : b < 2
  · rw [if_pos h1]
  by_cases h2 : b > 4096
  · rw [if_neg h1, if_pos h2]
  by_cases h3 : c < 1
  · rw [if_neg h1, if_neg h2, if_pos h3]
  by_cases h4 : c ≥ b
  · rw [if_neg h1, if_neg h2, if_neg h3, if_pos h4]
  by_cases h5 : t < 0
  · rw [if_neg h1, if_neg h2, if_neg h3, if_neg h4, if_pos h5]
  rw [if_neg h1, if_neg h2, if_neg h3, if_neg h4, if_neg h5, if_pos]
  apply Int.not_lt.1
  intro h6
  exact h ⟨by omega, by omega, by omega, by omega, by omega, h6⟩
theorem tells_ok (w : ByteArray) : tells.f none 0 w = some true := rfl
theorem tells_one (w : ByteArray) : tells.f (some ([w], 1)) 1 w = some true := by
  unfold tells.f
  rw [if_neg (by decide)]
  simp
theorem tells_two (w v : ByteArray) : tells.f (some ([w, v], 1)) 1 w = some true := by
  unfold tells.f
  rw [if_neg (by decide)]
  simp
end Go.Proofs.YtnhelpbchfeadaaDoor.CalCalendarRows
