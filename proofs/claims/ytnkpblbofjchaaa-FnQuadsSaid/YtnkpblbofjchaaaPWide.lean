/- Widths of bands and places of letters: what the program and the reference give. Conditions: those that each lemma names. -/
import Derived.Test.YtnkpblbofjchaaaPLine
import Derived.Test.YtnkpblbofjchaaaPMeasure
import Derived.Test.YtnkpblbofjchaaaPSpread
import Derived.Test.YtnkpblbofjchaaaPSpreadL
namespace Go.Proofs.Ytnkpblbofjchaaa.Q
open Go.RowKit Go.Proofs.YtnkpblbofjchaaaW.PrintWords Go.Proofs.YtnkpblbofjchaaaW.PrintLast Go.Proofs.YtnkpblbofjchaaaW.PrintMore
set_option linter.unusedVariables false
set_option linter.unusedSimpArgs false
/-- What a fitting line leaves: the rise, and how many bands get one more. -/
def riseOf (a b c : Int) (l : List Int) : Int := riseV (c - b) (a - lettersN l - bandsN l * b) (bandsN l)
def restOf (a b c : Int) (l : List Int) : Int := (a - lettersN l - bandsN l * b) - bandsN l * riseOf a b c l
theorem spreadLine_fits (a b c : Int) (l : List Int) (hm : measureOk a b c = true) (hf : fitsV a b l = true) : spreadLine a b c l = (riseOf a b c l, restOf a b c l, true) := by
  obtain ⟨hk, hle⟩ : lineOk l = true ∧ lettersN l + bandsN l * b ≤ a := by simpa [fitsV] using hf
  rw [spreadLine, if_pos hm, if_pos hk, spreadV, if_neg (by omega)]
  rfl
theorem spreadLine_not (a b c : Int) (l : List Int) (hm : measureOk a b c = true) (hf : ¬ fitsV a b l = true) : (spreadLine a b c l).2.2 = false := by
  rw [spreadLine, if_pos hm]
  by_cases hk : lineOk l = true
  · rw [if_pos hk, spreadV, if_pos]
    have : ¬ (lettersN l + bandsN l * b ≤ a) := fun h => hf (by simp [fitsV, hk, h])
    omega
  · rw [if_neg hk]
end Go.Proofs.Ytnkpblbofjchaaa.Q
