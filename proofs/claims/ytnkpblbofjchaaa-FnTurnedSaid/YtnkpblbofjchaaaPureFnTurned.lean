/- A line from behind has the same widths, the same rise and the same rest. No conditions beyond those of the statement's reading. -/
import Derived.Test.YtnkpblbofjchaaaP0
import Derived.Test.YtnkpblbofjchaaaPDrawL
import Derived.Test.YtnkpblbofjchaaaPLine
import Derived.Test.YtnkpblbofjchaaaPMeasure
import Derived.Test.YtnkpblbofjchaaaPSpread
import Derived.Test.YtnkpblbofjchaaaPSpreadL
import Derived.Test.YtnkpblbofjchaaaPTurn
import Derived.Test.YtnkpblbofjchaaaPWide
import Derived.Test.YtnkpblbofjchaaaPWidths
import Derived.Test.YtnkpblbofjchaaaQ1
import Derived.Test.YtnkpblbofjchaaaQ2
import Derived.Test.YtnkpblbofjchaaaQ4
import Derived.Test.YtnkpblbofjchaaaQ5
namespace Go.Proofs.Ytnkpblbofjchaaa.Pure
open Go.RowKit Go.Proofs.Ytnkpblbofjchaaa.Q Go.Proofs.YtnkpblbofjchaaaW.PrintWords Go.Proofs.YtnkpblbofjchaaaW.PrintLast Go.Proofs.YtnkpblbofjchaaaW.PrintMore
set_option linter.unusedVariables false
set_option linter.unusedSimpArgs false
theorem turned_tail (a b c : Int) (r : List Int) (hr : r.length ≤ 200) : Ev (fun k => laws_FnTurned.l0 k r r.reverse (-1) a b c) true := by
  obtain ⟨K2, h2⟩ := impl_WidthsOf_ev a b c r (by omega)
  obtain ⟨K3, h3⟩ := impl_WidthsOf_ev a b c r.reverse (by rw [List.length_reverse]; omega)
  rw [widthsOf_reverse] at h3
  obtain ⟨K4, h4⟩ := spec_LineOk_ev r (by omega)
  obtain ⟨K5, h5⟩ := impl_SpreadLine_ev a b c r (by omega)
  obtain ⟨K6, h6⟩ := impl_SpreadLine_ev a b c r.reverse (by rw [List.length_reverse]; omega)
  rw [spreadLine_reverse] at h6
  obtain ⟨K7, h7⟩ := count_ev r (by omega)
  replace h2 : ∀ k, K2 ≤ k → impl_WidthsOf.f k a b c r = some (widthsOf a b c r) := h2
  replace h3 : ∀ k, K3 ≤ k → impl_WidthsOf.f k a b c r.reverse = some (widthsOf a b c r) := h3
  replace h4 : ∀ k, K4 ≤ k → spec_LineOk.f k r = some (lineOk r) := h4
  replace h5 : ∀ k, K5 ≤ k → impl_SpreadLine.f k a b c r = some (spreadLine a b c r) := h5
  replace h6 : ∀ k, K6 ≤ k → impl_SpreadLine.f k a b c r.reverse = some (spreadLine a b c r) := h6
  replace h7 : ∀ k, K7 ≤ k → laws_count.f k r 0 = some (bandsN r : Int) := h7
  refine ⟨K2 + K3 + K4 + K5 + K6 + K7 + 5, fun k hk => ?_⟩
  obtain ⟨k, rfl⟩ : ∃ m, k = m + 2 := ⟨k - 2, by omega⟩
  simp only [laws_FnTurned.l0]
  rw [if_neg (by omega), h2 (k + 1) (by omega), Option.bind_some, h3 (k + 1) (by omega), Option.bind_some, if_pos rfl, if_pos rfl, if_neg (by simp), spec_MeasureOk_eq, Option.bind_some]
  by_cases hm : measureOk a b c = true
  · rw [if_pos hm, h4 (k + 1) (by omega), Option.bind_some]
    by_cases hk2 : lineOk r = true
    · obtain ⟨s1, s2, s3, s4⟩ := lsum_line r hk2
      obtain ⟨m1, m2, m3, m4, m5, m6⟩ := (measureOk_iff a b c).1 hm
      have hb := mul_bound (bandsN r) b 120 100 (by omega) (by omega) (by omega) m4
      have hc := mul_bound (bandsN r) c 120 100 (by omega) (by omega) (by omega) m6
      have hd := mul_bound (bandsN r) (c - b) 120 100 (by omega) (by omega) (by omega) (by omega)
      have hmul : (bandsN r : Int) * (c - b) = bandsN r * c - bandsN r * b := Int.mul_sub _ _ _
      have hW : widthsOf a b c r = (lettersN r + bandsN r * b, lettersN r + bandsN r * c, true) := by
        rw [widthsOf, if_pos hm, if_pos hk2, s1]
        simp only
        rw [wrap_id ((bandsN r : Int) * b) (by omega) (by omega), wrap_id ((bandsN r : Int) * c) (by omega) (by omega), wrap_id (lettersN r + (bandsN r : Int) * b) (by omega) (by omega), wrap_id (lettersN r + (bandsN r : Int) * c) (by omega) (by omega)]
      rw [hW, hk2]
      simp only [laws_FnTurned.j1, bne_self_eq_false, Bool.false_eq_true, if_false, h5 k (by omega), h6 k (by omega), Option.bind_some, if_true, beq_self_eq_true]
      have hF : (spreadLine a b c r).2.2 = decide (lettersN r + bandsN r * b ≤ a) := by
        by_cases hf : fitsV a b r = true
        · obtain ⟨_, hle⟩ : lineOk r = true ∧ lettersN r + bandsN r * b ≤ a := by simpa [fitsV] using hf
          rw [spreadLine_fits a b c r hm hf, decide_eq_true hle]
        · have hgt : ¬ (lettersN r + bandsN r * b ≤ a) := fun h => hf (by simp [fitsV, hk2, h])
          rw [spreadLine_not a b c r hm hf, decide_eq_false hgt]
      rw [hF, if_pos (by simp), h7 k (by omega), Option.bind_some, wrap_id (c - b) (by omega) (by omega), wrap_id ((bandsN r : Int) * (c - b)) (by omega) (by omega), wrap_id (lettersN r + bandsN r * c - (lettersN r + bandsN r * b)) (by omega) (by omega), hmul]
      rw [show lettersN r + (bandsN r : Int) * c - (lettersN r + bandsN r * b) = bandsN r * c - bandsN r * b by omega, beq_self_eq_true]
    · have hW : widthsOf a b c r = (0, 0, false) := by rw [widthsOf, if_pos hm, if_neg hk2]
      have hS : spreadLine a b c r = (0, 0, false) := by rw [spreadLine, if_pos hm, if_neg hk2]
      rw [hW, show lineOk r = false by simpa using hk2]
      simp only [laws_FnTurned.j1, bne_self_eq_false, Bool.false_eq_true, if_false, h5 k (by omega), h6 k (by omega), Option.bind_some, if_true, beq_self_eq_true, hS]
  · have hW : widthsOf a b c r = (0, 0, false) := by rw [widthsOf, if_neg hm]
    have hS : spreadLine a b c r = (0, 0, false) := by rw [spreadLine, if_neg hm]
    rw [if_neg hm, hW]
    simp only [laws_FnTurned.j1, bne_self_eq_false, Bool.false_eq_true, if_false, h5 k (by omega), h6 k (by omega), Option.bind_some, if_true, beq_self_eq_true, hS]
theorem turned_loop (a b c : Int) (r : List Int) (hr : r.length ≤ 200) : ∀ n, n ≤ r.length → Ev (fun k => laws_FnTurned.l0 k r (r.drop n).reverse ((n : Int) - 1) a b c) true
  | 0, _ => by
    have h := turned_tail a b c r hr
    rw [List.drop_zero]
    exact h
  | n + 1, hn => by
    have h := turned_loop a b c r hr n (by omega)
    rw [List.drop_eq_getElem_cons (show n < r.length by omega), List.reverse_cons] at h
    refine Ev.step (fun k => ?_) h
    simp only [laws_FnTurned.l0]
    rw [show ((n + 1 : Nat) : Int) - 1 = (n : Int) by omega, if_pos (by omega), if_pos (by omega), if_pos (by omega), if_pos (by rw [List.length_reverse, List.length_drop]; omega), rd_nat r n (by omega), wrap_id ((n : Int) - 1) (by omega) (by omega)]
theorem FnTurned : laws_FnTurned.Pure := by
  intro l hm hm2 hw
  by_cases hlen : (l.length : Int) > 1048576
  · exact ⟨0, by simp only [laws_FnTurned.f, if_pos hlen]⟩
  obtain ⟨a, b, c, r, ⟨K1, h1⟩, hr⟩ := drawWidths_ok l (by omega)
  obtain ⟨K2, h2⟩ := turned_loop a b c r hr r.length (Nat.le_refl _)
  rw [List.drop_length, List.reverse_nil] at h2
  refine ⟨K1 + K2, ?_⟩
  simp only [laws_FnTurned.f, if_neg hlen, h1 (K1 + K2) (by omega), Option.bind_some]
  rw [wrap_id ((r.length : Int) - 1) (by omega) (by omega)]
  exact h2 (K1 + K2) (by omega)
end Go.Proofs.Ytnkpblbofjchaaa.Pure
