/- A measure that is wider by the number of the bands makes the rise greater by 1, up to the thickest bands. No conditions beyond those of the statement's reading. -/
import Derived.Test.YtnkpblbofjchaaaP0
import Derived.Test.YtnkpblbofjchaaaPDrawL
import Derived.Test.YtnkpblbofjchaaaPLine
import Derived.Test.YtnkpblbofjchaaaPMeasure
import Derived.Test.YtnkpblbofjchaaaPSpread
import Derived.Test.YtnkpblbofjchaaaPSpreadL
import Derived.Test.YtnkpblbofjchaaaPWide
import Derived.Test.YtnkpblbofjchaaaQ5
namespace Go.Proofs.Ytnkpblbofjchaaa.Pure
open Go.RowKit Go.Proofs.Ytnkpblbofjchaaa.Q Go.Proofs.YtnkpblbofjchaaaW.PrintWords Go.Proofs.YtnkpblbofjchaaaW.PrintLast Go.Proofs.YtnkpblbofjchaaaW.PrintMore
set_option linter.unusedVariables false
set_option linter.unusedSimpArgs false
theorem rise_more (D free n : Int) (hn : 0 < n) (h : riseV D free n = D) (hf : 0 ≤ free) : riseV D (free + n) n = D := by
  unfold riseV at h ⊢
  rw [if_pos hn] at h ⊢
  have h1 := mn_le D (free / n)
  have e : (free + n) / n = free / n + 1 := by rw [Int.add_ediv_of_dvd_right (Int.dvd_refl n), Int.ediv_self (by omega)]
  rw [e]
  unfold mn at *
  split at h <;> split <;> omega
theorem rise_one (D free n : Int) (hn : 0 < n) (h : riseV D free n ≠ D) (hf : 0 ≤ free) : riseV D (free + n) n = riseV D free n + 1 := by
  unfold riseV at h ⊢
  rw [if_pos hn] at h ⊢
  rw [if_pos hn]
  have h1 := mn_le D (free / n)
  have e : (free + n) / n = free / n + 1 := by rw [Int.add_ediv_of_dvd_right (Int.dvd_refl n), Int.ediv_self (by omega)]
  rw [e]
  unfold mn at *
  split at h <;> split <;> (try split) <;> omega
theorem wider_plain (a b c : Int) (l : List Int) (hm : measureOk a b c = true) (hf : fitsV a b l = true) (hn : 0 < bandsN l) (hm2 : measureOk (a + bandsN l) b c = true) :
    fitsV (a + bandsN l) b l = true ∧ (riseOf a b c l = c - b → riseOf (a + bandsN l) b c l = c - b ∧ restOf (a + bandsN l) b c l = restOf a b c l + bandsN l) ∧
    (riseOf a b c l ≠ c - b → riseOf (a + bandsN l) b c l = riseOf a b c l + 1 ∧ restOf (a + bandsN l) b c l = restOf a b c l) := by
  obtain ⟨hk, hle⟩ : lineOk l = true ∧ lettersN l + bandsN l * b ≤ a := by simpa [fitsV] using hf
  have e : a + (bandsN l : Int) - lettersN l - bandsN l * b = (a - lettersN l - bandsN l * b) + bandsN l := by omega
  refine ⟨?_, ?_, ?_⟩
  · simp only [fitsV, hk, Bool.true_and, decide_eq_true_eq]; omega
  · intro h
    have h2 : riseOf (a + bandsN l) b c l = c - b := by
      unfold riseOf at h ⊢
      rw [e]
      exact rise_more _ _ _ (by omega) h (by omega)
    refine ⟨h2, ?_⟩
    unfold restOf
    rw [h2, h, e]
    omega
  · intro h
    have h2 : riseOf (a + bandsN l) b c l = riseOf a b c l + 1 := by
      unfold riseOf at h ⊢
      rw [e]
      exact rise_one _ _ _ (by omega) h (by omega)
    refine ⟨h2, ?_⟩
    unfold restOf
    rw [h2, e, Int.mul_add, Int.mul_one]
    omega
theorem FnWider : laws_FnWider.Pure := by
  intro l hm hm2 hw
  by_cases hlen : (l.length : Int) > 1048576
  · exact ⟨0, by simp only [laws_FnWider.f, if_pos hlen]⟩
  obtain ⟨a, b, c, r, ⟨K1, h1⟩, hr⟩ := drawSpread_ok l (by omega)
  obtain ⟨K2, h2⟩ := impl_SpreadLine_ev a b c r (by omega)
  obtain ⟨K3, h3⟩ := count_ev r (by omega)
  have hbn := bandsN_le r
  by_cases hmo : measureOk a b c = true
  · obtain ⟨m1, m2, m3, m4, m5, m6⟩ := (measureOk_iff a b c).1 hmo
    have eA : wrap64 (a + (bandsN r : Int)) = a + bandsN r := wrap_id _ (by omega) (by omega)
    have eD : wrap64 (c - b) = c - b := wrap_id _ (by omega) (by omega)
    by_cases hf : fitsV a b r = true
    · by_cases hz : bandsN r = 0
      · generalize hK : K1 + K2 + K3 = K
        have g1 := fun j => h1 (K + j) (by omega)
        have g2 := fun j => h2 (K + j) (by omega)
        have g3 := fun j => h3 (K + j) (by omega)
        refine ⟨K + 9, ?_⟩
        simp only [laws_FnWider.f, if_neg hlen, g1, g2, g3, Option.bind_some, spreadLine_fits a b c r hmo hf, if_true, hz]
        simp [laws_FnWider.j0]
      · have hz' : (((bandsN r : Nat) : Int) == 0) = false := by simp; omega
        obtain ⟨K4, h4⟩ := impl_SpreadLine_ev (a + bandsN r) b c r (by omega)
        generalize hK : K1 + K2 + K3 + K4 = K
        have g1 := fun j => h1 (K + j) (by omega)
        have g2 := fun j => h2 (K + j) (by omega)
        have g3 := fun j => h3 (K + j) (by omega)
        have g4 := fun j => h4 (K + j) (by omega)
        refine ⟨K + 9, ?_⟩
        simp only [laws_FnWider.f, if_neg hlen, g1, g2, g3, Option.bind_some, spreadLine_fits a b c r hmo hf, if_true, hz']
        simp only [laws_FnWider.j0, Bool.false_eq_true, if_false, eA, eD, impl_MeasureOk_eq, Option.bind_some, g4]
        by_cases hmo2 : measureOk (a + bandsN r) b c = true
        · obtain ⟨p1, p2, p3⟩ := wider_plain a b c r hmo hf (by omega) hmo2
          have hrr := restOf_range a b c r hmo hf
          have hri := riseV_facts (c - b) (a - lettersN r - bandsN r * b) (bandsN r) (by omega) (by
            obtain ⟨_, hle⟩ : lineOk r = true ∧ lettersN r + bandsN r * b ≤ a := by simpa [fitsV] using hf
            omega) (by omega)
          have hri2 : 0 ≤ riseOf a b c r ∧ riseOf a b c r ≤ c - b := ⟨hri.1, hri.2.1⟩
          have eR : wrap64 (restOf a b c r + (bandsN r : Int)) = restOf a b c r + bandsN r := wrap_id _ (by omega) (by omega)
          have eS : wrap64 (riseOf a b c r + 1) = riseOf a b c r + 1 := wrap_id _ (by omega) (by omega)
          rw [if_pos hmo2, spreadLine_fits (a + bandsN r) b c r hmo2 p1]
          simp only [if_true]
          by_cases hd : riseOf a b c r = c - b
          · obtain ⟨q1, q2⟩ := p2 hd
            rw [if_pos hd, if_pos (by rw [q1, hd]), eR, q2]
            simp
          · obtain ⟨q1, q2⟩ := p3 hd
            rw [if_neg hd, eS, if_pos q1, q2]
            simp
        · rw [if_neg hmo2]
          have : ¬ (a + (bandsN r : Int) ≤ 2000) := fun h => hmo2 ((measureOk_iff _ b c).2 ⟨by omega, h, m3, m4, m5, m6⟩)
          simp; omega
    · have hs := spreadLine_not a b c r hmo hf
      obtain ⟨K5, h5⟩ := spec_LineOk_ev r (by omega)
      by_cases hk : lineOk r = true
      · obtain ⟨k1, k2⟩ := (lineOk_iff r).1 hk
        obtain ⟨K6, h6⟩ := total_ev r k1 k2
        generalize hK : K1 + K2 + K3 + K5 + K6 = K
        have g1 := fun j => h1 (K + j) (by omega)
        have g2 := fun j => h2 (K + j) (by omega)
        have g3 := fun j => h3 (K + j) (by omega)
        have g5 := fun j => h5 (K + j) (by omega)
        have g6 := fun j => h6 (K + j) (by omega)
        refine ⟨K + 9, ?_⟩
        simp only [laws_FnWider.f, if_neg hlen, g1, g2, g3, Option.bind_some, hs, Bool.false_eq_true, if_false]
        have hb := mul_bound (bandsN r) b 120 100 (by omega) (by omega) (by omega) m4
        obtain ⟨s1, s2, s3, s4⟩ := lsum_line r hk
        have hgt : ¬ (lettersN r + bandsN r * b ≤ a) := fun h => hf (by simp [fitsV, hk, h])
        simp only [laws_FnWider.j0, if_true, Bool.false_eq_true, if_false, spec_MeasureOk_eq, hmo, Option.bind_some, g5, hk, g6]
        rw [wrap_id ((bandsN r : Int) * b) (by omega) (by omega), wrap_id (lettersN r + (bandsN r : Int) * b) (by omega) (by omega), decide_eq_true (by omega)]
      · generalize hK : K1 + K2 + K3 + K5 = K
        have g1 := fun j => h1 (K + j) (by omega)
        have g2 := fun j => h2 (K + j) (by omega)
        have g3 := fun j => h3 (K + j) (by omega)
        have g5 := fun j => h5 (K + j) (by omega)
        refine ⟨K + 9, ?_⟩
        simp only [laws_FnWider.f, if_neg hlen, g1, g2, g3, Option.bind_some, hs, Bool.false_eq_true, if_false]
        simp only [laws_FnWider.j0, if_true, Bool.false_eq_true, if_false, spec_MeasureOk_eq, hmo, Option.bind_some, g5, if_neg hk]
  · have hs : (spreadLine a b c r).2.2 = false := by rw [spreadLine, if_neg hmo]
    generalize hK : K1 + K2 + K3 = K
    have g1 := fun j => h1 (K + j) (by omega)
    have g2 := fun j => h2 (K + j) (by omega)
    have g3 := fun j => h3 (K + j) (by omega)
    refine ⟨K + 9, ?_⟩
    simp only [laws_FnWider.f, if_neg hlen, g1, g2, g3, Option.bind_some, hs, Bool.false_eq_true, if_false]
    simp only [laws_FnWider.j0, if_true, Bool.false_eq_true, if_false, spec_MeasureOk_eq, Option.bind_some, if_neg hmo]
end Go.Proofs.Ytnkpblbofjchaaa.Pure
