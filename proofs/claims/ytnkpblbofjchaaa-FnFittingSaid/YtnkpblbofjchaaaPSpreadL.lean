/- Spread of a line. Conditions: those that each lemma names. -/
import Derived.Test.YtnkpblbofjchaaaP0
import Derived.Test.YtnkpblbofjchaaaPLine
import Derived.Test.YtnkpblbofjchaaaPMeasure
import Derived.Test.YtnkpblbofjchaaaPSpread
import Derived.Test.YtnkpblbofjchaaaPWidths
import Derived.Test.YtnkpblbofjchaaaQ1
import Derived.Test.YtnkpblbofjchaaaQ2
namespace Go.Proofs.Ytnkpblbofjchaaa.Q
open Go.RowKit Go.Proofs.YtnkpblbofjchaaaW.PrintWords Go.Proofs.YtnkpblbofjchaaaW.PrintLast Go.Proofs.YtnkpblbofjchaaaW.PrintMore
set_option linter.unusedVariables false
set_option linter.unusedSimpArgs false
theorem spec_spread_loop (a b c free n : Int) (hm : measureOk a b c = true) (h0 : 0 ≤ n) (h1 : n ≤ 1000) (hf : 0 ≤ free) (hf2 : free ≤ 10000000) :
    ∀ d r, 0 ≤ r → r + d = c - b → 0 ≤ free - n * r → 0 ≤ d → Ev (fun k => spec_l3Spread.l0 k n (free - n * r) r a b c) (if n > 0 then (mn (c - b) (free / n), free - n * mn (c - b) (free / n)) else (r, free - n * r)) := by
  obtain ⟨m1, m2, m3, m4, m5, m6⟩ := (measureOk_iff a b c).1 hm
  have e4 : wrap64 (c - b) = c - b := wrap_id _ (by omega) (by omega)
  by_cases hn : n > 0
  · simp only [if_pos hn]
    have main : ∀ (m : Nat) (r : Int), 0 ≤ r → r + m = c - b → 0 ≤ free - n * r → Ev (fun k => spec_l3Spread.l0 k n (free - n * r) r a b c) (mn (c - b) (free / n), free - n * mn (c - b) (free / n)) := by
      intro m
      induction m with
      | zero =>
        intro r hr hd hrest
        have hrD : r = c - b := by omega
        have hq : r ≤ free / n := (Int.le_ediv_iff_mul_le hn).2 (by rw [Int.mul_comm]; omega)
        have hmn : mn (c - b) (free / n) = r := by unfold mn; split <;> omega
        rw [hmn]
        refine ev_step1 (fun k => ?_)
        simp only [spec_l3Spread.l0]
        rw [if_pos hn, e4, if_neg (by omega)]
      | succ m ih =>
        intro r hr hd hrest
        by_cases hge : free - n * r ≥ n
        · have hmul : n * (r + 1) = n * r + n := by rw [Int.mul_add, Int.mul_one]
          refine Ev.step (f := fun k => spec_l3Spread.l0 k n (free - n * (r + 1)) (r + 1) a b c) (fun k => ?_) (ih (r + 1) (by omega) (by omega) (by omega))
          simp only [spec_l3Spread.l0]
          have hnr : 0 ≤ n * r := Int.mul_nonneg h0 hr
          rw [if_pos hn, e4, if_pos (by omega), if_pos hge, wrap_id (free - n * r - n) (by omega) (by omega), wrap_id (r + 1) (by omega) (by omega), hmul, show free - n * r - n = free - (n * r + n) from by omega]
        · have hq : free / n = r := by
            have h3 : r ≤ free / n := (Int.le_ediv_iff_mul_le hn).2 (by rw [Int.mul_comm]; omega)
            have h4 : free / n < r + 1 := (Int.ediv_lt_iff_lt_mul hn).2 (by rw [Int.add_mul, Int.one_mul, Int.mul_comm r n]; omega)
            omega
          have hmn : mn (c - b) (free / n) = r := by rw [hq]; unfold mn; split <;> omega
          rw [hmn]
          refine ev_step1 (fun k => ?_)
          simp only [spec_l3Spread.l0]
          rw [if_pos hn, e4, if_pos (by omega), if_neg hge]
    intro d r hr hd hrest hd0
    exact main d.toNat r hr (by omega) hrest
  · intro d r hr hd hrest hd0
    simp only [if_neg hn]
    refine ev_step1 (fun k => ?_)
    simp only [spec_l3Spread.l0]
    rw [if_neg hn]
/-- SpreadLine. -/
def spreadLine (a b c : Int) (l : List Int) : Int × Int × Bool :=
  if measureOk a b c = true then if lineOk l = true then spreadV a b c (lettersN l) (bandsN l) else (0, 0, false) else (0, 0, false)
theorem spec_l3Fits_ev (a b c : Int) (l : List Int) (hl : l.length ≤ 1099511627776) : Ev (fun k => spec_l3Fits.f k a b c l) (if lineOk l = true then decide (wrap64 ((lsum 0 0 l).1 + wrap64 ((lsum 0 0 l).2 * b)) ≤ a) else false) := by
  obtain ⟨K1, h1⟩ := spec_LineOk_ev l hl
  obtain ⟨K2, h2⟩ := spec_l3Sum_ev l hl
  refine ⟨K1 + K2, fun k hk => ?_⟩
  simp only [spec_l3Fits.f, Option.bind_some, h1 k (by omega), h2 k (by omega)]
  cases lineOk l <;> simp
/-- Whether a line fits. -/
def fitsV (a b : Int) (l : List Int) : Bool := lineOk l && decide (lettersN l + bandsN l * b ≤ a)
theorem fits_ev (a b c : Int) (l : List Int) (hl : l.length ≤ 1099511627776) (hm : measureOk a b c = true) : Ev (fun k => spec_l3Fits.f k a b c l) (fitsV a b l) := by
  obtain ⟨m1, m2, m3, m4, m5, m6⟩ := (measureOk_iff a b c).1 hm
  have h := spec_l3Fits_ev a b c l hl
  have e : (if lineOk l = true then decide (wrap64 ((lsum 0 0 l).1 + wrap64 ((lsum 0 0 l).2 * b)) ≤ a) else false) = fitsV a b l := by
    unfold fitsV
    by_cases hk : lineOk l = true
    · obtain ⟨s1, s2, s3, s4⟩ := lsum_line l hk
      have hb := mul_bound (bandsN l) b 120 100 (by omega) (by omega) (by omega) m4
      rw [if_pos hk, hk, s1]
      simp only [Bool.true_and]
      rw [wrap_id ((bandsN l : Int) * b) (by omega) (by omega), wrap_id (lettersN l + (bandsN l : Int) * b) (by omega) (by omega)]
    · rw [if_neg hk, show lineOk l = false from by simpa using hk]; rfl
  rw [e] at h
  exact h
theorem spec_l3Spread_ev (a b c : Int) (l : List Int) (hl : l.length ≤ 1099511627776) (hm : measureOk a b c = true) (hk : lineOk l = true) (hf : 0 ≤ a - lettersN l - bandsN l * b) :
    Ev (fun k => spec_l3Spread.f k a b c l) (riseV (c - b) (a - lettersN l - bandsN l * b) (bandsN l), (a - lettersN l - bandsN l * b) - bandsN l * riseV (c - b) (a - lettersN l - bandsN l * b) (bandsN l)) := by
  obtain ⟨m1, m2, m3, m4, m5, m6⟩ := (measureOk_iff a b c).1 hm
  obtain ⟨s1, s2, s3, s4⟩ := lsum_line l hk
  have hb := mul_bound (bandsN l) b 120 100 (by omega) (by omega) (by omega) m4
  have hs := spec_l3Sum_ev l hl
  rw [s1] at hs
  refine Ev.bind (f := fun k bt => spec_l3Spread.l0 k bt.2 (wrap64 ((wrap64 (a - bt.1)) - (wrap64 (bt.2 * b)))) 0 a b c) hs ?_
  have h := spec_spread_loop a b c (a - lettersN l - bandsN l * b) (bandsN l) hm (by omega) (by omega) hf (by omega) (c - b) 0 (by omega) (by omega) (by simpa using hf) (by omega)
  simp only [Int.mul_zero, Int.sub_zero] at h
  simp only
  rw [wrap_id (a - lettersN l) (by omega) (by omega), wrap_id ((bandsN l : Int) * b) (by omega) (by omega), wrap_id (a - lettersN l - (bandsN l : Int) * b) (by omega) (by omega)]
  have e : (if (bandsN l : Int) > 0 then (mn (c - b) ((a - lettersN l - bandsN l * b) / bandsN l), (a - lettersN l - bandsN l * b) - bandsN l * mn (c - b) ((a - lettersN l - bandsN l * b) / bandsN l)) else (0, a - lettersN l - bandsN l * b))
      = (riseV (c - b) (a - lettersN l - bandsN l * b) (bandsN l), (a - lettersN l - bandsN l * b) - bandsN l * riseV (c - b) (a - lettersN l - bandsN l * b) (bandsN l)) := by
    unfold riseV
    split <;> simp
  rw [e] at h
  exact h
theorem spec_SpreadLine_ev (a b c : Int) (l : List Int) (hl : l.length ≤ 1099511627776) : Ev (fun k => spec_SpreadLine.f k a b c l) (spreadLine a b c l) := by
  by_cases hm : measureOk a b c = true
  · obtain ⟨K1, h1⟩ := fits_ev a b c l hl hm
    by_cases hft : fitsV a b l = true
    · obtain ⟨hk, hle⟩ : lineOk l = true ∧ lettersN l + bandsN l * b ≤ a := by simpa [fitsV] using hft
      obtain ⟨K2, h2⟩ := spec_l3Spread_ev a b c l hl hm hk (by omega)
      refine ⟨K1 + K2, fun k hk' => ?_⟩
      simp only [spec_SpreadLine.f, spec_MeasureOk_eq, hm, Option.bind_some, if_true, h1 k (by omega), hft, h2 k (by omega), spreadLine, hk, spreadV]
      rw [if_neg (by omega)]
    · refine ⟨K1, fun k hk' => ?_⟩
      simp only [spec_SpreadLine.f, spec_MeasureOk_eq, hm, Option.bind_some, if_true, h1 k (by omega), if_neg hft, spreadLine]
      by_cases hk : lineOk l = true
      · rw [if_pos hk, spreadV, if_pos]
        have : ¬ (lettersN l + bandsN l * b ≤ a) := fun h => hft (by simp [fitsV, hk, h])
        omega
      · rw [if_neg hk]
  · refine ⟨0, fun k _ => ?_⟩
    simp only [spec_SpreadLine.f, spec_MeasureOk_eq, Option.bind_some, if_neg hm, spreadLine]
theorem impl_SpreadLine_ev (a b c : Int) (l : List Int) (hl : l.length ≤ 1099511627776) : Ev (fun k => impl_SpreadLine.f k a b c l) (spreadLine a b c l) := by
  by_cases hm : measureOk a b c = true
  · by_cases hk : lineOk l = true
    · obtain ⟨s1, s2, s3, s4⟩ := lsum_line l hk
      have hs := impl_lb_ev l hl
      rw [s1] at hs
      obtain ⟨K, h⟩ := hs
      refine ⟨K + 1, fun k hk' => ?_⟩
      obtain ⟨k, rfl⟩ : ∃ m, k = m + 1 := ⟨k - 1, by omega⟩
      simp only [impl_SpreadLine.f, impl_MeasureOk_eq, impl_LineOk_eq, hm, hk, Option.bind_some, if_true, Bool.not_true, impl_SpreadLine.j0, Bool.false_eq_true, if_false, h k (by omega), spreadLine]
      rw [impl_spread_eq a b c _ _ hm (by omega) (by omega) (by omega) (by omega)]
      rfl
    · refine ⟨1, fun k hk' => ?_⟩
      obtain ⟨k, rfl⟩ : ∃ m, k = m + 1 := ⟨k - 1, by omega⟩
      have hk2 : lineOk l = false := by simpa using hk
      simp [impl_SpreadLine.f, impl_MeasureOk_eq, impl_LineOk_eq, hm, hk2, impl_SpreadLine.j0, spreadLine]
  · refine ⟨1, fun k hk' => ?_⟩
    obtain ⟨k, rfl⟩ : ∃ m, k = m + 1 := ⟨k - 1, by omega⟩
    simp [impl_SpreadLine.f, impl_MeasureOk_eq, hm, impl_SpreadLine.j0, spreadLine]
end Go.Proofs.Ytnkpblbofjchaaa.Q
