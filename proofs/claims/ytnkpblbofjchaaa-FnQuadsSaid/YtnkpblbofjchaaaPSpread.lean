/- Spread over bands: the program's. Conditions: those that each lemma names. -/
import Derived.Test.YtnkpblbofjchaaaP0
import Derived.Test.YtnkpblbofjchaaaPMeasure
import Derived.Test.YtnkpblbofjchaaaQ0
import Derived.Test.YtnkpblbofjchaaaQ1
namespace Go.Proofs.Ytnkpblbofjchaaa.Q
open Go.RowKit Go.Proofs.YtnkpblbofjchaaaW.PrintWords Go.Proofs.YtnkpblbofjchaaaW.PrintLast Go.Proofs.YtnkpblbofjchaaaW.PrintMore
set_option linter.unusedVariables false
set_option linter.unusedSimpArgs false
theorem mul_bound (n b N B : Int) (h0 : 0 ≤ n) (h1 : n ≤ N) (h2 : 0 ≤ b) (h3 : b ≤ B) : 0 ≤ n * b ∧ n * b ≤ N * B :=
  ⟨Int.mul_nonneg h0 h2, Int.mul_le_mul h1 h3 h2 (by omega)⟩
/-- The rise, where free is what is left over thin bands. -/
def riseV (D free n : Int) : Int := if n > 0 then mn D (free / n) else 0
theorem mn_le (a b : Int) : mn a b ≤ a ∧ mn a b ≤ b := by unfold mn; split <;> omega
theorem mn_ge (a b c : Int) (h1 : c ≤ a) (h2 : c ≤ b) : c ≤ mn a b := by unfold mn; split <;> omega
theorem riseV_facts (D free n : Int) (hD : 0 ≤ D) (hf : 0 ≤ free) (hn : 0 ≤ n) : 0 ≤ riseV D free n ∧ riseV D free n ≤ D ∧ 0 ≤ n * riseV D free n ∧ n * riseV D free n ≤ free := by
  unfold riseV
  by_cases h : n > 0
  · rw [if_pos h]
    have h1 := mn_le D (free / n)
    have h2 : 0 ≤ free / n := Int.ediv_nonneg hf hn
    have h3 : 0 ≤ mn D (free / n) := mn_ge _ _ _ hD h2
    have h4 : n * (free / n) ≤ free := Int.mul_ediv_self_le (by omega)
    have h5 : n * mn D (free / n) ≤ n * (free / n) := Int.mul_le_mul_of_nonneg_left h1.2 hn
    exact ⟨h3, h1.1, Int.mul_nonneg hn h3, by omega⟩
  · rw [if_neg h]
    simp
    omega
/-- Rise, rest, and whether letters s and n bands fit. -/
def spreadV (a b c s n : Int) : Int × Int × Bool :=
  if a - s - n * b < 0 then (0, 0, false) else (riseV (c - b) (a - s - n * b) n, (a - s - n * b) - n * riseV (c - b) (a - s - n * b) n, true)
theorem impl_spread_eq (a b c s n : Int) (hm : measureOk a b c = true) (h0 : 0 ≤ n) (h1 : n ≤ 1000) (h2 : -1000000 ≤ s) (h3 : s ≤ 1000000) : impl_spread.f a b c s n = some (spreadV a b c s n) := by
  obtain ⟨m1, m2, m3, m4, m5, m6⟩ := (measureOk_iff a b c).1 hm
  have hb := mul_bound n b 1000 100 h0 h1 (by omega) m4
  have e1 : wrap64 (a - s) = a - s := wrap_id _ (by omega) (by omega)
  have e2 : wrap64 (n * b) = n * b := wrap_id _ (by omega) (by omega)
  have e3 : wrap64 (a - s - n * b) = a - s - n * b := wrap_id _ (by omega) (by omega)
  have e4 : wrap64 (c - b) = c - b := wrap_id _ (by omega) (by omega)
  unfold impl_spread.f spreadV
  rw [e1, e2, e3, e4]
  by_cases hf : a - s - n * b < 0
  · rw [if_pos hf, if_pos hf]
  · rw [if_neg hf, if_neg hf]
    have hr := riseV_facts (c - b) (a - s - n * b) n (by omega) (by omega) h0
    by_cases hn : n > 0
    · rw [if_pos hn, if_neg (by omega)]
      have e5 : Int.tdiv (a - s - n * b) n = (a - s - n * b) / n := Int.tdiv_eq_ediv_of_nonneg (by omega)
      have e6 : (a - s - n * b) / n ≤ a - s - n * b := Int.ediv_le_self _ (by omega)
      have e7 : 0 ≤ (a - s - n * b) / n := Int.ediv_nonneg (by omega) (by omega)
      have e8 : mn (c - b) ((a - s - n * b) / n) = riseV (c - b) (a - s - n * b) n := by unfold riseV; rw [if_pos hn]
      rw [e5, wrap_id ((a - s - n * b) / n) (by omega) (by omega), e8, wrap_id (n * riseV (c - b) (a - s - n * b) n) (by omega) (by omega), wrap_id (a - s - n * b - n * riseV (c - b) (a - s - n * b) n) (by omega) (by omega)]
    · have e9 : riseV (c - b) (a - s - n * b) n = 0 := by unfold riseV; rw [if_neg hn]
      rw [if_neg hn, e9]
      have : n = 0 := by omega
      subst this
      simp only [Int.mul_zero, Int.zero_mul, Int.sub_zero, wrap64_zero] at *
      rw [wrap_id (a - s) (by omega) (by omega)]
end Go.Proofs.Ytnkpblbofjchaaa.Q
