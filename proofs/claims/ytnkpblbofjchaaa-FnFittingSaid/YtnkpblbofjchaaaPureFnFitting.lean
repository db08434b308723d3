/- As many items fit as are told, and not one more. No conditions beyond those of the statement's reading. -/
import Derived.Test.YtnkpblbofjchaaaP0
import Derived.Test.YtnkpblbofjchaaaPDraw
import Derived.Test.YtnkpblbofjchaaaPDrawL
import Derived.Test.YtnkpblbofjchaaaPFitting
import Derived.Test.YtnkpblbofjchaaaPMeasure
import Derived.Test.YtnkpblbofjchaaaPSpreadL
import Derived.Test.YtnkpblbofjchaaaQ7
import Derived.Test.YtnkpblbofjchaaaQ8
namespace Go.Proofs.Ytnkpblbofjchaaa.Pure
open Go.RowKit Go.Proofs.Ytnkpblbofjchaaa.Q Go.Proofs.YtnkpblbofjchaaaW.PrintWords Go.Proofs.YtnkpblbofjchaaaW.PrintLast Go.Proofs.YtnkpblbofjchaaaW.PrintMore
set_option linter.unusedVariables false
set_option linter.unusedSimpArgs false
theorem cntF_facts (fit : List Int → Bool) (line more : List Int) : ∀ d i, i + d = more.length → fit (line ++ more.take i) = true → ∃ r : Nat, cntF fit line more i d = (r : Int) ∧ i ≤ r ∧ r ≤ more.length ∧ fit (line ++ more.take r) = true ∧ (r = more.length ∨ (r < more.length ∧ fit (line ++ more.take (r + 1)) = false))
  | 0, i, hi, hf => ⟨i, rfl, Nat.le_refl _, by omega, hf, Or.inl (by omega)⟩
  | d + 1, i, hi, hf => by
    rw [cntF]
    by_cases e : fit (line ++ more.take (i + 1)) = true
    · rw [if_pos e]
      obtain ⟨r, h1, h2, h3⟩ := cntF_facts fit line more d (i + 1) (by omega) e
      exact ⟨r, h1, by omega, h3⟩
    · rw [if_neg e]
      exact ⟨i, rfl, Nat.le_refl _, by omega, hf, Or.inr ⟨by omega, by simpa using e⟩⟩
theorem take_more (line more : List Int) (r : Nat) : (line ++ more).take (line.length + r) = line ++ more.take r := by
  rw [List.take_append, List.take_of_length_le (by omega)]
  congr 2
  omega
theorem drawFitting_ok (l : List Int) (hl : l.length ≤ 1099511627776) : ∃ m0 m1 m2 r q, Ev (fun k => spec_DrawCountFitting.f k l) (m0, m1, m2, r, q) ∧ r.length ≤ 200 ∧ q.length ≤ 200 := by
  obtain ⟨h, K, hn⟩ := new_ok l hl
  obtain ⟨m0, m1, m2, i1, h1, e1, c1⟩ := any_ok l 0 h ⟨by omega, by omega, hl⟩
  obtain ⟨r, i2, h2, ⟨K2, hr⟩, hr2, c2⟩ := row_ok l i1 h1 m0 m1 m2 c1
  by_cases hp : (r.length : Int) > 0
  · obtain ⟨x, i3, h3, e3, r3, s3, c3⟩ := below_ok l i2 h2 (r.length : Int) c2 (by omega) (by omega)
    obtain ⟨q, i4, h4, ⟨K4, hq⟩, hq2, c4⟩ := row_ok l i3 h3 m0 m1 m2 c3
    refine ⟨m0, m1, m2, r.take x.toNat, q, ⟨K + K2 + K4, fun k hk => ?_⟩, by rw [List.length_take]; omega, hq2⟩
    simp only [spec_DrawCountFitting.f, hn k (by omega), e1, hr k (by omega), e3, hq k (by omega), Option.bind_some]
    rw [if_pos hp, if_pos r3, if_pos (by omega)]
  · obtain ⟨q, i4, h4, ⟨K4, hq⟩, hq2, c4⟩ := row_ok l i2 h2 m0 m1 m2 c2
    refine ⟨m0, m1, m2, r, q, ⟨K + K2 + K4, fun k hk => ?_⟩, hr2, hq2⟩
    simp only [spec_DrawCountFitting.f, hn k (by omega), e1, hr k (by omega), hq k (by omega), Option.bind_some]
    rw [if_neg hp]
theorem FnFitting : laws_FnFitting.Pure := by
  intro l hm hm2 hw
  by_cases hlen : (l.length : Int) > 1048576
  · exact ⟨0, by simp only [laws_FnFitting.f, if_pos hlen]⟩
  obtain ⟨a, b, c, line, more, ⟨K1, h1⟩, hl1, hl2⟩ := drawFitting_ok l (by omega)
  obtain ⟨K2, h2⟩ := impl_CountFitting_ev a b c line more (by omega)
  obtain ⟨K3, h3⟩ := spec_SpreadLine_ev a b c line (by omega)
  obtain ⟨K4, h4⟩ := spec_LineOk_ev more (by omega)
  have hfe := fit_eq a b c line
  by_cases hf : (measureOk a b c && fitsV a b line) = true
  · have hf2 := hf
    rw [Bool.and_eq_true] at hf2
    rw [hf] at hfe
    by_cases hk : lineOk more = true
    · have hc : countFitting a b c line more = cntF (fitsV a b) line more 0 more.length := if_pos ⟨hf2.1, hf2.2, hk⟩
      obtain ⟨r, r1, _, r3, r4, r5⟩ := cntF_facts (fitsV a b) line more more.length 0 (by omega) (by simpa using hf2.2)
      rw [r1] at hc
      rw [hc] at h2
      obtain ⟨K5, h5⟩ := impl_SpreadLine_ev a b c (line ++ more.take r) (by rw [List.length_append, List.length_take]; omega)
      obtain ⟨K6, h6⟩ := impl_SpreadLine_ev a b c (line ++ more.take (r + 1)) (by rw [List.length_append, List.length_take]; omega)
      have e5 : (spreadLine a b c (line ++ more.take r)).2.2 = true := by rw [fit_eq, hf2.1, r4]; rfl
      have w5 : wrap64 ((line.length : Int) + (r : Int)) = ((line.length + r : Nat) : Int) := wrap_id _ (by omega) (by omega)
      have w6 : wrap64 (((line.length + r : Nat) : Int) + 1) = ((line.length + (r + 1) : Nat) : Int) := wrap_id _ (by omega) (by omega)
      generalize hK : K1 + K2 + K3 + K4 + K5 + K6 = K
      have g1 := fun j => h1 (K + j) (by omega)
      have g2 := fun j => h2 (K + j) (by omega)
      have g3 := fun j => h3 (K + j) (by omega)
      have g4 := fun j => h4 (K + j) (by omega)
      have g5 := fun j => h5 (K + j) (by omega)
      have g6 := fun j => h6 (K + j) (by omega)
      refine ⟨K + 9, ?_⟩
      simp only [laws_FnFitting.f, if_neg hlen, g1, g2, g3, g4, Option.bind_some, hfe, if_true, hk, Bool.not_true]
      simp only [laws_FnFitting.j0, Bool.false_eq_true, if_false]
      rw [if_neg (by omega), decide_eq_false (by omega)]
      simp only [laws_FnFitting.j1, Bool.false_eq_true, if_false, Option.bind_some, List.nil_append, List.length_nil, Nat.zero_add, w5, w6, Int.toNat_natCast]
      rw [if_pos (by omega), if_pos (by omega), if_pos (by omega), if_pos (by rw [List.length_append]; omega), take_more, take_more]
      simp only [g5, Option.bind_some, e5, if_true]
      rcases r5 with rfl | ⟨r5, r6⟩
      · rw [if_pos rfl]
      · rw [if_neg (by omega), if_pos (by omega), if_pos (by rw [List.length_append]; omega)]
        have e6 : (spreadLine a b c (line ++ more.take (r + 1))).2.2 = false := by rw [fit_eq, r6, Bool.and_false]
        simp only [g6, Option.bind_some, e6, Bool.not_false]
    · have hc : countFitting a b c line more = -1 := if_neg (fun h => hk h.2.2)
      rw [hc] at h2
      generalize hK : K1 + K2 + K3 + K4 = K
      have g1 := fun j => h1 (K + j) (by omega)
      have g2 := fun j => h2 (K + j) (by omega)
      have g3 := fun j => h3 (K + j) (by omega)
      have g4 := fun j => h4 (K + j) (by omega)
      refine ⟨K + 9, ?_⟩
      simp only [laws_FnFitting.f, if_neg hlen, g1, g2, g3, g4, Option.bind_some, hfe, if_true, show lineOk more = false by simpa using hk, Bool.not_false]
      simp only [laws_FnFitting.j0, if_true]
      rfl
  · have hf' : (measureOk a b c && fitsV a b line) = false := by simpa using hf
    rw [hf'] at hfe
    have hc : countFitting a b c line more = -1 := if_neg (fun h => hf (by rw [h.1, h.2.1]; rfl))
    rw [hc] at h2
    generalize hK : K1 + K2 + K3 + K4 = K
    have g1 := fun j => h1 (K + j) (by omega)
    have g2 := fun j => h2 (K + j) (by omega)
    have g3 := fun j => h3 (K + j) (by omega)
    refine ⟨K + 9, ?_⟩
    simp only [laws_FnFitting.f, if_neg hlen, g1, g2, g3, Option.bind_some, hfe, Bool.false_eq_true, if_false]
    simp only [laws_FnFitting.j0, if_true]
    rfl
end Go.Proofs.Ytnkpblbofjchaaa.Pure
