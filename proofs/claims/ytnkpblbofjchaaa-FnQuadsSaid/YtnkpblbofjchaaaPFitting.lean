/- How many items fit: what the program's and the reference's functions give. Conditions: those that each lemma names. -/
import Derived.Test.YtnkpblbofjchaaaP0
import Derived.Test.YtnkpblbofjchaaaPLine
import Derived.Test.YtnkpblbofjchaaaPMeasure
import Derived.Test.YtnkpblbofjchaaaPSpread
import Derived.Test.YtnkpblbofjchaaaPSpreadL
import Derived.Test.YtnkpblbofjchaaaQ1
import Derived.Test.YtnkpblbofjchaaaQ2
import Derived.Test.YtnkpblbofjchaaaQ3
namespace Go.Proofs.Ytnkpblbofjchaaa.Q
open Go.RowKit Go.Proofs.YtnkpblbofjchaaaW.PrintWords Go.Proofs.YtnkpblbofjchaaaW.PrintLast Go.Proofs.YtnkpblbofjchaaaW.PrintMore
set_option linter.unusedVariables false
set_option linter.unusedSimpArgs false
theorem fit_eq (a b c : Int) (l : List Int) : (spreadLine a b c l).2.2 = (measureOk a b c && fitsV a b l) := by
  unfold spreadLine fitsV
  by_cases hm : measureOk a b c = true
  · rw [if_pos hm, hm, Bool.true_and]
    by_cases hk : lineOk l = true
    · rw [if_pos hk, hk, Bool.true_and]
      unfold spreadV
      by_cases h : a - lettersN l - bandsN l * b < 0
      · rw [if_pos h, decide_eq_false (by omega)]
      · rw [if_neg h, decide_eq_true (by omega)]
    · rw [if_neg hk, show lineOk l = false by simpa using hk, Bool.false_and]
  · rw [if_neg hm, show measureOk a b c = false by simpa using hm, Bool.false_and]
/-- How many more items fit, from a number on. -/
def cntF (fit : List Int → Bool) (line more : List Int) : Nat → Nat → Int
  | i, 0 => (i : Int)
  | i, d + 1 => if fit (line ++ more.take (i + 1)) = true then cntF fit line more (i + 1) d else (i : Int)
def countFitting (a b c : Int) (line more : List Int) : Int := if measureOk a b c = true ∧ fitsV a b line = true ∧ lineOk more = true then cntF (fitsV a b) line more 0 more.length else -1
theorem impl_fitsB_ev (a b c : Int) (l : List Int) (hl : l.length ≤ 1099511627776) : Ev (fun k => impl_fits.f k a b c l) (measureOk a b c && fitsV a b l) := by
  obtain ⟨K, f⟩ := impl_SpreadLine_ev a b c l hl
  refine ⟨K, fun k hk => ?_⟩
  simp only [impl_fits.f, f k hk, Option.bind_some, fit_eq]
theorem impl_fit_loop (a b c : Int) (line more : List Int) (hm : measureOk a b c = true) (h1 : line.length ≤ 1048576) (h2 : more.length ≤ 120) : ∀ d i, i + d = more.length → Ev (fun k => impl_CountFitting.l0 k line more (i : Int) a b c) (cntF (fitsV a b) line more i d) := by
  intro d
  induction d with
  | zero =>
    intro i hi
    refine ev_step1 (fun k => ?_)
    simp only [impl_CountFitting.l0, cntF]
    rw [if_neg (by omega)]
  | succ d ih =>
    intro i hi
    have hlen : (line ++ more.take (i + 1)).length ≤ 1048696 := by rw [List.length_append, List.length_take]; omega
    have hcat : slices_Concat_int_int.f [line, more.take (i + 1)] = some (line ++ more.take (i + 1)) := by
      have e : [line, more.take (i + 1)].flatten = line ++ more.take (i + 1) := by simp
      unfold slices_Concat_int_int.f
      rw [e, if_pos (by omega)]
    obtain ⟨K1, f1⟩ := impl_fitsB_ev a b c (line ++ more.take (i + 1)) (by omega)
    rw [hm, Bool.true_and] at f1
    rw [cntF]
    have hw : wrap64 ((i : Int) + 1) = ((i + 1 : Nat) : Int) := w1 i (by omega)
    by_cases e : fitsV a b (line ++ more.take (i + 1)) = true
    · rw [if_pos e]
      obtain ⟨K2, f2⟩ := ih (i + 1) (by omega)
      refine ⟨K1 + K2 + 1, fun k hk => ?_⟩
      obtain ⟨k, rfl⟩ : ∃ q, k = q + 1 := ⟨k - 1, by omega⟩
      simp only [impl_CountFitting.l0, hw]
      rw [if_pos (by omega), if_pos (by omega), if_pos (by omega), Int.toNat_natCast, hcat, Option.bind_some]
      simp only [f1 k (by omega), Option.bind_some, if_pos e]
      exact f2 k (by omega)
    · rw [if_neg e]
      refine ⟨K1 + 1, fun k hk => ?_⟩
      obtain ⟨k, rfl⟩ : ∃ q, k = q + 1 := ⟨k - 1, by omega⟩
      simp only [impl_CountFitting.l0, hw]
      rw [if_pos (by omega), if_pos (by omega), if_pos (by omega), Int.toNat_natCast, hcat, Option.bind_some]
      simp only [f1 k (by omega), Option.bind_some, if_neg e]
theorem impl_CountFitting_ev (a b c : Int) (line more : List Int) (h1 : line.length ≤ 1048576) : Ev (fun k => impl_CountFitting.f k a b c line more) (countFitting a b c line more) := by
  obtain ⟨K1, f1⟩ := impl_fitsB_ev a b c line (by omega)
  unfold countFitting
  by_cases hf : (measureOk a b c && fitsV a b line) = true
  · have hf2 := hf
    rw [Bool.and_eq_true] at hf2
    by_cases hk : lineOk more = true
    · obtain ⟨K2, f2⟩ := impl_fit_loop a b c line more hf2.1 h1 ((lineOk_iff more).1 hk).1 more.length 0 (by omega)
      rw [if_pos ⟨hf2.1, hf2.2, hk⟩]
      refine ⟨K1 + K2 + 1, fun k hk2 => ?_⟩
      obtain ⟨k, rfl⟩ : ∃ q, k = q + 1 := ⟨k - 1, by omega⟩
      simp only [impl_CountFitting.f, f1 (k + 1) (by omega), hf, Option.bind_some, if_true, impl_LineOk_eq, hk, Bool.not_true, impl_CountFitting.j0, Bool.false_eq_true, if_false]
      exact f2 k (by omega)
    · rw [if_neg (fun h => hk h.2.2)]
      refine ⟨K1 + 1, fun k hk2 => ?_⟩
      obtain ⟨k, rfl⟩ : ∃ q, k = q + 1 := ⟨k - 1, by omega⟩
      simp only [impl_CountFitting.f, f1 (k + 1) (by omega), hf, Option.bind_some, if_true, impl_LineOk_eq, show lineOk more = false by simpa using hk, Bool.not_false, impl_CountFitting.j0]
  · rw [if_neg (fun h => hf (by rw [h.1, h.2.1]; rfl))]
    refine ⟨K1 + 1, fun k hk2 => ?_⟩
    obtain ⟨k, rfl⟩ : ∃ q, k = q + 1 := ⟨k - 1, by omega⟩
    simp only [impl_CountFitting.f, f1 (k + 1) (by omega), if_neg hf, Option.bind_some, impl_CountFitting.j0, if_true]
end Go.Proofs.Ytnkpblbofjchaaa.Q
