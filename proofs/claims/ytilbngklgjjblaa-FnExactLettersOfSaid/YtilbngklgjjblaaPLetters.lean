/- The letters of matrices: what the program's and the reference's LettersOf give. Conditions: those that each lemma names. -/
import Derived.Test.YtilbngklgjjblaaP0
import Derived.Test.YtilbngklgjjblaaPFont
import Derived.Test.YtilbngklgjjblaaPMagazine
import Derived.Test.YtilbngklgjjblaaPMatrix
import Derived.Test.YtilbngklgjjblaaPMats
import Derived.Test.YtilbngklgjjblaaQ0
import Derived.Test.YtilbngklgjjblaaQ4
import Derived.Test.YtilbngklgjjblaaQ6
namespace Go.Proofs.Ytilbngklgjjblaa.Q
open Go.RowKit Go.Proofs.YtilbngklgjjblaaW.PrintWords Go.Proofs.YtilbngklgjjblaaW.PrintLast Go.Proofs.YtilbngklgjjblaaW.PrintMore
set_option linter.unusedVariables false
set_option linter.unusedSimpArgs false
theorem ba_ext (a b : ByteArray) (h : a.data.toList = b.data.toList) : a = b := by
  cases a; cases b
  rw [Array.toList_inj] at h
  exact congrArg _ h
theorem cat_one (a : ByteArray) (ns : List Int) (k : Nat) (hk : k < a.size) : strOfNums ns ++ a.extract k (k + 1) = strOfNums (ns ++ [bt a (k : Int)]) := by
  obtain ⟨y, hy, hb⟩ := bt_get a k hk
  apply ba_ext
  rw [ByteArray.toList_data_append, strOfNums_data, strOfNums_data, List.map_append, hb]
  congr 1
  rw [ByteArray.data_extract, Array.toList_extract, List.extract_eq_take_drop]
  obtain ⟨h1, h2⟩ := List.getElem?_eq_some_iff.1 hy
  rw [show k + 1 - k = 1 by omega, List.drop_eq_getElem_cons h1, h2, List.take_succ_cons, List.take_zero]
  simp
/-- The letters; none where something is no matrix of a font. -/
def lettersOf (a : ByteArray) (ws cs : List Int) (l : List S30) : ByteArray := if fontB a ws cs = true ∧ (l.all fun x => matB a cs x.f0 x.f1) = true then strOfNums (l.map fun x => bt a x.f0) else strOfNums []
theorem matB_range (a : ByteArray) (cs : List Int) (kind teeth : Int) (h : matB a cs kind teeth = true) : 0 ≤ kind ∧ kind < a.size := by
  unfold matB at h
  simp only [Bool.and_eq_true, decide_eq_true_eq] at h
  exact ⟨h.1.1.1, h.1.1.2⟩
theorem spec_letters_loop (a : ByteArray) (ws cs : List Int) (l : List S30) (hl : l.length ≤ 1048576) (hf : fontB a ws cs = true) (hc : cs.length ≤ 1099511627776) : ∀ d i (ns : List Int), i + d = l.length → ns.length = i →
    Ev (fun k => spec_LettersOf.l0 k (strOfNums ns) l (l.length : Int) (i : Int) a ws cs) (if ((l.drop i).all fun x => matB a cs x.f0 x.f1) = true then strOfNums (ns ++ (l.drop i).map fun x => bt a x.f0) else strOfNums []) := by
  obtain ⟨_, l2, _, l4⟩ := fontB_len a ws cs hf
  intro d
  induction d with
  | zero =>
    intro i ns hi hn
    rw [List.drop_eq_nil_of_le (by omega)]
    refine ev_step1 (fun k => ?_)
    simp only [spec_LettersOf.l0]
    rw [if_neg (by omega)]
    simp
  | succ d ih =>
    intro i ns hi hn
    have hi' : i < l.length := by omega
    rw [List.drop_eq_getElem_cons hi', List.all_cons, List.map_cons]
    obtain ⟨K1, f1⟩ := spec_MatrixOk_ev a ws cs l[i].f0 l[i].f1 hc
    unfold matrixOk at f1
    rw [hf, Bool.true_and] at f1
    cases hm : matB a cs l[i].f0 l[i].f1 with
    | true =>
      obtain ⟨h0, h1⟩ := matB_range a cs _ _ hm
      obtain ⟨q, hq⟩ : ∃ q : Nat, l[i].f0 = (q : Int) := ⟨l[i].f0.toNat, by omega⟩
      have hqa : q < a.size := by omega
      obtain ⟨K2, f2⟩ := ih (i + 1) (ns ++ [bt a l[i].f0]) (by omega) (by simp only [List.length_append, List.length_singleton]; omega)
      have hw : wrap64 ((q : Int) + 1) = ((q + 1 : Nat) : Int) := w1 q (by omega)
      have hsz : (strOfNums ns).size + (a.extract q (q + 1)).size ≤ 9223372036854775807 := by
        rw [strOfNums_size, ByteArray.size_extract]; omega
      rw [Bool.true_and]
      refine ⟨K1 + K2 + 1, fun k hk => ?_⟩
      obtain ⟨k, rfl⟩ : ∃ m, k = m + 1 := ⟨k - 1, by omega⟩
      have g2 := f2 k (by omega)
      rw [List.append_assoc, List.singleton_append] at g2
      simp only [spec_LettersOf.l0, rd30_nat l i hi', f1 k (by omega), hm, Option.bind_some, if_true, w1 i (show i ≤ 4611686018427387904 by omega)]
      rw [hq] at g2 ⊢
      rw [if_pos (by omega), if_pos (by omega), if_pos (by omega), if_pos (by omega), hw, if_pos (by omega), if_pos (by omega), Int.toNat_natCast, Int.toNat_natCast, if_pos hsz, cat_one a ns q hqa]
      exact g2
    | false =>
      rw [Bool.false_and, if_neg (by decide)]
      refine ⟨K1 + 1, fun k hk => ?_⟩
      obtain ⟨k, rfl⟩ : ∃ m, k = m + 1 := ⟨k - 1, by omega⟩
      simp only [spec_LettersOf.l0, rd30_nat l i hi', f1 k (by omega), hm, Option.bind_some, Bool.false_eq_true, if_false]
      rw [if_pos (by omega), if_pos (by omega), if_pos (by omega)]
      rfl
theorem spec_LettersOf_ev (a : ByteArray) (ws cs : List Int) (l : List S30) (hl : l.length ≤ 1048576) (hc : cs.length ≤ 1099511627776) : Ev (fun k => spec_LettersOf.f k a ws cs l) (lettersOf a ws cs l) := by
  unfold lettersOf
  by_cases hf : fontB a ws cs = true
  · have h := spec_letters_loop a ws cs l hl hf hc l.length 0 [] (by omega) rfl
    rw [List.drop_zero, List.nil_append] at h
    by_cases hm : (l.all fun x => matB a cs x.f0 x.f1) = true
    · rw [if_pos hm] at h
      rw [if_pos ⟨hf, hm⟩]
      exact h
    · rw [if_neg hm] at h
      rw [if_neg (fun h => hm h.2)]
      exact h
  · rw [if_neg (fun h => hf h.1)]
    cases l with
    | nil =>
      refine ev_step1 (fun k => ?_)
      simp only [spec_LettersOf.f, spec_LettersOf.l0]
      rw [if_neg (by simp)]
      rfl
    | cons x r =>
      obtain ⟨K1, f1⟩ := spec_MatrixOk_ev a ws cs x.f0 x.f1 hc
      unfold matrixOk at f1
      rw [show fontB a ws cs = false by simpa using hf, Bool.false_and] at f1
      refine ⟨K1 + 1, fun k hk => ?_⟩
      obtain ⟨k, rfl⟩ : ∃ m, k = m + 1 := ⟨k - 1, by omega⟩
      have hr : rd_T30 (x :: r) 0 = x := by simp [rd_T30]
      simp only [spec_LettersOf.f, spec_LettersOf.l0, hr, f1 k (by omega), Option.bind_some, Bool.false_eq_true, if_false]
      rw [if_pos (by simp), if_pos (by omega), if_pos (by simp)]
      rfl
theorem impl_letters_loop (a : ByteArray) (ws cs : List Int) (l : List S30) (hl : l.length ≤ 1048576) (hm : (l.all fun x => matB a cs x.f0 x.f1) = true) : ∀ d i (ns : List Int), i + d = l.length → ns.length = i →
    Ev (fun k => impl_LettersOf.l0 k ns l (l.length : Int) (i : Int) a ws cs) (strOfNums (ns ++ (l.drop i).map fun x => bt a x.f0)) := by
  intro d
  induction d with
  | zero =>
    intro i ns hi hn
    rw [List.drop_eq_nil_of_le (by omega)]
    refine ev_step1 (fun k => ?_)
    simp only [impl_LettersOf.l0]
    rw [if_neg (by omega)]
    simp
  | succ d ih =>
    intro i ns hi hn
    have hi' : i < l.length := by omega
    obtain ⟨h0, h1⟩ := matB_range a cs _ _ (List.all_eq_true.1 hm l[i] (List.getElem_mem hi'))
    have h := ih (i + 1) (ns ++ [bt a l[i].f0]) (by omega) (by simp only [List.length_append, List.length_singleton]; omega)
    rw [List.append_assoc, List.singleton_append] at h
    rw [List.drop_eq_getElem_cons hi', List.map_cons]
    refine Ev.step (fun k => ?_) h
    simp only [impl_LettersOf.l0, rd30_nat l i hi']
    rw [if_pos (by omega), if_pos (by omega), if_pos (by omega), if_pos h0, if_pos h1, if_pos (by omega), w1 i (by omega)]
theorem impl_LettersOf_ev (a : ByteArray) (ws cs : List Int) (l : List S30) (hl : l.length ≤ 1048576) (hc : cs.length ≤ 1099511627776) : Ev (fun k => impl_LettersOf.f k a ws cs l) (lettersOf a ws cs l) := by
  unfold lettersOf
  obtain ⟨K1, f1⟩ := impl_FontOk_ev a ws cs hc
  by_cases hf : fontB a ws cs = true
  · obtain ⟨_, l2, _, l4⟩ := fontB_len a ws cs hf
    have he := impl_allOf_eq a ws cs l l4
    by_cases hm : (l.all fun x => matB a cs x.f0 x.f1) = true
    · rw [if_pos ⟨hf, hm⟩]
      obtain ⟨K2, f2⟩ := impl_letters_loop a ws cs l hl hm l.length 0 [] (by omega) rfl
      rw [List.drop_zero, List.nil_append] at f2
      refine ⟨K1 + K2 + 1, fun k hk => ?_⟩
      obtain ⟨k, rfl⟩ : ∃ m, k = m + 1 := ⟨k - 1, by omega⟩
      simp only [impl_LettersOf.f, f1 (k + 1) (by omega), hf, he, hm, Option.bind_some, if_true, Bool.not_true, impl_LettersOf.j0, Bool.false_eq_true, if_false]
      exact f2 k (by omega)
    · rw [if_neg (fun h => hm h.2)]
      refine ⟨K1 + 1, fun k hk => ?_⟩
      obtain ⟨k, rfl⟩ : ∃ m, k = m + 1 := ⟨k - 1, by omega⟩
      simp only [impl_LettersOf.f, f1 (k + 1) (by omega), hf, he, show (l.all fun x => matB a cs x.f0 x.f1) = false by simpa using hm, Option.bind_some, if_true, Bool.not_false, impl_LettersOf.j0]
      rfl
  · rw [if_neg (fun h => hf h.1)]
    refine ⟨K1 + 1, fun k hk => ?_⟩
    obtain ⟨k, rfl⟩ : ∃ m, k = m + 1 := ⟨k - 1, by omega⟩
    simp only [impl_LettersOf.f, f1 (k + 1) (by omega), show fontB a ws cs = false by simpa using hf, Option.bind_some, Bool.false_eq_true, if_false, impl_LettersOf.j0, if_true]
    rfl
end Go.Proofs.Ytilbngklgjjblaa.Q
