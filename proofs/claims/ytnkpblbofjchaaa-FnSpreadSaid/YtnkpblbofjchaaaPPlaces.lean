/- Places of letters: what the program and the reference give. Conditions: those that each lemma names. -/
import Derived.Test.YtnkpblbofjchaaaP0
import Derived.Test.YtnkpblbofjchaaaPMeasure
import Derived.Test.YtnkpblbofjchaaaPSpreadL
import Derived.Test.YtnkpblbofjchaaaPWide
import Derived.Test.YtnkpblbofjchaaaQ3
import Derived.Test.YtnkpblbofjchaaaQ5
import Derived.Test.YtnkpblbofjchaaaQ6
namespace Go.Proofs.Ytnkpblbofjchaaa.Q
open Go.RowKit Go.Proofs.YtnkpblbofjchaaaW.PrintWords Go.Proofs.YtnkpblbofjchaaaW.PrintLast Go.Proofs.YtnkpblbofjchaaaW.PrintMore
set_option linter.unusedVariables false
set_option linter.unusedSimpArgs false
def placesL : Int → List Int → List Int
  | _, [] => []
  | p, w :: ws => p :: placesL (wrap64 (p + w)) ws
/-- PlacesOf. -/
def placesOf (a b c : Int) (l : List Int) : List Int := if measureOk a b c = true then (if fitsV a b l = true then placesL 0 (wideL b (riseOf a b c l) (moreOf a b c l) l) else []) else []
theorem places_impl_loop (b r : Int) (l : List Int) (hl : l.length ≤ 1099511627776) :
    ∀ i (s : Int × Int × List Int), i ≤ l.length → (s.2.2.length ≤ i) → Ev (fun k => impl_PlacesOf.l0 k (bandsL b r s.1 (l.drop i)) s.2.2 s.2.1 l (l.length : Int) (i : Int)) (s.2.2 ++ placesL s.2.1 (wideL b r s.1 (l.drop i))) := by
  have key : ∀ d i (m p : Int) (acc : List Int), l.length - i = d → i ≤ l.length → acc.length ≤ i → Ev (fun k => impl_PlacesOf.l0 k (bandsL b r m (l.drop i)) acc p l (l.length : Int) (i : Int)) (acc ++ placesL p (wideL b r m (l.drop i))) := by
    intro d
    induction d with
    | zero =>
      intro i m p acc hd hi ha
      obtain rfl : i = l.length := by omega
      refine ev_step1 (fun k => ?_)
      simp only [impl_PlacesOf.l0]
      rw [if_neg (by omega), List.drop_length, wideL, placesL, List.append_nil]
    | succ d ih =>
      intro i m p acc hd hi ha
      have hi' : i < l.length := by omega
      rw [List.drop_eq_getElem_cons hi']
      simp only [bandsL, wideL]
      by_cases h0 : l[i] = 0
      · by_cases hm : m > 0
        · have h := ih (i + 1) (wrap64 (m - 1)) (wrap64 (p + wrap64 (wrap64 (b + r) + 1))) (acc ++ [p]) (by omega) (by omega) (by simp; omega)
          simp only [if_pos h0, if_pos hm, placesL]
          rw [append_cons1]
          refine Ev.step (fun k => ?_) h
          simp only [impl_PlacesOf.l0]
          rw [if_pos (by omega), if_pos (by omega), if_pos (by omega), if_pos (by omega), Option.bind_some, rd_nat l i hi', if_pos h0, if_pos (by simp only [List.length_cons]; omega), if_pos (by simp only [List.length_cons]; omega), w1 i (by omega)]
          rfl
        · have h := ih (i + 1) m (wrap64 (p + wrap64 (b + r))) (acc ++ [p]) (by omega) (by omega) (by simp; omega)
          simp only [if_pos h0, if_neg hm, placesL]
          rw [append_cons1]
          refine Ev.step (fun k => ?_) h
          simp only [impl_PlacesOf.l0]
          rw [if_pos (by omega), if_pos (by omega), if_pos (by omega), if_pos (by omega), Option.bind_some, rd_nat l i hi', if_pos h0, if_pos (by simp only [List.length_cons]; omega), if_pos (by simp only [List.length_cons]; omega), w1 i (by omega)]
          rfl
      · have h := ih (i + 1) m (wrap64 (p + l[i])) (acc ++ [p]) (by omega) (by omega) (by simp; omega)
        simp only [if_neg h0, placesL]
        rw [append_cons1]
        refine Ev.step (fun k => ?_) h
        simp only [impl_PlacesOf.l0]
        rw [if_pos (by omega), if_pos (by omega), if_pos (by omega), if_pos (by omega), Option.bind_some, rd_nat l i hi', if_neg h0, w1 i (by omega)]
  exact fun i s hi hs => key _ i s.1 s.2.1 s.2.2 rfl hi hs
theorem impl_fits_ev (a b c : Int) (l : List Int) (hl : l.length ≤ 1099511627776) (hm : measureOk a b c = true) : Ev (fun k => impl_fits.f k a b c l) (fitsV a b l) := by
  refine Ev.bind (f := fun k bt => some bt.2.2) (impl_SpreadLine_ev a b c l hl) ?_
  by_cases hf : fitsV a b l = true
  · rw [spreadLine_fits a b c l hm hf, hf]; exact Ev.now _
  · rw [spreadLine_not a b c l hm hf, show fitsV a b l = false from by simpa using hf]; exact Ev.now _
theorem impl_PlacesOf_ev (a b c : Int) (l : List Int) (hl : l.length ≤ 1099511627776) : Ev (fun k => impl_PlacesOf.f k a b c l) (placesOf a b c l) := by
  unfold placesOf
  by_cases hm : measureOk a b c = true
  · rw [if_pos hm]
    refine Ev.bind (f := fun k t => if t = true then ((impl_BandWidths.f k a b c l).bind fun bw => impl_PlacesOf.l0 k bw [] 0 l (l.length : Int) 0) else some []) (impl_fits_ev a b c l hl hm) ?_
    by_cases hf : fitsV a b l = true
    · simp only [if_pos hf]
      have hb := impl_BandWidths_ev a b c l hl
      rw [bandWidths, if_pos hm, if_pos hf] at hb
      have h := places_impl_loop b (riseOf a b c l) l hl 0 (moreOf a b c l, 0, []) (by omega) (Nat.le_refl _)
      rw [List.drop_zero, List.nil_append] at h
      exact Ev.bind (f := fun k bw => impl_PlacesOf.l0 k bw [] 0 l (l.length : Int) 0) hb h
    · simp only [if_neg hf]; exact Ev.now _
  · rw [if_neg hm]
    have h : (spreadLine a b c l).2.2 = false := by rw [spreadLine, if_neg hm]
    obtain ⟨K, hs⟩ := impl_SpreadLine_ev a b c l hl
    refine ⟨K, fun k hk => ?_⟩
    simp only [impl_PlacesOf.f, impl_fits.f, hs k hk, Option.bind_some, h, Bool.false_eq_true, if_false]
end Go.Proofs.Ytnkpblbofjchaaa.Q
