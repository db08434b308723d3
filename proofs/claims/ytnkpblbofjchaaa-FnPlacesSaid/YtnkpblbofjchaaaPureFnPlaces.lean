/- The places are the sums of what stands before, and a line that fits ends within the measure. No conditions beyond those of the statement's reading. -/
import Derived.Test.YtnkpblbofjchaaaP0
import Derived.Test.YtnkpblbofjchaaaPDrawL
import Derived.Test.YtnkpblbofjchaaaPLine
import Derived.Test.YtnkpblbofjchaaaPMeasure
import Derived.Test.YtnkpblbofjchaaaPPlaces
import Derived.Test.YtnkpblbofjchaaaPSpread
import Derived.Test.YtnkpblbofjchaaaPSpreadL
import Derived.Test.YtnkpblbofjchaaaPWide
import Derived.Test.YtnkpblbofjchaaaQ7
namespace Go.Proofs.Ytnkpblbofjchaaa.Pure
open Go.RowKit Go.Proofs.Ytnkpblbofjchaaa.Q Go.Proofs.YtnkpblbofjchaaaW.PrintWords Go.Proofs.YtnkpblbofjchaaaW.PrintLast Go.Proofs.YtnkpblbofjchaaaW.PrintMore
set_option linter.unusedVariables false
set_option linter.unusedSimpArgs false
theorem bandsL_bands (b r : Int) : ∀ (l : List Int) (m : Int), (bandsL b r m l).length = bandsN l
  | [], m => rfl
  | w :: ws, m => by
    have h1 := bandsL_bands b r ws m
    have h2 := bandsL_bands b r ws (wrap64 (m - 1))
    rw [bandsL, bandsN]
    by_cases hw : w = 0
    · rw [if_pos hw, if_pos hw]
      by_cases hm : m > 0
      · rw [if_pos hm, List.length_cons, h2]; omega
      · rw [if_neg hm, List.length_cons, h1]; omega
    · rw [if_neg hw, if_neg hw, h1]; omega
theorem places_walk (a b c s : Int) (l pl bw : List Int) (hl : l.length ≤ 120) (hw : ∀ w ∈ l, 0 ≤ w ∧ w ≤ 60) (ha : a ≤ 2000) (hb : 0 ≤ b) (hs : 0 ≤ s) (hbs : b + s ≤ 300) (hpl : pl.length = l.length) (hbl : bw.length ≤ 120) :
    ∀ d i (p m : Int) (j : Nat), l.length - i = d → i ≤ l.length → 0 ≤ p → 0 ≤ m → p + lettersN (l.drop i) + (bandsN (l.drop i) : Int) * (b + s) + m ≤ a →
      pl.drop i = placesL p (wideL b s m (l.drop i)) → bw.drop j = bandsL b s m (l.drop i) → j ≤ bw.length →
      Ev (fun k => laws_FnPlaces.l0 k pl bw p (j : Int) l (l.length : Int) (i : Int) a b c) true := by
  have e1 : wrap64 (b + s) = b + s := wrap_id _ (by omega) (by omega)
  have e2 : wrap64 (b + s + 1) = b + s + 1 := wrap_id _ (by omega) (by omega)
  intro d
  induction d with
  | zero =>
    intro i p m j hd hi hp hm hsum h1 h2 hj
    obtain rfl : i = l.length := by omega
    rw [List.drop_length] at hsum
    simp only [lettersN, bandsN] at hsum
    refine ev_step1 (fun k => ?_)
    simp only [laws_FnPlaces.l0]
    rw [if_neg (by omega), decide_eq_true (by omega)]
  | succ d ih =>
    intro i p m j hd hi hp hm hsum h1 h2 hj
    have hi' : i < l.length := by omega
    have hwi := hw l[i] (List.getElem_mem hi')
    have hrest := lettersN_range (l.drop (i + 1)) (fun w h => hw w (List.mem_of_mem_drop h))
    have hmul := Int.mul_nonneg (show (0 : Int) ≤ (bandsN (l.drop (i + 1)) : Int) by omega) (show (0 : Int) ≤ b + s by omega)
    rw [List.drop_eq_getElem_cons hi'] at hsum h1 h2
    rw [List.drop_eq_getElem_cons (show i < pl.length by omega)] at h1
    simp only [lettersN, bandsN] at hsum
    simp only [wideL] at h1
    simp only [bandsL] at h2
    by_cases hz : l[i] = 0
    · simp only [if_pos hz] at hsum h1 h2
      rw [show (((1 + bandsN (l.drop (i + 1)) : Nat) : Int)) = 1 + (bandsN (l.drop (i + 1)) : Int) by omega, Int.add_mul, Int.one_mul] at hsum
      have hjl : j < bw.length := by
        have := congrArg List.length h2
        split at this <;> simp only [List.length_cons, List.length_drop] at this <;> omega
      rw [List.drop_eq_getElem_cons hjl] at h2
      by_cases hmp : m > 0
      · simp only [if_pos hmp, placesL, List.cons.injEq, e1, e2] at h1 h2
        have e3 : wrap64 (m - 1) = m - 1 := wrap_id _ (by omega) (by omega)
        have e4 : wrap64 (p + (b + s + 1)) = p + (b + s + 1) := wrap_id _ (by omega) (by omega)
        rw [e3, e4] at h1
        rw [e3] at h2
        have h := ih (i + 1) (p + (b + s + 1)) (m - 1) (j + 1) (by omega) (by omega) (by omega) (by omega) (by omega) h1.2 h2.2 (by omega)
        refine Ev.step (fun k => ?_) h
        simp only [laws_FnPlaces.l0]
        rw [if_pos (by omega), if_pos (by omega), if_pos (by omega), if_pos (by omega), rd_nat pl i (by omega), h1.1, if_pos rfl, rd_nat l i hi', if_pos hz, if_pos (by omega), if_pos (by omega), rd_nat bw j hjl, h2.1, e4, w1 j (by omega), w1 i (by omega)]
      · simp only [if_neg hmp, placesL, List.cons.injEq, e1, e2] at h1 h2
        have e4 : wrap64 (p + (b + s)) = p + (b + s) := wrap_id _ (by omega) (by omega)
        rw [e4] at h1
        have h := ih (i + 1) (p + (b + s)) m (j + 1) (by omega) (by omega) (by omega) (by omega) (by omega) h1.2 h2.2 (by omega)
        refine Ev.step (fun k => ?_) h
        simp only [laws_FnPlaces.l0]
        rw [if_pos (by omega), if_pos (by omega), if_pos (by omega), if_pos (by omega), rd_nat pl i (by omega), h1.1, if_pos rfl, rd_nat l i hi', if_pos hz, if_pos (by omega), if_pos (by omega), rd_nat bw j hjl, h2.1, e4, w1 j (by omega), w1 i (by omega)]
    · simp only [if_neg hz, placesL, List.cons.injEq] at hsum h1 h2
      rw [Nat.zero_add] at hsum
      have e4 : wrap64 (p + l[i]) = p + l[i] := wrap_id _ (by omega) (by omega)
      rw [e4] at h1
      have h := ih (i + 1) (p + l[i]) m j (by omega) (by omega) (by omega) (by omega) (by omega) h1.2 h2 hj
      refine Ev.step (fun k => ?_) h
      simp only [laws_FnPlaces.l0]
      rw [if_pos (by omega), if_pos (by omega), if_pos (by omega), if_pos (by omega), rd_nat pl i (by omega), h1.1, if_pos rfl, rd_nat l i hi', if_neg hz, e4, w1 i (by omega)]
theorem FnPlaces : laws_FnPlaces.Pure := by
  intro l hm hm2 hw
  by_cases hlen : (l.length : Int) > 1048576
  · exact ⟨0, by simp only [laws_FnPlaces.f, if_pos hlen]⟩
  obtain ⟨a, b, c, r, ⟨K1, h1⟩, hr⟩ := drawPlaces_ok l (by omega)
  obtain ⟨K2, h2⟩ := impl_PlacesOf_ev a b c r (by omega)
  obtain ⟨K3, h3⟩ := spec_SpreadLine_ev a b c r (by omega)
  obtain ⟨K4, h4⟩ := impl_BandWidths_ev a b c r (by omega)
  obtain ⟨K5, h5⟩ := count_ev r (by omega)
  by_cases hmo : measureOk a b c = true ∧ fitsV a b r = true
  · obtain ⟨hmo, hf⟩ := hmo
    obtain ⟨m1, m2, m3, m4, m5, m6⟩ := (measureOk_iff a b c).1 hmo
    obtain ⟨hk, hle⟩ : lineOk r = true ∧ lettersN r + bandsN r * b ≤ a := by simpa [fitsV] using hf
    obtain ⟨k1, k2⟩ := (lineOk_iff r).1 hk
    have hri := riseV_facts (c - b) (a - lettersN r - bandsN r * b) (bandsN r) (by omega) (by omega) (by omega)
    have hri2 : 0 ≤ riseOf a b c r ∧ riseOf a b c r ≤ c - b := ⟨hri.1, hri.2.1⟩
    have hmr := moreOf_range a b c r hmo hf
    have hmore : moreOf a b c r ≤ restOf a b c r := by
      have := restOf_range a b c r hmo hf
      unfold moreOf; split <;> omega
    have epl : placesOf a b c r = placesL 0 (wideL b (riseOf a b c r) (moreOf a b c r) r) := by rw [placesOf, if_pos hmo, if_pos hf]
    have ebw : bandWidths a b c r = bandsL b (riseOf a b c r) (moreOf a b c r) r := by rw [bandWidths, if_pos hmo, if_pos hf]
    have lpl : (placesOf a b c r).length = r.length := by rw [epl, placesL_length, wideL_length]
    have lbw : (bandWidths a b c r).length = bandsN r := by rw [ebw, bandsL_bands]
    have hbn := bandsN_le r
    obtain ⟨K6, h6⟩ := places_walk a b c (riseOf a b c r) r (placesOf a b c r) (bandWidths a b c r) k1 k2 m2 (by omega) hri2.1 (by omega) lpl (by omega) r.length 0 0 (moreOf a b c r) 0 rfl (by omega) (by omega) hmr.1 (by
      rw [List.drop_zero, Int.mul_add]
      have : restOf a b c r = a - lettersN r - bandsN r * b - bandsN r * riseOf a b c r := rfl
      omega) (by rw [List.drop_zero, List.drop_zero, epl]) (by rw [List.drop_zero, List.drop_zero, ebw]) (by omega)
    generalize hK : K1 + K2 + K3 + K4 + K5 + K6 = K
    have g1 := fun j => h1 (K + j) (by omega)
    have g2 := fun j => h2 (K + j) (by omega)
    have g3 := fun j => h3 (K + j) (by omega)
    have g4 := fun j => h4 (K + j) (by omega)
    have g5 := fun j => h5 (K + j) (by omega)
    have g6 := fun j => h6 (K + j) (by omega)
    refine ⟨K + 9, ?_⟩
    simp only [laws_FnPlaces.f, if_neg hlen, g1, g2, g3, g4, g5, Option.bind_some, spreadLine_fits a b c r hmo hf, if_true, lpl, lbw, bne_self_eq_false]
    simp only [laws_FnPlaces.j0, Bool.false_eq_true, if_false]
    exact g6 8
  · have hs : (spreadLine a b c r).2.2 = false := by
      by_cases hm1 : measureOk a b c = true
      · exact spreadLine_not a b c r hm1 (fun h => hmo ⟨hm1, h⟩)
      · rw [spreadLine, if_neg hm1]
    have epl : placesOf a b c r = [] := by
      rw [placesOf]
      by_cases hm1 : measureOk a b c = true
      · rw [if_pos hm1, if_neg (fun h => hmo ⟨hm1, h⟩)]
      · rw [if_neg hm1]
    have ebw : bandWidths a b c r = [] := by
      rw [bandWidths]
      by_cases hm1 : measureOk a b c = true
      · rw [if_pos hm1, if_neg (fun h => hmo ⟨hm1, h⟩)]
      · rw [if_neg hm1]
    rw [epl] at h2
    rw [ebw] at h4
    generalize hK : K1 + K2 + K3 + K4 = K
    have g1 := fun j => h1 (K + j) (by omega)
    have g2 := fun j => h2 (K + j) (by omega)
    have g3 := fun j => h3 (K + j) (by omega)
    have g4 := fun j => h4 (K + j) (by omega)
    refine ⟨K + 9, ?_⟩
    simp only [laws_FnPlaces.f, if_neg hlen, g1, g2, g3, g4, Option.bind_some, hs, Bool.false_eq_true, if_false]
    rfl
end Go.Proofs.Ytnkpblbofjchaaa.Pure
