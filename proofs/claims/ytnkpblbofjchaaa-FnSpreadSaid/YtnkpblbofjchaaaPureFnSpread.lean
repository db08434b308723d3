/- A full line is as wide as its measure, and its bands differ by at most 1. No conditions beyond those of the statement's reading. -/
import Derived.Test.YtnkpblbofjchaaaP0
import Derived.Test.YtnkpblbofjchaaaPDrawL
import Derived.Test.YtnkpblbofjchaaaPFull
import Derived.Test.YtnkpblbofjchaaaPKind
import Derived.Test.YtnkpblbofjchaaaPLine
import Derived.Test.YtnkpblbofjchaaaPMeasure
import Derived.Test.YtnkpblbofjchaaaPPlaces
import Derived.Test.YtnkpblbofjchaaaPSpread
import Derived.Test.YtnkpblbofjchaaaPSpreadL
import Derived.Test.YtnkpblbofjchaaaPTurn
import Derived.Test.YtnkpblbofjchaaaPWide
import Derived.Test.YtnkpblbofjchaaaQ1
import Derived.Test.YtnkpblbofjchaaaQ2
import Derived.Test.YtnkpblbofjchaaaQ3
import Derived.Test.YtnkpblbofjchaaaQ5
import Derived.Test.YtnkpblbofjchaaaQ6
import Derived.Test.YtnkpblbofjchaaaQ7
import Derived.Test.YtnkpblbofjchaaaQ8
namespace Go.Proofs.Ytnkpblbofjchaaa.Pure
open Go.RowKit Go.Proofs.Ytnkpblbofjchaaa.Q Go.Proofs.YtnkpblbofjchaaaW.PrintWords Go.Proofs.YtnkpblbofjchaaaW.PrintLast Go.Proofs.YtnkpblbofjchaaaW.PrintMore
set_option linter.unusedVariables false
set_option linter.unusedSimpArgs false
theorem bands_at (q n : Nat) (s : Int) (hq : q ≤ n) (i : Nat) (h : i < (List.replicate q (s + 1) ++ List.replicate (n - q) s).length) : (List.replicate q (s + 1) ++ List.replicate (n - q) s)[i] = if i < q then s + 1 else s := by
  rw [List.getElem_append]
  by_cases e : i < q
  · rw [dif_pos (by simpa using e), if_pos e]; simp
  · rw [dif_neg (by simpa using e), if_neg e]; simp
theorem spread_walk (a b c rise rest : Int) (line B : List Int) (full : Bool) (q n : Nat) (hm : measureOk a b c = true) (hk : lineOk line = true) (hq : q ≤ n) (hn : n ≤ 120) (h0 : 0 ≤ rise) (h1 : rise ≤ c - b) (h2 : 0 ≤ rest) (h3 : rest ≤ 2000) (hB : B = List.replicate q (b + rise + 1) ++ List.replicate (n - q) (b + rise))
    (hfull : full = (if rest = 0 then true else decide (rest < n))) (hqf : full = true → (q : Int) = rest) (hqn : full = false → q = 0) (hor : full = true ∨ rise = c - b ∨ n = 0) (hsum : lettersN line + n * (b + rise) + rest = a) :
    ∀ d i, i + d = n → Ev (fun k => laws_FnSpread.l0 k line rise rest B full (if full = true then 0 else rest) B (n : Int) (i : Int) a b c) true := by
  obtain ⟨m1, m2, m3, m4, m5, m6⟩ := (measureOk_iff a b c).1 hm
  have hlen : B.length = n := by rw [hB]; simp; omega
  have es : wrap64 (b + rise) = b + rise := wrap_id _ (by omega) (by omega)
  have es1 : wrap64 (b + rise + 1) = b + rise + 1 := wrap_id _ (by omega) (by omega)
  have ec : wrap64 (c - b) = c - b := wrap_id _ (by omega) (by omega)
  have hat : ∀ i (h : i < B.length), B[i] = if i < q then b + rise + 1 else b + rise := by
    subst hB
    exact bands_at q n (b + rise) hq
  intro d
  induction d with
  | zero =>
    intro i hi
    obtain ⟨k1, k2⟩ := (lineOk_iff line).1 hk
    obtain ⟨K1, f1⟩ := total_evG line (by omega) (fun w hw => by have := k2 w hw; omega)
    have hBw : ∀ w ∈ B, 0 ≤ w ∧ w ≤ 1000 := by
      intro w hw
      obtain ⟨j, hj, rfl⟩ := List.getElem_of_mem hw
      rw [hat j hj]
      split <;> omega
    obtain ⟨K2, f2⟩ := total_evG B (by omega) hBw
    have hsB : lettersN B = n * (b + rise) + q := by
      rw [hB, lettersN_append, lettersN_replicate, lettersN_replicate, show ((n - q : Nat) : Int) = (n : Int) - q by omega, Int.mul_add, Int.sub_mul, Int.mul_one]
      omega
    have hlr := lettersN_range line k2
    have hmul : 0 ≤ (n : Int) * (b + rise) := Int.mul_nonneg (by omega) (by omega)
    refine ⟨K1 + K2 + 1, fun k hk' => ?_⟩
    obtain ⟨k, rfl⟩ : ∃ z, k = z + 1 := ⟨k - 1, by omega⟩
    replace f1 : laws_total.f k line = some (lettersN line) := f1 k (by omega)
    replace f2 : laws_total.f k B = some (lettersN B) := f2 k (by omega)
    simp only [laws_FnSpread.l0]
    rw [if_neg (by omega), f1, Option.bind_some, f2, Option.bind_some, hsB, ec, hlen]
    by_cases hz : rest = 0
    · have ef : full = true := by rw [hfull, if_pos hz]
      have := hqf ef
      rw [ef, if_pos rfl, wrap_id (lettersN line + (n * (b + rise) + q)) (by omega) (by omega), wrap_id (lettersN line + (n * (b + rise) + q) + 0) (by omega) (by omega), if_pos (by omega), if_pos hz]
      simp
    · rw [if_neg hz] at hfull
      cases full with
      | true =>
        have := hqf rfl
        rw [if_pos rfl, wrap_id (lettersN line + (n * (b + rise) + q)) (by omega) (by omega), wrap_id (lettersN line + (n * (b + rise) + q) + 0) (by omega) (by omega), if_pos (by omega), if_neg hz, ← hfull]
        simp
      | false =>
        have := hqn rfl
        simp only [Bool.false_eq_true, if_false]
        rw [wrap_id (lettersN line + (n * (b + rise) + q)) (by omega) (by omega), wrap_id (lettersN line + (n * (b + rise) + q) + rest) (by omega) (by omega), if_pos (by omega), if_neg hz, ← hfull]
        rcases hor with h | h | h
        · cases h
        · simp [h]
        · by_cases e : rise = c - b
          · simp [e]
          · simp [e, h]
  | succ d ih =>
    intro i hi
    have hi' : i < B.length := by omega
    have h := ih (i + 1) (by omega)
    have hbi := hat i hi'
    have hlo : b + rise ≤ B[i] ∧ B[i] ≤ b + rise + 1 := by rw [hbi]; split <;> omega
    have hnf : full = false → B[i] = b + rise := by
      intro e
      rw [hbi, if_neg (by have := hqn e; omega)]
    refine Ev.step (fun k => ?_) h
    simp only [laws_FnSpread.l0, es, es1]
    rw [if_pos (by omega), if_pos (by omega), if_pos (by omega), rd_nat B i hi', if_neg (by omega), if_neg (by omega), w1 i (by omega)]
    have hrest : (if full = true then laws_FnSpread.l0 k line rise rest B full (if full = true then 0 else rest) B (n : Int) ((i + 1 : Nat) : Int) a b c else if B[i] = b + rise then laws_FnSpread.l0 k line rise rest B full (if full = true then 0 else rest) B (n : Int) ((i + 1 : Nat) : Int) a b c else none) = laws_FnSpread.l0 k line rise rest B full (if full = true then 0 else rest) B (n : Int) ((i + 1 : Nat) : Int) a b c := by
      by_cases e : full = true
      · rw [if_pos e]
      · rw [if_neg e, if_pos (hnf (by simpa using e))]
    by_cases h0' : i = 0
    · rw [if_neg (by omega)]; exact hrest
    · have e2 : wrap64 ((i : Int) - 1) = ((i - 1 : Nat) : Int) := by rw [wrap_id _ (by omega) (by omega)]; omega
      have hmono : B[i] ≤ B[i - 1] := by
        rw [hbi, hat (i - 1) (by omega)]
        repeat' split
        all_goals omega
      rw [e2, if_pos (by omega), if_pos (by omega), if_pos (by omega), rd_nat B (i - 1) (by omega), if_neg (by omega)]
      exact hrest
theorem FnSpread : laws_FnSpread.Pure := by
  intro l hm hm2 hw
  by_cases hlen : (l.length : Int) > 1048576
  · exact Or.inr ⟨0, by simp only [laws_FnSpread.f, if_pos hlen]⟩
  obtain ⟨a, b, c, r, ⟨K1, h1⟩, hr⟩ := drawFull_ok l (by omega)
  obtain ⟨K2, h2⟩ := impl_SpreadLine_ev a b c r (by omega)
  obtain ⟨K3, h3⟩ := impl_BandWidths_ev a b c r (by omega)
  obtain ⟨K4, h4⟩ := impl_IsFull_ev a b c r (by omega)
  obtain ⟨K5, h5⟩ := count_ev r (by omega)
  by_cases hmo : measureOk a b c = true ∧ fitsV a b r = true
  · obtain ⟨hmo, hf⟩ := hmo
    obtain ⟨m1, m2, m3, m4, m5, m6⟩ := (measureOk_iff a b c).1 hmo
    obtain ⟨hk, hle⟩ : lineOk r = true ∧ lettersN r + bandsN r * b ≤ a := by simpa [fitsV] using hf
    obtain ⟨s1, s2, s3, s4⟩ := lsum_line r hk
    obtain ⟨p1, p2, p3, p4, p5, p6, p7, p8, p9⟩ := spread_facts a b c r hmo hf
    have hrr := restOf_range a b c r hmo hf
    have hbl : (bandWidths a b c r).length = bandsN r := by rw [p1]; simp; omega
    have hwalk := spread_walk a b c (riseOf a b c r) (restOf a b c r) r (bandWidths a b c r) (isFullV a b c r) (extraOf a b c r) (bandsN r) hmo hk p2 s4 p3 p4 p5 hrr.2 p1 p6
      (fun e => by rw [p7]; unfold moreOf; rw [if_pos e]) (fun e => by have : moreOf a b c r = 0 := by unfold moreOf; rw [e]; rfl
                                                                       omega) p8 p9 (bandsN r) 0 (by omega)
    obtain ⟨K6, h6⟩ := hwalk
    refine Or.inr ⟨K1 + K2 + K3 + K4 + K5 + K6 + 2, ?_⟩
    generalize hK : K1 + K2 + K3 + K4 + K5 + K6 = K
    have g1 : spec_DrawIsFull.f (K + 2) l = some (a, b, c, r) := h1 _ (by omega)
    have g2 : impl_SpreadLine.f (K + 2) a b c r = some (spreadLine a b c r) := h2 _ (by omega)
    have g3 : impl_BandWidths.f (K + 2) a b c r = some (bandWidths a b c r) := h3 _ (by omega)
    have g4 : impl_IsFull.f (K + 1) a b c r = some (isFullV a b c r) := h4 _ (by omega)
    have g5 : laws_count.f (K + 2) r 0 = some (bandsN r : Int) := h5 _ (by omega)
    have ec : wrap64 (c - b) = c - b := wrap_id _ (by omega) (by omega)
    have g6 := h6 K (by omega)
    simp only [laws_FnSpread.f, if_neg hlen, g1, g2, g3, g5, Option.bind_some, spreadLine_fits a b c r hmo hf, if_true, ec, hbl, bne_self_eq_false]
    rw [if_neg (by omega), if_neg (by omega), if_neg (by omega)]
    simp only [laws_FnSpread.j0, Bool.false_eq_true, if_false, g4, Option.bind_some]
    by_cases e : isFullV a b c r = true
    · rw [if_pos e]
      simp only [laws_FnSpread.j1, hbl]
      rw [if_pos e] at g6
      exact g6
    · rw [if_neg e]
      simp only [laws_FnSpread.j1, hbl]
      rw [if_neg e] at g6
      exact g6
  · have hs : (spreadLine a b c r).2.2 = false := by
      by_cases hm1 : measureOk a b c = true
      · exact spreadLine_not a b c r hm1 (fun h => hmo ⟨hm1, h⟩)
      · rw [spreadLine, if_neg hm1]
    have epl : placesOf a b c r = [] := by
      rw [placesOf]
      by_cases hm1 : measureOk a b c = true
      · rw [if_pos hm1, if_neg (fun h => hmo ⟨hm1, h⟩)]
      · rw [if_neg hm1]
    have ebw : bandWidths a b c r = [] := by
      rw [bandWidths]
      by_cases hm1 : measureOk a b c = true
      · rw [if_pos hm1, if_neg (fun h => hmo ⟨hm1, h⟩)]
      · rw [if_neg hm1]
    have efl : isFullV a b c r = false := by unfold isFullV fullOf; rw [hs]; rfl
    obtain ⟨K7, h7⟩ := impl_PlacesOf_ev a b c r (by omega)
    obtain ⟨K8, h8⟩ := spec_LineOk_ev r (by omega)
    by_cases hk : lineOk r = true
    case neg =>
      refine Or.inl ⟨K1 + K2 + K3 + K4 + K7 + K8, ?_⟩
      generalize hK : K1 + K2 + K3 + K4 + K7 + K8 = K
      have g1 : spec_DrawIsFull.f K l = some (a, b, c, r) := h1 _ (by omega)
      have g2 : impl_SpreadLine.f K a b c r = some (spreadLine a b c r) := h2 _ (by omega)
      have g3 : impl_BandWidths.f K a b c r = some [] := by rw [← ebw]; exact h3 _ (by omega)
      have g4 : impl_IsFull.f K a b c r = some false := by rw [← efl]; exact h4 _ (by omega)
      have g7 : impl_PlacesOf.f K a b c r = some [] := by rw [← epl]; exact h7 _ (by omega)
      have g8 : spec_LineOk.f K r = some false := by rw [show false = lineOk r by simpa using hk]; exact h8 _ (by omega)
      simp only [laws_FnSpread_f.f, if_neg hlen, g1, g2, g3, g4, g7, g8, Option.bind_some, hs, Bool.false_eq_true, if_false, spec_MeasureOk_eq, List.length_nil]
      by_cases hm1 : measureOk a b c = true
      · rw [if_pos hm1]; rfl
      · rw [if_neg hm1]; rfl
    obtain ⟨s1, s2, s3, s4⟩ := lsum_line r hk
    obtain ⟨k1, k2⟩ := (lineOk_iff r).1 hk
    obtain ⟨K9, h9⟩ := total_evG r (by omega) (fun w hw => by have := k2 w hw; omega)
    refine Or.inl ⟨K1 + K2 + K3 + K4 + K5 + K7 + K8 + K9, ?_⟩
    generalize hK : K1 + K2 + K3 + K4 + K5 + K7 + K8 + K9 = K
    have g1 : spec_DrawIsFull.f K l = some (a, b, c, r) := h1 _ (by omega)
    have g2 : impl_SpreadLine.f K a b c r = some (spreadLine a b c r) := h2 _ (by omega)
    have g3 : impl_BandWidths.f K a b c r = some [] := by rw [← ebw]; exact h3 _ (by omega)
    have g4 : impl_IsFull.f K a b c r = some false := by rw [← efl]; exact h4 _ (by omega)
    have g7 : impl_PlacesOf.f K a b c r = some [] := by rw [← epl]; exact h7 _ (by omega)
    have g8 : spec_LineOk.f K r = some true := by rw [← hk]; exact h8 _ (by omega)
    have g9 : laws_total.f K r = some (lettersN r) := h9 _ (by omega)
    have g5 : laws_count.f K r 0 = some (bandsN r : Int) := h5 _ (by omega)
    simp only [laws_FnSpread_f.f, if_neg hlen, g1, g2, g3, g4, g5, g7, g8, g9, Option.bind_some, hs, Bool.false_eq_true, if_false, spec_MeasureOk_eq, List.length_nil, if_true]
    by_cases hm1 : measureOk a b c = true
    · obtain ⟨m1, m2, m3, m4, m5, m6⟩ := (measureOk_iff a b c).1 hm1
      have hb := mul_bound (bandsN r) b 120 100 (by omega) (by omega) (by omega) m4
      have hgt : ¬ (lettersN r + bandsN r * b ≤ a) := fun h => hmo ⟨hm1, by simp [fitsV, hk, h]⟩
      rw [if_pos hm1, wrap_id ((bandsN r : Int) * b) (by omega) (by omega), wrap_id (lettersN r + (bandsN r : Int) * b) (by omega) (by omega), decide_eq_true (by omega)]
      rfl
    · rw [if_neg hm1]; rfl
end Go.Proofs.Ytnkpblbofjchaaa.Pure
