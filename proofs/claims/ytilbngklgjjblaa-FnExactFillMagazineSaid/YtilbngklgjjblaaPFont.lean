/- Fonts: what the program's and the reference's FontOk give, and the statements' helpers over a font. Conditions: those that each lemma names. -/
import Derived.Test.YtilbngklgjjblaaP0
import Derived.Test.YtilbngklgjjblaaPBar
import Derived.Test.YtilbngklgjjblaaPInts
import Derived.Test.YtilbngklgjjblaaPSorts
import Derived.Test.YtilbngklgjjblaaQ1
import Derived.Test.YtilbngklgjjblaaQ5
import Derived.Test.YtilbngklgjjblaaQ6
import Derived.Test.YtilbngklgjjblaaQ7
namespace Go.Proofs.Ytilbngklgjjblaa.Q
open Go.RowKit Go.Proofs.YtilbngklgjjblaaW.PrintWords Go.Proofs.YtilbngklgjjblaaW.PrintLast Go.Proofs.YtilbngklgjjblaaW.PrintMore
set_option linter.unusedVariables false
set_option linter.unusedSimpArgs false
theorem bt_get (a : ByteArray) (j : Nat) (hj : j < a.size) : ∃ y : UInt8, a.data.toList[j]? = some y ∧ bt a (j : Int) = (y.toNat : Int) := by
  refine ⟨a[j]'hj, Lib.data_getElem? a j hj, ?_⟩
  have h := bt_at a (j : Int) (by simpa using hj)
  rw [← h]; simp
theorem dsize (a : ByteArray) : a.data.toList.length = a.size := by rw [Lib.size_eq]
/-- Whether something is a font. -/
def fontB (a : ByteArray) (ws cs : List Int) : Bool := if 1 ≤ a.size ∧ a.size ≤ 40 ∧ ws.length = a.size ∧ cs.length = a.size then letA [] a.data.toList && between ws 1 60 && sortsAll cs else false
theorem fontB_len (a : ByteArray) (ws cs : List Int) (h : fontB a ws cs = true) : 1 ≤ a.size ∧ a.size ≤ 40 ∧ ws.length = a.size ∧ cs.length = a.size := by
  unfold fontB at h
  by_cases e : 1 ≤ a.size ∧ a.size ≤ 40 ∧ ws.length = a.size ∧ cs.length = a.size
  · exact e
  · rw [if_neg e] at h; cases h
theorem impl_FontOk_ev (a : ByteArray) (ws cs : List Int) (hl : cs.length ≤ 1099511627776) : Ev (fun k => impl_FontOk.f k a ws cs) (fontB a ws cs) := by
  unfold fontB
  by_cases c1 : 1 ≤ a.size
  · by_cases c2 : a.size ≤ 40
    · by_cases c3 : ws.length = a.size
      · by_cases c4 : cs.length = a.size
        · rw [if_pos ⟨c1, c2, c3, c4⟩]
          by_cases c5 : letA [] a.data.toList = true
          · by_cases c6 : between ws 1 60 = true
            · rw [c5, c6, Bool.true_and, Bool.true_and]
              refine ev_eq (impl_SortsAll_ev cs hl) (fun k => ?_)
              unfold impl_FontOk.f
              rw [if_pos c1, if_pos c2, if_pos c3, if_pos c4, if_pos c5, if_pos c6]
            · rw [show between ws 1 60 = false by simpa using c6, Bool.and_false, Bool.false_and]
              refine ev_const (fun k => ?_)
              unfold impl_FontOk.f
              rw [if_pos c1, if_pos c2, if_pos c3, if_pos c4, if_pos c5, if_neg c6]
          · rw [show letA [] a.data.toList = false by simpa using c5, Bool.false_and, Bool.false_and]
            refine ev_const (fun k => ?_)
            unfold impl_FontOk.f
            rw [if_pos c1, if_pos c2, if_pos c3, if_pos c4, if_neg c5]
        · rw [if_neg (fun h => c4 h.2.2.2)]
          refine ev_const (fun k => ?_)
          unfold impl_FontOk.f
          rw [if_pos c1, if_pos c2, if_pos c3, if_neg c4]
      · rw [if_neg (fun h => c3 h.2.2.1)]
        refine ev_const (fun k => ?_)
        unfold impl_FontOk.f
        rw [if_pos c1, if_pos c2, if_neg c3]
    · rw [if_neg (fun h => c2 h.2.1)]
      refine ev_const (fun k => ?_)
      unfold impl_FontOk.f
      rw [if_pos c1, if_neg c2]
  · rw [if_neg (fun h => c1 h.1)]
    refine ev_const (fun k => ?_)
    unfold impl_FontOk.f
    rw [if_neg c1]
theorem font_inner (a : ByteArray) (ws cs : List Int) (n : Int) (i : Nat) (hi : i < a.size) (hs : a.size ≤ 40) (x : UInt8) (hx : a.data.toList[i]? = some x) (hbx : bt a (i : Int) = (x.toNat : Int)) (R : Bool)
    (hR : Ev (fun k => spec_FontOk.l0 k n ((i + 1 : Nat) : Int) a ws cs) R) : ∀ d j, j + d = i → Ev (fun k => spec_FontOk.l1 k n (i : Int) (j : Int) a ws cs) (!((a.data.toList.take i).drop j).contains x && R) := by
  intro d
  induction d with
  | zero =>
    intro j hj
    obtain rfl : j = i := by omega
    rw [List.drop_eq_nil_of_le (by rw [List.length_take]; omega)]
    refine Ev.step (f := fun k => spec_FontOk.l0 k n ((j + 1 : Nat) : Int) a ws cs) (fun k => ?_) (by simpa using hR)
    simp only [spec_FontOk.l1]
    rw [if_neg (by omega), w1 j (by omega)]
  | succ d ih =>
    intro j hj
    have hja : j < a.size := by omega
    obtain ⟨y, hy, hby⟩ := bt_get a j hja
    have hlt : j < (a.data.toList.take i).length := by rw [List.length_take, dsize]; omega
    have hget : (a.data.toList.take i)[j] = y := by
      rw [List.getElem_take]
      obtain ⟨_, h2⟩ := List.getElem?_eq_some_iff.1 hy
      exact h2
    rw [List.drop_eq_getElem_cons hlt, hget, List.contains_cons]
    by_cases e : x = y
    · subst e
      refine ev_step1 (fun k => ?_)
      simp only [spec_FontOk.l1]
      rw [if_pos (by omega), if_pos (by omega), if_pos (by omega), if_pos (by omega), if_pos (by omega), if_pos (by rw [hbx, hby])]
      simp
    · have hne : ¬ bt a (i : Int) = bt a (j : Int) := by
        rw [hbx, hby]
        intro h
        exact e (UInt8.toNat_inj.1 (by omega))
      rw [show (x == y) = false by simpa using e, Bool.false_or]
      refine Ev.step (fun k => ?_) (ih (j + 1) (by omega))
      simp only [spec_FontOk.l1]
      rw [if_pos (by omega), if_pos (by omega), if_pos (by omega), if_pos (by omega), if_pos (by omega), if_neg hne, w1 j (by omega)]
theorem font_loop (a : ByteArray) (ws cs : List Int) (hs : a.size ≤ 40) (hw : ws.length = a.size) : ∀ d i, i + d = a.size → Ev (fun k => spec_FontOk.l0 k (a.size : Int) (i : Int) a ws cs) (letA (a.data.toList.take i) (a.data.toList.drop i) && between (ws.drop i) 1 60) := by
  intro d
  induction d with
  | zero =>
    intro i hi
    rw [List.drop_eq_nil_of_le (by rw [dsize]; omega), List.drop_eq_nil_of_le (by omega), letA]
    refine ev_step1 (fun k => ?_)
    simp only [spec_FontOk.l0]
    rw [if_neg (by omega)]
    rfl
  | succ d ih =>
    intro i hi
    have hia : i < a.size := by omega
    obtain ⟨x, hx, hbx⟩ := bt_get a i hia
    have h := ih (i + 1) (by omega)
    have hwi : i < ws.length := by omega
    rw [letA_step a i hia x hx, List.drop_eq_getElem_cons hwi, show between (ws[i] :: ws.drop (i + 1)) 1 60 = ((decide (1 ≤ ws[i]) && decide (ws[i] ≤ 60)) && between (ws.drop (i + 1)) 1 60) from rfl]
    by_cases d1 : (x.toNat : Int) < 33
    · rw [decide_eq_false (by omega), Bool.false_and, Bool.false_and, Bool.false_and, Bool.false_and]
      refine ⟨2, fun k hk => ?_⟩
      obtain ⟨k, rfl⟩ : ∃ m, k = m + 2 := ⟨k - 2, by omega⟩
      simp only [spec_FontOk.l0, spec_FontOk.j2, hbx, if_true]
      rw [if_pos (by omega), if_pos (by omega), if_pos (by omega), if_pos d1]
    · by_cases d2 : (x.toNat : Int) > 126
      · rw [decide_eq_false (show ¬ (x.toNat : Int) ≤ 126 by omega), Bool.and_false, Bool.false_and, Bool.false_and, Bool.false_and]
        refine ⟨2, fun k hk => ?_⟩
        obtain ⟨k, rfl⟩ : ∃ m, k = m + 2 := ⟨k - 2, by omega⟩
        simp only [spec_FontOk.l0, spec_FontOk.j2, hbx, if_true]
        rw [if_pos (by omega), if_pos (by omega), if_pos (by omega), if_neg d1, if_pos d2]
      · rw [decide_eq_true (show 33 ≤ (x.toNat : Int) by omega), decide_eq_true (show (x.toNat : Int) ≤ 126 by omega), Bool.true_and, Bool.true_and]
        have hinner := font_inner a ws cs (a.size : Int) i hia hs x hx hbx _ h i 0 (by omega)
        rw [List.drop_zero] at hinner
        by_cases d3 : (decide (1 ≤ ws[i]) && decide (ws[i] ≤ 60)) = true
        · rw [d3, Bool.true_and, Bool.and_assoc]
          obtain ⟨K, hK⟩ := hinner
          refine ⟨K + 2, fun k hk => ?_⟩
          obtain ⟨k, rfl⟩ : ∃ m, k = m + 2 := ⟨k - 2, by omega⟩
          simp only [spec_FontOk.l0, spec_FontOk.j2, hbx, l1In_eq, Option.bind_some, rd_nat ws i hwi]
          rw [if_pos (by omega), if_pos (by omega), if_pos (by omega), if_neg d1, if_neg d2, if_pos (by omega), d3, Bool.not_true, if_neg (by decide)]
          exact hK k (by omega)
        · rw [show (decide (1 ≤ ws[i]) && decide (ws[i] ≤ 60)) = false by simpa using d3, Bool.false_and, Bool.and_false]
          refine ⟨2, fun k hk => ?_⟩
          obtain ⟨k, rfl⟩ : ∃ m, k = m + 2 := ⟨k - 2, by omega⟩
          simp only [spec_FontOk.l0, spec_FontOk.j2, hbx, l1In_eq, Option.bind_some, rd_nat ws i hwi]
          rw [if_pos (by omega), if_pos (by omega), if_pos (by omega), if_neg d1, if_neg d2, if_pos (by omega), show (decide (1 ≤ ws[i]) && decide (ws[i] ≤ 60)) = false by simpa using d3, Bool.not_false, if_pos rfl]
theorem spec_FontOk_ev (a : ByteArray) (ws cs : List Int) (hl : cs.length ≤ 1099511627776) : Ev (fun k => spec_FontOk.f k a ws cs) (fontB a ws cs) := by
  unfold fontB
  have hno : ∀ k, spec_FontOk.j0 (k + 1) (a.size : Int) true a ws cs = some false := fun k => by simp only [spec_FontOk.j0, if_true]
  by_cases c12 : 1 ≤ a.size ∧ a.size ≤ 40
  · have hin : (decide ((1 : Int) ≤ (a.size : Int)) && decide ((a.size : Int) ≤ 40)) = true := by simp; omega
    by_cases c3 : ws.length = a.size
    · by_cases c4 : cs.length = a.size
      · rw [if_pos ⟨c12.1, c12.2, c3, c4⟩]
        obtain ⟨K1, h1⟩ := spec_SortsAll_ev cs hl
        cases hs : sortsAll cs with
        | true =>
          rw [hs] at h1
          have h := font_loop a ws cs c12.2 c3 a.size 0 (by omega)
          rw [List.take_zero, List.drop_zero, List.drop_zero] at h
          rw [Bool.and_true]
          obtain ⟨K2, h2⟩ := h
          refine ⟨K1 + K2 + 1, fun k hk => ?_⟩
          obtain ⟨k, rfl⟩ : ∃ m, k = m + 1 := ⟨k - 1, by omega⟩
          simp only [spec_FontOk.f, l1In_eq, Option.bind_some, h1 (k + 1) (by omega)]
          rw [hin, if_pos rfl, if_pos (by omega), if_pos (by omega), Bool.not_true]
          simp only [spec_FontOk.j0]
          rw [if_neg (by decide)]
          exact h2 k (by omega)
        | false =>
          rw [hs] at h1
          rw [Bool.and_false]
          refine ⟨K1 + 1, fun k hk => ?_⟩
          obtain ⟨k, rfl⟩ : ∃ m, k = m + 1 := ⟨k - 1, by omega⟩
          simp only [spec_FontOk.f, l1In_eq, Option.bind_some, h1 (k + 1) (by omega)]
          rw [hin, if_pos rfl, if_pos (by omega), if_pos (by omega), Bool.not_false, hno]
      · rw [if_neg (fun h => c4 h.2.2.2)]
        refine ev_step1 (fun k => ?_)
        simp only [spec_FontOk.f, l1In_eq, Option.bind_some]
        rw [hin, if_pos rfl, if_pos (by omega), if_neg (by omega), hno]
    · rw [if_neg (fun h => c3 h.2.2.1)]
      refine ev_step1 (fun k => ?_)
      simp only [spec_FontOk.f, l1In_eq, Option.bind_some]
      rw [hin, if_pos rfl, if_neg (by omega), hno]
  · rw [if_neg (fun h => c12 ⟨h.1, h.2.1⟩)]
    have hin : (decide ((1 : Int) ≤ (a.size : Int)) && decide ((a.size : Int) ≤ 40)) = false := by simp; omega
    refine ev_step1 (fun k => ?_)
    simp only [spec_FontOk.f, l1In_eq, Option.bind_some]
    rw [hin, if_neg (by decide), hno]
theorem szFont_ok (a : ByteArray) (ws cs : List Int) (h1 : a.size ≤ maxLen) (h2 : ws.length ≤ maxLen) (h3 : cs.length ≤ maxLen) : ∃ t, laws_szFont.f a ws cs 1048576 = some t ∧ (¬ t < 0 → t ≤ 1048576 ∧ a.size ≤ 1048576 ∧ ws.length ≤ 1048576 ∧ cs.length ≤ 1048576) := by
  unfold maxLen at h1 h2 h3
  have e1 : wrap64 (1048576 - (a.size : Int)) = 1048576 - (a.size : Int) := wrap_id _ (by omega) (by omega)
  unfold laws_szFont.f laws_szIntS.f
  rw [e1]
  by_cases c1 : (1048576 : Int) - (a.size : Int) < 0
  · rw [if_pos c1]
    exact ⟨-1, rfl, fun h => absurd (by omega) h⟩
  · rw [if_neg c1]
    have e2 : wrap64 (1048576 - (a.size : Int) - (ws.length : Int)) = 1048576 - (a.size : Int) - (ws.length : Int) := wrap_id _ (by omega) (by omega)
    rw [e2]
    by_cases c2 : (1048576 : Int) - (a.size : Int) - (ws.length : Int) < 0
    · rw [if_pos c2, Option.bind_some, if_pos (by omega)]
      exact ⟨-1, rfl, fun h => absurd (by omega) h⟩
    · rw [if_neg c2, Option.bind_some, if_neg c2]
      have e3 : wrap64 (1048576 - (a.size : Int) - (ws.length : Int) - (cs.length : Int)) = 1048576 - (a.size : Int) - (ws.length : Int) - (cs.length : Int) := wrap_id _ (by omega) (by omega)
      rw [e3]
      by_cases c3 : (1048576 : Int) - (a.size : Int) - (ws.length : Int) - (cs.length : Int) < 0
      · rw [if_pos c3, Option.bind_some, if_pos (by omega)]
        exact ⟨-1, rfl, fun h => absurd (by omega) h⟩
      · rw [if_neg c3, Option.bind_some, if_neg c3]
        exact ⟨_, rfl, fun _ => ⟨by omega, by omega, by omega, by omega⟩⟩
theorem toFont_ev (a : ByteArray) (ws cs : List Int) (h2 : ws.length ≤ 1099511627776) (h3 : cs.length ≤ 1099511627776) : Ev (fun k => laws_toFont.f k a ws cs) (a, ws, cs) := by
  obtain ⟨K1, f1⟩ := toIntS_ev ws h2
  obtain ⟨K2, f2⟩ := toIntS_ev cs h3
  refine ⟨K1 + K2, fun k hk => ?_⟩
  simp only [laws_toFont.f, f1 k (by omega), f2 k (by omega), Option.bind_some]
theorem eqFont_ev (a : ByteArray) (ws cs : List Int) (h2 : ws.length ≤ 1099511627776) (h3 : cs.length ≤ 1099511627776) : Ev (fun k => laws_eqFont.f k a ws cs a ws cs) true := by
  obtain ⟨K1, f1⟩ := eqIntS_ev ws ws h2
  obtain ⟨K2, f2⟩ := eqIntS_ev cs cs h3
  rw [decide_eq_true rfl] at f1 f2
  refine ⟨K1 + K2, fun k hk => ?_⟩
  simp only [laws_eqFont.f, f1 k (by omega), f2 k (by omega), Option.bind_some, if_true]
end Go.Proofs.Ytilbngklgjjblaa.Q
