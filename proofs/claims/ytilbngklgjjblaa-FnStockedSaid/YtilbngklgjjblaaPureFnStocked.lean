/- A new magazine holds its number of whole matrices of each kind. No conditions beyond those of the statement's reading. -/
import Derived.Test.YtilbngklgjjblaaPAll
import Derived.Test.YtilbngklgjjblaaQ0
import Derived.Test.YtilbngklgjjblaaQ15
namespace Go.Proofs.Ytilbngklgjjblaa.Pure
open Go.RowKit Go.Proofs.Ytilbngklgjjblaa.Q Go.Proofs.YtilbngklgjjblaaW.PrintWords Go.Proofs.YtilbngklgjjblaaW.PrintLast Go.Proofs.YtilbngklgjjblaaW.PrintMore
set_option linter.unusedVariables false
set_option linter.unusedSimpArgs false
theorem stocked_l1 (a : ByteArray) (ws cs : List Int) (n : Nat) (hn : n ≤ 20) (hf : fontB a ws cs = true) (M X : List (List S30)) (len : Int) (i : Nat) (hi : i < cs.length)
    (hR : Ev (fun k => laws_FnStocked.l0 k (n : Int) M X len ((i + 1 : Nat) : Int) a ws cs) true) : ∀ d j, j + d = n → Ev (fun k => laws_FnStocked.l1 k (n : Int) M (i : Int) (List.replicate n ⟨(i : Int), cs[i]⟩) (strOfNums (List.replicate j (bt a (i : Int)))) X len (i : Int) a ws cs) true := by
  obtain ⟨_, l2, _, l4⟩ := fontB_len a ws cs hf
  have hia : i < a.size := by omega
  have hsz : ∀ j, (strOfNums (List.replicate j (bt a (i : Int)))).size = j := fun j => by rw [strOfNums_size, List.length_replicate]
  intro d
  induction d with
  | zero =>
    intro j hj
    obtain rfl : j = n := by omega
    obtain ⟨K1, f1⟩ := impl_LettersOf_ev a ws cs (List.replicate j ⟨(i : Int), cs[i]⟩) (by rw [List.length_replicate]; omega) (by omega)
    rw [letters_row a ws cs j i hf hi] at f1
    obtain ⟨K2, f2⟩ := impl_KeyOf_ev a ws cs (wrap64 (bt a (i : Int))) (by omega)
    rw [keyOf_own a ws cs hf i hia] at f2
    obtain ⟨K3, f3⟩ := hR
    refine ⟨K1 + K2 + K3 + 1, fun k hk => ?_⟩
    obtain ⟨k, rfl⟩ : ∃ z, k = z + 1 := ⟨k - 1, by omega⟩
    simp only [laws_FnStocked.l1, f1 k (by omega), f2 k (by omega), Option.bind_some, hsz, List.length_replicate]
    rw [if_neg (by omega), if_pos trivial, if_pos trivial, if_pos (by omega), if_pos (by omega), if_pos trivial, w1 i (by omega)]
    exact f3 k (by omega)
  | succ d ih =>
    intro j hj
    have h := ih (j + 1) (by omega)
    rw [List.replicate_succ', ← cat_one a _ i hia] at h
    have he : (a.extract i (i + 1)).size = 1 := by rw [ByteArray.size_extract]; omega
    refine Ev.step (fun k => ?_) h
    simp only [laws_FnStocked.l1]
    rw [if_pos (by rw [hsz]; omega), if_pos (by omega), w1 i (by omega), if_pos (by omega), if_pos (by omega), Int.toNat_natCast, Int.toNat_natCast, if_pos (by rw [hsz, he]; omega)]
theorem stocked_l0 (a : ByteArray) (ws cs : List Int) (n : Nat) (hn : n ≤ 20) (hf : fontB a ws cs = true) : ∀ d i, i + d = cs.length → Ev (fun k => laws_FnStocked.l0 k (n : Int) (fillRows n 0 cs) (fillRows n 0 cs) ((fillRows n 0 cs).length : Int) (i : Int) a ws cs) true := by
  obtain ⟨_, l2, _, l4⟩ := fontB_len a ws cs hf
  have hlen := fillRows_length n cs 0
  intro d
  induction d with
  | zero =>
    intro i hi
    obtain ⟨K1, f1⟩ := impl_KindCounts_ev a ws cs (fillRows n 0 cs) (by omega)
    rw [fill_counts a ws cs n hf hn] at f1
    obtain ⟨K2, f2⟩ := lcount_ev (List.replicate cs.length (n : Int)) (n : Int) (by rw [List.length_replicate]; omega)
    rw [List.count_replicate_self] at f2
    refine ⟨K1 + K2 + 1, fun k hk => ?_⟩
    obtain ⟨k, rfl⟩ : ∃ z, k = z + 1 := ⟨k - 1, by omega⟩
    simp only [laws_FnStocked.l0, f1 k (by omega), f2 k (by omega), Option.bind_some, hlen]
    rw [if_neg (by omega)]
    simp
  | succ d ih =>
    intro i hi
    have hi' : i < (fillRows n 0 cs).length := by omega
    have h := stocked_l1 a ws cs n hn hf (fillRows n 0 cs) (fillRows n 0 cs) ((fillRows n 0 cs).length : Int) i (by omega) (ih (i + 1) (by omega)) n 0 (by omega)
    refine Ev.step (fun k => ?_) h
    simp only [laws_FnStocked.l0]
    rw [if_pos (by omega), if_pos (by omega), if_pos (by omega), rdL7_nat _ i hi', fillRows_get n cs 0 i (by omega) hi', Nat.zero_add]
    rfl
theorem FnStocked : laws_FnStocked.Pure := by
  intro l0 h1 _ _
  by_cases hlen : (l0.length : Int) > 1048576
  · exact ⟨0, by unfold laws_FnStocked.f; rw [if_pos hlen]⟩
  obtain ⟨a, ws, cs, each, ⟨K1, f1⟩, hc⟩ := drawFill_ok l0 (by omega)
  obtain ⟨K2, f2⟩ := impl_FillMagazine_ev a ws cs each (by omega)
  by_cases h : fontB a ws cs = true ∧ 0 ≤ each ∧ each ≤ 20
  case neg =>
    have e : fillMag a ws cs each = ([], false) := if_neg h
    rw [e] at f2
    obtain ⟨K3, f3⟩ := spec_FontOk_ev a ws cs (by omega)
    refine ⟨K1 + K2 + K3, ?_⟩
    simp only [laws_FnStocked.f, f1 _ (show K1 ≤ K1 + K2 + K3 by omega), f2 _ (show K2 ≤ K1 + K2 + K3 by omega), f3 _ (show K3 ≤ K1 + K2 + K3 by omega), Option.bind_some]
    rw [if_neg hlen, if_neg (by decide)]
    by_cases hf : fontB a ws cs = true
    · rw [if_pos hf]
      by_cases h0 : each < 0
      · rw [if_pos h0]
      · rw [if_neg h0, decide_eq_true (show each > 20 from Classical.byContradiction fun q => h ⟨hf, by omega, by omega⟩)]
    · rw [if_neg hf]
  obtain ⟨hf, h2, h3⟩ := h
  have e : fillMag a ws cs each = (fillRows each.toNat 0 cs, true) := if_pos ⟨hf, h2, h3⟩
  rw [e] at f2
  obtain ⟨n, rfl⟩ := Int.eq_ofNat_of_zero_le h2
  rw [Int.toNat_natCast] at f2
  obtain ⟨_, l2, _, l4⟩ := fontB_len a ws cs hf
  obtain ⟨K3, f3⟩ := impl_CountStrays_ev a ws cs (fillRows n 0 cs) (by omega)
  rw [strays_zero a ws cs _ (fill_mag a ws cs n hf (by omega)) (fill_pure n cs)] at f3
  obtain ⟨K4, f4⟩ := impl_CountWorn_ev a ws cs (fillRows n 0 cs) (by omega)
  rw [fill_worn a ws cs n hf (by omega)] at f4
  obtain ⟨K5, f5⟩ := stocked_l0 a ws cs n (by omega) hf cs.length 0 (by omega)
  refine ⟨K1 + K2 + K3 + K4 + K5 + 1, ?_⟩
  generalize hK : K1 + K2 + K3 + K4 + K5 = K
  simp only [laws_FnStocked.f, f1 _ (show K1 ≤ K + 1 by omega), f2 _ (show K2 ≤ K + 1 by omega), f3 _ (show K3 ≤ K + 1 by omega), f4 _ (show K4 ≤ K + 1 by omega), Option.bind_some]
  rw [if_neg hlen, if_pos trivial, if_pos (by rw [fillRows_length]; omega), if_pos trivial]
  simp only [laws_FnStocked.j0]
  rw [if_neg (by decide)]
  exact f5 K (by omega)
end Go.Proofs.Ytilbngklgjjblaa.Pure
