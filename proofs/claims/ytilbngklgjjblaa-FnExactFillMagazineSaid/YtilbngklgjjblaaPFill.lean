/- A new magazine. Conditions: those that each lemma names. -/
import Derived.Test.YtilbngklgjjblaaP0
import Derived.Test.YtilbngklgjjblaaPBar
import Derived.Test.YtilbngklgjjblaaPFont
import Derived.Test.YtilbngklgjjblaaPMarkS
import Derived.Test.YtilbngklgjjblaaQ0
import Derived.Test.YtilbngklgjjblaaQ5
import Derived.Test.YtilbngklgjjblaaQ6
import Derived.Test.YtilbngklgjjblaaQ7
import Derived.Test.YtilbngklgjjblaaQ8
namespace Go.Proofs.Ytilbngklgjjblaa.Q
open Go.RowKit Go.Proofs.YtilbngklgjjblaaW.PrintWords Go.Proofs.YtilbngklgjjblaaW.PrintLast Go.Proofs.YtilbngklgjjblaaW.PrintMore
set_option linter.unusedVariables false
set_option linter.unusedSimpArgs false
def fillRows (n : Nat) : Nat → List Int → List (List S30)
  | _, [] => []
  | i, c :: r => List.replicate n ⟨(i : Int), c⟩ :: fillRows n (i + 1) r
def fillMag (a : ByteArray) (ws cs : List Int) (each : Int) : List (List S30) × Bool := if fontB a ws cs = true ∧ 0 ≤ each ∧ each ≤ 20 then (fillRows each.toNat 0 cs, true) else ([], false)
theorem fillRows_length (n : Nat) : ∀ (cs : List Int) (i : Nat), (fillRows n i cs).length = cs.length
  | [], _ => rfl
  | c :: r, i => by rw [fillRows, List.length_cons, List.length_cons, fillRows_length n r]
theorem fillRows_rows (n : Nat) : ∀ (cs : List Int) (i : Nat), ∀ r ∈ fillRows n i cs, r.length = n
  | [], _ => by simp [fillRows]
  | c :: t, i => by
    intro r hr
    rw [fillRows] at hr
    rcases List.mem_cons.1 hr with rfl | h
    · simp
    · exact fillRows_rows n t (i + 1) r h
theorem impl_fill_loop (cs : List Int) (n : Nat) (hn : n ≤ 20) (hc : cs.length ≤ 40) : ∀ d i (acc : List (List S30)), i + d = cs.length → acc.length = i → Ev (fun k => impl_FillMagazine.l0 k (n : Int) acc cs (cs.length : Int) (i : Int)) (acc ++ fillRows n i (cs.drop i), true) := by
  intro d
  induction d with
  | zero =>
    intro i acc hi ha
    rw [List.drop_eq_nil_of_le (by omega), fillRows, List.append_nil]
    exact ev_step1 (fun k => by simp only [impl_FillMagazine.l0]; rw [if_neg (by omega)])
  | succ d ih =>
    intro i acc hi ha
    have hi' : i < cs.length := by omega
    have h := ih (i + 1) (acc ++ [List.replicate n ⟨(i : Int), cs[i]⟩]) (by omega) (by rw [List.length_append, List.length_singleton]; omega)
    rw [List.append_assoc, List.singleton_append] at h
    rw [List.drop_eq_getElem_cons hi', fillRows]
    refine Ev.step (fun k => ?_) h
    simp only [impl_FillMagazine.l0]
    rw [if_pos (by omega), if_pos (by omega), if_pos (by omega), rd_nat cs i hi', impl_Matrix.f, if_pos ⟨rfl, by omega, by omega⟩, Option.bind_some, if_pos (by omega), w1 i (by omega), Int.toNat_natCast]
    rfl
theorem rdL_mid (pre : List (List S30)) (x : List S30) (t : List (List S30)) : rd_L2 (pre ++ x :: t) (pre.length : Int) = x := getD_mid pre x t []
theorem spec_fill_row (cs : List Int) (n : Nat) (hn : n ≤ 20) (N : Nat) (hN : N ≤ 40) (c : Int) (acc : List (List S30)) (R : List (List S30) × Bool)
    (hR : Ev (fun k => spec_FillMagazine.l0 k (n : Int) (acc ++ List.replicate n ⟨(acc.length : Int), c⟩ :: List.replicate N []) cs (cs.length : Int) ((acc.length + 1 : Nat) : Int)) R) (ha : acc.length ≤ 40) : ∀ d j, j + d = n →
    Ev (fun k => spec_FillMagazine.l1 k (n : Int) (acc ++ List.replicate j ⟨(acc.length : Int), c⟩ :: List.replicate N []) (acc.length : Int) c (j : Int) cs (cs.length : Int) (acc.length : Int)) R := by
  intro d
  induction d with
  | zero =>
    intro j hj
    obtain rfl : j = n := by omega
    refine Ev.step (fun k => ?_) hR
    simp only [spec_FillMagazine.l1]
    rw [if_neg (by omega), w1 acc.length (by omega)]
  | succ d ih =>
    intro j hj
    have h := ih (j + 1) (by omega)
    refine Ev.step (fun k => ?_) h
    simp only [spec_FillMagazine.l1]
    rw [if_pos (by omega), if_pos (by omega), if_pos (by rw [List.length_append, List.length_cons]; omega), rdL_mid, if_pos (by rw [List.length_replicate]; omega), Int.toNat_natCast, set_mid, w1 j (by omega), List.append_assoc, List.singleton_append, ← List.replicate_succ']
theorem spec_fill_loop (cs : List Int) (n : Nat) (hn : n ≤ 20) (hc : cs.length ≤ 40) : ∀ d (acc : List (List S30)), acc.length + d = cs.length → Ev (fun k => spec_FillMagazine.l0 k (n : Int) (acc ++ List.replicate d []) cs (cs.length : Int) (acc.length : Int)) (acc ++ fillRows n acc.length (cs.drop acc.length), true) := by
  intro d
  induction d with
  | zero =>
    intro acc hi
    rw [List.drop_eq_nil_of_le (by omega), fillRows, List.append_nil, List.replicate_zero, List.append_nil]
    exact ev_step1 (fun k => by simp only [spec_FillMagazine.l0]; rw [if_neg (by omega)])
  | succ d ih =>
    intro acc hi
    have hi' : acc.length < cs.length := by omega
    have h := ih (acc ++ [List.replicate n ⟨(acc.length : Int), cs[acc.length]⟩]) (by rw [List.length_append, List.length_singleton]; omega)
    rw [List.length_append, List.length_singleton, List.append_assoc, List.singleton_append, List.append_assoc, List.singleton_append] at h
    have h2 := spec_fill_row cs n hn d (by omega) cs[acc.length] acc _ h (by omega) n 0 (by omega)
    rw [List.drop_eq_getElem_cons hi', fillRows]
    refine Ev.step (fun k => ?_) h2
    simp only [spec_FillMagazine.l0]
    rw [if_pos (by omega), if_pos (by omega), if_pos (by omega), rd_nat cs _ hi', List.replicate_succ]
    rfl
theorem impl_FillMagazine_ev (a : ByteArray) (ws cs : List Int) (each : Int) (hl : cs.length ≤ 1099511627776) : Ev (fun k => impl_FillMagazine.f k a ws cs each) (fillMag a ws cs each) := by
  obtain ⟨K, f⟩ := impl_FontOk_ev a ws cs hl
  replace f : ∀ k, K ≤ k → impl_FontOk.f k a ws cs = some (fontB a ws cs) := f
  unfold fillMag
  by_cases h : fontB a ws cs = true
  case neg =>
    rw [if_neg (fun q => h q.1)]
    refine ⟨K + 1, fun k hk => ?_⟩
    obtain ⟨k, rfl⟩ : ∃ z, k = z + 1 := ⟨k - 1, by omega⟩
    simp only [impl_FillMagazine.f, f (k + 1) (by omega), Option.bind_some, if_neg h, impl_FillMagazine.j0, if_true]
  by_cases h1 : each < 0
  · rw [if_neg (fun q => by omega)]
    refine ⟨K + 1, fun k hk => ?_⟩
    obtain ⟨k, rfl⟩ : ∃ z, k = z + 1 := ⟨k - 1, by omega⟩
    simp only [impl_FillMagazine.f, f (k + 1) (by omega), Option.bind_some, if_pos h, if_pos h1, impl_FillMagazine.j0, if_true]
  by_cases h2 : each > 20
  · rw [if_neg (fun q => by omega)]
    refine ⟨K + 1, fun k hk => ?_⟩
    obtain ⟨k, rfl⟩ : ∃ z, k = z + 1 := ⟨k - 1, by omega⟩
    simp only [impl_FillMagazine.f, f (k + 1) (by omega), Option.bind_some, if_pos h, if_neg h1, decide_eq_true h2, impl_FillMagazine.j0, if_true]
  rw [if_pos ⟨h, by omega, by omega⟩]
  obtain ⟨n, rfl⟩ := Int.eq_ofNat_of_zero_le (show 0 ≤ each by omega)
  obtain ⟨_, l2, _, l4⟩ := fontB_len a ws cs h
  obtain ⟨K2, f2⟩ := impl_fill_loop cs n (by omega) (by omega) cs.length 0 [] (by omega) rfl
  rw [List.drop_zero, List.nil_append] at f2
  refine ⟨K + K2 + 1, fun k hk => ?_⟩
  obtain ⟨k, rfl⟩ : ∃ z, k = z + 1 := ⟨k - 1, by omega⟩
  simp only [impl_FillMagazine.f, f (k + 1) (by omega), Option.bind_some, if_pos h, if_neg h1, decide_eq_false h2, impl_FillMagazine.j0, Bool.false_eq_true, if_false, Int.toNat_natCast]
  exact f2 k (by omega)
theorem spec_FillMagazine_ev (a : ByteArray) (ws cs : List Int) (each : Int) (hl : cs.length ≤ 1099511627776) : Ev (fun k => spec_FillMagazine.f k a ws cs each) (fillMag a ws cs each) := by
  obtain ⟨K, f⟩ := spec_FontOk_ev a ws cs hl
  replace f : ∀ k, K ≤ k → spec_FontOk.f k a ws cs = some (fontB a ws cs) := f
  unfold fillMag
  by_cases h : fontB a ws cs = true
  case neg =>
    rw [if_neg (fun q => h q.1)]
    refine ⟨K + 1, fun k hk => ?_⟩
    obtain ⟨k, rfl⟩ : ∃ z, k = z + 1 := ⟨k - 1, by omega⟩
    simp only [spec_FillMagazine.f, f (k + 1) (by omega), Option.bind_some, if_neg h, spec_FillMagazine.j0, if_true]
  by_cases h1 : (decide (0 ≤ each) && decide (each ≤ 20)) = true
  case neg =>
    rw [if_neg (fun q => h1 (by rw [decide_eq_true q.2.1, decide_eq_true q.2.2]; rfl))]
    refine ⟨K + 1, fun k hk => ?_⟩
    obtain ⟨k, rfl⟩ : ∃ z, k = z + 1 := ⟨k - 1, by omega⟩
    simp only [spec_FillMagazine.f, f (k + 1) (by omega), Option.bind_some, if_pos h, l1In_eq, show (decide (0 ≤ each) && decide (each ≤ 20)) = false by simpa using h1, Bool.not_false, spec_FillMagazine.j0, if_true]
  have h2 := h1
  rw [Bool.and_eq_true, decide_eq_true_eq, decide_eq_true_eq] at h2
  rw [if_pos ⟨h, h2⟩]
  obtain ⟨n, rfl⟩ := Int.eq_ofNat_of_zero_le h2.1
  obtain ⟨_, l2, _, l4⟩ := fontB_len a ws cs h
  obtain ⟨K2, f2⟩ := spec_fill_loop cs n (by omega) (by omega) cs.length [] (by simp)
  rw [List.length_nil, List.drop_zero, List.nil_append, List.nil_append, l4] at f2
  refine ⟨K + K2 + 1, fun k hk => ?_⟩
  obtain ⟨k, rfl⟩ : ∃ z, k = z + 1 := ⟨k - 1, by omega⟩
  simp only [spec_FillMagazine.f, f (k + 1) (by omega), Option.bind_some, if_pos h, l1In_eq, h1, Bool.not_true, spec_FillMagazine.j0, Bool.false_eq_true, if_false, Int.toNat_natCast]
  rw [if_pos (by omega), if_pos (by omega), l4]
  exact f2 k (by omega)
theorem fillMag_rows (a : ByteArray) (ws cs : List Int) (each : Int) : (fillMag a ws cs each).1.length ≤ 10000 ∧ ∀ r ∈ (fillMag a ws cs each).1, r.length ≤ 10000 := by
  unfold fillMag
  by_cases h : fontB a ws cs = true ∧ 0 ≤ each ∧ each ≤ 20
  case neg => rw [if_neg h]; simp
  rw [if_pos h]
  obtain ⟨_, l2, _, l4⟩ := fontB_len a ws cs h.1
  refine ⟨by rw [fillRows_length]; omega, fun r hr => ?_⟩
  rw [fillRows_rows _ cs 0 r hr]; omega
end Go.Proofs.Ytilbngklgjjblaa.Q
