/- A matrix that loses a tooth keeps its kind and its channel, and is worn then. No conditions beyond those of the statement's reading. -/
import Derived.Test.YtilbngklgjjblaaPAll
import Derived.Test.YtilbngklgjjblaaQ0
import Derived.Test.YtilbngklgjjblaaQ17
import Derived.Test.YtilbngklgjjblaaQ18
import Derived.Test.YtilbngklgjjblaaQ3
namespace Go.Proofs.Ytilbngklgjjblaa.Pure
open Go.RowKit Go.Proofs.Ytilbngklgjjblaa.Q Go.Proofs.YtilbngklgjjblaaW.PrintWords Go.Proofs.YtilbngklgjjblaaW.PrintLast Go.Proofs.YtilbngklgjjblaaW.PrintMore
set_option linter.unusedVariables false
set_option linter.unusedSimpArgs false
theorem worn_left (a : ByteArray) (ws cs : List Int) (m : List (List S30)) (c i t : Int) (h : ¬ wearP a ws cs m c i t) (m1 : magazineOk a ws cs m = true) (h1 : 0 ≤ c) (h2 : c < (m.length : Int)) (h3 : 0 ≤ i) (h4 : i < ((rd_L2 m c).length : Int)) (h5 : 0 ≤ t) (h6 : t ≤ 6) : Go.bits .and .i64 (shr .i64 ((rd_T30 (rd_L2 m c) i).f1) t) 1 = 0 :=
  Classical.byContradiction fun q => h ⟨m1, h1, h2, h3, h4, h5, h6, q⟩
theorem worn_tooth (s c : Int) (t : Nat) (ht : t ≤ 6) (h0 : 0 ≤ s) (h1 : s ≤ 127) (c0 : 0 ≤ c) (c1 : c ≤ 127) (hp : partB s c = true) (hb : ¬ Go.bits .and .i64 (shr .i64 s (t : Int)) 1 = 0) :
    0 ≤ Go.bits .andNot .i64 s (shl .i64 1 (t : Int)) ∧ Go.bits .andNot .i64 s (shl .i64 1 (t : Int)) ≤ 127 ∧ partB (Go.bits .andNot .i64 s (shl .i64 1 (t : Int))) c = true ∧ Go.bits .andNot .i64 s (shl .i64 1 (t : Int)) ≠ c := by
  obtain ⟨n, rfl⟩ := Int.eq_ofNat_of_zero_le h0
  obtain ⟨d, rfl⟩ := Int.eq_ofNat_of_zero_le c0
  have e1 := less_all t (by omega) n (by omega)
  have e2 := part_less_all t (by omega) n (by omega) d (by omega) hp
  have e3 := wear_all t (by omega) n (by omega) hb
  have e4 := part_le_all n (by omega) d (by omega) hp
  have e5 := shl_all t (by omega)
  have e6 : (1 : Int) ≤ shl .i64 1 (t : Int) ∧ shl .i64 1 (t : Int) ≤ 128 := by
    rw [e5]
    have h1 : 2 ^ t ≤ 2 ^ 6 := Nat.pow_le_pow_right (by decide) ht
    have h2 : 1 ≤ 2 ^ t := Nat.one_le_two_pow
    omega
  refine ⟨e1.1, e1.2, e2, fun e => ?_⟩
  rw [e, wrap_id _ (by omega) (by omega)] at e3
  omega
theorem FnWorn : laws_FnWorn.Pure := by
  intro l0 h1 _ _
  by_cases hlen : (l0.length : Int) > 1048576
  · exact Or.inl ⟨0, by unfold laws_FnWorn_f.f; rw [if_pos hlen]⟩
  obtain ⟨a, ws, cs, m, c, i, t, ⟨K1, f1⟩, hc⟩ := drawWear_ok l0 (by omega)
  obtain ⟨K2, f2⟩ := impl_WearMatrix_ev a ws cs m c i t (by omega)
  replace f2 : ∀ k, K2 ≤ k → impl_WearMatrix.f k a ws cs m c i t = some (wearMatrix a ws cs m c i t) := f2
  by_cases h : wearP a ws cs m c i t
  case neg =>
    left
    have e : wearMatrix a ws cs m c i t = ([], false) := if_neg h
    rw [e] at f2
    obtain ⟨K3, f3⟩ := spec_MagazineOk_ev a ws cs m (by omega)
    replace f3 : ∀ k, K3 ≤ k → spec_MagazineOk.f k a ws cs m = some (magazineOk a ws cs m) := f3
    refine ⟨K1 + K2 + K3, ?_⟩
    generalize hK : K1 + K2 + K3 = K
    simp only [laws_FnWorn_f.f, f1 K (by omega), f2 K (by omega), f3 K (by omega), Option.bind_some]
    rw [if_neg hlen, if_neg (by decide)]
    by_cases m1 : magazineOk a ws cs m = true
    case neg => rw [if_neg m1]
    rw [if_pos m1]
    by_cases m2 : c < 0
    · rw [if_pos m2]
    rw [if_neg m2]
    by_cases m3 : c ≥ (m.length : Int)
    · rw [if_pos m3]
    rw [if_neg m3]
    by_cases m4 : i < 0
    · rw [if_pos m4]
    rw [if_neg m4, if_pos (by omega), if_pos (by omega)]
    by_cases m5 : i ≥ ((rd_L2 m c).length : Int)
    · rw [if_pos m5]
    rw [if_neg m5]
    by_cases m6 : t < 0
    · rw [if_pos m6]
    rw [if_neg m6]
    by_cases m7 : t > 6
    · rw [if_pos m7]
    rw [if_neg m7, if_pos (by omega), if_pos (by omega), if_pos (by omega), worn_left a ws cs m c i t h m1 (by omega) (by omega) (by omega) (by omega) (by omega) (by omega)]
    rfl
  right
  have hsame := wear_same a ws cs m c i t h
  have e : wearMatrix a ws cs m c i t = (m.set c.toNat ((rd_L2 m c).set i.toNat ⟨(rd_T30 (rd_L2 m c) i).f0, Go.bits .andNot .i64 ((rd_T30 (rd_L2 m c) i).f1) (shl .i64 1 t)⟩), true) := if_pos h
  obtain ⟨hmag, p1, p2, p3, p4, p5, p6, p7⟩ := h
  obtain ⟨j, rfl⟩ := Int.eq_ofNat_of_zero_le p1
  obtain ⟨q, rfl⟩ := Int.eq_ofNat_of_zero_le p3
  obtain ⟨t, rfl⟩ := Int.eq_ofNat_of_zero_le p5
  have hj : j < m.length := by omega
  have hrd := rdL7_nat m j hj
  rw [hrd] at p4 p7 hsame e
  have hq : q < m[j].length := by omega
  have hrx := rd30_nat m[j] q hq
  rw [hrx] at p7 hsame e
  rw [Int.toNat_natCast, Int.toNat_natCast] at e
  obtain ⟨l1, l2, l3, l4⟩ := mag_rows2 a ws cs m hmag
  have hx := mag_elem a ws cs m hmag m[j] (List.getElem_mem hj) m[j][q] (List.getElem_mem hq)
  have hr20 := l4 _ (List.getElem_mem hj)
  have hkr := matB_range a cs _ _ hx
  have hte := matB_teeth a cs _ _ hx
  obtain ⟨z, hz⟩ := Int.eq_ofNat_of_zero_le hkr.1
  have hzl : z < cs.length := by omega
  have hf := ((mag_iff a ws cs m).1 hmag).1
  have hcode : 0 ≤ cs[z] ∧ cs[z] ≤ 127 := matB_teeth a cs _ _ (font_code a ws cs hf z hzl)
  have hpart : partB m[j][q].f1 cs[z] = true := by
    have h9 := hx
    unfold matB at h9
    rw [Bool.and_eq_true, hz, rd_nat cs z hzl] at h9
    exact h9.2
  obtain ⟨y0, y1, y2, y3⟩ := worn_tooth m[j][q].f1 cs[z] t (by omega) hte.1 hte.2 hcode.1 hcode.2 hpart p7
  generalize hy : Go.bits .andNot .i64 m[j][q].f1 (shl .i64 1 (t : Int)) = y at *
  have hym : matB a cs m[j][q].f0 y = true := by
    unfold matB
    rw [hz, rd_nat cs z hzl, y2, (isSetB_iff y).2 ⟨y0, y1⟩, decide_eq_true (show (0 : Int) ≤ (z : Int) by omega), decide_eq_true (show (z : Int) < (a.size : Int) by omega)]
    rfl
  have hm1 : magazineOk a ws cs (m.set j (m[j].set q ⟨m[j][q].f0, y⟩)) = true := by
    refine mag_set a ws cs m j _ hmag (by rw [List.length_set]; exact hr20) (fun w hw => ?_)
    rcases List.mem_or_eq_of_mem_set hw with k | k
    · exact mag_elem a ws cs m hmag m[j] (List.getElem_mem hj) w k
    · subst k; exact hym
  have hlen1 : (m.set j (m[j].set q ⟨m[j][q].f0, y⟩)).length = m.length := List.length_set
  have hcount : kindCounts a ws cs (m.set j (m[j].set q ⟨m[j][q].f0, y⟩)) = kindCounts a ws cs m :=
    same_counts a ws cs m _ hmag hm1 hlen1 (wear_flat m j q ⟨m[j][q].f0, y⟩ hj (fun _ => rfl))
  have hstray : countStrays a ws cs (m.set j (m[j].set q ⟨m[j][q].f0, y⟩)) = countStrays a ws cs m := by
    rw [countStrays_eq a ws cs m hmag, countStrays_eq a ws cs _ hm1, wear_strays m j q ⟨m[j][q].f0, y⟩ hj (fun _ => rfl)]
  have hworn := wear_worn (fun x => x.f1 != rd cs x.f0) m j q ⟨m[j][q].f0, y⟩ hj hq (by simp only [hz, rd_nat cs z hzl]; simpa using y3)
  obtain ⟨fl1, _, _⟩ := mag_flat a ws cs m hmag
  have hcp := List.countP_le_length (p := fun x : S30 => x.f1 != rd cs x.f0) (l := m.flatten)
  have hkl := kindCounts_length a ws cs m
  rw [e] at f2
  obtain ⟨K3, f3⟩ := impl_KindCounts_ev a ws cs (m.set j (m[j].set q ⟨m[j][q].f0, y⟩)) (by omega)
  rw [hcount] at f3
  obtain ⟨K4, f4⟩ := impl_KindCounts_ev a ws cs m (by omega)
  obtain ⟨K5, f5⟩ := intsC_ev (kindCounts a ws cs m) (by omega)
  obtain ⟨K6, f6⟩ := impl_CountStrays_ev a ws cs (m.set j (m[j].set q ⟨m[j][q].f0, y⟩)) (by omega)
  rw [hstray] at f6
  obtain ⟨K7, f7⟩ := impl_CountStrays_ev a ws cs m (by omega)
  obtain ⟨K8, f8⟩ := impl_CountWorn_ev a ws cs (m.set j (m[j].set q ⟨m[j][q].f0, y⟩)) (by omega)
  rw [countWorn_eq a ws cs _ hm1, hworn] at f8
  obtain ⟨K9, f9⟩ := impl_CountWorn_ev a ws cs m (by omega)
  rw [countWorn_eq a ws cs m hmag] at f9
  have hrd1 : rd_L2 (m.set j (m[j].set q ⟨m[j][q].f0, y⟩)) (j : Int) = m[j].set q ⟨m[j][q].f0, y⟩ := by
    rw [rdL7_nat _ j (by omega), List.getElem_set_self]
  have hrx1 : rd_T30 (m[j].set q ⟨m[j][q].f0, y⟩) (q : Int) = ⟨m[j][q].f0, y⟩ := by
    rw [rd30_nat _ q (by rw [List.length_set]; exact hq), List.getElem_set_self]
  have hls : (m[j].set q ⟨m[j][q].f0, y⟩).length = m[j].length := List.length_set
  refine ⟨K1 + K2 + K3 + K4 + K5 + K6 + K7 + K8 + K9 + 1, ?_⟩
  generalize hK : K1 + K2 + K3 + K4 + K5 + K6 + K7 + K8 + K9 = K
  have g8 := f8 K (by omega)
  have g9 := f9 K (by omega)
  generalize hW : m.flatten.countP (fun x => x.f1 != rd cs x.f0) = W at *
  simp only [laws_FnWorn.f, f1 (K + 1) (by omega), f2 (K + 1) (by omega), f3 (K + 1) (by omega), f4 (K + 1) (by omega), f5 (K + 1) (by omega), f6 (K + 1) (by omega), f7 (K + 1) (by omega), Option.bind_some, hlen1, hrd1, hrd, hls]
  rw [if_neg hlen, if_pos trivial, if_pos trivial, if_pos p1, if_pos p2, if_pos p2, if_pos trivial, if_pos trivial]
  have hcz : rd cs m[j][q].f0 = cs[z] := by rw [hz, rd_nat cs z hzl]
  have hne : (countStrays a ws cs m != countStrays a ws cs m) = false := by simp
  simp only [laws_FnWorn.j0, hne, Bool.false_eq_true, if_false, hlen1, hrd1, hrd, hls, hrx, hrx1, hcz, g8, g9, Option.bind_some]
  rw [if_pos p1, if_pos p2, if_pos p3, if_pos p4, if_pos p2, if_pos p4, if_pos (by omega), if_pos (by omega)]
  by_cases hw : m[j][q].f1 = cs[z]
  · have hp : ¬ ((m[j][q].f1 != cs[z]) = true) := by simp [hw]
    rw [if_pos hw, if_pos trivial, if_pos p5, if_pos hsame.symm, if_neg hp, wrap_id _ (by omega) (by omega)]
    simp
  · have hp : (m[j][q].f1 != cs[z]) = true := by simpa using hw
    rw [if_neg hw, if_pos trivial, if_pos p5, if_pos hsame.symm, if_pos hp, wrap_id _ (by omega) (by omega)]
    simp
end Go.Proofs.Ytilbngklgjjblaa.Pure
