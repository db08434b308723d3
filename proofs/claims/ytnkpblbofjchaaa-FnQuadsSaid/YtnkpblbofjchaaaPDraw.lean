/- Drawn numbers: that the reference's draws give something, and in which ranges. Conditions: the cursor stands within its list. -/
import Derived.Test.YtnkpblbofjchaaaP0
import Derived.Test.YtnkpblbofjchaaaQ7
import Derived.Test.YtnkpblbofjchaaaQ8
namespace Go.Proofs.Ytnkpblbofjchaaa.Q
open Go.RowKit Go.Proofs.YtnkpblbofjchaaaW.PrintWords Go.Proofs.YtnkpblbofjchaaaW.PrintLast Go.Proofs.YtnkpblbofjchaaaW.PrintMore
set_option linter.unusedVariables false
set_option linter.unusedSimpArgs false
theorem i64_small (n : Nat) (h : n ≤ 1000) : IntKind.i64.wrap (n : Int) = n := by
  rw [i64_w, wrap_id _ (by omega) (by omega)]
theorem and255 (y : Int) : 0 ≤ Go.bits .and .i64 y 255 ∧ Go.bits .and .i64 y 255 ≤ 255 := by
  have h : (BitVec.ofInt IntKind.i64.bits y &&& BitVec.ofInt IntKind.i64.bits 255).toNat ≤ 255 := by
    rw [BitVec.toNat_and]
    exact Nat.and_le_right
  unfold Go.bits
  simp only
  rw [i64_small _ (by omega)]
  omega
/-- The cursor stands within its list. -/
def Cur (c : List Int) (i : Int) : Prop := 0 ≤ i ∧ i ≤ c.length ∧ c.length ≤ 1099511627776
theorem byte_ok (c : List Int) (i h : Int) (hc : Cur c i) : ∃ x i' h', spec_l01Byte.f c i h = some (x, i', h') ∧ 0 ≤ x ∧ x ≤ 255 ∧ Cur c i' := by
  obtain ⟨c1, c2, c3⟩ := hc
  unfold spec_l01Byte.f
  by_cases hi : i < (c.length : Int)
  · rw [if_pos hi, if_pos c1]
    have := wrap_id (i + 1) (by omega) (by omega)
    exact ⟨_, _, _, rfl, (and255 _).1, (and255 _).2, by rw [this]; omega, by rw [this]; omega, c3⟩
  · rw [if_neg hi]
    exact ⟨_, _, _, rfl, (and255 _).1, (and255 _).2, c1, c2, c3⟩
theorem below_ok (c : List Int) (i h n : Int) (hc : Cur c i) (h1 : 1 ≤ n) (h2 : n ≤ 256) : ∃ x i' h', spec_l01Below.f c i h n = some (x, i', h') ∧ 0 ≤ x ∧ x < n ∧ Cur c i' := by
  obtain ⟨x, i', h', e, x1, x2, hc'⟩ := byte_ok c i h hc
  unfold spec_l01Below.f
  rw [if_neg (by omega), if_pos h2, e, Option.bind_some, if_neg (by omega)]
  refine ⟨_, _, _, rfl, ?_, ?_, hc'⟩
  · exact Int.tmod_nonneg _ x1
  · exact Int.tmod_lt_of_pos _ (by omega)
theorem int_ok (c : List Int) (i h : Int) (l : List Int) (hc : Cur c i) (h1 : 1 ≤ l.length) (h2 : l.length ≤ 256) : ∃ x i' h', spec_l01Int.f c i h l = some (x, i', h') ∧ x ∈ l ∧ Cur c i' := by
  obtain ⟨x, i', h', e, x1, x2, hc'⟩ := below_ok c i h (l.length : Int) hc (by omega) (by omega)
  unfold spec_l01Int.f
  rw [e, Option.bind_some]
  simp only
  rw [if_pos x1, if_pos x2]
  refine ⟨_, _, _, rfl, ?_, hc'⟩
  obtain ⟨n, rfl⟩ : ∃ n : Nat, x = n := ⟨x.toNat, by omega⟩
  rw [rd_nat l n (by omega)]
  exact List.getElem_mem _
theorem new_ok (l : List Int) (hl : l.length ≤ 1099511627776) : ∃ h, Ev (fun k => spec_l01New.f k l) (l, 0, h) := by
  have main : ∀ d i (s : Int), l.length - i = d → i ≤ l.length → ∃ h, Ev (fun k => spec_l01New.l0 k l s (i : Int)) (l, 0, h) := by
    intro d
    induction d with
    | zero => intro i s hd hi; exact ⟨s, ev_step1 (fun k => by simp only [spec_l01New.l0]; rw [if_neg (by omega)])⟩
    | succ d ih =>
      intro i s hd hi
      by_cases h4 : (i : Int) < 4000
      · obtain ⟨h, hh⟩ := ih (i + 1) (Go.bits .and .i64 (wrap64 ((wrap64 ((wrap64 (s * 1103)) + (wrap64 (rd l (i : Int))))) + 7)) 1073741823) (by omega) (by omega)
        refine ⟨h, Ev.step (fun k => ?_) hh⟩
        simp only [spec_l01New.l0]
        rw [if_pos (by omega), if_pos h4, if_pos (by omega), w1 i (by omega)]
      · exact ⟨s, ev_step1 (fun k => by simp only [spec_l01New.l0]; rw [if_pos (by omega), if_neg h4])⟩
  exact main l.length 0 (wrap64 (3230 + (l.length : Int))) rfl (by omega)
end Go.Proofs.Ytnkpblbofjchaaa.Q
