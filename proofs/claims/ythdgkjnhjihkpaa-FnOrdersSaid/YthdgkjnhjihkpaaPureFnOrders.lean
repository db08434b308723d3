/- The orders of flat charts and of chains. No conditions beyond those of the statement's reading. -/
import Derived.Test.YthdgkjnhjihkpaaP0
import Derived.Test.YthdgkjnhjihkpaaPOrders
import Derived.Test.YthdgkjnhjihkpaaPOrdersI
import Derived.Test.YthdgkjnhjihkpaaQ1
import Derived.Test.YthdgkjnhjihkpaaQ2
import Derived.Test.YthdgkjnhjihkpaaQ3
namespace Go.Proofs.Ythdgkjnhjihkpaa.Pure
open Go.RowKit Go.Proofs.Ythdgkjnhjihkpaa.Q Go.Proofs.YthdgkjnhjihkpaaW.PrintWords Go.Proofs.YthdgkjnhjihkpaaW.PrintLast Go.Proofs.YthdgkjnhjihkpaaW.PrintMore
set_option linter.unusedVariables false
set_option linter.unusedSimpArgs false
def flL : Nat → List Int
  | 0 => []
  | i + 1 => wrap64 (1 + shl .i64 2 (i : Int)) :: flL i
def chL : Nat → List Int
  | 0 => []
  | i + 1 => wrap64 (shl .i64 2 (i : Int) - 1) :: chL i
def allN : Nat → Int
  | 0 => 1
  | i + 1 => wrap64 (allN i * wrap64 ((i : Int) + 1))
theorem flL_length : ∀ n, (flL n).length = n
  | 0 => rfl
  | n + 1 => by rw [flL, List.length_cons, flL_length n]
theorem chL_length : ∀ n, (chL n).length = n
  | 0 => rfl
  | n + 1 => by rw [chL, List.length_cons, chL_length n]
theorem flat_all : ∀ n : Nat, n < 7 → 0 < n → countO (flL n) = allN n := by decide +kernel
theorem chain_all : ∀ n : Nat, n < 7 → 0 < n → countO (chL n) = 1 := by decide +kernel
theorem turn_all : ∀ n : Nat, n < 7 → ∀ q : Nat, q < n → countO (([] : List Int) ++ (chL n).drop q ++ (chL n).take q) = 1 := by decide +kernel
theorem twice_all : ∀ n : Nat, n < 7 → 0 < n → countO (chL n ++ [rd (chL n) 0]) = -1 := by decide +kernel
theorem at_ok (l : List Int) (a : Int) (ha : 0 ≤ a) (ha2 : a ≤ 10) (hl : l.length ≤ 1048576) (hw : ∀ x ∈ l, (Lit.int .u8 x).wf = true) : ∃ v, laws_at.f l a = some v ∧ 0 ≤ v ∧ v ≤ 255 := by
  unfold laws_at.f
  by_cases h : a < (l.length : Int)
  · rw [if_pos h, if_pos ha]
    obtain ⟨n, rfl⟩ : ∃ n : Nat, a = n := ⟨a.toNat, by omega⟩
    have hn : n < l.length := by omega
    have hx := hw l[n] (List.getElem_mem hn)
    simp [Lit.wf, IntKind.min, IntKind.max, IntKind.signed, IntKind.bits] at hx
    refine ⟨_, rfl, ?_, ?_⟩
    · rw [rd_nat l n hn, wrap_id _ (by omega) (by omega)]; omega
    · rw [rd_nat l n hn, wrap_id _ (by omega) (by omega)]; omega
  · rw [if_neg h]
    have e1 : wrap64 (a * 37) = a * 37 := wrap_id _ (by omega) (by omega)
    have e2 : wrap64 ((l.length : Int) * 11) = (l.length : Int) * 11 := wrap_id _ (by omega) (by omega)
    have e3 : wrap64 (a * 37 + (l.length : Int) * 11) = a * 37 + (l.length : Int) * 11 := wrap_id _ (by omega) (by omega)
    rw [e1, e2, e3]
    refine ⟨_, rfl, Int.tmod_nonneg _ (by omega), ?_⟩
    have := Int.tmod_lt_of_pos (a * 37 + (l.length : Int) * 11) (show (0 : Int) < 256 by decide)
    omega
theorem FnOrders : laws_FnOrders.Pure := by
  intro l hm hm2 hw
  by_cases hlen : (l.length : Int) > 1048576
  · exact ⟨0, by simp only [laws_FnOrders.f, if_pos hlen]⟩
  obtain ⟨v0, a0, v01, v02⟩ := at_ok l 0 (by omega) (by omega) (by omega) hw
  obtain ⟨v1, a1, v11, v12⟩ := at_ok l 1 (by omega) (by omega) (by omega) hw
  have t1 := Int.tmod_nonneg 6 v01
  have t2 := Int.tmod_lt_of_pos v0 (show (0 : Int) < 6 by decide)
  obtain ⟨n, hn⟩ : ∃ n : Nat, wrap64 (1 + Int.tmod v0 6) = n := ⟨(1 + Int.tmod v0 6).toNat, by rw [wrap_id _ (by omega) (by omega)]; omega⟩
  have hn' := hn
  rw [wrap_id _ (by omega) (by omega)] at hn'
  have n1 : 0 < n := by omega
  have n2 : n < 7 := by omega
  have q1 := Int.tmod_nonneg (n : Int) v11
  have q2 := Int.tmod_lt_of_pos v1 (show (0 : Int) < (n : Int) by omega)
  obtain ⟨q, hq⟩ : ∃ q : Nat, Int.tmod v1 (n : Int) = q := ⟨(Int.tmod v1 (n : Int)).toNat, by omega⟩
  have hfl := flL_length n
  have hch := chL_length n
  obtain ⟨K1, h1⟩ := impl_CountOrders_ev (flL n) (by omega)
  obtain ⟨K2, h2⟩ := impl_CountOrders_ev (chL n) (by omega)
  obtain ⟨K3, h3⟩ := impl_CountOrders_ev (([] : List Int) ++ (chL n).drop q ++ (chL n).take q) (by simp; omega)
  obtain ⟨K4, h4⟩ := impl_CountOrders_ev (chL n ++ [rd (chL n) 0]) (by simp; omega)
  rw [flat_all n n2 n1] at h1
  rw [chain_all n n2 n1] at h2
  rw [turn_all n n2 q (by omega)] at h3
  rw [twice_all n n2 n1] at h4
  have hend : Ev (fun k => laws_FnOrders.l0 k l (n : Int) (flL n) (chL n) (allN n) (n : Int)) true := by
    refine Ev.step (f := fun k => (impl_CountOrders.f k (flL n)).bind fun t157 => if t157 = allN n then ((impl_CountOrders.f k (chL n)).bind fun t158 => if t158 = 1 then ((impl_CountOrders.f k (([] : List Int) ++ (chL n).drop q ++ (chL n).take q)).bind fun t159 => if t159 = 1 then ((impl_CountOrders.f k (chL n ++ [rd (chL n) 0])).bind fun t164 => some (t164 == (-1))) else some false) else some false) else some false) (fun k => ?_) ⟨K1 + K2 + K3 + K4, fun k hk => ?_⟩
    · simp only [laws_FnOrders.l0, a1, Option.bind_some, hq]
      rw [if_neg (by omega), if_neg (by omega), if_pos (by omega), if_pos (by omega)]
      rw [Int.toNat_natCast, if_pos (by simp only [List.length_nil, List.length_drop]; omega), if_pos (by simp only [List.length_append, List.length_nil, List.length_drop, List.length_take]; omega)]
      rw [if_pos (by omega), if_pos (by omega)]
    · simp only [h1 k (by omega), h2 k (by omega), h3 k (by omega), h4 k (by omega), Option.bind_some, if_true]
      rfl
  have main : ∀ d i, i + d = n → Ev (fun k => laws_FnOrders.l0 k l (n : Int) (flL i) (chL i) (allN i) (i : Int)) true := by
    intro d
    induction d with
    | zero => intro i hi; obtain rfl : i = n := by omega
              exact hend
    | succ d ih =>
      intro i hi
      have h := ih (i + 1) (by omega)
      have l1 := flL_length i
      have l2 := chL_length i
      rw [flL, chL, allN] at h
      refine Ev.step (fun k => ?_) h
      simp only [laws_FnOrders.l0, Option.bind_some]
      rw [if_pos (by omega), if_pos (by omega), if_pos (by simp only [List.length_singleton]; omega), if_pos (by simp only [List.length_singleton]; omega), w1 i (by omega)]
      rfl
  obtain ⟨K, hK⟩ := main n 0 (by omega)
  refine ⟨K, ?_⟩
  simp only [laws_FnOrders.f, if_neg hlen, a0, Option.bind_some, hn]
  exact hK K (Nat.le_refl _)
end Go.Proofs.Ythdgkjnhjihkpaa.Pure
