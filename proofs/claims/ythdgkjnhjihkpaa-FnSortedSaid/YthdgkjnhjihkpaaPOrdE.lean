/- What the program's OrderBar gives, by running. Conditions: the list is no longer than 2^40. -/
import Derived.Test.YthdgkjnhjihkpaaP0
import Derived.Test.YthdgkjnhjihkpaaPDup
import Derived.Test.YthdgkjnhjihkpaaPOrd
import Derived.Test.YthdgkjnhjihkpaaQ1
import Derived.Test.YthdgkjnhjihkpaaQ3
namespace Go.Proofs.Ythdgkjnhjihkpaa.Q
open Go.RowKit Go.Proofs.YthdgkjnhjihkpaaW.PrintWords Go.Proofs.YthdgkjnhjihkpaaW.PrintLast Go.Proofs.YthdgkjnhjihkpaaW.PrintMore
set_option linter.unusedVariables false
set_option linter.unusedSimpArgs false
theorem ordX_eq : ∀ c (L out : List Int), ordX c L out = ordI c L out
  | 0, L, out => rfl
  | c + 1, L, out => by
    have e : minX L = minIn L := rfl
    rw [ordX, ordI, e, ordX_eq c]
theorem impl_OrderBar_ev (l : List Int) (hl : l.length ≤ 1099511627776) : Ev (fun k => impl_OrderBar.f k l) (orderR l) := by
  by_cases hb : isBar l = true
  · obtain ⟨K, f⟩ := impl_twice_ev l hl
    refine ⟨K, fun k hk => ?_⟩
    cases hd : dupFrom l 0 l with
    | true =>
      have e : orderR l = ([], false) := if_neg (fun h => by rw [hd] at h; cases h.2)
      rw [hd] at f
      have g := f k hk
      rw [e]
      simp only [impl_OrderBar.f, hb, if_true]
      exact (congrArg (fun x => x.bind fun t => if t = true then some (([] : List Int), false) else (ordX l.length l []).bind fun o => some (o, true)) g).trans rfl
    | false =>
      obtain ⟨r, hr, e⟩ := order_some l hb hd
      rw [hd] at f
      have g := f k hk
      rw [e]
      simp only [impl_OrderBar.f, hb, if_true]
      refine (congrArg (fun x => x.bind fun t => if t = true then some (([] : List Int), false) else (ordX l.length l []).bind fun o => some (o, true)) g).trans ?_
      show (ordX l.length l []).bind (fun o => some (o, true)) = some (r, true)
      rw [ordX_eq, hr]; rfl
  · have e : orderR l = ([], false) := if_neg (fun h => hb h.1)
    rw [e]
    exact ev_const (fun k => by simp only [impl_OrderBar.f, if_neg hb])
end Go.Proofs.Ythdgkjnhjihkpaa.Q
