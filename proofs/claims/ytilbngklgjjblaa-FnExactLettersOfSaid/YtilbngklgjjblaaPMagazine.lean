/- Magazines: what the program's and the reference's MagazineOk give. Conditions: those that each lemma names. -/
import Derived.Test.YtilbngklgjjblaaPMatrix
import Derived.Test.YtilbngklgjjblaaQ0
import Derived.Test.YtilbngklgjjblaaQ6
namespace Go.Proofs.Ytilbngklgjjblaa.Q
open Go.RowKit Go.Proofs.YtilbngklgjjblaaW.PrintWords Go.Proofs.YtilbngklgjjblaaW.PrintLast Go.Proofs.YtilbngklgjjblaaW.PrintMore
set_option linter.unusedVariables false
set_option linter.unusedSimpArgs false
theorem all_same {α : Type} (p q : α → Bool) : ∀ l : List α, (∀ x ∈ l, p x = q x) → l.all p = l.all q
  | [], _ => rfl
  | a :: r, h => by rw [List.all_cons, List.all_cons, h a List.mem_cons_self, all_same p q r (fun x hx => h x (List.mem_cons_of_mem _ hx))]
theorem impl_allOf_eq (a : ByteArray) (ws cs : List Int) (l : List S30) (hc : cs.length = a.size) : impl_allOf.f a ws cs l = some (l.all fun x => matB a cs x.f0 x.f1) := by
  unfold impl_allOf.f
  rw [if_pos]
  · congr 1
    refine all_same _ _ l (fun x _ => ?_)
    rw [impl_ofFont_eq a ws cs x.f0 x.f1 hc]
    cases matB a cs x.f0 x.f1 <;> rfl
  · rw [List.all_eq_true]
    intro x _
    rw [impl_ofFont_eq a ws cs x.f0 x.f1 hc]; rfl
end Go.Proofs.Ytilbngklgjjblaa.Q
