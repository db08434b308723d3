/- What an argument that can be read as data holds, by its type: numbers, strings, slices of such, structs of two cells. Conditions: those that each lemma names. -/
import Derived.Test.YtilbngklgjjblaaQ0
import Derived.ProofKit
import Derived.OpenShut
import Derived.Lib.SmallJoins
namespace Go.Proofs.Ytilbngklgjjblaa.Q
open Go.RowKit Go.Proofs.YtilbngklgjjblaaW.PrintWords Go.Proofs.YtilbngklgjjblaaW.PrintLast Go.Proofs.YtilbngklgjjblaaW.PrintMore
set_option linter.unusedVariables false
set_option linter.unusedSimpArgs false
open Go.ChangeShapes Go.WideShapes Go.ChangeAt
/-- Whatever can be read at the type t is a value of the kind d, of which G holds. -/
def Opens (P : Program) (t : TypeId) {α : Type} (d : Kd α) (G : α → Prop) : Prop :=
  ∀ {H : Type} (enc : TypeId × Value → H) (w : World) (base : Nat) (sp : Nat → Bool) (held : Bool) (fuel : Nat) (cs : List Value) (x : DataW H × List MemPlace),
    DataW.trod enc P w base sp held fuel t cs = some x → ∃ a, d.K w a cs ∧ G a
theorem opens_int {P : Program} {t : TypeId} {k : IntKind} (ht : P.underlying t = some (.int k)) : Opens P t (Kd.int k) (fun n => (Lit.int k n).wf = true) := by
  intro H enc w base sp held fuel cs x h
  obtain ⟨n, rfl, _, hw⟩ := DataW.trod_int ht h
  exact ⟨n, rfl, hw⟩
theorem opens_string {P : Program} {t : TypeId} (ht : P.underlying t = some .string) : Opens P t Kd.string (fun s => s.size ≤ maxLen) := by
  intro H enc w base sp held fuel cs x h
  obtain ⟨s, rfl, _, hs⟩ := DataW.trod_string ht h
  exact ⟨s, rfl, hs⟩
theorem opens_slice {P : Program} {t e : TypeId} {α : Type} {d : Kd α} {G : α → Prop} (ht : P.underlying t = some (.slice e)) (hc : P.cellsOf e = d.sz) (he : Opens P e d G) :
    Opens P t (Kd.slice e d) (fun xs => xs.length ≤ maxLen ∧ ∀ x ∈ xs, G x) := by
  intro H enc w base sp held fuel cs x h
  rcases DataW.trod_slice ht h with ⟨rfl, _⟩ | ⟨a, len, cap, elems, rest, n, _, rfl, _, hb, hl, hm, hlen, hel, _, _⟩
  · exact ⟨[], ⟨none, 0, rfl, Nat.le_refl _, rfl, by simp, fun h => absurd h (Nat.lt_irrefl 0)⟩, by simp, fun x hx => by cases hx⟩
  · have each : ∀ i : Fin len, ∃ (p : α) (c : List Value), w.cells? base (a.add (i.val * d.sz)) d.sz = some c ∧ d.K w p c ∧ G p := by
      intro i
      have h1 := hel i.val i.isLt
      rw [List.getElem?_eq_getElem (by rw [hlen]; exact i.isLt), Option.bind_eq_some_iff, hc] at h1
      obtain ⟨c, hc1, hc2⟩ := h1
      obtain ⟨p, hp, hg⟩ := he enc w base sp held n c _ hc2
      exact ⟨p, c, hc1, hp, hg⟩
    have ⟨f, hf⟩ := Classical.skolem.1 each
    refine ⟨List.ofFn f, ⟨some a, cap, by simp, by simpa using hl, rfl, ?_, fun _ => ⟨a, rfl, fun j p hj => ?_⟩⟩, by rw [List.length_ofFn]; omega, fun x hx => ?_⟩
    · rw [List.length_ofFn]
      have : maxLen = 9223372036854775807 := rfl
      omega
    · have hjl : j < len := by
        have := (List.getElem?_eq_some_iff.1 hj).1
        simpa using this
      have hp : p = f ⟨j, hjl⟩ := by
        rw [List.getElem?_eq_getElem (by simpa using hjl), List.getElem_ofFn] at hj
        exact (Option.some.inj hj).symm
      obtain ⟨c, h1, h2, _⟩ := hf ⟨j, hjl⟩
      obtain ⟨_, h4, h5⟩ := World.cells?_some h1
      refine ⟨c, h4, by rw [hp]; exact h2, fun i u hu => ?_⟩
      have hi : i < c.length := (List.getElem?_eq_some_iff.1 hu).1
      rw [← Addr.add_add]
      exact (h5 i (by omega)).trans hu
    · obtain ⟨i, hi, rfl⟩ := List.getElem_of_mem hx
      rw [List.getElem_ofFn]
      obtain ⟨_, _, _, hg⟩ := hf ⟨i, by simpa using hi⟩
      exact hg
/-- A struct of two cells. -/
theorem opens_two {P : Program} {t : TypeId} {f0 f1 : Field} {α β : Type} {d0 : Kd α} {d1 : Kd β} {G0 : α → Prop} {G1 : β → Prop} (ht : P.underlying t = some (.struct #[f0, f1])) (hC : P.cellsOf t = 2)
    (o0 : f0.offset = 0) (k0 : P.cellsOf f0.type = 1) (o1 : f1.offset = 1) (k1 : P.cellsOf f1.type = 1) (h0 : Opens P f0.type d0 G0) (h1 : Opens P f1.type d1 G1) :
    ∀ {H : Type} (enc : TypeId × Value → H) (w : World) (base : Nat) (sp : Nat → Bool) (held : Bool) (fuel : Nat) (cs : List Value) (x : DataW H × List MemPlace),
      DataW.trod enc P w base sp held fuel t cs = some x → ∃ (a : α) (b : β), (Kd.pair d0 d1).K w (a, b) cs ∧ G0 a ∧ G1 b := by
  intro H enc w base sp held fuel cs x h
  obtain ⟨y0, y1, n, _, hl, g0, g1⟩ := trod_struct2 ht h
  rw [hC] at hl
  obtain ⟨c0, c1, rfl⟩ : ∃ c0 c1, cs = [c0, c1] := by
    match cs, hl with
    | [c0, c1], _ => exact ⟨c0, c1, rfl⟩
  rw [o0, k0] at g0
  rw [o1, k1] at g1
  obtain ⟨a, ha, hga⟩ := h0 enc w base sp held n _ _ g0
  obtain ⟨b, hb, hgb⟩ := h1 enc w base sp held n _ _ g1
  exact ⟨a, b, ⟨[c0], [c1], rfl, ha, hb⟩, hga, hgb⟩
end Go.Proofs.Ytilbngklgjjblaa.Q
