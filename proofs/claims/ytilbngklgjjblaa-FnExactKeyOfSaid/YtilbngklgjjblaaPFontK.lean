/- Letters and matrices of fonts: what the program's and the reference's functions give. Conditions: those that each lemma names. -/
import Derived.Test.YtilbngklgjjblaaP0
import Derived.Test.YtilbngklgjjblaaPFont
import Derived.Test.YtilbngklgjjblaaQ4
import Derived.Test.YtilbngklgjjblaaQ5
namespace Go.Proofs.Ytilbngklgjjblaa.Q
open Go.RowKit Go.Proofs.YtilbngklgjjblaaW.PrintWords Go.Proofs.YtilbngklgjjblaaW.PrintLast Go.Proofs.YtilbngklgjjblaaW.PrintMore
set_option linter.unusedVariables false
set_option linter.unusedSimpArgs false
/-- The first place of a letter from a place on; -1 if there is none. -/
def keyF (a : ByteArray) (letter : Int) : Nat → Nat → Int
  | _, 0 => -1
  | i, c + 1 => if wrap64 (bt a (i : Int)) = letter then (i : Int) else keyF a letter (i + 1) c
theorem impl_key_ev (a : ByteArray) (ws cs : List Int) (letter : Int) (hs : a.size ≤ 40) : Ev (fun k => impl_key.f k a ws cs letter) (keyF a letter 0 a.size) := by
  have main : ∀ d i, i + d = a.size → Ev (fun k => impl_key.l0 k letter (a.size : Int) (i : Int) a ws cs) (keyF a letter i d) := by
    intro d
    induction d with
    | zero =>
      intro i hi
      refine ev_step1 (fun k => ?_)
      simp only [impl_key.l0, keyF]
      rw [if_neg (by omega)]
    | succ d ih =>
      intro i hi
      rw [keyF]
      by_cases e : wrap64 (bt a (i : Int)) = letter
      · rw [if_pos e]
        refine ev_step1 (fun k => ?_)
        simp only [impl_key.l0]
        rw [if_pos (by omega), if_pos (by omega), if_pos (by omega), if_pos e]
      · rw [if_neg e]
        refine Ev.step (fun k => ?_) (ih (i + 1) (by omega))
        simp only [impl_key.l0]
        rw [if_pos (by omega), if_pos (by omega), if_pos (by omega), if_neg e, w1 i (by omega)]
  exact main a.size 0 (by omega)
theorem spec_key_ev (a : ByteArray) (ws cs : List Int) (letter : Int) (hs : a.size ≤ 40) : Ev (fun k => spec_KeyOf.l0 k letter 0 a ws cs) (keyF a letter 0 a.size) := by
  have main : ∀ d i, i + d = a.size → Ev (fun k => spec_KeyOf.l0 k letter (i : Int) a ws cs) (keyF a letter i d) := by
    intro d
    induction d with
    | zero =>
      intro i hi
      refine ev_step1 (fun k => ?_)
      simp only [spec_KeyOf.l0, keyF]
      rw [if_neg (by omega)]
    | succ d ih =>
      intro i hi
      rw [keyF]
      by_cases e : wrap64 (bt a (i : Int)) = letter
      · rw [if_pos e]
        refine ev_step1 (fun k => ?_)
        simp only [spec_KeyOf.l0]
        rw [if_pos (by omega), if_pos (by omega), if_pos e]
      · rw [if_neg e]
        refine Ev.step (fun k => ?_) (ih (i + 1) (by omega))
        simp only [spec_KeyOf.l0]
        rw [if_pos (by omega), if_pos (by omega), if_neg e, w1 i (by omega)]
  exact main a.size 0 (by omega)
def keyOf (a : ByteArray) (ws cs : List Int) (letter : Int) : Int := if fontB a ws cs = true then keyF a letter 0 a.size else -1
theorem impl_KeyOf_ev (a : ByteArray) (ws cs : List Int) (letter : Int) (hl : cs.length ≤ 1099511627776) : Ev (fun k => impl_KeyOf.f k a ws cs letter) (keyOf a ws cs letter) := by
  obtain ⟨K1, f1⟩ := impl_FontOk_ev a ws cs hl
  unfold keyOf
  by_cases hf : fontB a ws cs = true
  · obtain ⟨K2, f2⟩ := impl_key_ev a ws cs letter (fontB_len a ws cs hf).2.1
    rw [if_pos hf]
    refine ⟨K1 + K2, fun k hk => ?_⟩
    simp only [impl_KeyOf.f, f1 k (by omega), f2 k (by omega), hf, Option.bind_some, if_true]
  · rw [if_neg hf]
    refine ⟨K1, fun k hk => ?_⟩
    simp only [impl_KeyOf.f, f1 k hk, Option.bind_some, if_neg hf]
theorem spec_KeyOf_ev (a : ByteArray) (ws cs : List Int) (letter : Int) (hl : cs.length ≤ 1099511627776) : Ev (fun k => spec_KeyOf.f k a ws cs letter) (keyOf a ws cs letter) := by
  obtain ⟨K1, f1⟩ := spec_FontOk_ev a ws cs hl
  unfold keyOf
  by_cases hf : fontB a ws cs = true
  · obtain ⟨K2, f2⟩ := spec_key_ev a ws cs letter (fontB_len a ws cs hf).2.1
    rw [if_pos hf]
    refine ⟨K1 + K2, fun k hk => ?_⟩
    simp only [spec_KeyOf.f, f1 k (by omega), f2 k (by omega), hf, Option.bind_some, if_true]
  · rw [if_neg hf]
    refine ⟨K1, fun k hk => ?_⟩
    simp only [spec_KeyOf.f, f1 k hk, Option.bind_some, if_neg hf]
end Go.Proofs.Ytilbngklgjjblaa.Q
