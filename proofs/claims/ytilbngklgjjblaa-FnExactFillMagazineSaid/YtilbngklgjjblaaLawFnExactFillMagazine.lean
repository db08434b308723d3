/- The statement Rows.FnExactFillMagazineSaid: for every input the law returns true, and the input reads as it did. No conditions. -/
import Derived.Test.YtilbngklgjjblaaRows
import Derived.Test.YtilbngklgjjblaaQ99
import Derived.Test.YtilbngklgjjblaaPXOpen
import Derived.Test.YtilbngklgjjblaaPHead
import Derived.Test.YtilbngklgjjblaaPureFnExactFillMagazine
import Derived.WalkKit
import Derived.ProofKit
import Derived.OpenShut
import Derived.ShutString
import Derived.ChangeOld
import Derived.Below
import Derived.SizedLaws
import Derived.Lib.SmallJoins
namespace Go.Proofs.Ytilbngklgjjblaa.fnExactFillMagazine
open Go.ChangeShapes Go.WideShapes Go.ChangeAt Go.RowKit Go.Proofs.Ytilbngklgjjblaa.Q Go.Proofs.YtilbngklgjjblaaW.PrintWords
open Go.ChangeMaps (open_string shut_string)
set_option linter.unusedVariables false
theorem own : ownKnob Try.prog.godebug = none := by kernel_rfl
theorem laidOut : laidOutB Try.prog = true := by kernel_rfl
set_option maxRecDepth 100000 in
theorem lifted (os : Os) (started : os.Started) (H : Type) (enc : TypeId × Value → H) :
    ReturnsInHanded {} Try.checked os 11 .any (Rows.fnExactFillMagazineSpec.pre6 enc Try.prog Try.f11 Rows.fnExactFillMagazineRow.domain false) (Rows.fnExactFillMagazineSpec.post enc Try.prog Try.f11 false true false false) := by
  refine returnsInHanded_of_change_sized (C := Try.checked) own started (by kernel_rfl) Try.func11
    (ChangeSpec.witness6 (enc := enc) (C := Try.checked) false ⟨#[], #[.agg #[.string ByteArray.empty, .slice none 0 0, .slice none 0 0], .int .i64 0], []⟩ 8 (by kernel_rfl) (by kernel_rfl) (by kernel_rfl) (by kernel_rfl)) ?_
  intro W base args ds gs before hval0 hW hcnd hsz0 _
  have hval : ∀ (j : Nat) t v, Try.f11.params[j]? = some t → args[j]? = some v → Value.okWide Try.prog W .any base t v := hval0
  have hW' := hW
  obtain ⟨p, q, hA0, hV, rfl, hfz, hnd⟩ := hW
  have hA : DataW.TrodAll enc Try.prog W 0 (fun _ => true) true Try.f11.params.toList args.toList ds p := hA0
  rw [Try.params11] at hA hval
  obtain ⟨v0, vs0, d0, ds0, p0, q0, hargs, rfl, rfl, h0, r0⟩ := trodAll_cons hA
  obtain ⟨v1, vs1, d1, ds1, p1, q1, rfl, rfl, rfl, h1, r1⟩ := trodAll_cons r0
  obtain ⟨rfl, rfl, rfl⟩ := trodAll_nil r1
  obtain rfl : args = #[v0, v1] := by cases args; simp_all
  obtain ⟨rfl, rfl⟩ := trodVars_none hV
  have k0 := h0
  have lt0 : ∀ x ∈ p0, x.block < W.heap.size := by obtain ⟨m, hm⟩ := k0; exact DataW.trod_lt m _ _ _ hm
  obtain ⟨cc0_0, cc0_1, cc0_2, y0_0, y0_1, y0_2, m0, rfl, rfl, rfl, g0_0, g0_1, g0_2⟩ := Go.Joins.open_agg3 Try.underlying42 (by kernel_rfl) (by kernel_rfl) (hval 0 42 v0 rfl rfl) h0
  obtain ⟨a0_0, K0_0, w0_0⟩ := (opens_string Try.underlying9) enc W _ _ _ _ _ _ g0_0
  obtain rfl : cc0_0 = .string a0_0 := (List.cons.inj K0_0).1
  obtain ⟨l0_1, K0_1, w0_1, u0_1⟩ := (opens_slice Try.underlying23 (by kernel_rfl) (opens_int Try.underlying3)) enc W _ _ _ _ _ _ g0_1
  obtain ⟨A0_1, c0_1, E0_1, hc0_1, hr0_1⟩ := K0_1
  obtain rfl : cc0_1 = .slice A0_1 l0_1.length c0_1 := (List.cons.inj E0_1).1
  obtain ⟨l0_2, K0_2, w0_2, u0_2⟩ := (opens_slice Try.underlying23 (by kernel_rfl) (opens_int Try.underlying3)) enc W _ _ _ _ _ _ g0_2
  obtain ⟨A0_2, c0_2, E0_2, hc0_2, hr0_2⟩ := K0_2
  obtain rfl : cc0_2 = .slice A0_2 l0_2.length c0_2 := (List.cons.inj E0_2).1
  obtain ⟨a1, rfl, rfl, rfl, w1⟩ := open_int Try.underlying3 (hval 1 3 v1 rfl rfl) h1
  clear hA0 hval0 hsz0
  obtain ⟨k, h⟩ := Pure.FnExactFillMagazine a0_0 l0_1 l0_2 a1 w0_0 w0_1 u0_1 w0_2 u0_2 w1
  refine (laws_FnExactFillMagazine.calls k a0_0 _ _ l0_1 _ _ l0_2 a1 W hr0_1 hc0_1 hr0_2 hc0_2 h).mono fun e W' ⟨he, hd⟩ => ?_
  subst he
  have bel : Below W.heap.size W W' := hd
  exact ⟨_, rfl, _, _, _, [], _, [], hW', trodAll_mk1 (shut_bool Try.underlying4 _), (trodAll_cons_mk (Below.trod laidOut (by kernel_rfl) (of_decide_eq_true (by kernel_rfl)) k0 bel lt0) (trodAll_cons_mk (shut_int Try.underlying3 w1) trodAll_mk0)), rfl, bel.frame _, fun h => by cases h⟩
theorem closed_ : joinedFacts Try.prog 11 Try.f11 Rows.fnExactFillMagazineSpec Rows.fnExactFillMagazineRow = true := by
  unfold joinedFacts
  exact (Go.Proofs.Ytilbngklgjjblaa.Head.and_true_ (Go.Proofs.Ytilbngklgjjblaa.Head.and_true_ (Go.Proofs.Ytilbngklgjjblaa.Head.and_true_ (Go.Proofs.Ytilbngklgjjblaa.Head.and_true_ (Go.Proofs.Ytilbngklgjjblaa.Head.and_true_ (Go.Proofs.Ytilbngklgjjblaa.Head.and_true_ (Go.Proofs.Ytilbngklgjjblaa.Head.and_true_ (Go.Proofs.Ytilbngklgjjblaa.Head.and_true_ (Go.Proofs.Ytilbngklgjjblaa.Head.and_true_ (Go.Proofs.Ytilbngklgjjblaa.Head.and_true_ (Go.Proofs.Ytilbngklgjjblaa.Head.and_true_ (Go.Proofs.Ytilbngklgjjblaa.Head.and_true_ (Go.Proofs.Ytilbngklgjjblaa.Head.and_true_ (Go.Proofs.Ytilbngklgjjblaa.Head.and_true_ (Go.Proofs.Ytilbngklgjjblaa.Head.and_true_ (Go.Proofs.Ytilbngklgjjblaa.Head.and_true_ (Go.Proofs.Ytilbngklgjjblaa.Head.and_true_ (Go.Proofs.Ytilbngklgjjblaa.Head.and_true_ (Go.Proofs.Ytilbngklgjjblaa.Head.and_true_ (Go.Proofs.Ytilbngklgjjblaa.Head.and_true_ (Go.Proofs.Ytilbngklgjjblaa.Head.and_true_ (Go.Proofs.Ytilbngklgjjblaa.Head.and_true_ (Go.Proofs.Ytilbngklgjjblaa.Head.and_true_ (Go.Proofs.Ytilbngklgjjblaa.Head.and_true_ (Go.Proofs.Ytilbngklgjjblaa.Head.and_true_ (Go.Proofs.Ytilbngklgjjblaa.Head.and_true_ (Go.Proofs.Ytilbngklgjjblaa.Head.and_true_ (Go.Proofs.Ytilbngklgjjblaa.Head.and_true_ (Go.Proofs.Ytilbngklgjjblaa.Head.and_true_ (Go.Proofs.Ytilbngklgjjblaa.Head.and_true_ (Go.Proofs.Ytilbngklgjjblaa.Head.and_true_ (by as_aux_lemma => kernel_rfl) (by as_aux_lemma => kernel_rfl)) (by as_aux_lemma => kernel_rfl)) (by as_aux_lemma => kernel_rfl)) (by as_aux_lemma => kernel_rfl)) (by as_aux_lemma => kernel_rfl)) (by as_aux_lemma => kernel_rfl)) (by as_aux_lemma => kernel_rfl)) (by as_aux_lemma => kernel_rfl)) (by as_aux_lemma => kernel_rfl)) (by as_aux_lemma => kernel_rfl)) (by as_aux_lemma => kernel_rfl)) (by as_aux_lemma => kernel_rfl)) (by as_aux_lemma => kernel_rfl)) (by as_aux_lemma => kernel_rfl)) (by as_aux_lemma => kernel_rfl)) (by as_aux_lemma => kernel_rfl)) (by as_aux_lemma => kernel_rfl)) (by as_aux_lemma => kernel_rfl)) (by as_aux_lemma => kernel_rfl)) (by as_aux_lemma => kernel_rfl)) (by as_aux_lemma => kernel_rfl)) (by as_aux_lemma => kernel_rfl)) (by as_aux_lemma => kernel_rfl)) (by as_aux_lemma => kernel_rfl)) Go.Proofs.Ytilbngklgjjblaa.Head.enter_) Go.Proofs.Ytilbngklgjjblaa.Head.lifts_) (Go.Proofs.Ytilbngklgjjblaa.Head.make_ _ rfl)) (by as_aux_lemma => kernel_rfl)) (by as_aux_lemma => kernel_rfl)) (by as_aux_lemma => kernel_rfl)) (by as_aux_lemma => kernel_rfl))
theorem over : Rows.fnExactFillMagazineRow.holds Try.pinned (OpenSpec.ofChange Rows.fnExactFillMagazineSpec) :=
  OpenClaim.holds_of_wide 11 Try.f11 rfl rfl rfl rfl rfl rfl rfl ⟨rfl, rfl, rfl, rfl, rfl⟩ rfl rfl rfl rfl rfl (by kernel_rfl) Try.func11 closed_
    (of_decide_eq_true (by kernel_rfl)) (by unfold Func.isWrapper; first | (rw [if_pos (by decide +kernel)]; kernel_rfl) | (rw [if_neg (by decide +kernel)]; exact ⟨rfl, rfl⟩))
    (fun os started H enc _ => lifted os started H enc)
theorem proved : Rows.FnExactFillMagazineSaid := over
#print axioms proved
end Go.Proofs.Ytilbngklgjjblaa.fnExactFillMagazine
namespace Go.Proofs.Ytilbngklgjjblaa
/-- The row, under a short name, for the claim. -/
theorem fnExactFillMagazine_holds : Rows.FnExactFillMagazineSaid := fnExactFillMagazine.proved
end Go.Proofs.Ytilbngklgjjblaa
