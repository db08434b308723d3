/- The statement Rows.FnExactTakeMatrixSaid: for every input the law returns true, and the input reads as it did. No conditions. -/
import Derived.Test.YtilbngklgjjblaaRows
import Derived.Test.YtilbngklgjjblaaQ99
import Derived.Test.YtilbngklgjjblaaPXOpen
import Derived.Test.YtilbngklgjjblaaPHead
import Derived.Test.YtilbngklgjjblaaPureFnExactTakeMatrix
import Derived.WalkKit
import Derived.ProofKit
import Derived.OpenShut
import Derived.ShutString
import Derived.ChangeOld
import Derived.Below
import Derived.SizedLaws
import Derived.Lib.SmallJoins
namespace Go.Proofs.Ytilbngklgjjblaa.fnExactTakeMatrix
open Go.ChangeShapes Go.WideShapes Go.ChangeAt Go.RowKit Go.Proofs.Ytilbngklgjjblaa.Q Go.Proofs.YtilbngklgjjblaaW.PrintWords
open Go.ChangeMaps (open_string shut_string)
set_option linter.unusedVariables false
theorem own : ownKnob Try.prog.godebug = none := by kernel_rfl
theorem laidOut : laidOutB Try.prog = true := by kernel_rfl
theorem opens_48 : Opens Try.prog 48 k48 (fun x => (Lit.int .i64 x.f0).wf = true ∧ (Lit.int .i64 x.f1).wf = true) := fun enc w base sp held fuel cs x h => by
  obtain ⟨a, b, hk, h0, h1⟩ := opens_two Try.underlying48 (by kernel_rfl) rfl (by kernel_rfl) rfl (by kernel_rfl) (opens_int Try.underlying3) (opens_int Try.underlying3) enc w base sp held fuel cs x h
  exact ⟨⟨a, b⟩, hk, h0, h1⟩
set_option maxRecDepth 100000 in
theorem lifted (os : Os) (started : os.Started) (H : Type) (enc : TypeId × Value → H) :
    ReturnsInHanded {} Try.checked os 14 .any (Rows.fnExactTakeMatrixSpec.pre6 enc Try.prog Try.f14 Rows.fnExactTakeMatrixRow.domain false) (Rows.fnExactTakeMatrixSpec.post enc Try.prog Try.f14 false true false false) := by
  refine returnsInHanded_of_change_sized (C := Try.checked) own started (by kernel_rfl) Try.func14
    (ChangeSpec.witness6 (enc := enc) (C := Try.checked) false ⟨#[], #[.agg #[.string ByteArray.empty, .slice none 0 0, .slice none 0 0], .slice none 0 0, .int .i64 0], []⟩ 8 (by kernel_rfl) (by kernel_rfl) (by kernel_rfl) (by kernel_rfl)) ?_
  intro W base args ds gs before hval0 hW hcnd hsz0 _
  have hval : ∀ (j : Nat) t v, Try.f14.params[j]? = some t → args[j]? = some v → Value.okWide Try.prog W .any base t v := hval0
  have hW' := hW
  obtain ⟨p, q, hA0, hV, rfl, hfz, hnd⟩ := hW
  have hA : DataW.TrodAll enc Try.prog W 0 (fun _ => true) true Try.f14.params.toList args.toList ds p := hA0
  rw [Try.params14] at hA hval
  obtain ⟨v0, vs0, d0, ds0, p0, q0, hargs, rfl, rfl, h0, r0⟩ := trodAll_cons hA
  obtain ⟨v1, vs1, d1, ds1, p1, q1, rfl, rfl, rfl, h1, r1⟩ := trodAll_cons r0
  obtain ⟨v2, vs2, d2, ds2, p2, q2, rfl, rfl, rfl, h2, r2⟩ := trodAll_cons r1
  obtain ⟨rfl, rfl, rfl⟩ := trodAll_nil r2
  obtain rfl : args = #[v0, v1, v2] := by cases args; simp_all
  obtain ⟨rfl, rfl⟩ := trodVars_none hV
  have k0 := h0
  have lt0 : ∀ x ∈ p0, x.block < W.heap.size := by obtain ⟨m, hm⟩ := k0; exact DataW.trod_lt m _ _ _ hm
  obtain ⟨cc0_0, cc0_1, cc0_2, y0_0, y0_1, y0_2, m0, rfl, rfl, rfl, g0_0, g0_1, g0_2⟩ := Go.Joins.open_agg3 Try.underlying42 (by kernel_rfl) (by kernel_rfl) (hval 0 42 v0 rfl rfl) h0
  obtain ⟨a0_0, K0_0, w0_0⟩ := (opens_string Try.underlying9) enc W _ _ _ _ _ _ g0_0
  obtain rfl : cc0_0 = .string a0_0 := (List.cons.inj K0_0).1
  obtain ⟨l0_1, K0_1, w0_1, u0_1⟩ := (opens_slice Try.underlying23 (by kernel_rfl) (opens_int Try.underlying3)) enc W _ _ _ _ _ _ g0_1
  obtain ⟨A0_1, c0_1, E0_1, hc0_1, hr0_1⟩ := K0_1
  obtain rfl : cc0_1 = .slice A0_1 l0_1.length c0_1 := (List.cons.inj E0_1).1
  obtain ⟨l0_2, K0_2, w0_2, u0_2⟩ := (opens_slice Try.underlying23 (by kernel_rfl) (opens_int Try.underlying3)) enc W _ _ _ _ _ _ g0_2
  obtain ⟨A0_2, c0_2, E0_2, hc0_2, hr0_2⟩ := K0_2
  obtain rfl : cc0_2 = .slice A0_2 l0_2.length c0_2 := (List.cons.inj E0_2).1
  have k1 := h1
  have lt1 : ∀ x ∈ p1, x.block < W.heap.size := by obtain ⟨m, hm⟩ := k1; exact DataW.trod_lt m _ _ _ hm
  obtain ⟨sa1, slen1, scap1, rfl⟩ := okWide_slice Try.underlying59 (hval 1 59 v1 rfl rfl)
  obtain ⟨fuel1, hf1⟩ := h1
  obtain ⟨l1, K1, w1, u1⟩ := (opens_slice Try.underlying59 (by kernel_rfl) (opens_slice Try.underlying53 (by kernel_rfl) opens_48)) enc W _ _ _ _ _ _ hf1
  obtain ⟨A1, c1, E1, hc1, hr1⟩ := K1
  obtain ⟨rfl, rfl, rfl⟩ : sa1 = A1 ∧ slen1 = l1.length ∧ scap1 = c1 := by simpa [Value.cells] using E1
  obtain ⟨a2, rfl, rfl, rfl, w2⟩ := open_int Try.underlying3 (hval 2 3 v2 rfl rfl) h2
  clear hA0 hval0 hsz0
  obtain ⟨k, h⟩ := Pure.FnExactTakeMatrix a0_0 l0_1 l0_2 l1 a2 w0_0 w0_1 u0_1 w0_2 u0_2 w1 u1 w2
  refine (laws_FnExactTakeMatrix.calls k a0_0 _ _ l0_1 _ _ l0_2 _ _ l1 a2 W hr0_1 hc0_1 hr0_2 hc0_2 hr1 hc1 h).mono fun e W' ⟨he, hd⟩ => ?_
  subst he
  have bel : Below W.heap.size W W' := hd
  exact ⟨_, rfl, _, _, _, [], _, [], hW', trodAll_mk1 (shut_bool Try.underlying4 _), (trodAll_cons_mk (Below.trod laidOut (by kernel_rfl) (of_decide_eq_true (by kernel_rfl)) k0 bel lt0) (trodAll_cons_mk (Below.trod laidOut (by kernel_rfl) (of_decide_eq_true (by kernel_rfl)) k1 bel lt1) (trodAll_cons_mk (shut_int Try.underlying3 w2) trodAll_mk0))), rfl, bel.frame _, fun h => by cases h⟩
theorem closed_ : joinedFacts Try.prog 14 Try.f14 Rows.fnExactTakeMatrixSpec Rows.fnExactTakeMatrixRow = true := by
  unfold joinedFacts
  exact (Go.Proofs.Ytilbngklgjjblaa.Head.and_true_ (Go.Proofs.Ytilbngklgjjblaa.Head.and_true_ (Go.Proofs.Ytilbngklgjjblaa.Head.and_true_ (Go.Proofs.Ytilbngklgjjblaa.Head.and_true_ (Go.Proofs.Ytilbngklgjjblaa.Head.and_true_ (Go.Proofs.Ytilbngklgjjblaa.Head.and_true_ (Go.Proofs.Ytilbngklgjjblaa.Head.and_true_ (Go.Proofs.Ytilbngklgjjblaa.Head.and_true_ (Go.Proofs.Ytilbngklgjjblaa.Head.and_true_ (Go.Proofs.Ytilbngklgjjblaa.Head.and_true_ (Go.Proofs.Ytilbngklgjjblaa.Head.and_true_ (Go.Proofs.Ytilbngklgjjblaa.Head.and_true_ (Go.Proofs.Ytilbngklgjjblaa.Head.and_true_ (Go.Proofs.Ytilbngklgjjblaa.Head.and_true_ (Go.Proofs.Ytilbngklgjjblaa.Head.and_true_ (Go.Proofs.Ytilbngklgjjblaa.Head.and_true_ (Go.Proofs.Ytilbngklgjjblaa.Head.and_true_ (Go.Proofs.Ytilbngklgjjblaa.Head.and_true_ (Go.Proofs.Ytilbngklgjjblaa.Head.and_true_ (Go.Proofs.Ytilbngklgjjblaa.Head.and_true_ (Go.Proofs.Ytilbngklgjjblaa.Head.and_true_ (Go.Proofs.Ytilbngklgjjblaa.Head.and_true_ (Go.Proofs.Ytilbngklgjjblaa.Head.and_true_ (Go.Proofs.Ytilbngklgjjblaa.Head.and_true_ (Go.Proofs.Ytilbngklgjjblaa.Head.and_true_ (Go.Proofs.Ytilbngklgjjblaa.Head.and_true_ (Go.Proofs.Ytilbngklgjjblaa.Head.and_true_ (Go.Proofs.Ytilbngklgjjblaa.Head.and_true_ (Go.Proofs.Ytilbngklgjjblaa.Head.and_true_ (Go.Proofs.Ytilbngklgjjblaa.Head.and_true_ (Go.Proofs.Ytilbngklgjjblaa.Head.and_true_ (by as_aux_lemma => kernel_rfl) (by as_aux_lemma => kernel_rfl)) (by as_aux_lemma => kernel_rfl)) (by as_aux_lemma => kernel_rfl)) (by as_aux_lemma => kernel_rfl)) (by as_aux_lemma => kernel_rfl)) (by as_aux_lemma => kernel_rfl)) (by as_aux_lemma => kernel_rfl)) (by as_aux_lemma => kernel_rfl)) (by as_aux_lemma => kernel_rfl)) (by as_aux_lemma => kernel_rfl)) (by as_aux_lemma => kernel_rfl)) (by as_aux_lemma => kernel_rfl)) (by as_aux_lemma => kernel_rfl)) (by as_aux_lemma => kernel_rfl)) (by as_aux_lemma => kernel_rfl)) (by as_aux_lemma => kernel_rfl)) (by as_aux_lemma => kernel_rfl)) (by as_aux_lemma => kernel_rfl)) (by as_aux_lemma => kernel_rfl)) (by as_aux_lemma => kernel_rfl)) (by as_aux_lemma => kernel_rfl)) (by as_aux_lemma => kernel_rfl)) (by as_aux_lemma => kernel_rfl)) (by as_aux_lemma => kernel_rfl)) Go.Proofs.Ytilbngklgjjblaa.Head.enter_) Go.Proofs.Ytilbngklgjjblaa.Head.lifts_) (Go.Proofs.Ytilbngklgjjblaa.Head.make_ _ rfl)) (by as_aux_lemma => kernel_rfl)) (by as_aux_lemma => kernel_rfl)) (by as_aux_lemma => kernel_rfl)) (by as_aux_lemma => kernel_rfl))
theorem over : Rows.fnExactTakeMatrixRow.holds Try.pinned (OpenSpec.ofChange Rows.fnExactTakeMatrixSpec) :=
  OpenClaim.holds_of_wide 14 Try.f14 rfl rfl rfl rfl rfl rfl rfl ⟨rfl, rfl, rfl, rfl, rfl⟩ rfl rfl rfl rfl rfl (by kernel_rfl) Try.func14 closed_
    (of_decide_eq_true (by kernel_rfl)) (by unfold Func.isWrapper; first | (rw [if_pos (by decide +kernel)]; kernel_rfl) | (rw [if_neg (by decide +kernel)]; exact ⟨rfl, rfl⟩))
    (fun os started H enc _ => lifted os started H enc)
theorem proved : Rows.FnExactTakeMatrixSaid := over
#print axioms proved
end Go.Proofs.Ytilbngklgjjblaa.fnExactTakeMatrix
namespace Go.Proofs.Ytilbngklgjjblaa
/-- The row, under a short name, for the claim. -/
theorem fnExactTakeMatrix_holds : Rows.FnExactTakeMatrixSaid := fnExactTakeMatrix.proved
end Go.Proofs.Ytilbngklgjjblaa
