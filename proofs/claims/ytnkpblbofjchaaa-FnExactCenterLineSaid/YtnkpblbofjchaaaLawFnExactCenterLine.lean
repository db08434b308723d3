/- The statement Rows.FnExactCenterLineSaid: for every input the law returns true, and the input reads as it did. No conditions. -/
import Derived.Test.YtnkpblbofjchaaaRows
import Derived.Test.YtnkpblbofjchaaaQ6
import Derived.Test.YtnkpblbofjchaaaPXOpen
import Derived.Test.YtnkpblbofjchaaaPHead
import Derived.Test.YtnkpblbofjchaaaPureFnExactCenterLine
import Derived.WalkKit
import Derived.ProofKit
import Derived.OpenShut
import Derived.ShutString
import Derived.ChangeOld
import Derived.Below
import Derived.SizedLaws
import Derived.Lib.SmallJoins
namespace Go.Proofs.Ytnkpblbofjchaaa.fnExactCenterLine
open Go.ChangeShapes Go.WideShapes Go.ChangeAt Go.RowKit Go.Proofs.Ytnkpblbofjchaaa.Q Go.Proofs.YtnkpblbofjchaaaW.PrintWords
open Go.ChangeMaps (open_string shut_string)
set_option linter.unusedVariables false
theorem own : ownKnob Try.prog.godebug = none := by kernel_rfl
theorem laidOut : laidOutB Try.prog = true := by kernel_rfl
set_option maxRecDepth 100000 in
theorem lifted (os : Os) (started : os.Started) (H : Type) (enc : TypeId × Value → H) :
    ReturnsInHanded {} Try.checked os 17 .any (Rows.fnExactCenterLineSpec.pre6 enc Try.prog Try.f17 Rows.fnExactCenterLineRow.domain false) (Rows.fnExactCenterLineSpec.post enc Try.prog Try.f17 false true false false) := by
  refine returnsInHanded_of_change_sized (C := Try.checked) own started (by kernel_rfl) Try.func17
    (ChangeSpec.witness6 (enc := enc) (C := Try.checked) false ⟨#[], #[.agg #[.int .i64 0, .int .i64 0, .int .i64 0], .slice none 0 0, .slice none 0 0], []⟩ 8 (by kernel_rfl) (by kernel_rfl) (by kernel_rfl) (by kernel_rfl)) ?_
  intro W base args ds gs before hval0 hW hcnd hsz0 _
  have hval : ∀ (j : Nat) t v, Try.f17.params[j]? = some t → args[j]? = some v → Value.okWide Try.prog W .any base t v := hval0
  have hW' := hW
  obtain ⟨p, q, hA0, hV, rfl, hfz, hnd⟩ := hW
  have hA : DataW.TrodAll enc Try.prog W 0 (fun _ => true) true Try.f17.params.toList args.toList ds p := hA0
  rw [Try.params17] at hA hval
  obtain ⟨v0, vs0, d0, ds0, p0, q0, hargs, rfl, rfl, h0, r0⟩ := trodAll_cons hA
  obtain ⟨v1, vs1, d1, ds1, p1, q1, rfl, rfl, rfl, h1, r1⟩ := trodAll_cons r0
  obtain ⟨v2, vs2, d2, ds2, p2, q2, rfl, rfl, rfl, h2, r2⟩ := trodAll_cons r1
  obtain ⟨rfl, rfl, rfl⟩ := trodAll_nil r2
  obtain rfl : args = #[v0, v1, v2] := by cases args; simp_all
  obtain ⟨rfl, rfl⟩ := trodVars_none hV
  have k0 := h0
  have lt0 : ∀ x ∈ p0, x.block < W.heap.size := by obtain ⟨m, hm⟩ := k0; exact DataW.trod_lt m _ _ _ hm
  obtain ⟨cc0_0, cc0_1, cc0_2, y0_0, y0_1, y0_2, m0, rfl, rfl, rfl, g0_0, g0_1, g0_2⟩ := Go.Joins.open_agg3 Try.underlying23 (by kernel_rfl) (by kernel_rfl) (hval 0 23 v0 rfl rfl) h0
  obtain ⟨a0_0, K0_0, w0_0⟩ := (opens_int Try.underlying3) enc W _ _ _ _ _ _ g0_0
  obtain rfl : cc0_0 = .int .i64 a0_0 := (List.cons.inj K0_0).1
  obtain ⟨a0_1, K0_1, w0_1⟩ := (opens_int Try.underlying3) enc W _ _ _ _ _ _ g0_1
  obtain rfl : cc0_1 = .int .i64 a0_1 := (List.cons.inj K0_1).1
  obtain ⟨a0_2, K0_2, w0_2⟩ := (opens_int Try.underlying3) enc W _ _ _ _ _ _ g0_2
  obtain rfl : cc0_2 = .int .i64 a0_2 := (List.cons.inj K0_2).1
  have k1 := h1
  have lt1 : ∀ x ∈ p1, x.block < W.heap.size := by obtain ⟨m, hm⟩ := k1; exact DataW.trod_lt m _ _ _ hm
  obtain ⟨sa1, slen1, scap1, rfl⟩ := okWide_slice Try.underlying28 (hval 1 28 v1 rfl rfl)
  obtain ⟨fuel1, hf1⟩ := h1
  obtain ⟨l1, K1, w1, u1⟩ := (opens_slice Try.underlying28 (by kernel_rfl) (opens_int Try.underlying3)) enc W _ _ _ _ _ _ hf1
  obtain ⟨A1, c1, E1, hc1, hr1⟩ := K1
  obtain ⟨rfl, rfl, rfl⟩ : sa1 = A1 ∧ slen1 = l1.length ∧ scap1 = c1 := by simpa [Value.cells] using E1
  have k2 := h2
  have lt2 : ∀ x ∈ p2, x.block < W.heap.size := by obtain ⟨m, hm⟩ := k2; exact DataW.trod_lt m _ _ _ hm
  obtain ⟨sa2, slen2, scap2, rfl⟩ := okWide_slice Try.underlying28 (hval 2 28 v2 rfl rfl)
  obtain ⟨fuel2, hf2⟩ := h2
  obtain ⟨l2, K2, w2, u2⟩ := (opens_slice Try.underlying28 (by kernel_rfl) (opens_int Try.underlying3)) enc W _ _ _ _ _ _ hf2
  obtain ⟨A2, c2, E2, hc2, hr2⟩ := K2
  obtain ⟨rfl, rfl, rfl⟩ : sa2 = A2 ∧ slen2 = l2.length ∧ scap2 = c2 := by simpa [Value.cells] using E2
  clear hA0 hval0 hsz0
  obtain ⟨k, h⟩ := Pure.FnExactCenterLine a0_0 a0_1 a0_2 l1 l2 w0_0 w0_1 w0_2 w1 u1 w2 u2
  refine (laws_FnExactCenterLine.calls k a0_0 a0_1 a0_2 _ _ l1 _ _ l2 true W hr1 hc1 hr2 hc2 h).mono fun e W' ⟨he, hd⟩ => ?_
  subst he
  have bel : Below W.heap.size W W' := hd
  exact ⟨_, rfl, _, _, _, [], _, [], hW', trodAll_mk1 (shut_bool Try.underlying4 _), (trodAll_cons_mk (Below.trod laidOut (by kernel_rfl) (of_decide_eq_true (by kernel_rfl)) k0 bel lt0) (trodAll_cons_mk (Below.trod laidOut (by kernel_rfl) (of_decide_eq_true (by kernel_rfl)) k1 bel lt1) (trodAll_cons_mk (Below.trod laidOut (by kernel_rfl) (of_decide_eq_true (by kernel_rfl)) k2 bel lt2) trodAll_mk0))), rfl, bel.frame _, fun h => by cases h⟩
theorem closed_ : joinedFacts Try.prog 17 Try.f17 Rows.fnExactCenterLineSpec Rows.fnExactCenterLineRow = true := by
  unfold joinedFacts
  exact (Go.Proofs.Ytnkpblbofjchaaa.Head.and_true_ (Go.Proofs.Ytnkpblbofjchaaa.Head.and_true_ (Go.Proofs.Ytnkpblbofjchaaa.Head.and_true_ (Go.Proofs.Ytnkpblbofjchaaa.Head.and_true_ (Go.Proofs.Ytnkpblbofjchaaa.Head.and_true_ (Go.Proofs.Ytnkpblbofjchaaa.Head.and_true_ (Go.Proofs.Ytnkpblbofjchaaa.Head.and_true_ (Go.Proofs.Ytnkpblbofjchaaa.Head.and_true_ (Go.Proofs.Ytnkpblbofjchaaa.Head.and_true_ (Go.Proofs.Ytnkpblbofjchaaa.Head.and_true_ (Go.Proofs.Ytnkpblbofjchaaa.Head.and_true_ (Go.Proofs.Ytnkpblbofjchaaa.Head.and_true_ (Go.Proofs.Ytnkpblbofjchaaa.Head.and_true_ (Go.Proofs.Ytnkpblbofjchaaa.Head.and_true_ (Go.Proofs.Ytnkpblbofjchaaa.Head.and_true_ (Go.Proofs.Ytnkpblbofjchaaa.Head.and_true_ (Go.Proofs.Ytnkpblbofjchaaa.Head.and_true_ (Go.Proofs.Ytnkpblbofjchaaa.Head.and_true_ (Go.Proofs.Ytnkpblbofjchaaa.Head.and_true_ (Go.Proofs.Ytnkpblbofjchaaa.Head.and_true_ (Go.Proofs.Ytnkpblbofjchaaa.Head.and_true_ (Go.Proofs.Ytnkpblbofjchaaa.Head.and_true_ (Go.Proofs.Ytnkpblbofjchaaa.Head.and_true_ (Go.Proofs.Ytnkpblbofjchaaa.Head.and_true_ (Go.Proofs.Ytnkpblbofjchaaa.Head.and_true_ (Go.Proofs.Ytnkpblbofjchaaa.Head.and_true_ (Go.Proofs.Ytnkpblbofjchaaa.Head.and_true_ (Go.Proofs.Ytnkpblbofjchaaa.Head.and_true_ (Go.Proofs.Ytnkpblbofjchaaa.Head.and_true_ (Go.Proofs.Ytnkpblbofjchaaa.Head.and_true_ (Go.Proofs.Ytnkpblbofjchaaa.Head.and_true_ (by as_aux_lemma => kernel_rfl) (by as_aux_lemma => kernel_rfl)) (by as_aux_lemma => kernel_rfl)) (by as_aux_lemma => kernel_rfl)) (by as_aux_lemma => kernel_rfl)) (by as_aux_lemma => kernel_rfl)) (by as_aux_lemma => kernel_rfl)) (by as_aux_lemma => kernel_rfl)) (by as_aux_lemma => kernel_rfl)) (by as_aux_lemma => kernel_rfl)) (by as_aux_lemma => kernel_rfl)) (by as_aux_lemma => kernel_rfl)) (by as_aux_lemma => kernel_rfl)) (by as_aux_lemma => kernel_rfl)) (by as_aux_lemma => kernel_rfl)) (by as_aux_lemma => kernel_rfl)) (by as_aux_lemma => kernel_rfl)) (by as_aux_lemma => kernel_rfl)) (by as_aux_lemma => kernel_rfl)) (by as_aux_lemma => kernel_rfl)) (by as_aux_lemma => kernel_rfl)) (by as_aux_lemma => kernel_rfl)) (by as_aux_lemma => kernel_rfl)) (by as_aux_lemma => kernel_rfl)) (by as_aux_lemma => kernel_rfl)) Go.Proofs.Ytnkpblbofjchaaa.Head.enter_) Go.Proofs.Ytnkpblbofjchaaa.Head.lifts_) (Go.Proofs.Ytnkpblbofjchaaa.Head.make_ _ rfl)) (by as_aux_lemma => kernel_rfl)) (by as_aux_lemma => kernel_rfl)) (by as_aux_lemma => kernel_rfl)) (by as_aux_lemma => kernel_rfl))
theorem over : Rows.fnExactCenterLineRow.holds Try.pinned (OpenSpec.ofChange Rows.fnExactCenterLineSpec) :=
  OpenClaim.holds_of_wide 17 Try.f17 rfl rfl rfl rfl rfl rfl rfl ⟨rfl, rfl, rfl, rfl, rfl⟩ rfl rfl rfl rfl rfl (by kernel_rfl) Try.func17 closed_
    (of_decide_eq_true (by kernel_rfl)) (by unfold Func.isWrapper; first | (rw [if_pos (by decide +kernel)]; kernel_rfl) | (rw [if_neg (by decide +kernel)]; exact ⟨rfl, rfl⟩))
    (fun os started H enc _ => lifted os started H enc)
theorem proved : Rows.FnExactCenterLineSaid := over
#print axioms proved
end Go.Proofs.Ytnkpblbofjchaaa.fnExactCenterLine
namespace Go.Proofs.Ytnkpblbofjchaaa
/-- The row, under a short name, for the claim. -/
theorem fnExactCenterLine_holds : Rows.FnExactCenterLineSaid := fnExactCenterLine.proved
end Go.Proofs.Ytnkpblbofjchaaa
