/- Contracts of Go functions over this translation. Conditions: those that each theorem names. -/
import Derived.Test.YtilbngklgjjblaaQ0
import Derived.Test.YtilbngklgjjblaaQ10
namespace Go.Proofs.Ytilbngklgjjblaa.Q
open Go.RowKit Go.Proofs.YtilbngklgjjblaaW.PrintWords Go.Proofs.YtilbngklgjjblaaW.PrintLast Go.Proofs.YtilbngklgjjblaaW.PrintMore
attribute [local go_sem] max2_int min2_int max_two min_two max_three min_three max_four min_four
set_option linter.unusedVariables false
set_option linter.unusedSimpArgs false

def spec_l01Pick.f (s0_0 : List Int) (s0_1 : Int) (s0_2 : Int) (l1 : List ByteArray) : Option (ByteArray × Int × Int) := (spec_l01Below.f s0_0 s0_1 s0_2 (l1.length : Int)).bind fun bt263 => (if 0 ≤ bt263.1 then (if bt263.1 < (l1.length : Int) then (some (rdOf ByteArray.empty l1 bt263.1, bt263.2.1, bt263.2.2)) else (none)) else (none))
set_option maxHeartbeats 8000000 in
set_option maxRecDepth 100000 in
theorem spec_l01Pick.calls (g : Nat) (s0_0 : List Int) (s0_1 : Int) (s0_2 : Int) (A1 : Option Addr) (c1 : Nat) (l1 : List ByteArray) (r1 : ByteArray) (r2 : Int) (r3 : Int) (w0 w : World) (hI : IsS99 w0 w g s0_0 s0_1 s0_2) (hB : Below w0.heap.size w0 w) (hr1 : Kd.C Kd.string w A1 l1.length l1) (hc1 : l1.length ≤ c1) (hf1 : ∀ ad, A1 = some ad → 0 < l1.length → ad.block ≠ g) (h : spec_l01Pick.f s0_0 s0_1 s0_2 l1 = some (r1, r2, r3)) :
    Calls Try.prog 114 #[.pointer (some ⟨g, 0, none⟩), .slice A1 l1.length c1] w fun e w' => e = .returned (.string r1) ∧ IsS99 w0 w' g s0_0 r2 r3 ∧ Below w0.heap.size w0 w' ∧ KeepBut w w' g none := by
 have HR1 := M_ hr1
 have HC1 := M_ hc1
 clear hr1 hc1
 have HI0 := M_ hI
 have HK := M_ (KeepBut.refl w g none)
 have HL := M_ hB.size
 clear hI
 have HW0 := M_ hB.size
 have HB := M_ hB
 clear hB
 have H : ((spec_l01Below.f s0_0 s0_1 s0_2 (l1.length : Int)).bind fun bt263 => (if 0 ≤ bt263.1 then (if bt263.1 < (l1.length : Int) then (some (rdOf ByteArray.empty l1 bt263.1, bt263.2.1, bt263.2.2)) else (none)) else (none))) = some (r1, r2, r3) := h
 clear h
 replace H := bs_ H
 obtain ⟨⟨t263, t264, t265⟩, A30, H⟩ := H
 dsimp only at H
 have A3 := M_ A30
 clear A30
 by_cases c4 : 0 ≤ t263
 ·rw [if_pos c4] at H
  have c4b0 := dt_ c4
  clear c4
  by_cases c5 : t263 < (l1.length : Int)
  ·rw [if_pos c5] at H
   have c5b0 := dt_ c5
   clear c5
   simp only [Option.some.injEq, Prod.mk.injEq] at H
   obtain ⟨rfl, rfl, rfl⟩ := H
   go_enter Try.func114, Try.ntmps114
   go_wp2_with (first | ((with_reducible refine gate_callee (f := 73) rfl ?_); refine gl_ (some 9) Try.func73 #[.pointer (some ⟨g, 0, none⟩), .int .i64 (l1.length : Int)] ?_; (with_reducible refine (spec_l01Below.calls g s0_0 s0_1 s0_2 (l1.length : Int) t263 t264 t265 w0 _ ?side1 ?side2 A3.out).mono ?_); (case side1 => exact iz0_ HI0.out); (case side2 => exact bw1_ HB.out (IsS99.ge HI0.out)); rintro e w6 ⟨rfl, hi, hb, hk⟩; refine ⟨_, rfl, ?_⟩; have z_ := t3_ (kT_ (ki0_ HK.out) hk (.inl rfl)) hb hi; clear HI0 HB HK; obtain ⟨HK, HB, HI0⟩ := z_; (try clear hi hk hb); have p266 : 0 ≤ (t263 : Int) := od_ as_; have q266 : t263 < (l1.length : Int) := od_ as_; obtain ⟨ad266, e266, hx266_0⟩ := Kd.at_string HR1.out t263 p266 q266; cases e266; replace hx266_0 := keep_cell HK.out hx266_0 (by first | (rw [add_block]; exact hf1 _ rfl (by omega)) | exact hf1 _ rfl (by omega) | exact hf1 ad266 rfl (by omega)); replace p266 := eq_true p266; replace q266 := eq_true q266))
   go_ret
   exact ⟨rb_, iz0_ HI0.out, bw1_ HB.out (IsS99.ge HI0.out), ki0_ HK.out⟩
  ·rw [if_neg c5] at H
   exact absurd H (by simp)
 ·rw [if_neg c4] at H
  exact absurd H (by simp)

end Go.Proofs.Ytilbngklgjjblaa.Q
