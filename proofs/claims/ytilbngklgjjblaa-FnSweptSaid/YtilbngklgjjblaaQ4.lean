/- Contracts of Go functions over this translation. Conditions: those that each theorem names. -/
import Derived.Test.YtilbngklgjjblaaQ0
import Derived.Test.YtilbngklgjjblaaQ2
import Derived.Test.YtilbngklgjjblaaQ3
namespace Go.Proofs.Ytilbngklgjjblaa.Q
open Go.RowKit Go.Proofs.YtilbngklgjjblaaW.PrintWords Go.Proofs.YtilbngklgjjblaaW.PrintLast Go.Proofs.YtilbngklgjjblaaW.PrintMore
attribute [local go_sem] max2_int min2_int max_two min_two max_three min_three max_four min_four
set_option linter.unusedVariables false
set_option linter.unusedSimpArgs false

def spec_l2Matrix.f (a0_0 : ByteArray) (l0_1 : List Int) (l0_2 : List Int) (a1_0 : Int) (a1_1 : Int) : Option (Bool) := (spec_l1In.f a1_0 0 (wrap64 ((a0_0.size : Int) - 1))).bind fun t117 => (if t117 = true then ((spec_l1Set.f a1_1).bind fun t118 => (if t118 = true then (if 0 ≤ a1_0 then (if a1_0 < (l0_2.length : Int) then ((spec_l1Part.f a1_1 (rd l0_2 a1_0)).bind fun t120 => (some t120)) else (none)) else (none)) else (some false))) else (some false))
set_option maxHeartbeats 8000000 in
set_option maxRecDepth 100000 in
theorem spec_l2Matrix.calls (a0_0 : ByteArray) (A0_1 : Option Addr) (c0_1 : Nat) (l0_1 : List Int) (A0_2 : Option Addr) (c0_2 : Nat) (l0_2 : List Int) (a1_0 : Int) (a1_1 : Int) (r : Bool) (w : World) (hr0_1 : Kd.C (Kd.int .i64) w A0_1 l0_1.length l0_1) (hc0_1 : l0_1.length ≤ c0_1) (hr0_2 : Kd.C (Kd.int .i64) w A0_2 l0_2.length l0_2) (hc0_2 : l0_2.length ≤ c0_2) (h : spec_l2Matrix.f a0_0 l0_1 l0_2 a1_0 a1_1 = some r) :
    Calls Try.prog 75 #[.agg #[.string a0_0, .slice A0_1 l0_1.length c0_1, .slice A0_2 l0_2.length c0_2], .agg #[.int .i64 a1_0, .int .i64 a1_1]] w fun e w' => e = .returned (.bool r) ∧ Below w.heap.size w w' := by
 have hu25 := Try.underlying25
 have hu30 := Try.underlying30
 have HR0_1 := M_ hr0_1
 have HC0_1 := M_ hc0_1
 clear hr0_1 hc0_1
 have HR0_2 := M_ hr0_2
 have HC0_2 := M_ hc0_2
 clear hr0_2 hc0_2
 have HB := M_ (Below.refl w.heap.size w)
 have H : ((spec_l1In.f a1_0 0 (wrap64 ((a0_0.size : Int) - 1))).bind fun t117 => (if t117 = true then ((spec_l1Set.f a1_1).bind fun t118 => (if t118 = true then (if 0 ≤ a1_0 then (if a1_0 < (l0_2.length : Int) then ((spec_l1Part.f a1_1 (rd l0_2 a1_0)).bind fun t120 => (some t120)) else (none)) else (none)) else (some false))) else (some false))) = some r := h
 clear h
 replace H := bs_ H
 obtain ⟨t117, A30, H⟩ := H
 (try dsimp only at H)
 have A3 := M_ A30
 clear A30
 by_cases c4 : t117 = true
 ·subst c4
  rw [if_pos rfl] at H
  replace H := bs_ H
  obtain ⟨t118, A50, H⟩ := H
  (try dsimp only at H)
  have A5 := M_ A50
  clear A50
  by_cases c6 : t118 = true
  ·subst c6
   rw [if_pos rfl] at H
   by_cases c7 : 0 ≤ a1_0
   ·rw [if_pos c7] at H
    have c7b0 := dt_ c7
    clear c7
    by_cases c8 : a1_0 < (l0_2.length : Int)
    ·rw [if_pos c8] at H
     have c8b0 := dt_ c8
     clear c8
     replace H := bs_ H
     obtain ⟨t120, A90, H⟩ := H
     (try dsimp only at H)
     have A9 := M_ A90
     clear A90
     obtain rfl := Option.some.inj H
     go_enter Try.func75, Try.ntmps75
     go_wp2_with (first | ((with_reducible refine gate_dst (N := 2) rfl ?_); refine be_ 2 #[.string a0_0, .slice A0_1 l0_1.length c0_1, .slice A0_2 l0_2.length c0_2] 25 ?_; intro gb115 hg w10 hbox hb; have z_ := t3_ (bS_ (bw0_ HB.out) hb) hbox (gv_ hg (bw0_ HB.out) : w.heap.size ≤ gb115); clear HB; obtain ⟨HB, BK115, GE115⟩ := z_; clear hb hbox hg) | ((with_reducible refine gate_dst (N := 3) rfl ?_); refine be_ 3 #[.int .i64 a1_0, .int .i64 a1_1] 30 ?_; intro gb116 hg w11 hbox hb; have z_ := t5_ (bB_ (bk_ BK115.out) hb) (bS_ (bw1_ HB.out GE115.out) hb) hbox (gv_ hg (bw1_ HB.out GE115.out) : w.heap.size ≤ gb116) (by rw [hg]; exact Nat.ne_of_lt (blk_lt (bk_ BK115.out)) : gb115 ≠ gb116); clear HB BK115; obtain ⟨BK115, HB, BK116, GE116, NB115_116⟩ := z_; have NB116_115 := M_ NB115_116.out.symm; clear hb hbox hg; have hnb12 := NB116_115.out; have hnc12 := NB115_116.out; have hcz13_0 := cz_ BK116.out 0 (.int .i64 a1_0); have hcz13_1 := cz_ BK116.out 1 (.int .i64 a1_1); have hfz13_0 := fz_ BK116.out 0; have hfz13_1 := fz_ BK116.out 1; have hcz14_0 := cz_ BK115.out 0 (.string a0_0); have hcz14_1 := cz_ BK115.out 1 (.slice A0_1 l0_1.length c0_1); have hcz14_2 := cz_ BK115.out 2 (.slice A0_2 l0_2.length c0_2); have hfz14_0 := fz_ BK115.out 0; have hfz14_1 := fz_ BK115.out 1; have hfz14_2 := fz_ BK115.out 2) | (go_at_call 81; (try simp only [i64_w, i32_w]); (with_reducible refine (spec_l1In.calls a1_0 0 (wrap64 ((a0_0.size : Int) - 1)) true _ A3.out).mono ?_); rintro e w' ⟨rfl, ⟨nd, rfl⟩⟩; (try exact dw_)) | (go_at_call 103; (try simp only [i64_w, i32_w]); (with_reducible refine (spec_l1Set.calls a1_1 true _ A5.out).mono ?_); rintro e w' ⟨rfl, ⟨nd, rfl⟩⟩; (try exact dw_); have p119 : 0 ≤ (a1_0 : Int) := od_ as_; have q119 : a1_0 < (l0_2.length : Int) := od_ as_; obtain ⟨ad119, e119, hx119_0⟩ := Kd.at_int HR0_2.out a1_0 p119 q119; cases e119; replace hx119_0 := (HB.out.cell (World.block_lt_of_cell? w _ hx119_0)).trans hx119_0; replace p119 := eq_true p119; replace q119 := eq_true q119) | (go_at_call 104; (try simp only [i64_w, i32_w]); (with_reducible refine (spec_l1Part.calls a1_1 (rd l0_2 a1_0) t120 _ A9.out).mono ?_); rintro e w' ⟨rfl, ⟨nd, rfl⟩⟩; (try exact dw_)))
     repeat (go_quiet (first | ((with_reducible refine gate_dst (N := 2) rfl ?_); refine be_ 2 #[.string a0_0, .slice A0_1 l0_1.length c0_1, .slice A0_2 l0_2.length c0_2] 25 ?_; intro gb115 hg w10 hbox hb; have z_ := t3_ (bS_ (bw0_ HB.out) hb) hbox (gv_ hg (bw0_ HB.out) : w.heap.size ≤ gb115); clear HB; obtain ⟨HB, BK115, GE115⟩ := z_; clear hb hbox hg) | ((with_reducible refine gate_dst (N := 3) rfl ?_); refine be_ 3 #[.int .i64 a1_0, .int .i64 a1_1] 30 ?_; intro gb116 hg w11 hbox hb; have z_ := t5_ (bB_ (bk_ BK115.out) hb) (bS_ (bw1_ HB.out GE115.out) hb) hbox (gv_ hg (bw1_ HB.out GE115.out) : w.heap.size ≤ gb116) (by rw [hg]; exact Nat.ne_of_lt (blk_lt (bk_ BK115.out)) : gb115 ≠ gb116); clear HB BK115; obtain ⟨BK115, HB, BK116, GE116, NB115_116⟩ := z_; have NB116_115 := M_ NB115_116.out.symm; clear hb hbox hg; have hnb12 := NB116_115.out; have hnc12 := NB115_116.out; have hcz13_0 := cz_ BK116.out 0 (.int .i64 a1_0); have hcz13_1 := cz_ BK116.out 1 (.int .i64 a1_1); have hfz13_0 := fz_ BK116.out 0; have hfz13_1 := fz_ BK116.out 1; have hcz14_0 := cz_ BK115.out 0 (.string a0_0); have hcz14_1 := cz_ BK115.out 1 (.slice A0_1 l0_1.length c0_1); have hcz14_2 := cz_ BK115.out 2 (.slice A0_2 l0_2.length c0_2); have hfz14_0 := fz_ BK115.out 0; have hfz14_1 := fz_ BK115.out 1; have hfz14_2 := fz_ BK115.out 2) | (go_at_call 81; (try simp only [i64_w, i32_w]); (with_reducible refine (spec_l1In.calls a1_0 0 (wrap64 ((a0_0.size : Int) - 1)) true _ A3.out).mono ?_); rintro e w' ⟨rfl, ⟨nd, rfl⟩⟩; (try exact dw_)) | (go_at_call 103; (try simp only [i64_w, i32_w]); (with_reducible refine (spec_l1Set.calls a1_1 true _ A5.out).mono ?_); rintro e w' ⟨rfl, ⟨nd, rfl⟩⟩; (try exact dw_); have p119 : 0 ≤ (a1_0 : Int) := od_ as_; have q119 : a1_0 < (l0_2.length : Int) := od_ as_; obtain ⟨ad119, e119, hx119_0⟩ := Kd.at_int HR0_2.out a1_0 p119 q119; cases e119; replace hx119_0 := (HB.out.cell (World.block_lt_of_cell? w _ hx119_0)).trans hx119_0; replace p119 := eq_true p119; replace q119 := eq_true q119) | (go_at_call 104; (try simp only [i64_w, i32_w]); (with_reducible refine (spec_l1Part.calls a1_1 (rd l0_2 a1_0) t120 _ A9.out).mono ?_); rintro e w' ⟨rfl, ⟨nd, rfl⟩⟩; (try exact dw_))); try go_wp2_with (first | ((with_reducible refine gate_dst (N := 2) rfl ?_); refine be_ 2 #[.string a0_0, .slice A0_1 l0_1.length c0_1, .slice A0_2 l0_2.length c0_2] 25 ?_; intro gb115 hg w10 hbox hb; have z_ := t3_ (bS_ (bw0_ HB.out) hb) hbox (gv_ hg (bw0_ HB.out) : w.heap.size ≤ gb115); clear HB; obtain ⟨HB, BK115, GE115⟩ := z_; clear hb hbox hg) | ((with_reducible refine gate_dst (N := 3) rfl ?_); refine be_ 3 #[.int .i64 a1_0, .int .i64 a1_1] 30 ?_; intro gb116 hg w11 hbox hb; have z_ := t5_ (bB_ (bk_ BK115.out) hb) (bS_ (bw1_ HB.out GE115.out) hb) hbox (gv_ hg (bw1_ HB.out GE115.out) : w.heap.size ≤ gb116) (by rw [hg]; exact Nat.ne_of_lt (blk_lt (bk_ BK115.out)) : gb115 ≠ gb116); clear HB BK115; obtain ⟨BK115, HB, BK116, GE116, NB115_116⟩ := z_; have NB116_115 := M_ NB115_116.out.symm; clear hb hbox hg; have hnb12 := NB116_115.out; have hnc12 := NB115_116.out; have hcz13_0 := cz_ BK116.out 0 (.int .i64 a1_0); have hcz13_1 := cz_ BK116.out 1 (.int .i64 a1_1); have hfz13_0 := fz_ BK116.out 0; have hfz13_1 := fz_ BK116.out 1; have hcz14_0 := cz_ BK115.out 0 (.string a0_0); have hcz14_1 := cz_ BK115.out 1 (.slice A0_1 l0_1.length c0_1); have hcz14_2 := cz_ BK115.out 2 (.slice A0_2 l0_2.length c0_2); have hfz14_0 := fz_ BK115.out 0; have hfz14_1 := fz_ BK115.out 1; have hfz14_2 := fz_ BK115.out 2) | (go_at_call 81; (try simp only [i64_w, i32_w]); (with_reducible refine (spec_l1In.calls a1_0 0 (wrap64 ((a0_0.size : Int) - 1)) true _ A3.out).mono ?_); rintro e w' ⟨rfl, ⟨nd, rfl⟩⟩; (try exact dw_)) | (go_at_call 103; (try simp only [i64_w, i32_w]); (with_reducible refine (spec_l1Set.calls a1_1 true _ A5.out).mono ?_); rintro e w' ⟨rfl, ⟨nd, rfl⟩⟩; (try exact dw_); have p119 : 0 ≤ (a1_0 : Int) := od_ as_; have q119 : a1_0 < (l0_2.length : Int) := od_ as_; obtain ⟨ad119, e119, hx119_0⟩ := Kd.at_int HR0_2.out a1_0 p119 q119; cases e119; replace hx119_0 := (HB.out.cell (World.block_lt_of_cell? w _ hx119_0)).trans hx119_0; replace p119 := eq_true p119; replace q119 := eq_true q119) | (go_at_call 104; (try simp only [i64_w, i32_w]); (with_reducible refine (spec_l1Part.calls a1_1 (rd l0_2 a1_0) t120 _ A9.out).mono ?_); rintro e w' ⟨rfl, ⟨nd, rfl⟩⟩; (try exact dw_))))
     go_ret
     exact ⟨rb_, bw2_ HB.out GE115.out GE116.out⟩
    ·rw [if_neg c8] at H
     exact absurd H (by simp)
   ·rw [if_neg c7] at H
    exact absurd H (by simp)
  ·replace c6 := Bool.eq_false_iff.mpr c6
   subst c6
   rw [if_neg (show ¬ (false = true) by decide)] at H
   obtain rfl := Option.some.inj H
   go_enter Try.func75, Try.ntmps75
   go_wp2_with (first | ((with_reducible refine gate_dst (N := 2) rfl ?_); refine be_ 2 #[.string a0_0, .slice A0_1 l0_1.length c0_1, .slice A0_2 l0_2.length c0_2] 25 ?_; intro gb115 hg w15 hbox hb; have z_ := t3_ (bS_ (bw0_ HB.out) hb) hbox (gv_ hg (bw0_ HB.out) : w.heap.size ≤ gb115); clear HB; obtain ⟨HB, BK115, GE115⟩ := z_; clear hb hbox hg) | ((with_reducible refine gate_dst (N := 3) rfl ?_); refine be_ 3 #[.int .i64 a1_0, .int .i64 a1_1] 30 ?_; intro gb116 hg w16 hbox hb; have z_ := t5_ (bB_ (bk_ BK115.out) hb) (bS_ (bw1_ HB.out GE115.out) hb) hbox (gv_ hg (bw1_ HB.out GE115.out) : w.heap.size ≤ gb116) (by rw [hg]; exact Nat.ne_of_lt (blk_lt (bk_ BK115.out)) : gb115 ≠ gb116); clear HB BK115; obtain ⟨BK115, HB, BK116, GE116, NB115_116⟩ := z_; have NB116_115 := M_ NB115_116.out.symm; clear hb hbox hg; have hnb17 := NB116_115.out; have hnc17 := NB115_116.out; have hcz18_0 := cz_ BK116.out 0 (.int .i64 a1_0); have hcz18_1 := cz_ BK116.out 1 (.int .i64 a1_1); have hfz18_0 := fz_ BK116.out 0; have hfz18_1 := fz_ BK116.out 1; have hcz19_0 := cz_ BK115.out 0 (.string a0_0); have hcz19_1 := cz_ BK115.out 1 (.slice A0_1 l0_1.length c0_1); have hcz19_2 := cz_ BK115.out 2 (.slice A0_2 l0_2.length c0_2); have hfz19_0 := fz_ BK115.out 0; have hfz19_1 := fz_ BK115.out 1; have hfz19_2 := fz_ BK115.out 2) | (go_at_call 81; (try simp only [i64_w, i32_w]); (with_reducible refine (spec_l1In.calls a1_0 0 (wrap64 ((a0_0.size : Int) - 1)) true _ A3.out).mono ?_); rintro e w' ⟨rfl, ⟨nd, rfl⟩⟩; (try exact dw_)) | (go_at_call 103; (try simp only [i64_w, i32_w]); (with_reducible refine (spec_l1Set.calls a1_1 false _ A5.out).mono ?_); rintro e w' ⟨rfl, ⟨nd, rfl⟩⟩; (try exact dw_)))
   repeat (go_quiet (first | ((with_reducible refine gate_dst (N := 2) rfl ?_); refine be_ 2 #[.string a0_0, .slice A0_1 l0_1.length c0_1, .slice A0_2 l0_2.length c0_2] 25 ?_; intro gb115 hg w15 hbox hb; have z_ := t3_ (bS_ (bw0_ HB.out) hb) hbox (gv_ hg (bw0_ HB.out) : w.heap.size ≤ gb115); clear HB; obtain ⟨HB, BK115, GE115⟩ := z_; clear hb hbox hg) | ((with_reducible refine gate_dst (N := 3) rfl ?_); refine be_ 3 #[.int .i64 a1_0, .int .i64 a1_1] 30 ?_; intro gb116 hg w16 hbox hb; have z_ := t5_ (bB_ (bk_ BK115.out) hb) (bS_ (bw1_ HB.out GE115.out) hb) hbox (gv_ hg (bw1_ HB.out GE115.out) : w.heap.size ≤ gb116) (by rw [hg]; exact Nat.ne_of_lt (blk_lt (bk_ BK115.out)) : gb115 ≠ gb116); clear HB BK115; obtain ⟨BK115, HB, BK116, GE116, NB115_116⟩ := z_; have NB116_115 := M_ NB115_116.out.symm; clear hb hbox hg; have hnb17 := NB116_115.out; have hnc17 := NB115_116.out; have hcz18_0 := cz_ BK116.out 0 (.int .i64 a1_0); have hcz18_1 := cz_ BK116.out 1 (.int .i64 a1_1); have hfz18_0 := fz_ BK116.out 0; have hfz18_1 := fz_ BK116.out 1; have hcz19_0 := cz_ BK115.out 0 (.string a0_0); have hcz19_1 := cz_ BK115.out 1 (.slice A0_1 l0_1.length c0_1); have hcz19_2 := cz_ BK115.out 2 (.slice A0_2 l0_2.length c0_2); have hfz19_0 := fz_ BK115.out 0; have hfz19_1 := fz_ BK115.out 1; have hfz19_2 := fz_ BK115.out 2) | (go_at_call 81; (try simp only [i64_w, i32_w]); (with_reducible refine (spec_l1In.calls a1_0 0 (wrap64 ((a0_0.size : Int) - 1)) true _ A3.out).mono ?_); rintro e w' ⟨rfl, ⟨nd, rfl⟩⟩; (try exact dw_)) | (go_at_call 103; (try simp only [i64_w, i32_w]); (with_reducible refine (spec_l1Set.calls a1_1 false _ A5.out).mono ?_); rintro e w' ⟨rfl, ⟨nd, rfl⟩⟩; (try exact dw_))); try go_wp2_with (first | ((with_reducible refine gate_dst (N := 2) rfl ?_); refine be_ 2 #[.string a0_0, .slice A0_1 l0_1.length c0_1, .slice A0_2 l0_2.length c0_2] 25 ?_; intro gb115 hg w15 hbox hb; have z_ := t3_ (bS_ (bw0_ HB.out) hb) hbox (gv_ hg (bw0_ HB.out) : w.heap.size ≤ gb115); clear HB; obtain ⟨HB, BK115, GE115⟩ := z_; clear hb hbox hg) | ((with_reducible refine gate_dst (N := 3) rfl ?_); refine be_ 3 #[.int .i64 a1_0, .int .i64 a1_1] 30 ?_; intro gb116 hg w16 hbox hb; have z_ := t5_ (bB_ (bk_ BK115.out) hb) (bS_ (bw1_ HB.out GE115.out) hb) hbox (gv_ hg (bw1_ HB.out GE115.out) : w.heap.size ≤ gb116) (by rw [hg]; exact Nat.ne_of_lt (blk_lt (bk_ BK115.out)) : gb115 ≠ gb116); clear HB BK115; obtain ⟨BK115, HB, BK116, GE116, NB115_116⟩ := z_; have NB116_115 := M_ NB115_116.out.symm; clear hb hbox hg; have hnb17 := NB116_115.out; have hnc17 := NB115_116.out; have hcz18_0 := cz_ BK116.out 0 (.int .i64 a1_0); have hcz18_1 := cz_ BK116.out 1 (.int .i64 a1_1); have hfz18_0 := fz_ BK116.out 0; have hfz18_1 := fz_ BK116.out 1; have hcz19_0 := cz_ BK115.out 0 (.string a0_0); have hcz19_1 := cz_ BK115.out 1 (.slice A0_1 l0_1.length c0_1); have hcz19_2 := cz_ BK115.out 2 (.slice A0_2 l0_2.length c0_2); have hfz19_0 := fz_ BK115.out 0; have hfz19_1 := fz_ BK115.out 1; have hfz19_2 := fz_ BK115.out 2) | (go_at_call 81; (try simp only [i64_w, i32_w]); (with_reducible refine (spec_l1In.calls a1_0 0 (wrap64 ((a0_0.size : Int) - 1)) true _ A3.out).mono ?_); rintro e w' ⟨rfl, ⟨nd, rfl⟩⟩; (try exact dw_)) | (go_at_call 103; (try simp only [i64_w, i32_w]); (with_reducible refine (spec_l1Set.calls a1_1 false _ A5.out).mono ?_); rintro e w' ⟨rfl, ⟨nd, rfl⟩⟩; (try exact dw_))))
   go_ret
   exact ⟨rb_, bw2_ HB.out GE115.out GE116.out⟩
 ·replace c4 := Bool.eq_false_iff.mpr c4
  subst c4
  rw [if_neg (show ¬ (false = true) by decide)] at H
  obtain rfl := Option.some.inj H
  go_enter Try.func75, Try.ntmps75
  go_wp2_with (first | ((with_reducible refine gate_dst (N := 2) rfl ?_); refine be_ 2 #[.string a0_0, .slice A0_1 l0_1.length c0_1, .slice A0_2 l0_2.length c0_2] 25 ?_; intro gb115 hg w20 hbox hb; have z_ := t3_ (bS_ (bw0_ HB.out) hb) hbox (gv_ hg (bw0_ HB.out) : w.heap.size ≤ gb115); clear HB; obtain ⟨HB, BK115, GE115⟩ := z_; clear hb hbox hg) | ((with_reducible refine gate_dst (N := 3) rfl ?_); refine be_ 3 #[.int .i64 a1_0, .int .i64 a1_1] 30 ?_; intro gb116 hg w21 hbox hb; have z_ := t5_ (bB_ (bk_ BK115.out) hb) (bS_ (bw1_ HB.out GE115.out) hb) hbox (gv_ hg (bw1_ HB.out GE115.out) : w.heap.size ≤ gb116) (by rw [hg]; exact Nat.ne_of_lt (blk_lt (bk_ BK115.out)) : gb115 ≠ gb116); clear HB BK115; obtain ⟨BK115, HB, BK116, GE116, NB115_116⟩ := z_; have NB116_115 := M_ NB115_116.out.symm; clear hb hbox hg; have hnb22 := NB116_115.out; have hnc22 := NB115_116.out; have hcz23_0 := cz_ BK116.out 0 (.int .i64 a1_0); have hcz23_1 := cz_ BK116.out 1 (.int .i64 a1_1); have hfz23_0 := fz_ BK116.out 0; have hfz23_1 := fz_ BK116.out 1; have hcz24_0 := cz_ BK115.out 0 (.string a0_0); have hcz24_1 := cz_ BK115.out 1 (.slice A0_1 l0_1.length c0_1); have hcz24_2 := cz_ BK115.out 2 (.slice A0_2 l0_2.length c0_2); have hfz24_0 := fz_ BK115.out 0; have hfz24_1 := fz_ BK115.out 1; have hfz24_2 := fz_ BK115.out 2) | (go_at_call 81; (try simp only [i64_w, i32_w]); (with_reducible refine (spec_l1In.calls a1_0 0 (wrap64 ((a0_0.size : Int) - 1)) false _ A3.out).mono ?_); rintro e w' ⟨rfl, ⟨nd, rfl⟩⟩; (try exact dw_)))
  repeat (go_quiet (first | ((with_reducible refine gate_dst (N := 2) rfl ?_); refine be_ 2 #[.string a0_0, .slice A0_1 l0_1.length c0_1, .slice A0_2 l0_2.length c0_2] 25 ?_; intro gb115 hg w20 hbox hb; have z_ := t3_ (bS_ (bw0_ HB.out) hb) hbox (gv_ hg (bw0_ HB.out) : w.heap.size ≤ gb115); clear HB; obtain ⟨HB, BK115, GE115⟩ := z_; clear hb hbox hg) | ((with_reducible refine gate_dst (N := 3) rfl ?_); refine be_ 3 #[.int .i64 a1_0, .int .i64 a1_1] 30 ?_; intro gb116 hg w21 hbox hb; have z_ := t5_ (bB_ (bk_ BK115.out) hb) (bS_ (bw1_ HB.out GE115.out) hb) hbox (gv_ hg (bw1_ HB.out GE115.out) : w.heap.size ≤ gb116) (by rw [hg]; exact Nat.ne_of_lt (blk_lt (bk_ BK115.out)) : gb115 ≠ gb116); clear HB BK115; obtain ⟨BK115, HB, BK116, GE116, NB115_116⟩ := z_; have NB116_115 := M_ NB115_116.out.symm; clear hb hbox hg; have hnb22 := NB116_115.out; have hnc22 := NB115_116.out; have hcz23_0 := cz_ BK116.out 0 (.int .i64 a1_0); have hcz23_1 := cz_ BK116.out 1 (.int .i64 a1_1); have hfz23_0 := fz_ BK116.out 0; have hfz23_1 := fz_ BK116.out 1; have hcz24_0 := cz_ BK115.out 0 (.string a0_0); have hcz24_1 := cz_ BK115.out 1 (.slice A0_1 l0_1.length c0_1); have hcz24_2 := cz_ BK115.out 2 (.slice A0_2 l0_2.length c0_2); have hfz24_0 := fz_ BK115.out 0; have hfz24_1 := fz_ BK115.out 1; have hfz24_2 := fz_ BK115.out 2) | (go_at_call 81; (try simp only [i64_w, i32_w]); (with_reducible refine (spec_l1In.calls a1_0 0 (wrap64 ((a0_0.size : Int) - 1)) false _ A3.out).mono ?_); rintro e w' ⟨rfl, ⟨nd, rfl⟩⟩; (try exact dw_))); try go_wp2_with (first | ((with_reducible refine gate_dst (N := 2) rfl ?_); refine be_ 2 #[.string a0_0, .slice A0_1 l0_1.length c0_1, .slice A0_2 l0_2.length c0_2] 25 ?_; intro gb115 hg w20 hbox hb; have z_ := t3_ (bS_ (bw0_ HB.out) hb) hbox (gv_ hg (bw0_ HB.out) : w.heap.size ≤ gb115); clear HB; obtain ⟨HB, BK115, GE115⟩ := z_; clear hb hbox hg) | ((with_reducible refine gate_dst (N := 3) rfl ?_); refine be_ 3 #[.int .i64 a1_0, .int .i64 a1_1] 30 ?_; intro gb116 hg w21 hbox hb; have z_ := t5_ (bB_ (bk_ BK115.out) hb) (bS_ (bw1_ HB.out GE115.out) hb) hbox (gv_ hg (bw1_ HB.out GE115.out) : w.heap.size ≤ gb116) (by rw [hg]; exact Nat.ne_of_lt (blk_lt (bk_ BK115.out)) : gb115 ≠ gb116); clear HB BK115; obtain ⟨BK115, HB, BK116, GE116, NB115_116⟩ := z_; have NB116_115 := M_ NB115_116.out.symm; clear hb hbox hg; have hnb22 := NB116_115.out; have hnc22 := NB115_116.out; have hcz23_0 := cz_ BK116.out 0 (.int .i64 a1_0); have hcz23_1 := cz_ BK116.out 1 (.int .i64 a1_1); have hfz23_0 := fz_ BK116.out 0; have hfz23_1 := fz_ BK116.out 1; have hcz24_0 := cz_ BK115.out 0 (.string a0_0); have hcz24_1 := cz_ BK115.out 1 (.slice A0_1 l0_1.length c0_1); have hcz24_2 := cz_ BK115.out 2 (.slice A0_2 l0_2.length c0_2); have hfz24_0 := fz_ BK115.out 0; have hfz24_1 := fz_ BK115.out 1; have hfz24_2 := fz_ BK115.out 2) | (go_at_call 81; (try simp only [i64_w, i32_w]); (with_reducible refine (spec_l1In.calls a1_0 0 (wrap64 ((a0_0.size : Int) - 1)) false _ A3.out).mono ?_); rintro e w' ⟨rfl, ⟨nd, rfl⟩⟩; (try exact dw_))))
  go_ret
  exact ⟨rb_, bw2_ HB.out GE115.out GE116.out⟩

mutual
def spec_MagazineOk.j0 : Nat → List (List (S30)) → Bool → ByteArray → List Int → List Int → Option (Bool)
  | 0, _, _, _, _, _ => none
  | k + 1, x1, x19, x122000, x122001, x122002 => if x19 = true then (some false) else (spec_MagazineOk.l0 k x1 (x1.length : Int) 0 x122000 x122001 x122002)
def spec_MagazineOk.l0 : Nat → List (List (S30)) → Int → Int → ByteArray → List Int → List Int → Option (Bool)
  | 0, _, _, _, _, _, _ => none
  | k + 1, x20, x21, x22, x122000, x122001, x122002 => if x22 < x21 then (if 0 ≤ x22 then (if x22 < (x20.length : Int) then (if ((rd_L2 x20 x22).length : Int) > 20 then (some false) else (spec_MagazineOk.l1 k x20 x21 x22 (rd_L2 x20 x22) ((rd_L2 x20 x22).length : Int) 0 x122000 x122001 x122002)) else (none)) else (none)) else (some true)
def spec_MagazineOk.l1 : Nat → List (List (S30)) → Int → Int → List (S30) → Int → Int → ByteArray → List Int → List Int → Option (Bool)
  | 0, _, _, _, _, _, _, _, _, _ => none
  | k + 1, x20, x21, x22, x29, x30, x31, x122000, x122001, x122002 => if x31 < x30 then (if 0 ≤ x31 then (if x31 < (x29.length : Int) then ((spec_l2Matrix.f x122000 x122001 x122002 ((rd_T30 x29 x31).f0) ((rd_T30 x29 x31).f1)).bind fun t126 => (if t126 = true then (spec_MagazineOk.l1 k x20 x21 x22 x29 x30 (wrap64 (x31 + 1)) x122000 x122001 x122002) else (some false))) else (none)) else (none)) else (spec_MagazineOk.l0 k x20 x21 (wrap64 (x22 + 1)) x122000 x122001 x122002)
end
def spec_MagazineOk.f (k : Nat) (a0_0 : ByteArray) (l0_1 : List Int) (l0_2 : List Int) (l1 : List (List (S30))) : Option (Bool) := (spec_FontOk.f k a0_0 l0_1 l0_2).bind fun t122 => (if t122 = true then (spec_MagazineOk.j0 k l1 ((l1.length : Int) != (a0_0.size : Int)) a0_0 l0_1 l0_2) else (spec_MagazineOk.j0 k l1 true a0_0 l0_1 l0_2))
theorem spec_MagazineOk.mono_l : ∀ k, (∀ y0 y1 y2 y3 y4, LeO (spec_MagazineOk.j0 k y0 y1 y2 y3 y4) (spec_MagazineOk.j0 (k + 1) y0 y1 y2 y3 y4)) ∧ (∀ y0 y1 y2 y3 y4 y5, LeO (spec_MagazineOk.l0 k y0 y1 y2 y3 y4 y5) (spec_MagazineOk.l0 (k + 1) y0 y1 y2 y3 y4 y5)) ∧ (∀ y0 y1 y2 y3 y4 y5 y6 y7 y8, LeO (spec_MagazineOk.l1 k y0 y1 y2 y3 y4 y5 y6 y7 y8) (spec_MagazineOk.l1 (k + 1) y0 y1 y2 y3 y4 y5 y6 y7 y8))
  | 0 => ⟨fun _ _ _ _ _ r h => by simp [spec_MagazineOk.j0] at h, fun _ _ _ _ _ _ r h => by simp [spec_MagazineOk.l0] at h, fun _ _ _ _ _ _ _ _ _ r h => by simp [spec_MagazineOk.l1] at h⟩
  | k + 1 => by
    obtain ⟨ih0, ih1, ih2⟩ := spec_MagazineOk.mono_l k
    refine ⟨?_, ?_, ?_⟩ <;> intros <;> (first | unfold spec_MagazineOk.j0 | unfold spec_MagazineOk.l0 | unfold spec_MagazineOk.l1) <;> repeat' first | (with_reducible first | exact ih0 _ _ _ _ _ | exact ih1 _ _ _ _ _ _ | exact ih2 _ _ _ _ _ _ _ _ _ | exact spec_FontOk.mono _ _ _ _ | exact LeO.refl _ | exact LeO.none _ | refine LeO.ite ?_ ?_ | refine LeO.bind ?_ (fun _ => ?_)) | exact ih0 _ _ _ _ _ | exact ih1 _ _ _ _ _ _ | exact ih2 _ _ _ _ _ _ _ _ _ | exact spec_FontOk.mono _ _ _ _ | exact LeO.none _ | refine LeO.ite ?_ ?_ | refine LeO.bind ?_ (fun _ => ?_)
theorem spec_MagazineOk.mono : ∀ a0 a1 a2 a3 k, LeO (spec_MagazineOk.f k a0 a1 a2 a3) (spec_MagazineOk.f (k + 1) a0 a1 a2 a3) := by
 intro a0 a1 a2 a3 k
 obtain ⟨ih0, ih1, ih2⟩ := spec_MagazineOk.mono_l k
 unfold spec_MagazineOk.f
 repeat' first | (with_reducible first | exact ih0 _ _ _ _ _ | exact ih1 _ _ _ _ _ _ | exact ih2 _ _ _ _ _ _ _ _ _ | exact spec_FontOk.mono _ _ _ _ | exact LeO.refl _ | exact LeO.none _ | refine LeO.ite ?_ ?_ | refine LeO.bind ?_ (fun _ => ?_)) | exact ih0 _ _ _ _ _ | exact ih1 _ _ _ _ _ _ | exact ih2 _ _ _ _ _ _ _ _ _ | exact spec_FontOk.mono _ _ _ _ | exact LeO.none _ | refine LeO.ite ?_ ?_ | refine LeO.bind ?_ (fun _ => ?_)
set_option maxHeartbeats 8000000 in
set_option maxRecDepth 100000 in
theorem spec_MagazineOk.calls (k : Nat) (a0_0 : ByteArray) (A0_1 : Option Addr) (c0_1 : Nat) (l0_1 : List Int) (A0_2 : Option Addr) (c0_2 : Nat) (l0_2 : List Int) (A1 : Option Addr) (c1 : Nat) (l1 : List (List (S30))) (r : Bool) (w : World) (hr0_1 : Kd.C (Kd.int .i64) w A0_1 l0_1.length l0_1) (hc0_1 : l0_1.length ≤ c0_1) (hr0_2 : Kd.C (Kd.int .i64) w A0_2 l0_2.length l0_2) (hc0_2 : l0_2.length ≤ c0_2) (hr1 : Kd.C (Kd.slice 30 k30) w A1 l1.length l1) (hc1 : l1.length ≤ c1) (h : spec_MagazineOk.f k a0_0 l0_1 l0_2 l1 = some r) :
    Calls Try.prog 22 #[.agg #[.string a0_0, .slice A0_1 l0_1.length c0_1, .slice A0_2 l0_2.length c0_2], .slice A1 l1.length c1] w fun e w' => e = .returned (.bool r) ∧ Below w.heap.size w w' := by
 have hu25 := Try.underlying25
 have hu30 := Try.underlying30
 have HR0_1 := M_ hr0_1
 have HC0_1 := M_ hc0_1
 clear hr0_1 hc0_1
 have HR0_2 := M_ hr0_2
 have HC0_2 := M_ hc0_2
 clear hr0_2 hc0_2
 have HR1 := M_ hr1
 have HC1 := M_ hc1
 clear hr1 hc1
 have HB := M_ (Below.refl w.heap.size w)
 have H : ((spec_FontOk.f k a0_0 l0_1 l0_2).bind fun t122 => (if t122 = true then (spec_MagazineOk.j0 k l1 ((l1.length : Int) != (a0_0.size : Int)) a0_0 l0_1 l0_2) else (spec_MagazineOk.j0 k l1 true a0_0 l0_1 l0_2))) = some r := h
 clear h
 have HC3 := M_ H
 clear H
 go_enter Try.func22, Try.ntmps22
 go_upto_region 1 with (first | ((with_reducible refine gate_dst (N := 2) rfl ?_); (try (refine gate_guard (by rfl) ?_; dsimp only)); refine be_ 2 #[.string a0_0, .slice A0_1 l0_1.length c0_1, .slice A0_2 l0_2.length c0_2] 25 ?_; intro gb121 hg w4 hbox hb; have z_ := t3_ (bS_ (bw0_ HB.out) hb) hbox (gv_ hg (bw0_ HB.out) : w.heap.size ≤ gb121); clear HB; obtain ⟨HB, BK121, GE121⟩ := z_; clear hb hbox hg))
 (try simp only [Act.put, lA_, lB_, lC_])
 go_cut [19] (fun v19 wc => ∃ (kq : Nat) (x19_2 : Bool), v19 = .bool x19_2 ∧ Aside0 (spec_MagazineOk.j0 kq l1 x19_2 a0_0 l0_1 l0_2 = some r) ∧ Aside0 (kq ≤ k) ∧ Aside0 (wc.heap[gb121]? = some (.cells #[.string a0_0, (.slice A0_1 l0_1.length c0_1), (.slice A0_2 l0_2.length c0_2)] 25 (0, 0))) ∧ Aside0 (Below w.heap.size w wc))
 case first =>
  have H := HC3.out
  clear HC3
  replace H := bs_ H
  obtain ⟨t122, A50, H⟩ := H
  (try dsimp only at H)
  have A5 := M_ A50
  clear A50
  by_cases c6 : t122 = true
  ·subst c6
   rw [if_pos rfl] at H
   have H' := M_ H
   clear H
   have hcz7_0 := cz_ BK121.out 0 (.string a0_0)
   have hcz7_1 := cz_ BK121.out 1 (.slice A0_1 l0_1.length c0_1)
   have hcz7_2 := cz_ BK121.out 2 (.slice A0_2 l0_2.length c0_2)
   have hfz7_0 := fz_ BK121.out 0
   have hfz7_1 := fz_ BK121.out 1
   have hfz7_2 := fz_ BK121.out 2
   go_wp2_with (first | ((with_reducible refine gate_callee (f := 29) rfl ?_); refine gl_ (some 10) Try.func29 #[.agg #[.string a0_0, .slice A0_1 l0_1.length c0_1, .slice A0_2 l0_2.length c0_2]] ?_; (with_reducible refine (spec_FontOk.calls k a0_0 _ _ l0_1 _ _ l0_2 true _ ?side1 ?side2 ?side3 ?side4 A5.out).mono ?_); (case side1 => exact kC_ HR0_1.out HB.out); (case side2 => exact HC0_1.out); (case side3 => exact kC_ HR0_2.out HB.out); (case side4 => exact HC0_2.out); rintro e w8 ⟨rfl, hb⟩; refine ⟨_, rfl, ?_⟩; have z_ := t2_ (bB_ (bk_ BK121.out) hb) (bS_ (bw1_ HB.out GE121.out) hb); clear HB BK121; obtain ⟨BK121, HB⟩ := z_; (try clear hb); have hcz9_0 := cz_ BK121.out 0 (.string a0_0); have hcz9_1 := cz_ BK121.out 1 (.slice A0_1 l0_1.length c0_1); have hcz9_2 := cz_ BK121.out 2 (.slice A0_2 l0_2.length c0_2); have hfz9_0 := fz_ BK121.out 0; have hfz9_1 := fz_ BK121.out 1; have hfz9_2 := fz_ BK121.out 2))
   go_meet
   case rel => exact ⟨_, (((l1.length : Int) != (a0_0.size : Int))), (by first | rfl | (simp; done) | (simp [*]; done)), H', ⟨by first | omega | exact Nat.le_refl _⟩, ⟨by refine bk_ ?_; exact BK121.out⟩, ⟨bw1_ HB.out GE121.out⟩⟩
  ·replace c6 := Bool.eq_false_iff.mpr c6
   subst c6
   rw [if_neg (show ¬ (false = true) by decide)] at H
   have H' := M_ H
   clear H
   have hcz10_0 := cz_ BK121.out 0 (.string a0_0)
   have hcz10_1 := cz_ BK121.out 1 (.slice A0_1 l0_1.length c0_1)
   have hcz10_2 := cz_ BK121.out 2 (.slice A0_2 l0_2.length c0_2)
   have hfz10_0 := fz_ BK121.out 0
   have hfz10_1 := fz_ BK121.out 1
   have hfz10_2 := fz_ BK121.out 2
   go_wp2_with (first | ((with_reducible refine gate_callee (f := 29) rfl ?_); refine gl_ (some 10) Try.func29 #[.agg #[.string a0_0, .slice A0_1 l0_1.length c0_1, .slice A0_2 l0_2.length c0_2]] ?_; (with_reducible refine (spec_FontOk.calls k a0_0 _ _ l0_1 _ _ l0_2 false _ ?side1 ?side2 ?side3 ?side4 A5.out).mono ?_); (case side1 => exact kC_ HR0_1.out HB.out); (case side2 => exact HC0_1.out); (case side3 => exact kC_ HR0_2.out HB.out); (case side4 => exact HC0_2.out); rintro e w11 ⟨rfl, hb⟩; refine ⟨_, rfl, ?_⟩; have z_ := t2_ (bB_ (bk_ BK121.out) hb) (bS_ (bw1_ HB.out GE121.out) hb); clear HB BK121; obtain ⟨BK121, HB⟩ := z_; (try clear hb)))
   go_meet
   case rel => exact ⟨_, (true), (by first | rfl | (simp; done) | (simp [*]; done)), H', ⟨by first | omega | exact Nat.le_refl _⟩, ⟨by refine bk_ ?_; exact BK121.out⟩, ⟨bw1_ HB.out GE121.out⟩⟩
 case rest =>
  clear HC3
  (try clear hfz9_2 hfz9_1 hfz9_0 hfz7_2 hfz7_1 hfz7_0 hfz10_2 hfz10_1 hfz10_0 hcz9_2 hcz9_1 hcz9_0 hcz7_2 hcz7_1 hcz7_0 hcz10_2 hcz10_1 hcz10_0 c6 p2 c2 c1)
  obtain ⟨kq, x19_2, rfl, HA, HJ2, BK121, HB⟩ := hcut
  cases kq with
  | zero => exact absurd HA.out (by simp [spec_MagazineOk.j0])
  | succ kj2 =>
   have H := HA.out
   clear HA
   simp only [spec_MagazineOk.j0] at H
   by_cases c12 : x19_2 = true
   ·subst c12
    rw [if_pos rfl] at H
    obtain rfl := Option.some.inj H
    go_wp2
    go_ret
    exact ⟨rb_, bw1_ HB.out GE121.out⟩
   ·replace c12 := Bool.eq_false_iff.mpr c12
    subst c12
    rw [if_neg (show ¬ (false = true) by decide)] at H
    have H' := M_ H
    clear H
    go_wp2
    go_loopg [22] kj2 (fun kq v22 w' => ∃ (x22_2 : Int), v22 = .int .i64 x22_2 ∧ Aside0 (spec_MagazineOk.l0 kq l1 (l1.length : Int) x22_2 a0_0 l0_1 l0_2 = some r) ∧ Aside0 (kq ≤ kj2) ∧ Aside0 (w'.heap[gb121]? = some (.cells #[.string a0_0, (.slice A0_1 l0_1.length c0_1), (.slice A0_2 l0_2.length c0_2)] 25 (0, 0))) ∧ Aside0 (Below w.heap.size w w'))
    case atStart => exact ⟨(0), (by first | rfl | (simp; done) | (simp [*]; done)), H', ⟨Nat.le_refl _⟩, ⟨by refine bk_ ?_; exact BK121.out⟩, ⟨bw1_ HB.out GE121.out⟩⟩
    case round =>
     clear H'
     (try clear p2 hfz9_2 hfz9_1 hfz9_0 hfz7_2 hfz7_1 hfz7_0 hfz10_2 hfz10_1 hfz10_0 hcz9_2 hcz9_1 hcz9_0 hcz7_2 hcz7_1 hcz7_0 hcz10_2 hcz10_1 hcz10_0 c12 p6 c6 p2 c2 c1)
     obtain ⟨x22_2, rfl, HA, HK2, BK121, HB⟩ := hrel
     cases gk with
     | zero => exact absurd HA.out (by simp [spec_MagazineOk.l0])
     | succ k2 =>
      have H := HA.out
      clear HA
      simp only [spec_MagazineOk.l0] at H
      by_cases c13 : x22_2 < (l1.length : Int)
      ·rw [if_pos c13] at H
       have c13b0 := dt_ c13
       clear c13
       by_cases c14 : 0 ≤ x22_2
       ·rw [if_pos c14] at H
        have c14b0 := dt_ c14
        clear c14
        by_cases c15 : x22_2 < (l1.length : Int)
        ·rw [if_pos c15] at H
         have c15b0 := dt_ c15
         clear c15
         by_cases c16 : ((rd_L2 l1 x22_2).length : Int) > 20
         ·rw [if_pos c16] at H
          have c16b0 : decide (20 < ((rd_L2 l1 x22_2).length : Int)) = true := dt_ c16
          have c16b1 : decide (20 < (rd_L2 l1 x22_2).length) = true := dt_ (by omega)
          clear c16
          obtain rfl := Option.some.inj H
          have p123 : 0 ≤ (x22_2 : Int) := od_ as_
          have q123 : x22_2 < (l1.length : Int) := od_ as_
          obtain ⟨ad123, A123_0, c123_0, e123, hx123_0, hl123_0, hi123_0⟩ := at_L2 HR1.out x22_2 p123 q123
          cases e123
          replace hx123_0 := (HB.out.cell (World.block_lt_of_cell? w _ hx123_0)).trans hx123_0
          have HR123_0 := M_ hi123_0
          have HC123_0 := M_ hl123_0
          clear hi123_0 hl123_0
          replace p123 := eq_true p123
          replace q123 := eq_true q123
          go_wp2
          go_ret
          exact ⟨rb_, bw1_ HB.out GE121.out⟩
         ·rw [if_neg c16] at H
          have c16b0 : decide (20 < ((rd_L2 l1 x22_2).length : Int)) = false := decide_eq_false c16
          have c16b1 : decide (20 < (rd_L2 l1 x22_2).length) = false := decide_eq_false (by omega)
          clear c16
          have H' := M_ H
          clear H
          have p123 : 0 ≤ (x22_2 : Int) := od_ as_
          have q123 : x22_2 < (l1.length : Int) := od_ as_
          obtain ⟨ad123, A123_0, c123_0, e123, hx123_0, hl123_0, hi123_0⟩ := at_L2 HR1.out x22_2 p123 q123
          cases e123
          replace hx123_0 := (HB.out.cell (World.block_lt_of_cell? w _ hx123_0)).trans hx123_0
          have HR123_0 := M_ hi123_0
          have HC123_0 := M_ hl123_0
          clear hi123_0 hl123_0
          replace p123 := eq_true p123
          replace q123 := eq_true q123
          go_wp2
          go_loopg [31] k2 (fun kq v31 w' => ∃ (x31_3 : Int), v31 = .int .i64 x31_3 ∧ Aside0 (spec_MagazineOk.l1 kq l1 (l1.length : Int) x22_2 (rd_L2 l1 x22_2) ((rd_L2 l1 x22_2).length : Int) x31_3 a0_0 l0_1 l0_2 = some r) ∧ Aside0 (kq ≤ k2) ∧ Aside0 (w'.heap[gb121]? = some (.cells #[.string a0_0, (.slice A0_1 l0_1.length c0_1), (.slice A0_2 l0_2.length c0_2)] 25 (0, 0))) ∧ Aside0 (Below w.heap.size w w'))
          case atStart => exact ⟨(0), (by first | rfl | (simp; done) | (simp [*]; done)), H', ⟨Nat.le_refl _⟩, ⟨by refine bk_ ?_; exact BK121.out⟩, ⟨bw1_ HB.out GE121.out⟩⟩
          case round =>
           clear H'
           (try clear q123 p6 p2 p123 hx123_0 hfz9_2 hfz9_1 hfz9_0 hfz7_2 hfz7_1 hfz7_0 hfz10_2 hfz10_1 hfz10_0 hcz9_2 hcz9_1 hcz9_0 hcz7_2 hcz7_1 hcz7_0 hcz10_2 hcz10_1 hcz10_0 c16b1 c16b0 c16 c15b0 c15 c14b0 c14 c13b0 c13 hx12 q12 p12 c12 p6 c6 p2 c2 hx1 q1 p1 c1)
           obtain ⟨x31_3, rfl, HA, HK3, BK121, HB⟩ := hrel
           cases gk with
           | zero => exact absurd HA.out (by simp [spec_MagazineOk.l1])
           | succ k3 =>
            have H := HA.out
            clear HA
            simp only [spec_MagazineOk.l1] at H
            by_cases c17 : x31_3 < ((rd_L2 l1 x22_2).length : Int)
            ·rw [if_pos c17] at H
             have c17b0 := dt_ c17
             clear c17
             by_cases c18 : 0 ≤ x31_3
             ·rw [if_pos c18] at H
              have c18b0 := dt_ c18
              clear c18
              by_cases c19 : x31_3 < ((rd_L2 l1 x22_2).length : Int)
              ·rw [if_pos c19] at H
               have c19b0 := dt_ c19
               clear c19
               replace H := bs_ H
               obtain ⟨t126, A200, H⟩ := H
               (try dsimp only at H)
               have A20 := M_ A200
               clear A200
               by_cases c21 : t126 = true
               ·subst c21
                rw [if_pos rfl] at H
                have H' := M_ H
                clear H
                have p124 : 0 ≤ (x31_3 : Int) := od_ as_
                have q124 : x31_3 < ((rd_L2 l1 x22_2).length : Int) := od_ as_
                obtain ⟨ad124, e124, hx124_0, hx124_1⟩ := at_T30 HR123_0.out x31_3 p124 q124
                cases e124
                replace hx124_0 := (HB.out.cell (World.block_lt_of_cell? w _ hx124_0)).trans hx124_0
                replace hx124_1 := (HB.out.cell (World.block_lt_of_cell? w _ hx124_1)).trans hx124_1
                replace p124 := eq_true p124
                replace q124 := eq_true q124
                go_wp2_with (first | ((with_reducible refine gate_dst (N := 8) rfl ?_); (try (refine gate_guard (by rfl) ?_; dsimp only)); refine be_ 8 #[.int .i64 0, .int .i64 0] 30 ?_; intro gb125 hg w22 hbox hb; have z_ := t5_ (bB_ (bk_ BK121.out) hb) (bS_ (bw1_ HB.out GE121.out) hb) hbox (gv_ hg (bw1_ HB.out GE121.out) : w.heap.size ≤ gb125) (by rw [hg]; exact Nat.ne_of_lt (blk_lt (bk_ BK121.out)) : gb121 ≠ gb125); clear HB BK121; obtain ⟨BK121, HB, BK125, GE125, NB121_125⟩ := z_; have NB125_121 := M_ NB121_125.out.symm; clear hb hbox hg; have hnb23 := NB125_121.out; have hnc23 := NB121_125.out; have hcz24_0 := cz_ BK125.out 0 (.int .i64 0); have hcz24_1 := cz_ BK125.out 1 (.int .i64 0); have hfz24_0 := fz_ BK125.out 0; have hfz24_1 := fz_ BK125.out 1; have hcz25_0 := cz_ BK121.out 0 (.string a0_0); have hcz25_1 := cz_ BK121.out 1 (.slice A0_1 l0_1.length c0_1); have hcz25_2 := cz_ BK121.out 2 (.slice A0_2 l0_2.length c0_2); have hfz25_0 := fz_ BK121.out 0; have hfz25_1 := fz_ BK121.out 1; have hfz25_2 := fz_ BK121.out 2) | ((with_reducible refine gate_callee (f := 75) rfl ?_); refine gl_ (some 37) Try.func75 #[.agg #[.string a0_0, .slice A0_1 l0_1.length c0_1, .slice A0_2 l0_2.length c0_2], .agg #[.int .i64 ((rd_T30 (rd_L2 l1 x22_2) x31_3).f0), .int .i64 ((rd_T30 (rd_L2 l1 x22_2) x31_3).f1)]] ?_; (with_reducible refine (spec_l2Matrix.calls a0_0 _ _ l0_1 _ _ l0_2 ((rd_T30 (rd_L2 l1 x22_2) x31_3).f0) ((rd_T30 (rd_L2 l1 x22_2) x31_3).f1) true _ ?side1 ?side2 ?side3 ?side4 A20.out).mono ?_); (case side1 => exact Kd.C_below HR0_1.out (bw2_ HB.out GE121.out GE125.out)); (case side2 => exact HC0_1.out); (case side3 => exact Kd.C_below HR0_2.out (bw2_ HB.out GE121.out GE125.out)); (case side4 => exact HC0_2.out); rintro e w26 ⟨rfl, hb⟩; refine ⟨_, rfl, ?_⟩; have z_ := t3_ (bB_ (g := gb121) (o := .cells #[.string a0_0, .slice A0_1 l0_1.length c0_1, .slice A0_2 l0_2.length c0_2] 25 (0, 0)) (by refine bk_ ?_; refine blk_far ?_ NB121_125.out _; refine bk_ ?_; refine blk_far ?_ NB121_125.out _; refine bk_ ?_; exact BK121.out) hb) (bB_ (g := gb125) (o := .cells #[.int .i64 ((rd_T30 (rd_L2 l1 x22_2) x31_3).f0), .int .i64 ((rd_T30 (rd_L2 l1 x22_2) x31_3).f1)] 30 (0, 0)) (by refine bk_ ?_; refine blk_put (cs := #[.int .i64 ((rd_T30 (rd_L2 l1 x22_2) x31_3).f0), .int .i64 0]) ?_ 1 _ rfl; refine bk_ ?_; refine blk_put (cs := #[.int .i64 0, .int .i64 0]) ?_ 0 _ rfl; refine bk_ ?_; exact BK125.out) hb) (bS_ (bw2_ HB.out GE121.out GE125.out) hb); clear BK121; (try clear BK125); clear HB; obtain ⟨BK121, BK125, HB⟩ := z_; (try clear hb)))
                go_roundg k3
                case measure => have := HJ2.out; have := HK2.out; have := HK3.out; omega
                case rel => exact ⟨(wrap64 (x31_3 + 1)), (by first | rfl | (simp; done) | (simp [*]; done)), H', ⟨by have := HJ2.out; have := HK2.out; have := HK3.out; omega⟩, ⟨by refine bk_ ?_; exact BK121.out⟩, ⟨bw2_ HB.out GE121.out GE125.out⟩⟩
               ·replace c21 := Bool.eq_false_iff.mpr c21
                subst c21
                rw [if_neg (show ¬ (false = true) by decide)] at H
                obtain rfl := Option.some.inj H
                have p124 : 0 ≤ (x31_3 : Int) := od_ as_
                have q124 : x31_3 < ((rd_L2 l1 x22_2).length : Int) := od_ as_
                obtain ⟨ad124, e124, hx124_0, hx124_1⟩ := at_T30 HR123_0.out x31_3 p124 q124
                cases e124
                replace hx124_0 := (HB.out.cell (World.block_lt_of_cell? w _ hx124_0)).trans hx124_0
                replace hx124_1 := (HB.out.cell (World.block_lt_of_cell? w _ hx124_1)).trans hx124_1
                replace p124 := eq_true p124
                replace q124 := eq_true q124
                go_wp2_with (first | ((with_reducible refine gate_dst (N := 8) rfl ?_); (try (refine gate_guard (by rfl) ?_; dsimp only)); refine be_ 8 #[.int .i64 0, .int .i64 0] 30 ?_; intro gb125 hg w27 hbox hb; have z_ := t5_ (bB_ (bk_ BK121.out) hb) (bS_ (bw1_ HB.out GE121.out) hb) hbox (gv_ hg (bw1_ HB.out GE121.out) : w.heap.size ≤ gb125) (by rw [hg]; exact Nat.ne_of_lt (blk_lt (bk_ BK121.out)) : gb121 ≠ gb125); clear HB BK121; obtain ⟨BK121, HB, BK125, GE125, NB121_125⟩ := z_; have NB125_121 := M_ NB121_125.out.symm; clear hb hbox hg; have hnb28 := NB125_121.out; have hnc28 := NB121_125.out; have hcz29_0 := cz_ BK125.out 0 (.int .i64 0); have hcz29_1 := cz_ BK125.out 1 (.int .i64 0); have hfz29_0 := fz_ BK125.out 0; have hfz29_1 := fz_ BK125.out 1; have hcz30_0 := cz_ BK121.out 0 (.string a0_0); have hcz30_1 := cz_ BK121.out 1 (.slice A0_1 l0_1.length c0_1); have hcz30_2 := cz_ BK121.out 2 (.slice A0_2 l0_2.length c0_2); have hfz30_0 := fz_ BK121.out 0; have hfz30_1 := fz_ BK121.out 1; have hfz30_2 := fz_ BK121.out 2) | ((with_reducible refine gate_callee (f := 75) rfl ?_); refine gl_ (some 37) Try.func75 #[.agg #[.string a0_0, .slice A0_1 l0_1.length c0_1, .slice A0_2 l0_2.length c0_2], .agg #[.int .i64 ((rd_T30 (rd_L2 l1 x22_2) x31_3).f0), .int .i64 ((rd_T30 (rd_L2 l1 x22_2) x31_3).f1)]] ?_; (with_reducible refine (spec_l2Matrix.calls a0_0 _ _ l0_1 _ _ l0_2 ((rd_T30 (rd_L2 l1 x22_2) x31_3).f0) ((rd_T30 (rd_L2 l1 x22_2) x31_3).f1) false _ ?side1 ?side2 ?side3 ?side4 A20.out).mono ?_); (case side1 => exact Kd.C_below HR0_1.out (bw2_ HB.out GE121.out GE125.out)); (case side2 => exact HC0_1.out); (case side3 => exact Kd.C_below HR0_2.out (bw2_ HB.out GE121.out GE125.out)); (case side4 => exact HC0_2.out); rintro e w31 ⟨rfl, hb⟩; refine ⟨_, rfl, ?_⟩; have z_ := t2_ (bB_ (g := gb121) (o := .cells #[.string a0_0, .slice A0_1 l0_1.length c0_1, .slice A0_2 l0_2.length c0_2] 25 (0, 0)) (by refine bk_ ?_; refine blk_far ?_ NB121_125.out _; refine bk_ ?_; refine blk_far ?_ NB121_125.out _; refine bk_ ?_; exact BK121.out) hb) (bS_ (bw2_ HB.out GE121.out GE125.out) hb); clear BK121; (try clear BK125); clear HB; obtain ⟨BK121, HB⟩ := z_; (try clear hb)))
                go_ret
                exact ⟨rb_, bw2_ HB.out GE121.out GE125.out⟩
              ·rw [if_neg c19] at H
               exact absurd H (by simp)
             ·rw [if_neg c18] at H
              exact absurd H (by simp)
            ·rw [if_neg c17] at H
             have c17b0 := decide_eq_false c17
             clear c17
             have H' := M_ H
             clear H
             go_wp2
             go_roundg k3
             case measure => have := HJ2.out; have := HK2.out; have := HK3.out; omega
             case rel => exact ⟨(wrap64 (x22_2 + 1)), (by first | rfl | (simp; done) | (simp [*]; done)), H', ⟨by have := HJ2.out; have := HK2.out; have := HK3.out; omega⟩, ⟨by refine bk_ ?_; exact BK121.out⟩, ⟨bw1_ HB.out GE121.out⟩⟩
        ·rw [if_neg c15] at H
         exact absurd H (by simp)
       ·rw [if_neg c14] at H
        exact absurd H (by simp)
      ·rw [if_neg c13] at H
       have c13b0 := decide_eq_false c13
       clear c13
       obtain rfl := Option.some.inj H
       go_wp2
       go_ret
       exact ⟨rb_, bw1_ HB.out GE121.out⟩

def laws_ints.l0 : Nat → List Int → List Int → Int → Int → Option (Bool)
  | 0, _, _, _, _ => none
  | k + 1, x0, x1, x12, x13 => if x13 < x12 then (if 0 ≤ x13 then (if x13 < (x0.length : Int) then (if x13 < (x1.length : Int) then (if (rd x0 x13) = (rd x1 x13) then (laws_ints.l0 k x0 x1 x12 (wrap64 (x13 + 1))) else (some false)) else (none)) else (none)) else (none)) else (some true)
def laws_ints.f (k : Nat) (l0 : List Int) (l1 : List Int) : Option (Bool) := if (l0.length : Int) = (l1.length : Int) then (laws_ints.l0 k l0 l1 (l0.length : Int) 0) else (some false)
theorem laws_ints.mono_l : ∀ k, (∀ y0 y1 y2 y3, LeO (laws_ints.l0 k y0 y1 y2 y3) (laws_ints.l0 (k + 1) y0 y1 y2 y3))
  | 0 => fun _ _ _ _ r h => by simp [laws_ints.l0] at h
  | k + 1 => by
    have ih0 := laws_ints.mono_l k
    · intro y0 y1 y2 y3
      unfold laws_ints.l0
      repeat' first | (with_reducible first | exact ih0 _ _ _ _ | exact LeO.refl _ | exact LeO.none _ | refine LeO.ite ?_ ?_ | refine LeO.bind ?_ (fun _ => ?_)) | exact ih0 _ _ _ _ | exact LeO.none _ | refine LeO.ite ?_ ?_ | refine LeO.bind ?_ (fun _ => ?_)
theorem laws_ints.mono : ∀ a0 a1 k, LeO (laws_ints.f k a0 a1) (laws_ints.f (k + 1) a0 a1) := by
 intro a0 a1 k
 have ih0 := laws_ints.mono_l k
 unfold laws_ints.f
 repeat' first | (with_reducible first | exact ih0 _ _ _ _ | exact LeO.refl _ | exact LeO.none _ | refine LeO.ite ?_ ?_ | refine LeO.bind ?_ (fun _ => ?_)) | exact ih0 _ _ _ _ | exact LeO.none _ | refine LeO.ite ?_ ?_ | refine LeO.bind ?_ (fun _ => ?_)
set_option maxHeartbeats 8000000 in
set_option maxRecDepth 100000 in
theorem laws_ints.calls (k : Nat) (A0 : Option Addr) (c0 : Nat) (l0 : List Int) (A1 : Option Addr) (c1 : Nat) (l1 : List Int) (r : Bool) (w : World) (hr0 : Kd.C (Kd.int .i64) w A0 l0.length l0) (hc0 : l0.length ≤ c0) (hr1 : Kd.C (Kd.int .i64) w A1 l1.length l1) (hc1 : l1.length ≤ c1) (h : laws_ints.f k l0 l1 = some r) :
    Calls Try.prog 26 #[.slice A0 l0.length c0, .slice A1 l1.length c1] w fun e w' => e = .returned (.bool r) ∧ Drawn0 w w' := by
 have HR0 := M_ hr0
 have HC0 := M_ hc0
 clear hr0 hc0
 have HR1 := M_ hr1
 have HC1 := M_ hc1
 clear hr1 hc1
 have H : (if (l0.length : Int) = (l1.length : Int) then (laws_ints.l0 k l0 l1 (l0.length : Int) 0) else (some false)) = some r := h
 clear h
 by_cases c3 : (l0.length : Int) = (l1.length : Int)
 ·rw [if_pos c3] at H
  have c3b0 := beq_iff_eq.mpr c3
  have c3b1 := bne_eq_false_iff_eq.mpr c3
  have c3b2 : (l0.length == l1.length) = true := by first | simpa using c3 | (simp at c3 ⊢; omega)
  clear c3
  have H' := M_ H
  clear H
  go_enter Try.func26, Try.ntmps26
  go_wp2
  repeat (go_quiet (fail); try go_wp2)
  go_loopg [13] k (fun kq v13 w' => ∃ (x13_1 : Int), v13 = .int .i64 x13_1 ∧ Aside0 (laws_ints.l0 kq l0 l1 (l0.length : Int) x13_1 = some r) ∧ Aside0 (kq ≤ k) ∧ Drawn0 w w')
  case atStart => exact ⟨(0), (by first | rfl | (simp; done) | (simp [*]; done)), H', ⟨Nat.le_refl _⟩, dr_⟩
  case round =>
   clear H'
   (try clear c3b2 c3b1 c3b0 c3 p2 c2 c1)
   obtain ⟨x13_1, rfl, HA, HK1, ⟨m1, rfl⟩⟩ := hrel
   cases gk with
   | zero => exact absurd HA.out (by simp [laws_ints.l0])
   | succ k1 =>
    have H := HA.out
    clear HA
    simp only [laws_ints.l0] at H
    by_cases c4 : x13_1 < (l0.length : Int)
    ·rw [if_pos c4] at H
     have c4b0 := dt_ c4
     clear c4
     by_cases c5 : 0 ≤ x13_1
     ·rw [if_pos c5] at H
      have c5b0 := dt_ c5
      clear c5
      by_cases c6 : x13_1 < (l0.length : Int)
      ·rw [if_pos c6] at H
       have c6b0 := dt_ c6
       clear c6
       by_cases c7 : x13_1 < (l1.length : Int)
       ·rw [if_pos c7] at H
        have c7b0 := dt_ c7
        clear c7
        by_cases c8 : (rd l0 x13_1) = (rd l1 x13_1)
        ·rw [if_pos c8] at H
         have c8b0 := beq_iff_eq.mpr c8
         have c8b1 := bne_eq_false_iff_eq.mpr c8
         clear c8
         have H' := M_ H
         clear H
         have p127 : 0 ≤ (x13_1 : Int) := od_ as_
         have q127 : x13_1 < (l0.length : Int) := od_ as_
         obtain ⟨ad127, e127, hx127_0⟩ := Kd.at_int HR0.out x13_1 p127 q127
         cases e127
         replace p127 := eq_true p127
         replace q127 := eq_true q127
         have p128 : 0 ≤ (x13_1 : Int) := od_ as_
         have q128 : x13_1 < (l1.length : Int) := od_ as_
         obtain ⟨ad128, e128, hx128_0⟩ := Kd.at_int HR1.out x13_1 p128 q128
         cases e128
         replace p128 := eq_true p128
         replace q128 := eq_true q128
         go_wp2
         repeat (go_quiet (fail); try go_wp2)
         go_roundg k1
         case measure => have := HK1.out; omega
         case rel => exact ⟨(wrap64 (x13_1 + 1)), (by first | rfl | (simp; done) | (simp [*]; done)), H', ⟨by have := HK1.out; omega⟩, dr_⟩
        ·rw [if_neg c8] at H
         have c8b0 : ((rd l0 x13_1) == (rd l1 x13_1)) = false := beq_eq_false_iff_ne.mpr c8
         have c8b1 : ((rd l0 x13_1) != (rd l1 x13_1)) = true := bne_iff_ne.mpr c8
         obtain rfl := Option.some.inj H
         have p127 : 0 ≤ (x13_1 : Int) := od_ as_
         have q127 : x13_1 < (l0.length : Int) := od_ as_
         obtain ⟨ad127, e127, hx127_0⟩ := Kd.at_int HR0.out x13_1 p127 q127
         cases e127
         replace p127 := eq_true p127
         replace q127 := eq_true q127
         have p128 : 0 ≤ (x13_1 : Int) := od_ as_
         have q128 : x13_1 < (l1.length : Int) := od_ as_
         obtain ⟨ad128, e128, hx128_0⟩ := Kd.at_int HR1.out x13_1 p128 q128
         cases e128
         replace p128 := eq_true p128
         replace q128 := eq_true q128
         go_wp2
         repeat (go_quiet (fail); try go_wp2)
         go_ret
         exact ⟨ra_, dr_⟩
       ·rw [if_neg c7] at H
        exact absurd H (by simp)
      ·rw [if_neg c6] at H
       exact absurd H (by simp)
     ·rw [if_neg c5] at H
      exact absurd H (by simp)
    ·rw [if_neg c4] at H
     have c4b0 := decide_eq_false c4
     clear c4
     obtain rfl := Option.some.inj H
     go_wp2
     repeat (go_quiet (fail); try go_wp2)
     go_ret
     exact ⟨ra_, dr_⟩
 ·rw [if_neg c3] at H
  have c3b0 : ((l0.length : Int) == (l1.length : Int)) = false := beq_eq_false_iff_ne.mpr c3
  have c3b1 : ((l0.length : Int) != (l1.length : Int)) = true := bne_iff_ne.mpr c3
  have c3b2 : (l0.length == l1.length) = false := by first | simpa using c3 | (simp at c3 ⊢; omega)
  obtain rfl := Option.some.inj H
  go_enter Try.func26, Try.ntmps26
  go_wp2
  repeat (go_quiet (fail); try go_wp2)
  go_ret
  exact ⟨ra_, dr_⟩

end Go.Proofs.Ytilbngklgjjblaa.Q
