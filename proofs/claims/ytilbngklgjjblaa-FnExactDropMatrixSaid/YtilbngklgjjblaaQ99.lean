/- Contracts of Go functions over this translation: each call returns what the Lean function of the same name gives, and writes into no memory that was there. Written by a program of this claim's author (mp.py) over the kit's print. Conditions: those that each theorem names. -/
import Derived.Test.YtilbngklgjjblaaQ0
import Derived.Test.YtilbngklgjjblaaQ4
import Derived.Test.YtilbngklgjjblaaQ5
import Derived.Test.YtilbngklgjjblaaQ6
import Derived.Test.YtilbngklgjjblaaQ7
import Derived.Test.YtilbngklgjjblaaQ8
import Derived.Test.YtilbngklgjjblaaQ12
namespace Go.Proofs.Ytilbngklgjjblaa.Q
open Go.RowKit Go.Proofs.YtilbngklgjjblaaW.PrintWords Go.Proofs.YtilbngklgjjblaaW.PrintLast Go.Proofs.YtilbngklgjjblaaW.PrintMore
attribute [local go_sem] max2_int min2_int max_two min_two max_three min_three max_four min_four
set_option linter.unusedVariables false
set_option linter.unusedSimpArgs false
theorem drawn0_below {w w' : World} (h : Drawn0 w w') : Below w.heap.size w w' := by
  obtain ⟨nd, rfl⟩ := h
  exact pw_below_drewN (Below.refl _ _) _
theorem pre_size_b {n : Nat} {W w' : World} (_ : Below W.heap.size W w') (h : n ≤ W.heap.size) : n ≤ W.heap.size := h
theorem pre_size_k {n : Nat} {W w' : World} {S : Nat → Prop} (_ : Kept W w' S) (h : n ≤ W.heap.size) : n ≤ W.heap.size := h
theorem size_setCell_ (w : World) (p : Addr) (v : Value) : (w.setCell p v).heap.size = w.heap.size := by simp [World.setCell]
/-- What the law asks along its one way: each call's answer. -/
def laws_FnExactDropMatrix.P (k : Nat) (a0_0 : ByteArray) (l0_1 : List (Int)) (l0_2 : List (Int)) (l1 : List (List (S48))) (a2_0 : Int) (a2_1 : Int) : Prop := ∃ r7 : Int, (laws_szFont.f a0_0 l0_1 l0_2 1048576 = some r7) ∧ (r7 < 0 ∨ (¬ r7 < 0 ∧ ∃ r11 : Int, (laws_szMatrixSS.f k l1 r7 = some r11) ∧ (r11 < 0 ∨ (¬ r11 < 0 ∧ ∃ r16 : ByteArray, ∃ r17 : List (Int), ∃ r18 : List (Int), (laws_toFont.f k a0_0 l0_1 l0_2 = some (r16, r17, r18)) ∧ ∃ r22 : List (List (S30)), (laws_toMatrixSS.f k l1 = some r22) ∧ ∃ r25 : Int, ∃ r26 : Int, (laws_toMatrix.f a2_0 a2_1 = some (r25, r26)) ∧ ∃ r28 : List (List (S30)), ∃ r29 : Int, ∃ r30 : Bool, (spec_DropMatrix.f k r16 r17 r18 r22 r25 r26 = some (r28, r29, r30)) ∧ (impl_DropMatrix.f k r16 r17 r18 r22 r25 r26 = some (r28, r29, r30)) ∧ (laws_eqMatrixSS.f k r28 r28 = some true) ∧ (laws_eqFont.f k r16 r17 r18 r16 r17 r18 = some true) ∧ (laws_eqMatrixSS.f k r22 r22 = some true) ∧ ∃ r77 : Int, ∃ l78 : List (Int), ∃ l79 : List (Int), (laws_markFont.f k r16 r17 r18 1 = some (r77, l78, l79)) ∧ ∃ r84 : Int, ∃ l85 : List (List (S30)), (laws_markMatrixSS.f k r22 r77 = some (r84, l85)) ∧ (¬ r84 < 0) ∧ ∃ r94 : Int, ∃ l95 : List (List (S30)), (laws_markMatrixSS.f k r28 1 = some (r94, l95)) ∧ (laws_heldMatrixSS.f k l95 1 = some r94) ∧ (¬ r94 < 0) ∧ True))))
set_option maxHeartbeats 8000000 in
set_option maxRecDepth 100000 in
theorem laws_FnExactDropMatrix.calls (k : Nat) (a0_0 : ByteArray) (A0_1 : Option Addr) (c0_1 : Nat) (l0_1 : List (Int)) (A0_2 : Option Addr) (c0_2 : Nat) (l0_2 : List (Int)) (A1 : Option Addr) (c1 : Nat) (l1 : List (List (S48))) (a2_0 : Int) (a2_1 : Int) (w : World) (hr0_1 : Kd.C (Kd.int .i64) w A0_1 l0_1.length l0_1) (hc0_1 : l0_1.length ≤ c0_1) (hr0_2 : Kd.C (Kd.int .i64) w A0_2 l0_2.length l0_2) (hc0_2 : l0_2.length ≤ c0_2) (hr1 : Kd.C (Kd.slice 48 k48) w A1 l1.length l1) (hc1 : l1.length ≤ c1) (h : laws_FnExactDropMatrix.P k a0_0 l0_1 l0_2 l1 a2_0 a2_1) :
    Calls Try.prog 18 #[.agg #[.string a0_0, .slice A0_1 l0_1.length c0_1, .slice A0_2 l0_2.length c0_2], .slice A1 l1.length c1, .agg #[.int .i64 a2_0, .int .i64 a2_1]] w fun e w' => e = .returned (.bool true) ∧ Below w.heap.size w w' := by
  have hu25 := Try.underlying25
  have hu42 := Try.underlying42
  have hu48 := Try.underlying48
  have HR0_1 := Aside0.mk hr0_1
  have HC0_1 := Aside0.mk hc0_1
  clear hr0_1 hc0_1
  have HR0_2 := Aside0.mk hr0_2
  have HC0_2 := Aside0.mk hc0_2
  clear hr0_2 hc0_2
  have HR1 := Aside0.mk hr1
  have HC1 := Aside0.mk hc1
  clear hr1 hc1
  have HB := Aside0.mk (Below.refl w.heap.size w)
  obtain ⟨n0, hn0⟩ : ∃ n_ : Nat, n_ = w.heap.size := ⟨_, rfl⟩
  have SZ : Aside0 (n0 ≤ w.heap.size) := ⟨Nat.le_of_eq hn0⟩
  have Z0 : Aside0 (w.heap.size ≤ n0) := ⟨Nat.le_of_eq hn0.symm⟩
  clear hn0
  unfold laws_FnExactDropMatrix.P at h
  obtain ⟨r7, h⟩ := h
  obtain ⟨e_, h⟩ := h
  have E1 := Aside0.mk e_
  clear e_
  rcases h with c_ | h
  · have hx_ : decide (r7 < 0) = true := decide_eq_true c_
    clear c_
    go_enter Try.func18, Try.ntmps18
    try go_wp2_with (first | ((with_reducible refine gate_dst (N := 3) rfl ?_); refine box_event ?hg (N := 3) ?hd (cs := #[.string a0_0, .slice A0_1 l0_1.length c0_1, .slice A0_2 l0_2.length c0_2]) (t := 42) ?hr ?_; (case hd => rfl); (case hg => rfl); (case hr => first | (go_simp; done) | (go_simp; rfl)); intro gb3 hg w1 hbox hb; have hsz0 : n0 ≤ _ := pre_size_b hb (by first | (with_reducible exact SZ.out) | (simp only [size_setCell_]; exact SZ.out) | exact SZ.out); have n0_ := Aside0.mk (below_step (by repeat (first | (with_reducible first | exact HB.out | apply below_alloc | apply pw_below_drewN | apply below_drew1) | exact HB.out)) hb); obtain ⟨n1, hn1⟩ : ∃ n_ : Nat, n_ = w1.heap.size := ⟨_, rfl⟩; have szw : n0 ≤ _ := hsz0; have N1 : Aside0 (n0 ≤ n1) := ⟨Nat.le_trans szw (by rw [hn1]; exact hb.size)⟩; have n1_ := Aside0.mk (hbox); have n2_ := Aside0.mk ((by rw [hg]; exact szw : n0 ≤ gb3)); have n3_ := Aside0.mk ((by rw [hn1]; exact blk_lt hbox : gb3 < n1)); have n4_ := Aside0.mk ((Nat.le_trans (Nat.le_trans Z0.out (Nat.le_refl _)) (by rw [hg]; exact szw) : w.heap.size ≤ gb3)); have n5_ := Aside0.mk ((Nat.le_of_eq hn1 : n1 ≤ w1.heap.size)); clear HB SZ; have HB := n0_; have BK3 := n1_; have GL3 := n2_; have GU3 := n3_; have GE3 := n4_; have SZ := n5_; clear n0_ n1_ n2_ n3_ n4_ n5_; clear szw hn1; clear hsz0; clear hb hbox hg; have hcz2_0 : w1.cell? ⟨gb3, 0, none⟩ = some (.string a0_0) := (blk_cell BK3.out 0).trans rfl; have hcz2_1 : w1.cell? ⟨gb3, 1, none⟩ = some (.slice A0_1 l0_1.length c0_1) := (blk_cell BK3.out 1).trans rfl; have hcz2_2 : w1.cell? ⟨gb3, 2, none⟩ = some (.slice A0_2 l0_2.length c0_2) := (blk_cell BK3.out 2).trans rfl) | ((with_reducible refine gate_dst (N := 5) rfl ?_); refine box_event ?hg (N := 5) ?hd (cs := #[.int .i64 a2_0, .int .i64 a2_1]) (t := 48) ?hr ?_; (case hd => rfl); (case hg => rfl); (case hr => first | (go_simp; done) | (go_simp; rfl)); intro gb5 hg w3 hbox hb; have hsz0 : n1 ≤ _ := pre_size_b hb (by first | (with_reducible exact SZ.out) | (simp only [size_setCell_]; exact SZ.out) | exact SZ.out); have n0_ := Aside0.mk (blk_below (g := gb3) (o := .cells #[.string a0_0, .slice A0_1 l0_1.length c0_1, .slice A0_2 l0_2.length c0_2] 42 (0, 0)) (by (with_reducible repeat (first | refine blk_drewN ?_ _ | refine blk_drew ?_ | refine blk_alloc ?_ _)); exact BK3.out) hb); have n1_ := Aside0.mk (below_step (by repeat (first | (with_reducible first | exact HB.out | apply below_alloc | apply pw_below_drewN | apply below_drew1 | refine below_set ?_ GE3.out) | exact HB.out)) hb); obtain ⟨n2, hn2⟩ : ∃ n_ : Nat, n_ = w3.heap.size := ⟨_, rfl⟩; have szw : n1 ≤ _ := hsz0; have N2 : Aside0 (n1 ≤ n2) := ⟨Nat.le_trans szw (by rw [hn2]; exact hb.size)⟩; have n2_ := Aside0.mk (hbox); have n3_ := Aside0.mk ((by rw [hg]; exact szw : n1 ≤ gb5)); have n4_ := Aside0.mk ((by rw [hn2]; exact blk_lt hbox : gb5 < n2)); have n5_ := Aside0.mk ((Nat.le_trans (Nat.le_trans Z0.out N1.out) (by rw [hg]; exact szw) : w.heap.size ≤ gb5)); have n6_ := Aside0.mk ((fun e_ => Nat.lt_irrefl _ (Nat.lt_of_lt_of_le GU3.out (Nat.le_trans (Nat.le_refl _) (by rw [e_, hg]; exact szw))) : gb3 ≠ gb5)); have n7_ := Aside0.mk ((fun e_ => Nat.lt_irrefl _ (Nat.lt_of_lt_of_le GU3.out (Nat.le_trans (Nat.le_refl _) (by rw [← e_, hg]; exact szw))) : gb5 ≠ gb3)); have n8_ := Aside0.mk ((Nat.le_of_eq hn2 : n2 ≤ w3.heap.size)); clear BK3 HB SZ; have BK3 := n0_; have HB := n1_; have BK5 := n2_; have GL5 := n3_; have GU5 := n4_; have GE5 := n5_; have NB3_5 := n6_; have NB5_3 := n7_; have SZ := n8_; clear n0_ n1_ n2_ n3_ n4_ n5_ n6_ n7_ n8_; clear szw hn2; clear hsz0; clear hb hbox hg; have hcz4_0 : w3.cell? ⟨gb3, 0, none⟩ = some (.string a0_0) := (blk_cell BK3.out 0).trans rfl; have hcz4_1 : w3.cell? ⟨gb3, 1, none⟩ = some (.slice A0_1 l0_1.length c0_1) := (blk_cell BK3.out 1).trans rfl; have hcz4_2 : w3.cell? ⟨gb3, 2, none⟩ = some (.slice A0_2 l0_2.length c0_2) := (blk_cell BK3.out 2).trans rfl; have hcz5_0 : w3.cell? ⟨gb5, 0, none⟩ = some (.int .i64 a2_0) := (blk_cell BK5.out 0).trans rfl; have hcz5_1 : w3.cell? ⟨gb5, 1, none⟩ = some (.int .i64 a2_1) := (blk_cell BK5.out 1).trans rfl) | ((with_reducible refine gate_callee (f := 28) rfl ?_); refine goesL_ (some 24) rfl rfl Try.func28 (by kernel_rfl) rfl #[.agg #[.string a0_0, .slice A0_1 l0_1.length c0_1, .slice A0_2 l0_2.length c0_2], .int .i64 1048576] rfl (by (try simp only [List.map_toArray, List.map_cons, List.map_nil]); first | done | rfl | (simp only [List.length_drop, List.length_take]; rfl)) ?_; (with_reducible refine (laws_szFont.calls a0_0 _ _ l0_1 _ _ l0_2 1048576 r7 _ ?sd1 ?sd2 ?sd3 ?sd4 E1.out).mono ?_); (case sd1 => exact Kd.C_below HR0_1.out (by repeat (first | (with_reducible first | exact HB.out | apply below_alloc | apply pw_below_drewN | apply below_drew1 | refine below_set ?_ GE3.out | refine below_set ?_ GE5.out) | exact HB.out))); (case sd2 => exact HC0_1.out); (case sd3 => exact Kd.C_below HR0_2.out (by repeat (first | (with_reducible first | exact HB.out | apply below_alloc | apply pw_below_drewN | apply below_drew1 | refine below_set ?_ GE3.out | refine below_set ?_ GE5.out) | exact HB.out))); (case sd4 => exact HC0_2.out); rintro e w6 ⟨rfl, hb⟩; refine ⟨_, rfl, ?_⟩; have hsz0 : n2 ≤ _ := pre_size_b hb (by first | (with_reducible exact SZ.out) | (simp only [size_setCell_]; exact SZ.out) | exact SZ.out); have n0_ := Aside0.mk (blk_below (g := gb3) (o := .cells #[.string a0_0, .slice A0_1 l0_1.length c0_1, .slice A0_2 l0_2.length c0_2] 42 (0, 0)) (by (with_reducible repeat (first | refine blk_drewN ?_ _ | refine blk_drew ?_ | refine blk_alloc ?_ _)); exact BK3.out) hb); have n1_ := Aside0.mk (blk_below (g := gb5) (o := .cells #[.int .i64 a2_0, .int .i64 a2_1] 48 (0, 0)) (by (with_reducible repeat (first | refine blk_drewN ?_ _ | refine blk_drew ?_ | refine blk_alloc ?_ _)); exact BK5.out) hb); have n2_ := Aside0.mk (below_step (by repeat (first | (with_reducible first | exact HB.out | apply below_alloc | apply pw_below_drewN | apply below_drew1 | refine below_set ?_ GE3.out | refine below_set ?_ GE5.out) | exact HB.out)) hb); have n3_ := Aside0.mk ((Nat.le_trans hsz0 hb.size : n2 ≤ w6.heap.size)); clear BK3 BK5 HB SZ; have BK3 := n0_; have BK5 := n1_; have HB := n2_; have SZ := n3_; clear n0_ n1_ n2_ n3_; clear hsz0; clear hb; (try clear hz0); have hcz8_0 : w6.cell? ⟨gb3, 0, none⟩ = some (.string a0_0) := (blk_cell BK3.out 0).trans rfl; have hcz8_1 : w6.cell? ⟨gb3, 1, none⟩ = some (.slice A0_1 l0_1.length c0_1) := (blk_cell BK3.out 1).trans rfl; have hcz8_2 : w6.cell? ⟨gb3, 2, none⟩ = some (.slice A0_2 l0_2.length c0_2) := (blk_cell BK3.out 2).trans rfl; have hcz9_0 : w6.cell? ⟨gb5, 0, none⟩ = some (.int .i64 a2_0) := (blk_cell BK5.out 0).trans rfl; have hcz9_1 : w6.cell? ⟨gb5, 1, none⟩ = some (.int .i64 a2_1) := (blk_cell BK5.out 1).trans rfl))
    try go_wp2
    go_ret
    exact ⟨by first | rfl | (simp only [i64_w, i32_w]; rfl) | (simp; done) | (simp [*]; done), (by repeat (first | (with_reducible first | exact HB.out | apply below_alloc | apply pw_below_drewN | apply below_drew1) | exact HB.out))⟩
  obtain ⟨e_, h⟩ := h
  have E2 := Aside0.mk e_
  have hE2b : decide (r7 < 0) = false := decide_eq_false e_
  clear e_
  obtain ⟨r11, h⟩ := h
  obtain ⟨e_, h⟩ := h
  have E3 := Aside0.mk e_
  clear e_
  rcases h with c_ | h
  · have hx_ : decide (r11 < 0) = true := decide_eq_true c_
    clear c_
    go_enter Try.func18, Try.ntmps18
    try go_wp2_with (first | ((with_reducible refine gate_dst (N := 3) rfl ?_); refine box_event ?hg (N := 3) ?hd (cs := #[.string a0_0, .slice A0_1 l0_1.length c0_1, .slice A0_2 l0_2.length c0_2]) (t := 42) ?hr ?_; (case hd => rfl); (case hg => rfl); (case hr => first | (go_simp; done) | (go_simp; rfl)); intro gb3 hg w1 hbox hb; have hsz0 : n0 ≤ _ := pre_size_b hb (by first | (with_reducible exact SZ.out) | (simp only [size_setCell_]; exact SZ.out) | exact SZ.out); have n0_ := Aside0.mk (below_step (by repeat (first | (with_reducible first | exact HB.out | apply below_alloc | apply pw_below_drewN | apply below_drew1) | exact HB.out)) hb); obtain ⟨n1, hn1⟩ : ∃ n_ : Nat, n_ = w1.heap.size := ⟨_, rfl⟩; have szw : n0 ≤ _ := hsz0; have N1 : Aside0 (n0 ≤ n1) := ⟨Nat.le_trans szw (by rw [hn1]; exact hb.size)⟩; have n1_ := Aside0.mk (hbox); have n2_ := Aside0.mk ((by rw [hg]; exact szw : n0 ≤ gb3)); have n3_ := Aside0.mk ((by rw [hn1]; exact blk_lt hbox : gb3 < n1)); have n4_ := Aside0.mk ((Nat.le_trans (Nat.le_trans Z0.out (Nat.le_refl _)) (by rw [hg]; exact szw) : w.heap.size ≤ gb3)); have n5_ := Aside0.mk ((Nat.le_of_eq hn1 : n1 ≤ w1.heap.size)); clear HB SZ; have HB := n0_; have BK3 := n1_; have GL3 := n2_; have GU3 := n3_; have GE3 := n4_; have SZ := n5_; clear n0_ n1_ n2_ n3_ n4_ n5_; clear szw hn1; clear hsz0; clear hb hbox hg; have hcz2_0 : w1.cell? ⟨gb3, 0, none⟩ = some (.string a0_0) := (blk_cell BK3.out 0).trans rfl; have hcz2_1 : w1.cell? ⟨gb3, 1, none⟩ = some (.slice A0_1 l0_1.length c0_1) := (blk_cell BK3.out 1).trans rfl; have hcz2_2 : w1.cell? ⟨gb3, 2, none⟩ = some (.slice A0_2 l0_2.length c0_2) := (blk_cell BK3.out 2).trans rfl) | ((with_reducible refine gate_dst (N := 5) rfl ?_); refine box_event ?hg (N := 5) ?hd (cs := #[.int .i64 a2_0, .int .i64 a2_1]) (t := 48) ?hr ?_; (case hd => rfl); (case hg => rfl); (case hr => first | (go_simp; done) | (go_simp; rfl)); intro gb5 hg w3 hbox hb; have hsz0 : n1 ≤ _ := pre_size_b hb (by first | (with_reducible exact SZ.out) | (simp only [size_setCell_]; exact SZ.out) | exact SZ.out); have n0_ := Aside0.mk (blk_below (g := gb3) (o := .cells #[.string a0_0, .slice A0_1 l0_1.length c0_1, .slice A0_2 l0_2.length c0_2] 42 (0, 0)) (by (with_reducible repeat (first | refine blk_drewN ?_ _ | refine blk_drew ?_ | refine blk_alloc ?_ _)); exact BK3.out) hb); have n1_ := Aside0.mk (below_step (by repeat (first | (with_reducible first | exact HB.out | apply below_alloc | apply pw_below_drewN | apply below_drew1 | refine below_set ?_ GE3.out) | exact HB.out)) hb); obtain ⟨n2, hn2⟩ : ∃ n_ : Nat, n_ = w3.heap.size := ⟨_, rfl⟩; have szw : n1 ≤ _ := hsz0; have N2 : Aside0 (n1 ≤ n2) := ⟨Nat.le_trans szw (by rw [hn2]; exact hb.size)⟩; have n2_ := Aside0.mk (hbox); have n3_ := Aside0.mk ((by rw [hg]; exact szw : n1 ≤ gb5)); have n4_ := Aside0.mk ((by rw [hn2]; exact blk_lt hbox : gb5 < n2)); have n5_ := Aside0.mk ((Nat.le_trans (Nat.le_trans Z0.out N1.out) (by rw [hg]; exact szw) : w.heap.size ≤ gb5)); have n6_ := Aside0.mk ((fun e_ => Nat.lt_irrefl _ (Nat.lt_of_lt_of_le GU3.out (Nat.le_trans (Nat.le_refl _) (by rw [e_, hg]; exact szw))) : gb3 ≠ gb5)); have n7_ := Aside0.mk ((fun e_ => Nat.lt_irrefl _ (Nat.lt_of_lt_of_le GU3.out (Nat.le_trans (Nat.le_refl _) (by rw [← e_, hg]; exact szw))) : gb5 ≠ gb3)); have n8_ := Aside0.mk ((Nat.le_of_eq hn2 : n2 ≤ w3.heap.size)); clear BK3 HB SZ; have BK3 := n0_; have HB := n1_; have BK5 := n2_; have GL5 := n3_; have GU5 := n4_; have GE5 := n5_; have NB3_5 := n6_; have NB5_3 := n7_; have SZ := n8_; clear n0_ n1_ n2_ n3_ n4_ n5_ n6_ n7_ n8_; clear szw hn2; clear hsz0; clear hb hbox hg; have hcz4_0 : w3.cell? ⟨gb3, 0, none⟩ = some (.string a0_0) := (blk_cell BK3.out 0).trans rfl; have hcz4_1 : w3.cell? ⟨gb3, 1, none⟩ = some (.slice A0_1 l0_1.length c0_1) := (blk_cell BK3.out 1).trans rfl; have hcz4_2 : w3.cell? ⟨gb3, 2, none⟩ = some (.slice A0_2 l0_2.length c0_2) := (blk_cell BK3.out 2).trans rfl; have hcz5_0 : w3.cell? ⟨gb5, 0, none⟩ = some (.int .i64 a2_0) := (blk_cell BK5.out 0).trans rfl; have hcz5_1 : w3.cell? ⟨gb5, 1, none⟩ = some (.int .i64 a2_1) := (blk_cell BK5.out 1).trans rfl) | ((with_reducible refine gate_callee (f := 28) rfl ?_); refine goesL_ (some 24) rfl rfl Try.func28 (by kernel_rfl) rfl #[.agg #[.string a0_0, .slice A0_1 l0_1.length c0_1, .slice A0_2 l0_2.length c0_2], .int .i64 1048576] rfl (by (try simp only [List.map_toArray, List.map_cons, List.map_nil]); first | done | rfl | (simp only [List.length_drop, List.length_take]; rfl)) ?_; (with_reducible refine (laws_szFont.calls a0_0 _ _ l0_1 _ _ l0_2 1048576 r7 _ ?sd1 ?sd2 ?sd3 ?sd4 E1.out).mono ?_); (case sd1 => exact Kd.C_below HR0_1.out (by repeat (first | (with_reducible first | exact HB.out | apply below_alloc | apply pw_below_drewN | apply below_drew1 | refine below_set ?_ GE3.out | refine below_set ?_ GE5.out) | exact HB.out))); (case sd2 => exact HC0_1.out); (case sd3 => exact Kd.C_below HR0_2.out (by repeat (first | (with_reducible first | exact HB.out | apply below_alloc | apply pw_below_drewN | apply below_drew1 | refine below_set ?_ GE3.out | refine below_set ?_ GE5.out) | exact HB.out))); (case sd4 => exact HC0_2.out); rintro e w6 ⟨rfl, hb⟩; refine ⟨_, rfl, ?_⟩; have hsz0 : n2 ≤ _ := pre_size_b hb (by first | (with_reducible exact SZ.out) | (simp only [size_setCell_]; exact SZ.out) | exact SZ.out); have n0_ := Aside0.mk (blk_below (g := gb3) (o := .cells #[.string a0_0, .slice A0_1 l0_1.length c0_1, .slice A0_2 l0_2.length c0_2] 42 (0, 0)) (by (with_reducible repeat (first | refine blk_drewN ?_ _ | refine blk_drew ?_ | refine blk_alloc ?_ _)); exact BK3.out) hb); have n1_ := Aside0.mk (blk_below (g := gb5) (o := .cells #[.int .i64 a2_0, .int .i64 a2_1] 48 (0, 0)) (by (with_reducible repeat (first | refine blk_drewN ?_ _ | refine blk_drew ?_ | refine blk_alloc ?_ _)); exact BK5.out) hb); have n2_ := Aside0.mk (below_step (by repeat (first | (with_reducible first | exact HB.out | apply below_alloc | apply pw_below_drewN | apply below_drew1 | refine below_set ?_ GE3.out | refine below_set ?_ GE5.out) | exact HB.out)) hb); have n3_ := Aside0.mk ((Nat.le_trans hsz0 hb.size : n2 ≤ w6.heap.size)); clear BK3 BK5 HB SZ; have BK3 := n0_; have BK5 := n1_; have HB := n2_; have SZ := n3_; clear n0_ n1_ n2_ n3_; clear hsz0; clear hb; (try clear hz0); have hcz8_0 : w6.cell? ⟨gb3, 0, none⟩ = some (.string a0_0) := (blk_cell BK3.out 0).trans rfl; have hcz8_1 : w6.cell? ⟨gb3, 1, none⟩ = some (.slice A0_1 l0_1.length c0_1) := (blk_cell BK3.out 1).trans rfl; have hcz8_2 : w6.cell? ⟨gb3, 2, none⟩ = some (.slice A0_2 l0_2.length c0_2) := (blk_cell BK3.out 2).trans rfl; have hcz9_0 : w6.cell? ⟨gb5, 0, none⟩ = some (.int .i64 a2_0) := (blk_cell BK5.out 0).trans rfl; have hcz9_1 : w6.cell? ⟨gb5, 1, none⟩ = some (.int .i64 a2_1) := (blk_cell BK5.out 1).trans rfl) | ((with_reducible refine gate_callee (f := 42) rfl ?_); refine goesL_ (some 29) rfl rfl Try.func42 (by kernel_rfl) rfl #[.slice A1 l1.length c1, .int .i64 r7] rfl (by (try simp only [List.map_toArray, List.map_cons, List.map_nil]); first | done | rfl | (simp only [List.length_drop, List.length_take]; rfl)) ?_; (with_reducible refine (laws_szMatrixSS.calls k _ _ l1 r7 r11 _ ?sd1 ?sd2 E3.out).mono ?_); (case sd1 => exact Kd.C_below HR1.out (by repeat (first | (with_reducible first | exact HB.out | apply below_alloc | apply pw_below_drewN | apply below_drew1 | refine below_set ?_ GE3.out | refine below_set ?_ GE5.out) | exact HB.out))); (case sd2 => exact HC1.out); rintro e w10 ⟨rfl, hd⟩; refine ⟨_, rfl, ?_⟩; have hb := drawn0_below hd; have hsz0 : n2 ≤ _ := pre_size_b hb (by first | (with_reducible exact SZ.out) | (simp only [size_setCell_]; exact SZ.out) | exact SZ.out); have n0_ := Aside0.mk (blk_below (g := gb3) (o := .cells #[.string a0_0, .slice A0_1 l0_1.length c0_1, .slice A0_2 l0_2.length c0_2] 42 (0, 0)) (by (with_reducible repeat (first | refine blk_drewN ?_ _ | refine blk_drew ?_ | refine blk_alloc ?_ _)); exact BK3.out) hb); have n1_ := Aside0.mk (blk_below (g := gb5) (o := .cells #[.int .i64 a2_0, .int .i64 a2_1] 48 (0, 0)) (by (with_reducible repeat (first | refine blk_drewN ?_ _ | refine blk_drew ?_ | refine blk_alloc ?_ _)); exact BK5.out) hb); have n2_ := Aside0.mk (below_step (by repeat (first | (with_reducible first | exact HB.out | apply below_alloc | apply pw_below_drewN | apply below_drew1 | refine below_set ?_ GE3.out | refine below_set ?_ GE5.out) | exact HB.out)) hb); have n3_ := Aside0.mk ((Nat.le_trans hsz0 hb.size : n2 ≤ w10.heap.size)); clear BK3 BK5 HB SZ; have BK3 := n0_; have BK5 := n1_; have HB := n2_; have SZ := n3_; clear n0_ n1_ n2_ n3_; clear hsz0; clear hb; (try clear hd); (try clear hz0); have hcz12_0 : w10.cell? ⟨gb3, 0, none⟩ = some (.string a0_0) := (blk_cell BK3.out 0).trans rfl; have hcz12_1 : w10.cell? ⟨gb3, 1, none⟩ = some (.slice A0_1 l0_1.length c0_1) := (blk_cell BK3.out 1).trans rfl; have hcz12_2 : w10.cell? ⟨gb3, 2, none⟩ = some (.slice A0_2 l0_2.length c0_2) := (blk_cell BK3.out 2).trans rfl; have hcz13_0 : w10.cell? ⟨gb5, 0, none⟩ = some (.int .i64 a2_0) := (blk_cell BK5.out 0).trans rfl; have hcz13_1 : w10.cell? ⟨gb5, 1, none⟩ = some (.int .i64 a2_1) := (blk_cell BK5.out 1).trans rfl))
    try go_wp2
    go_ret
    exact ⟨by first | rfl | (simp only [i64_w, i32_w]; rfl) | (simp; done) | (simp [*]; done), (by repeat (first | (with_reducible first | exact HB.out | apply below_alloc | apply pw_below_drewN | apply below_drew1) | exact HB.out))⟩
  obtain ⟨e_, h⟩ := h
  have E4 := Aside0.mk e_
  have hE4b : decide (r11 < 0) = false := decide_eq_false e_
  clear e_
  obtain ⟨r16, r17, r18, h⟩ := h
  obtain ⟨e_, h⟩ := h
  have E5 := Aside0.mk e_
  clear e_
  obtain ⟨r22, h⟩ := h
  obtain ⟨e_, h⟩ := h
  have E6 := Aside0.mk e_
  clear e_
  obtain ⟨r25, r26, h⟩ := h
  obtain ⟨e_, h⟩ := h
  have E7 := Aside0.mk e_
  clear e_
  obtain ⟨r28, r29, r30, h⟩ := h
  obtain ⟨e_, h⟩ := h
  have E8 := Aside0.mk e_
  clear e_
  obtain ⟨e_, h⟩ := h
  have E9 := Aside0.mk e_
  clear e_
  obtain ⟨e_, h⟩ := h
  have E10 := Aside0.mk e_
  clear e_
  obtain ⟨e_, h⟩ := h
  have E11 := Aside0.mk e_
  clear e_
  obtain ⟨e_, h⟩ := h
  have E12 := Aside0.mk e_
  clear e_
  obtain ⟨r77, l78, l79, h⟩ := h
  obtain ⟨e_, h⟩ := h
  have E13 := Aside0.mk e_
  clear e_
  obtain ⟨r84, l85, h⟩ := h
  obtain ⟨e_, h⟩ := h
  have E14 := Aside0.mk e_
  clear e_
  obtain ⟨e_, h⟩ := h
  have E15 := Aside0.mk e_
  have hE15b : decide (r84 < 0) = false := decide_eq_false e_
  clear e_
  obtain ⟨r94, l95, h⟩ := h
  obtain ⟨e_, h⟩ := h
  have E16 := Aside0.mk e_
  clear e_
  obtain ⟨e_, h⟩ := h
  have E17 := Aside0.mk e_
  clear e_
  obtain ⟨e_, h⟩ := h
  have E18 := Aside0.mk e_
  have hE18b : decide (r94 < 0) = false := decide_eq_false e_
  clear e_
  clear h
  have hq0 : (r29 != r29) = false := bne_self_eq_false _
  have hq1 : (r30 != r30) = false := bne_self_eq_false _
  have hq2 : (r94 != r94) = false := bne_self_eq_false _
  go_enter Try.func18, Try.ntmps18
  try go_wp2_with (first | ((with_reducible refine gate_dst (N := 3) rfl ?_); refine box_event ?hg (N := 3) ?hd (cs := #[.string a0_0, .slice A0_1 l0_1.length c0_1, .slice A0_2 l0_2.length c0_2]) (t := 42) ?hr ?_; (case hd => rfl); (case hg => rfl); (case hr => first | (go_simp; done) | (go_simp; rfl)); intro gb3 hg w1 hbox hb; have hsz0 : n0 ≤ _ := pre_size_b hb (by first | (with_reducible exact SZ.out) | (simp only [size_setCell_]; exact SZ.out) | exact SZ.out); have n0_ := Aside0.mk (below_step (by repeat (first | (with_reducible first | exact HB.out | apply below_alloc | apply pw_below_drewN | apply below_drew1) | exact HB.out)) hb); obtain ⟨n1, hn1⟩ : ∃ n_ : Nat, n_ = w1.heap.size := ⟨_, rfl⟩; have szw : n0 ≤ _ := hsz0; have N1 : Aside0 (n0 ≤ n1) := ⟨Nat.le_trans szw (by rw [hn1]; exact hb.size)⟩; have n1_ := Aside0.mk (hbox); have n2_ := Aside0.mk ((by rw [hg]; exact szw : n0 ≤ gb3)); have n3_ := Aside0.mk ((by rw [hn1]; exact blk_lt hbox : gb3 < n1)); have n4_ := Aside0.mk ((Nat.le_trans (Nat.le_trans Z0.out (Nat.le_refl _)) (by rw [hg]; exact szw) : w.heap.size ≤ gb3)); have n5_ := Aside0.mk ((Nat.le_of_eq hn1 : n1 ≤ w1.heap.size)); clear HB SZ; have HB := n0_; have BK3 := n1_; have GL3 := n2_; have GU3 := n3_; have GE3 := n4_; have SZ := n5_; clear n0_ n1_ n2_ n3_ n4_ n5_; clear szw hn1; clear hsz0; clear hb hbox hg; have hcz2_0 : w1.cell? ⟨gb3, 0, none⟩ = some (.string a0_0) := (blk_cell BK3.out 0).trans rfl; have hcz2_1 : w1.cell? ⟨gb3, 1, none⟩ = some (.slice A0_1 l0_1.length c0_1) := (blk_cell BK3.out 1).trans rfl; have hcz2_2 : w1.cell? ⟨gb3, 2, none⟩ = some (.slice A0_2 l0_2.length c0_2) := (blk_cell BK3.out 2).trans rfl) | ((with_reducible refine gate_dst (N := 5) rfl ?_); refine box_event ?hg (N := 5) ?hd (cs := #[.int .i64 a2_0, .int .i64 a2_1]) (t := 48) ?hr ?_; (case hd => rfl); (case hg => rfl); (case hr => first | (go_simp; done) | (go_simp; rfl)); intro gb5 hg w3 hbox hb; have hsz0 : n1 ≤ _ := pre_size_b hb (by first | (with_reducible exact SZ.out) | (simp only [size_setCell_]; exact SZ.out) | exact SZ.out); have n0_ := Aside0.mk (blk_below (g := gb3) (o := .cells #[.string a0_0, .slice A0_1 l0_1.length c0_1, .slice A0_2 l0_2.length c0_2] 42 (0, 0)) (by (with_reducible repeat (first | refine blk_drewN ?_ _ | refine blk_drew ?_ | refine blk_alloc ?_ _)); exact BK3.out) hb); have n1_ := Aside0.mk (below_step (by repeat (first | (with_reducible first | exact HB.out | apply below_alloc | apply pw_below_drewN | apply below_drew1 | refine below_set ?_ GE3.out) | exact HB.out)) hb); obtain ⟨n2, hn2⟩ : ∃ n_ : Nat, n_ = w3.heap.size := ⟨_, rfl⟩; have szw : n1 ≤ _ := hsz0; have N2 : Aside0 (n1 ≤ n2) := ⟨Nat.le_trans szw (by rw [hn2]; exact hb.size)⟩; have n2_ := Aside0.mk (hbox); have n3_ := Aside0.mk ((by rw [hg]; exact szw : n1 ≤ gb5)); have n4_ := Aside0.mk ((by rw [hn2]; exact blk_lt hbox : gb5 < n2)); have n5_ := Aside0.mk ((Nat.le_trans (Nat.le_trans Z0.out N1.out) (by rw [hg]; exact szw) : w.heap.size ≤ gb5)); have n6_ := Aside0.mk ((fun e_ => Nat.lt_irrefl _ (Nat.lt_of_lt_of_le GU3.out (Nat.le_trans (Nat.le_refl _) (by rw [e_, hg]; exact szw))) : gb3 ≠ gb5)); have n7_ := Aside0.mk ((fun e_ => Nat.lt_irrefl _ (Nat.lt_of_lt_of_le GU3.out (Nat.le_trans (Nat.le_refl _) (by rw [← e_, hg]; exact szw))) : gb5 ≠ gb3)); have n8_ := Aside0.mk ((Nat.le_of_eq hn2 : n2 ≤ w3.heap.size)); clear BK3 HB SZ; have BK3 := n0_; have HB := n1_; have BK5 := n2_; have GL5 := n3_; have GU5 := n4_; have GE5 := n5_; have NB3_5 := n6_; have NB5_3 := n7_; have SZ := n8_; clear n0_ n1_ n2_ n3_ n4_ n5_ n6_ n7_ n8_; clear szw hn2; clear hsz0; clear hb hbox hg; have hcz4_0 : w3.cell? ⟨gb3, 0, none⟩ = some (.string a0_0) := (blk_cell BK3.out 0).trans rfl; have hcz4_1 : w3.cell? ⟨gb3, 1, none⟩ = some (.slice A0_1 l0_1.length c0_1) := (blk_cell BK3.out 1).trans rfl; have hcz4_2 : w3.cell? ⟨gb3, 2, none⟩ = some (.slice A0_2 l0_2.length c0_2) := (blk_cell BK3.out 2).trans rfl; have hcz5_0 : w3.cell? ⟨gb5, 0, none⟩ = some (.int .i64 a2_0) := (blk_cell BK5.out 0).trans rfl; have hcz5_1 : w3.cell? ⟨gb5, 1, none⟩ = some (.int .i64 a2_1) := (blk_cell BK5.out 1).trans rfl) | ((with_reducible refine gate_callee (f := 28) rfl ?_); refine goesL_ (some 24) rfl rfl Try.func28 (by kernel_rfl) rfl #[.agg #[.string a0_0, .slice A0_1 l0_1.length c0_1, .slice A0_2 l0_2.length c0_2], .int .i64 1048576] rfl (by (try simp only [List.map_toArray, List.map_cons, List.map_nil]); first | done | rfl | (simp only [List.length_drop, List.length_take]; rfl)) ?_; (with_reducible refine (laws_szFont.calls a0_0 _ _ l0_1 _ _ l0_2 1048576 r7 _ ?sd1 ?sd2 ?sd3 ?sd4 E1.out).mono ?_); (case sd1 => exact Kd.C_below HR0_1.out (by repeat (first | (with_reducible first | exact HB.out | apply below_alloc | apply pw_below_drewN | apply below_drew1 | refine below_set ?_ GE3.out | refine below_set ?_ GE5.out) | exact HB.out))); (case sd2 => exact HC0_1.out); (case sd3 => exact Kd.C_below HR0_2.out (by repeat (first | (with_reducible first | exact HB.out | apply below_alloc | apply pw_below_drewN | apply below_drew1 | refine below_set ?_ GE3.out | refine below_set ?_ GE5.out) | exact HB.out))); (case sd4 => exact HC0_2.out); rintro e w6 ⟨rfl, hb⟩; refine ⟨_, rfl, ?_⟩; have hsz0 : n2 ≤ _ := pre_size_b hb (by first | (with_reducible exact SZ.out) | (simp only [size_setCell_]; exact SZ.out) | exact SZ.out); have n0_ := Aside0.mk (blk_below (g := gb3) (o := .cells #[.string a0_0, .slice A0_1 l0_1.length c0_1, .slice A0_2 l0_2.length c0_2] 42 (0, 0)) (by (with_reducible repeat (first | refine blk_drewN ?_ _ | refine blk_drew ?_ | refine blk_alloc ?_ _)); exact BK3.out) hb); have n1_ := Aside0.mk (blk_below (g := gb5) (o := .cells #[.int .i64 a2_0, .int .i64 a2_1] 48 (0, 0)) (by (with_reducible repeat (first | refine blk_drewN ?_ _ | refine blk_drew ?_ | refine blk_alloc ?_ _)); exact BK5.out) hb); have n2_ := Aside0.mk (below_step (by repeat (first | (with_reducible first | exact HB.out | apply below_alloc | apply pw_below_drewN | apply below_drew1 | refine below_set ?_ GE3.out | refine below_set ?_ GE5.out) | exact HB.out)) hb); have n3_ := Aside0.mk ((Nat.le_trans hsz0 hb.size : n2 ≤ w6.heap.size)); clear BK3 BK5 HB SZ; have BK3 := n0_; have BK5 := n1_; have HB := n2_; have SZ := n3_; clear n0_ n1_ n2_ n3_; clear hsz0; clear hb; (try clear hz0); have hcz8_0 : w6.cell? ⟨gb3, 0, none⟩ = some (.string a0_0) := (blk_cell BK3.out 0).trans rfl; have hcz8_1 : w6.cell? ⟨gb3, 1, none⟩ = some (.slice A0_1 l0_1.length c0_1) := (blk_cell BK3.out 1).trans rfl; have hcz8_2 : w6.cell? ⟨gb3, 2, none⟩ = some (.slice A0_2 l0_2.length c0_2) := (blk_cell BK3.out 2).trans rfl; have hcz9_0 : w6.cell? ⟨gb5, 0, none⟩ = some (.int .i64 a2_0) := (blk_cell BK5.out 0).trans rfl; have hcz9_1 : w6.cell? ⟨gb5, 1, none⟩ = some (.int .i64 a2_1) := (blk_cell BK5.out 1).trans rfl) | ((with_reducible refine gate_callee (f := 42) rfl ?_); refine goesL_ (some 29) rfl rfl Try.func42 (by kernel_rfl) rfl #[.slice A1 l1.length c1, .int .i64 r7] rfl (by (try simp only [List.map_toArray, List.map_cons, List.map_nil]); first | done | rfl | (simp only [List.length_drop, List.length_take]; rfl)) ?_; (with_reducible refine (laws_szMatrixSS.calls k _ _ l1 r7 r11 _ ?sd1 ?sd2 E3.out).mono ?_); (case sd1 => exact Kd.C_below HR1.out (by repeat (first | (with_reducible first | exact HB.out | apply below_alloc | apply pw_below_drewN | apply below_drew1 | refine below_set ?_ GE3.out | refine below_set ?_ GE5.out) | exact HB.out))); (case sd2 => exact HC1.out); rintro e w10 ⟨rfl, hd⟩; refine ⟨_, rfl, ?_⟩; have hb := drawn0_below hd; have hsz0 : n2 ≤ _ := pre_size_b hb (by first | (with_reducible exact SZ.out) | (simp only [size_setCell_]; exact SZ.out) | exact SZ.out); have n0_ := Aside0.mk (blk_below (g := gb3) (o := .cells #[.string a0_0, .slice A0_1 l0_1.length c0_1, .slice A0_2 l0_2.length c0_2] 42 (0, 0)) (by (with_reducible repeat (first | refine blk_drewN ?_ _ | refine blk_drew ?_ | refine blk_alloc ?_ _)); exact BK3.out) hb); have n1_ := Aside0.mk (blk_below (g := gb5) (o := .cells #[.int .i64 a2_0, .int .i64 a2_1] 48 (0, 0)) (by (with_reducible repeat (first | refine blk_drewN ?_ _ | refine blk_drew ?_ | refine blk_alloc ?_ _)); exact BK5.out) hb); have n2_ := Aside0.mk (below_step (by repeat (first | (with_reducible first | exact HB.out | apply below_alloc | apply pw_below_drewN | apply below_drew1 | refine below_set ?_ GE3.out | refine below_set ?_ GE5.out) | exact HB.out)) hb); have n3_ := Aside0.mk ((Nat.le_trans hsz0 hb.size : n2 ≤ w10.heap.size)); clear BK3 BK5 HB SZ; have BK3 := n0_; have BK5 := n1_; have HB := n2_; have SZ := n3_; clear n0_ n1_ n2_ n3_; clear hsz0; clear hb; (try clear hd); (try clear hz0); have hcz12_0 : w10.cell? ⟨gb3, 0, none⟩ = some (.string a0_0) := (blk_cell BK3.out 0).trans rfl; have hcz12_1 : w10.cell? ⟨gb3, 1, none⟩ = some (.slice A0_1 l0_1.length c0_1) := (blk_cell BK3.out 1).trans rfl; have hcz12_2 : w10.cell? ⟨gb3, 2, none⟩ = some (.slice A0_2 l0_2.length c0_2) := (blk_cell BK3.out 2).trans rfl; have hcz13_0 : w10.cell? ⟨gb5, 0, none⟩ = some (.int .i64 a2_0) := (blk_cell BK5.out 0).trans rfl; have hcz13_1 : w10.cell? ⟨gb5, 1, none⟩ = some (.int .i64 a2_1) := (blk_cell BK5.out 1).trans rfl))
  have n0_ := Aside0.mk (blk_drew BK3.out)
  have n1_ := Aside0.mk (blk_drew BK5.out)
  have n2_ := Aside0.mk (below_drew1 HB.out)
  have n3_ := Aside0.mk ((show n2 ≤ w10.drew.heap.size from SZ.out))
  clear BK3 BK5 HB SZ
  have BK3 := n0_
  have BK5 := n1_
  have HB := n2_
  have SZ := n3_
  clear n0_ n1_ n2_ n3_
  refine start_ (n := 14) (S := fun w' => w'.cell? ⟨gb3, 0, none⟩ = some (.string a0_0) ∧ w'.cell? ⟨gb3, 1, none⟩ = some (.slice A0_1 l0_1.length c0_1) ∧ w'.cell? ⟨gb3, 2, none⟩ = some (.slice A0_2 l0_2.length c0_2) ∧ w'.cell? ⟨gb5, 0, none⟩ = some (.int .i64 a2_0) ∧ w'.cell? ⟨gb5, 1, none⟩ = some (.int .i64 a2_1)) (ds := []) #[false, false, false, false, false, false, false, false, false, false, false, false, false, false] (by kernel_rfl) rfl rfl ⟨(blk_cell BK3.out 0).trans rfl, (blk_cell BK3.out 1).trans rfl, (blk_cell BK3.out 2).trans rfl, (blk_cell BK5.out 0).trans rfl, (blk_cell BK5.out 1).trans rfl⟩ (fun hHeld => ?_)
  generalize w10.drew = w14 at BK3 BK5 HB SZ hHeld ⊢
  refine take_ (i := 0) (N := some 33) (v := ?_) (a' := ?_) #[true, false, false, false, false, false, false, false, false, false, false, false, false, false] rfl rfl (by kernel_rfl) (fun _ _ _ h => h) (Or.inl ⟨by rfl, ?_⟩) hHeld ?_ ?_
  rotate_left
  · rintro w' ⟨s0, s1, s2, s3, s4⟩
    go_simp
    with_reducible rfl
  rotate_left
  · simp only [Act.put, List.setIfInBounds_toArray, List.set_cons_zero, List.set_cons_succ, i64_w, i32_w]
    rfl
  refine pure_ (i := 2) (N := some 35) (v := ?_) (a' := ?_) #[true, false, true, false, false, false, false, false, false, false, false, false, false, false] rfl rfl (by kernel_rfl) (fun _ _ _ h => h) (Or.inl ⟨by rfl, ?_⟩) ?_ ?_
  rotate_left
  · intro w'
    go_simp
    with_reducible rfl
  rotate_left
  · simp only [Act.put, List.setIfInBounds_toArray, List.set_cons_zero, List.set_cons_succ, i64_w, i32_w]
    rfl
  refine take_ (i := 4) (N := some 37) (v := ?_) (a' := ?_) #[true, false, true, false, true, false, false, false, false, false, false, false, false, false] rfl rfl (by kernel_rfl) (fun _ _ _ h => h) (Or.inl ⟨by rfl, ?_⟩) hHeld ?_ ?_
  rotate_left
  · rintro w' ⟨s0, s1, s2, s3, s4⟩
    go_simp
    with_reducible rfl
  rotate_left
  · simp only [Act.put, List.setIfInBounds_toArray, List.set_cons_zero, List.set_cons_succ, i64_w, i32_w]
    rfl
  refine one_ (i := 1) (N := some 34) #[true, true, true, false, true, false, false, false, false, false, false, false, false, false] rfl rfl (by kernel_rfl) (by decide) (fun K hK => ?_)
  refine goes_ Try.func30 (by kernel_rfl) rfl #[.agg #[.string a0_0, .slice A0_1 l0_1.length c0_1, .slice A0_2 l0_2.length c0_2]] (by rfl) rfl rfl (by (try simp only [List.map_toArray, List.map_cons, List.map_nil]); first | done | rfl | (simp only [List.length_drop, List.length_take]; rfl)) ?_
  (with_reducible refine (laws_toFont.calls k a0_0 _ _ l0_1 _ _ l0_2 r16 r17 r18 _ ?sd1 ?sd2 ?sd3 ?sd4 E5.out).mono ?_)
  (case sd1 => exact Kd.C_below HR0_1.out (by repeat (first | (with_reducible first | exact HB.out | apply below_alloc | apply pw_below_drewN | apply below_drew1 | refine below_set ?_ GE3.out | refine below_set ?_ GE5.out) | exact HB.out)))
  (case sd2 => exact HC0_1.out)
  (case sd3 => exact Kd.C_below HR0_2.out (by repeat (first | (with_reducible first | exact HB.out | apply below_alloc | apply pw_below_drewN | apply below_drew1 | refine below_set ?_ GE3.out | refine below_set ?_ GE5.out) | exact HB.out)))
  (case sd4 => exact HC0_2.out)
  rintro e w15 ⟨v19, v20, rfl, ho0, ho1, hb⟩
  refine ⟨_, rfl, ?_⟩
  have hsz0 : n2 ≤ _ := pre_size_b hb (by first | (with_reducible exact SZ.out) | (simp only [size_setCell_]; exact SZ.out) | exact SZ.out)
  have DJHOv19 : Aside0 (∀ k_, some k_ = (v19 : Value).ownBlock → ¬ some k_ = (v20 : Value).ownBlock) := ⟨fun k_ e_ e2_ => ho0.1 k_ e_.symm e2_⟩
  have n0_ := Aside0.mk (blk_below (g := gb3) (o := .cells #[.string a0_0, .slice A0_1 l0_1.length c0_1, .slice A0_2 l0_2.length c0_2] 42 (0, 0)) (by (with_reducible repeat (first | refine blk_drewN ?_ _ | refine blk_drew ?_ | refine blk_alloc ?_ _)); exact BK3.out) hb)
  have n1_ := Aside0.mk (blk_below (g := gb5) (o := .cells #[.int .i64 a2_0, .int .i64 a2_1] 48 (0, 0)) (by (with_reducible repeat (first | refine blk_drewN ?_ _ | refine blk_drew ?_ | refine blk_alloc ?_ _)); exact BK5.out) hb)
  have n2_ := Aside0.mk (below_step (by repeat (first | (with_reducible first | exact HB.out | apply below_alloc | apply pw_below_drewN | apply below_drew1 | refine below_set ?_ GE3.out | refine below_set ?_ GE5.out) | exact HB.out)) hb)
  obtain ⟨n3, hn3⟩ : ∃ n_ : Nat, n_ = w15.heap.size := ⟨_, rfl⟩
  have szw : n2 ≤ _ := hsz0
  have N3 : Aside0 (n2 ≤ n3) := ⟨Nat.le_trans szw (by rw [hn3]; exact hb.size)⟩
  have n3_ := Aside0.mk (Kd.R_lower (Kd.R_mono (ok' := fun k_ => n2 ≤ k_ ∧ k_ < n3) (Kd.R_bound ho0) (fun k_ hk_ => ⟨Nat.le_trans szw hk_.2.1, Nat.lt_of_lt_of_le hk_.2.2.1 (Nat.le_of_eq hn3.symm)⟩)) (Nat.le_trans (Nat.le_trans Z0.out (Nat.le_trans N1.out N2.out)) szw))
  have n4_ := Aside0.mk (Kd.R_lower (Kd.R_mono (ok' := fun k_ => n2 ≤ k_ ∧ k_ < n3) (Kd.R_bound ho1) (fun k_ hk_ => ⟨Nat.le_trans szw hk_.2.1, Nat.lt_of_lt_of_le hk_.2.2.1 (Nat.le_of_eq hn3.symm)⟩)) (Nat.le_trans (Nat.le_trans Z0.out (Nat.le_trans N1.out N2.out)) szw))
  have n5_ := Aside0.mk ((Nat.le_of_eq hn3 : n3 ≤ w15.heap.size))
  clear BK3 BK5 HB SZ
  have BK3 := n0_
  have BK5 := n1_
  have HB := n2_
  have HOv19 := n3_
  have HOv20 := n4_
  have SZ := n5_
  clear n0_ n1_ n2_ n3_ n4_ n5_
  clear szw hn3
  clear hsz0
  obtain ⟨Av19, cv19, eo_⟩ := Kd.R_slice HOv19.out
  subst eo_
  obtain ⟨Av20, cv20, eo_⟩ := Kd.R_slice HOv20.out
  subst eo_
  clear hb
  (try clear ho0)
  (try clear ho1)
  (try clear hz0)
  refine hK.out _ _ ⟨(blk_cell BK3.out 0).trans rfl, (blk_cell BK3.out 1).trans rfl, (blk_cell BK3.out 2).trans rfl, (blk_cell BK5.out 0).trans rfl, (blk_cell BK5.out 1).trans rfl⟩ (fun hHeld => ?_)
  clear hK K
  refine norm_ (a' := ?_) ?_ ?_
  rotate_left
  · show Act.put _ (some 34) _ = _
    simp only [Act.put, List.setIfInBounds_toArray, List.set_cons_zero, List.set_cons_succ, i64_w, i32_w]
    rfl
  refine one_ (i := 3) (N := some 36) #[true, true, true, true, true, false, false, false, false, false, false, false, false, false] rfl rfl (by kernel_rfl) (by decide) (fun K hK => ?_)
  refine goes_ Try.func43 (by kernel_rfl) rfl #[.slice A1 l1.length c1] (by rfl) rfl rfl (by (try simp only [List.map_toArray, List.map_cons, List.map_nil]); first | done | rfl | (simp only [List.length_drop, List.length_take]; rfl)) ?_
  (with_reducible refine (laws_toMatrixSS.calls k _ _ l1 r22 _ ?sd1 ?sd2 E6.out).mono ?_)
  (case sd1 => exact Kd.C_below HR1.out (by repeat (first | (with_reducible first | exact HB.out | apply below_alloc | apply pw_below_drewN | apply below_drew1 | refine below_set ?_ GE3.out | refine below_set ?_ GE5.out) | exact HB.out)))
  (case sd2 => exact HC1.out)
  rintro e w21 ⟨v23, rfl, ho0, hb⟩
  refine ⟨_, rfl, ?_⟩
  have hsz0 : n3 ≤ _ := pre_size_b hb (by first | (with_reducible exact SZ.out) | (simp only [size_setCell_]; exact SZ.out) | exact SZ.out)
  have n0_ := Aside0.mk (Kd.R_below (by (with_reducible repeat (first | apply Kd.R_alloc | apply Kd.R_drewN | apply Kd.R_drew)); exact HOv19.out) hb)
  have n1_ := Aside0.mk (Kd.R_below (by (with_reducible repeat (first | apply Kd.R_alloc | apply Kd.R_drewN | apply Kd.R_drew)); exact HOv20.out) hb)
  have n2_ := Aside0.mk (blk_below (g := gb3) (o := .cells #[.string a0_0, .slice A0_1 l0_1.length c0_1, .slice A0_2 l0_2.length c0_2] 42 (0, 0)) (by (with_reducible repeat (first | refine blk_drewN ?_ _ | refine blk_drew ?_ | refine blk_alloc ?_ _)); exact BK3.out) hb)
  have n3_ := Aside0.mk (blk_below (g := gb5) (o := .cells #[.int .i64 a2_0, .int .i64 a2_1] 48 (0, 0)) (by (with_reducible repeat (first | refine blk_drewN ?_ _ | refine blk_drew ?_ | refine blk_alloc ?_ _)); exact BK5.out) hb)
  have n4_ := Aside0.mk (below_step (by repeat (first | (with_reducible first | exact HB.out | apply below_alloc | apply pw_below_drewN | apply below_drew1 | refine below_set ?_ GE3.out | refine below_set ?_ GE5.out) | exact HB.out)) hb)
  obtain ⟨n4, hn4⟩ : ∃ n_ : Nat, n_ = w21.heap.size := ⟨_, rfl⟩
  have szw : n3 ≤ _ := hsz0
  have N4 : Aside0 (n3 ≤ n4) := ⟨Nat.le_trans szw (by rw [hn4]; exact hb.size)⟩
  have n5_ := Aside0.mk (Kd.S_lower (Kd.S_mono (ok' := fun k_ => n3 ≤ k_ ∧ k_ < n4) (Kd.S_bound ho0) (fun k_ hk_ => ⟨Nat.le_trans szw hk_.2.1, Nat.lt_of_lt_of_le hk_.2.2.1 (Nat.le_of_eq hn4.symm)⟩)) (Nat.le_trans (Nat.le_trans Z0.out (Nat.le_trans (Nat.le_trans N1.out N2.out) N3.out)) szw))
  have n6_ := Aside0.mk ((Nat.le_of_eq hn4 : n4 ≤ w21.heap.size))
  clear HOv19 HOv20 BK3 BK5 HB SZ
  have HOv19 := n0_
  have HOv20 := n1_
  have BK3 := n2_
  have BK5 := n3_
  have HB := n4_
  have HOv23 := n5_
  have SZ := n6_
  clear n0_ n1_ n2_ n3_ n4_ n5_ n6_
  clear szw hn4
  clear hsz0
  obtain ⟨Av23, cv23, eo_⟩ := Kd.S_slice HOv23.out
  subst eo_
  clear hb
  (try clear ho0)
  (try clear hz0)
  refine hK.out _ _ ⟨(blk_cell BK3.out 0).trans rfl, (blk_cell BK3.out 1).trans rfl, (blk_cell BK3.out 2).trans rfl, (blk_cell BK5.out 0).trans rfl, (blk_cell BK5.out 1).trans rfl⟩ (fun hHeld => ?_)
  clear hK K
  refine norm_ (a' := ?_) ?_ ?_
  rotate_left
  · show Act.put _ (some 36) _ = _
    simp only [Act.put, List.setIfInBounds_toArray, List.set_cons_zero, List.set_cons_succ, i64_w, i32_w]
    rfl
  refine one_ (i := 5) (N := some 38) #[true, true, true, true, true, true, false, false, false, false, false, false, false, false] rfl rfl (by kernel_rfl) (by decide) (fun K hK => ?_)
  refine goes_ Try.func34 (by kernel_rfl) rfl #[.agg #[.int .i64 a2_0, .int .i64 a2_1]] (by rfl) rfl rfl (by (try simp only [List.map_toArray, List.map_cons, List.map_nil]); first | done | rfl | (simp only [List.length_drop, List.length_take]; rfl)) ?_
  (with_reducible refine (laws_toMatrix.calls a2_0 a2_1 r25 r26 _ E7.out).mono ?_)
  rintro e w24 ⟨rfl, hb⟩
  refine ⟨_, rfl, ?_⟩
  have hsz0 : n4 ≤ _ := pre_size_b hb (by first | (with_reducible exact SZ.out) | (simp only [size_setCell_]; exact SZ.out) | exact SZ.out)
  have n0_ := Aside0.mk (Kd.R_below (by (with_reducible repeat (first | apply Kd.R_alloc | apply Kd.R_drewN | apply Kd.R_drew)); exact HOv19.out) hb)
  have n1_ := Aside0.mk (Kd.R_below (by (with_reducible repeat (first | apply Kd.R_alloc | apply Kd.R_drewN | apply Kd.R_drew)); exact HOv20.out) hb)
  have n2_ := Aside0.mk (Kd.S_below (by (with_reducible repeat (first | apply Kd.S_alloc | apply Kd.S_drewN | apply Kd.S_drew)); exact HOv23.out) hb)
  have n3_ := Aside0.mk (blk_below (g := gb3) (o := .cells #[.string a0_0, .slice A0_1 l0_1.length c0_1, .slice A0_2 l0_2.length c0_2] 42 (0, 0)) (by (with_reducible repeat (first | refine blk_drewN ?_ _ | refine blk_drew ?_ | refine blk_alloc ?_ _)); exact BK3.out) hb)
  have n4_ := Aside0.mk (blk_below (g := gb5) (o := .cells #[.int .i64 a2_0, .int .i64 a2_1] 48 (0, 0)) (by (with_reducible repeat (first | refine blk_drewN ?_ _ | refine blk_drew ?_ | refine blk_alloc ?_ _)); exact BK5.out) hb)
  have n5_ := Aside0.mk (below_step (by repeat (first | (with_reducible first | exact HB.out | apply below_alloc | apply pw_below_drewN | apply below_drew1 | refine below_set ?_ GE3.out | refine below_set ?_ GE5.out) | exact HB.out)) hb)
  have n6_ := Aside0.mk ((Nat.le_trans hsz0 hb.size : n4 ≤ w24.heap.size))
  clear HOv19 HOv20 HOv23 BK3 BK5 HB SZ
  have HOv19 := n0_
  have HOv20 := n1_
  have HOv23 := n2_
  have BK3 := n3_
  have BK5 := n4_
  have HB := n5_
  have SZ := n6_
  clear n0_ n1_ n2_ n3_ n4_ n5_ n6_
  clear hsz0
  clear hb
  (try clear hz0)
  refine hK.out _ _ ⟨(blk_cell BK3.out 0).trans rfl, (blk_cell BK3.out 1).trans rfl, (blk_cell BK3.out 2).trans rfl, (blk_cell BK5.out 0).trans rfl, (blk_cell BK5.out 1).trans rfl⟩ (fun hHeld => ?_)
  clear hK K
  refine norm_ (a' := ?_) ?_ ?_
  rotate_left
  · show Act.put _ (some 38) _ = _
    simp only [Act.put, List.setIfInBounds_toArray, List.set_cons_zero, List.set_cons_succ, i64_w, i32_w]
    rfl
  refine one_ (i := 6) (N := some 39) #[true, true, true, true, true, true, true, false, false, false, false, false, false, false] rfl rfl (by kernel_rfl) (by decide) (fun K hK => ?_)
  refine goes_ Try.func68 (by kernel_rfl) rfl #[.agg #[.string r16, .slice Av19 r17.length cv19, .slice Av20 r18.length cv20], .slice Av23 r22.length cv23, .agg #[.int .i64 r25, .int .i64 r26]] (by rfl) rfl rfl (by (try simp only [List.map_toArray, List.map_cons, List.map_nil]); first | done | rfl | (simp only [List.length_drop, List.length_take]; rfl)) ?_
  (with_reducible refine (spec_DropMatrix.calls k r16 _ _ r17 _ _ r18 _ _ r22 r25 r26 r28 r29 r30 _ ?sd1 ?sd2 ?sd3 ?sd4 ?sd5 ?sd6 E8.out).mono ?_)
  (case sd1 => repeat (first | exact (Kd.R_reads' HOv19.out).2.2 | (with_reducible refine Kd.C_alloc ?_ _) | (with_reducible refine Kd.C_drewN ?_ _) | (with_reducible refine Kd.C_drew ?_)))
  (case sd2 => exact (Kd.R_reads' HOv19.out).2.1)
  (case sd3 => repeat (first | exact (Kd.R_reads' HOv20.out).2.2 | (with_reducible refine Kd.C_alloc ?_ _) | (with_reducible refine Kd.C_drewN ?_ _) | (with_reducible refine Kd.C_drew ?_)))
  (case sd4 => exact (Kd.R_reads' HOv20.out).2.1)
  (case sd5 => repeat (first | exact (Kd.S_reads' HOv23.out).2.2 | (with_reducible refine Kd.C_alloc ?_ _) | (with_reducible refine Kd.C_drewN ?_ _) | (with_reducible refine Kd.C_drew ?_)))
  (case sd6 => exact (Kd.S_reads' HOv23.out).2.1)
  rintro e w27 ⟨v31, rfl, ho0, hb⟩
  refine ⟨_, rfl, ?_⟩
  have hsz0 : n4 ≤ _ := pre_size_b hb (by first | (with_reducible exact SZ.out) | (simp only [size_setCell_]; exact SZ.out) | exact SZ.out)
  have n0_ := Aside0.mk (Kd.R_below (by (with_reducible repeat (first | apply Kd.R_alloc | apply Kd.R_drewN | apply Kd.R_drew)); exact HOv19.out) hb)
  have n1_ := Aside0.mk (Kd.R_below (by (with_reducible repeat (first | apply Kd.R_alloc | apply Kd.R_drewN | apply Kd.R_drew)); exact HOv20.out) hb)
  have n2_ := Aside0.mk (Kd.S_below (by (with_reducible repeat (first | apply Kd.S_alloc | apply Kd.S_drewN | apply Kd.S_drew)); exact HOv23.out) hb)
  have n3_ := Aside0.mk (blk_below (g := gb3) (o := .cells #[.string a0_0, .slice A0_1 l0_1.length c0_1, .slice A0_2 l0_2.length c0_2] 42 (0, 0)) (by (with_reducible repeat (first | refine blk_drewN ?_ _ | refine blk_drew ?_ | refine blk_alloc ?_ _)); exact BK3.out) hb)
  have n4_ := Aside0.mk (blk_below (g := gb5) (o := .cells #[.int .i64 a2_0, .int .i64 a2_1] 48 (0, 0)) (by (with_reducible repeat (first | refine blk_drewN ?_ _ | refine blk_drew ?_ | refine blk_alloc ?_ _)); exact BK5.out) hb)
  have n5_ := Aside0.mk (below_step (by repeat (first | (with_reducible first | exact HB.out | apply below_alloc | apply pw_below_drewN | apply below_drew1 | refine below_set ?_ GE3.out | refine below_set ?_ GE5.out) | exact HB.out)) hb)
  obtain ⟨n5, hn5⟩ : ∃ n_ : Nat, n_ = w27.heap.size := ⟨_, rfl⟩
  have szw : n4 ≤ _ := hsz0
  have N5 : Aside0 (n4 ≤ n5) := ⟨Nat.le_trans szw (by rw [hn5]; exact hb.size)⟩
  have n6_ := Aside0.mk (Kd.S_lower (Kd.S_mono (ok' := fun k_ => n4 ≤ k_ ∧ k_ < n5) (Kd.S_bound ho0) (fun k_ hk_ => ⟨Nat.le_trans szw hk_.2.1, Nat.lt_of_lt_of_le hk_.2.2.1 (Nat.le_of_eq hn5.symm)⟩)) (Nat.le_trans (Nat.le_trans Z0.out (Nat.le_trans (Nat.le_trans (Nat.le_trans N1.out N2.out) N3.out) N4.out)) szw))
  have n7_ := Aside0.mk ((Nat.le_of_eq hn5 : n5 ≤ w27.heap.size))
  clear HOv19 HOv20 HOv23 BK3 BK5 HB SZ
  have HOv19 := n0_
  have HOv20 := n1_
  have HOv23 := n2_
  have BK3 := n3_
  have BK5 := n4_
  have HB := n5_
  have HOv31 := n6_
  have SZ := n7_
  clear n0_ n1_ n2_ n3_ n4_ n5_ n6_ n7_
  clear szw hn5
  clear hsz0
  obtain ⟨Av31, cv31, eo_⟩ := Kd.S_slice HOv31.out
  subst eo_
  clear hb
  (try clear ho0)
  (try clear hz0)
  refine hK.out _ _ ⟨(blk_cell BK3.out 0).trans rfl, (blk_cell BK3.out 1).trans rfl, (blk_cell BK3.out 2).trans rfl, (blk_cell BK5.out 0).trans rfl, (blk_cell BK5.out 1).trans rfl⟩ (fun hHeld => ?_)
  clear hK K
  refine norm_ (a' := ?_) ?_ ?_
  rotate_left
  · show Act.put _ (some 39) _ = _
    simp only [Act.put, List.setIfInBounds_toArray, List.set_cons_zero, List.set_cons_succ, i64_w, i32_w]
    rfl
  refine pure_ (i := 7) (N := some 32) (v := ?_) (a' := ?_) #[true, true, true, true, true, true, true, true, false, false, false, false, false, false] rfl rfl (by kernel_rfl) (fun _ _ _ h => h) (Or.inl ⟨by rfl, ?_⟩) ?_ ?_
  rotate_left
  · intro w'
    go_simp
    with_reducible rfl
  rotate_left
  · simp only [Act.put, List.setIfInBounds_toArray, List.set_cons_zero, List.set_cons_succ, i64_w, i32_w]
    rfl
  refine pure_ (i := 8) (N := some 40) (v := ?_) (a' := ?_) #[true, true, true, true, true, true, true, true, true, false, false, false, false, false] rfl rfl (by kernel_rfl) (fun _ _ _ h => h) (Or.inl ⟨by rfl, ?_⟩) ?_ ?_
  rotate_left
  · intro w'
    go_simp
    with_reducible rfl
  rotate_left
  · simp only [Act.put, List.setIfInBounds_toArray, List.set_cons_zero, List.set_cons_succ, i64_w, i32_w]
    rfl
  refine pure_ (i := 9) (N := some 41) (v := ?_) (a' := ?_) #[true, true, true, true, true, true, true, true, true, true, false, false, false, false] rfl rfl (by kernel_rfl) (fun _ _ _ h => h) (Or.inl ⟨by rfl, ?_⟩) ?_ ?_
  rotate_left
  · intro w'
    go_simp
    with_reducible rfl
  rotate_left
  · simp only [Act.put, List.setIfInBounds_toArray, List.set_cons_zero, List.set_cons_succ, i64_w, i32_w]
    rfl
  refine pure_ (i := 10) (N := some 42) (v := ?_) (a' := ?_) #[true, true, true, true, true, true, true, true, true, true, true, false, false, false] rfl rfl (by kernel_rfl) (fun _ _ _ h => h) (Or.inl ⟨by rfl, ?_⟩) ?_ ?_
  rotate_left
  · intro w'
    go_simp
    with_reducible rfl
  rotate_left
  · simp only [Act.put, List.setIfInBounds_toArray, List.set_cons_zero, List.set_cons_succ, i64_w, i32_w]
    rfl
  refine pure_ (i := 11) (N := some 8) (v := ?_) (a' := ?_) #[true, true, true, true, true, true, true, true, true, true, true, true, false, false] rfl rfl (by kernel_rfl) (fun _ _ _ h => h) (Or.inl ⟨by rfl, ?_⟩) ?_ ?_
  rotate_left
  · intro w'
    go_simp
    with_reducible rfl
  rotate_left
  · simp only [Act.put, List.setIfInBounds_toArray, List.set_cons_zero, List.set_cons_succ, i64_w, i32_w]
    rfl
  refine pure_ (i := 12) (N := some 9) (v := ?_) (a' := ?_) #[true, true, true, true, true, true, true, true, true, true, true, true, true, false] rfl rfl (by kernel_rfl) (fun _ _ _ h => h) (Or.inl ⟨by rfl, ?_⟩) ?_ ?_
  rotate_left
  · intro w'
    go_simp
    with_reducible rfl
  rotate_left
  · simp only [Act.put, List.setIfInBounds_toArray, List.set_cons_zero, List.set_cons_succ, i64_w, i32_w]
    rfl
  refine pure_ (i := 13) (N := some 10) (v := ?_) (a' := ?_) #[true, true, true, true, true, true, true, true, true, true, true, true, true, true] rfl rfl (by kernel_rfl) (fun _ _ _ h => h) (Or.inl ⟨by rfl, ?_⟩) ?_ ?_
  rotate_left
  · intro w'
    go_simp
    with_reducible rfl
  rotate_left
  · simp only [Act.put, List.setIfInBounds_toArray, List.set_cons_zero, List.set_cons_succ, i64_w, i32_w]
    rfl
  refine done_ (by kernel_rfl) ?_
  have hcz32_0 : w27.cell? ⟨gb3, 0, none⟩ = some (.string a0_0) := (blk_cell BK3.out 0).trans rfl
  have hcz32_1 : w27.cell? ⟨gb3, 1, none⟩ = some (.slice A0_1 l0_1.length c0_1) := (blk_cell BK3.out 1).trans rfl
  have hcz32_2 : w27.cell? ⟨gb3, 2, none⟩ = some (.slice A0_2 l0_2.length c0_2) := (blk_cell BK3.out 2).trans rfl
  have hcz33_0 : w27.cell? ⟨gb5, 0, none⟩ = some (.int .i64 a2_0) := (blk_cell BK5.out 0).trans rfl
  have hcz33_1 : w27.cell? ⟨gb5, 1, none⟩ = some (.int .i64 a2_1) := (blk_cell BK5.out 1).trans rfl
  try go_wp2_with (first | ((with_reducible refine gate_callee (f := 30) rfl ?_); refine goesL_ (some 44) rfl rfl Try.func30 (by kernel_rfl) rfl #[.agg #[.string a0_0, .slice A0_1 l0_1.length c0_1, .slice A0_2 l0_2.length c0_2]] rfl (by (try simp only [List.map_toArray, List.map_cons, List.map_nil]); first | done | rfl | (simp only [List.length_drop, List.length_take]; rfl)) ?_; (with_reducible refine (laws_toFont.calls k a0_0 _ _ l0_1 _ _ l0_2 r16 r17 r18 _ ?sd1 ?sd2 ?sd3 ?sd4 E5.out).mono ?_); (case sd1 => exact Kd.C_below HR0_1.out (by repeat (first | (with_reducible first | exact HB.out | apply below_alloc | apply pw_below_drewN | apply below_drew1 | refine below_set ?_ GE3.out | refine below_set ?_ GE5.out) | exact HB.out))); (case sd2 => exact HC0_1.out); (case sd3 => exact Kd.C_below HR0_2.out (by repeat (first | (with_reducible first | exact HB.out | apply below_alloc | apply pw_below_drewN | apply below_drew1 | refine below_set ?_ GE3.out | refine below_set ?_ GE5.out) | exact HB.out))); (case sd4 => exact HC0_2.out); rintro e w34 ⟨v35, v36, rfl, ho0, ho1, hb⟩; refine ⟨_, rfl, ?_⟩; have hsz0 : n5 ≤ _ := pre_size_b hb (by first | (with_reducible exact SZ.out) | (simp only [size_setCell_]; exact SZ.out) | exact SZ.out); have DJHOv35 : Aside0 (∀ k_, some k_ = (v35 : Value).ownBlock → ¬ some k_ = (v36 : Value).ownBlock) := ⟨fun k_ e_ e2_ => ho0.1 k_ e_.symm e2_⟩; have n0_ := Aside0.mk (Kd.R_below (by (with_reducible repeat (first | apply Kd.R_alloc | apply Kd.R_drewN | apply Kd.R_drew)); exact HOv19.out) hb); have n1_ := Aside0.mk (Kd.R_below (by (with_reducible repeat (first | apply Kd.R_alloc | apply Kd.R_drewN | apply Kd.R_drew)); exact HOv20.out) hb); have n2_ := Aside0.mk (Kd.S_below (by (with_reducible repeat (first | apply Kd.S_alloc | apply Kd.S_drewN | apply Kd.S_drew)); exact HOv23.out) hb); have n3_ := Aside0.mk (Kd.S_below (by (with_reducible repeat (first | apply Kd.S_alloc | apply Kd.S_drewN | apply Kd.S_drew)); exact HOv31.out) hb); have n4_ := Aside0.mk (blk_below (g := gb3) (o := .cells #[.string a0_0, .slice A0_1 l0_1.length c0_1, .slice A0_2 l0_2.length c0_2] 42 (0, 0)) (by (with_reducible repeat (first | refine blk_drewN ?_ _ | refine blk_drew ?_ | refine blk_alloc ?_ _)); exact BK3.out) hb); have n5_ := Aside0.mk (blk_below (g := gb5) (o := .cells #[.int .i64 a2_0, .int .i64 a2_1] 48 (0, 0)) (by (with_reducible repeat (first | refine blk_drewN ?_ _ | refine blk_drew ?_ | refine blk_alloc ?_ _)); exact BK5.out) hb); have n6_ := Aside0.mk (below_step (by repeat (first | (with_reducible first | exact HB.out | apply below_alloc | apply pw_below_drewN | apply below_drew1 | refine below_set ?_ GE3.out | refine below_set ?_ GE5.out) | exact HB.out)) hb); obtain ⟨n6, hn6⟩ : ∃ n_ : Nat, n_ = w34.heap.size := ⟨_, rfl⟩; have szw : n5 ≤ _ := hsz0; have N6 : Aside0 (n5 ≤ n6) := ⟨Nat.le_trans szw (by rw [hn6]; exact hb.size)⟩; have n7_ := Aside0.mk (Kd.R_lower (Kd.R_mono (ok' := fun k_ => n5 ≤ k_ ∧ k_ < n6) (Kd.R_bound ho0) (fun k_ hk_ => ⟨Nat.le_trans szw hk_.2.1, Nat.lt_of_lt_of_le hk_.2.2.1 (Nat.le_of_eq hn6.symm)⟩)) (Nat.le_trans (Nat.le_trans Z0.out (Nat.le_trans (Nat.le_trans (Nat.le_trans (Nat.le_trans N1.out N2.out) N3.out) N4.out) N5.out)) szw)); have n8_ := Aside0.mk (Kd.R_lower (Kd.R_mono (ok' := fun k_ => n5 ≤ k_ ∧ k_ < n6) (Kd.R_bound ho1) (fun k_ hk_ => ⟨Nat.le_trans szw hk_.2.1, Nat.lt_of_lt_of_le hk_.2.2.1 (Nat.le_of_eq hn6.symm)⟩)) (Nat.le_trans (Nat.le_trans Z0.out (Nat.le_trans (Nat.le_trans (Nat.le_trans (Nat.le_trans N1.out N2.out) N3.out) N4.out) N5.out)) szw)); have n9_ := Aside0.mk ((Nat.le_of_eq hn6 : n6 ≤ w34.heap.size)); clear HOv19 HOv20 HOv23 HOv31 BK3 BK5 HB SZ; have HOv19 := n0_; have HOv20 := n1_; have HOv23 := n2_; have HOv31 := n3_; have BK3 := n4_; have BK5 := n5_; have HB := n6_; have HOv35 := n7_; have HOv36 := n8_; have SZ := n9_; clear n0_ n1_ n2_ n3_ n4_ n5_ n6_ n7_ n8_ n9_; clear szw hn6; clear hsz0; obtain ⟨Av35, cv35, eo_⟩ := Kd.R_slice HOv35.out; subst eo_; obtain ⟨Av36, cv36, eo_⟩ := Kd.R_slice HOv36.out; subst eo_; clear hb; (try clear ho0); (try clear ho1); (try clear hz0); have hcz37_0 : w34.cell? ⟨gb3, 0, none⟩ = some (.string a0_0) := (blk_cell BK3.out 0).trans rfl; have hcz37_1 : w34.cell? ⟨gb3, 1, none⟩ = some (.slice A0_1 l0_1.length c0_1) := (blk_cell BK3.out 1).trans rfl; have hcz37_2 : w34.cell? ⟨gb3, 2, none⟩ = some (.slice A0_2 l0_2.length c0_2) := (blk_cell BK3.out 2).trans rfl; have hcz38_0 : w34.cell? ⟨gb5, 0, none⟩ = some (.int .i64 a2_0) := (blk_cell BK5.out 0).trans rfl; have hcz38_1 : w34.cell? ⟨gb5, 1, none⟩ = some (.int .i64 a2_1) := (blk_cell BK5.out 1).trans rfl) | ((with_reducible refine gate_dst (N := 11) rfl ?_); refine box_event ?hg (N := 11) ?hd (cs := #[.string (⟨#[]⟩ : ByteArray), .slice none 0 0, .slice none 0 0]) (t := 25) ?hr ?_; (case hd => rfl); (case hg => rfl); (case hr => first | (go_simp; done) | (go_simp; rfl)); intro gb11 hg w39 hbox hb; have hsz0 : n6 ≤ _ := pre_size_b hb (by first | (with_reducible exact SZ.out) | (simp only [size_setCell_]; exact SZ.out) | exact SZ.out); have n0_ := Aside0.mk (Kd.R_below (by (with_reducible repeat (first | apply Kd.R_alloc | apply Kd.R_drewN | apply Kd.R_drew)); exact HOv19.out) hb); have n1_ := Aside0.mk (Kd.R_below (by (with_reducible repeat (first | apply Kd.R_alloc | apply Kd.R_drewN | apply Kd.R_drew)); exact HOv20.out) hb); have n2_ := Aside0.mk (Kd.S_below (by (with_reducible repeat (first | apply Kd.S_alloc | apply Kd.S_drewN | apply Kd.S_drew)); exact HOv23.out) hb); have n3_ := Aside0.mk (Kd.S_below (by (with_reducible repeat (first | apply Kd.S_alloc | apply Kd.S_drewN | apply Kd.S_drew)); exact HOv31.out) hb); have n4_ := Aside0.mk (Kd.R_below (by (with_reducible repeat (first | apply Kd.R_alloc | apply Kd.R_drewN | apply Kd.R_drew)); exact HOv35.out) hb); have n5_ := Aside0.mk (Kd.R_below (by (with_reducible repeat (first | apply Kd.R_alloc | apply Kd.R_drewN | apply Kd.R_drew)); exact HOv36.out) hb); have n6_ := Aside0.mk (blk_below (g := gb3) (o := .cells #[.string a0_0, .slice A0_1 l0_1.length c0_1, .slice A0_2 l0_2.length c0_2] 42 (0, 0)) (by (with_reducible repeat (first | refine blk_drewN ?_ _ | refine blk_drew ?_ | refine blk_alloc ?_ _)); exact BK3.out) hb); have n7_ := Aside0.mk (blk_below (g := gb5) (o := .cells #[.int .i64 a2_0, .int .i64 a2_1] 48 (0, 0)) (by (with_reducible repeat (first | refine blk_drewN ?_ _ | refine blk_drew ?_ | refine blk_alloc ?_ _)); exact BK5.out) hb); have n8_ := Aside0.mk (below_step (by repeat (first | (with_reducible first | exact HB.out | apply below_alloc | apply pw_below_drewN | apply below_drew1 | refine below_set ?_ GE3.out | refine below_set ?_ GE5.out) | exact HB.out)) hb); obtain ⟨n7, hn7⟩ : ∃ n_ : Nat, n_ = w39.heap.size := ⟨_, rfl⟩; have szw : n6 ≤ _ := hsz0; have N7 : Aside0 (n6 ≤ n7) := ⟨Nat.le_trans szw (by rw [hn7]; exact hb.size)⟩; have n9_ := Aside0.mk (hbox); have n10_ := Aside0.mk ((by rw [hg]; exact szw : n6 ≤ gb11)); have n11_ := Aside0.mk ((by rw [hn7]; exact blk_lt hbox : gb11 < n7)); have n12_ := Aside0.mk ((Nat.le_trans (Nat.le_trans Z0.out (Nat.le_trans (Nat.le_trans (Nat.le_trans (Nat.le_trans (Nat.le_trans N1.out N2.out) N3.out) N4.out) N5.out) N6.out)) (by rw [hg]; exact szw) : w.heap.size ≤ gb11)); have n13_ := Aside0.mk ((fun e_ => Nat.lt_irrefl _ (Nat.lt_of_lt_of_le GU3.out (Nat.le_trans (Nat.le_trans (Nat.le_trans (Nat.le_trans (Nat.le_trans N2.out N3.out) N4.out) N5.out) N6.out) (by rw [e_, hg]; exact szw))) : gb3 ≠ gb11)); have n14_ := Aside0.mk ((fun e_ => Nat.lt_irrefl _ (Nat.lt_of_lt_of_le GU3.out (Nat.le_trans (Nat.le_trans (Nat.le_trans (Nat.le_trans (Nat.le_trans N2.out N3.out) N4.out) N5.out) N6.out) (by rw [← e_, hg]; exact szw))) : gb11 ≠ gb3)); have n15_ := Aside0.mk ((fun e_ => Nat.lt_irrefl _ (Nat.lt_of_lt_of_le GU5.out (Nat.le_trans (Nat.le_trans (Nat.le_trans (Nat.le_trans N3.out N4.out) N5.out) N6.out) (by rw [e_, hg]; exact szw))) : gb5 ≠ gb11)); have n16_ := Aside0.mk ((fun e_ => Nat.lt_irrefl _ (Nat.lt_of_lt_of_le GU5.out (Nat.le_trans (Nat.le_trans (Nat.le_trans (Nat.le_trans N3.out N4.out) N5.out) N6.out) (by rw [← e_, hg]; exact szw))) : gb11 ≠ gb5)); have n17_ := Aside0.mk ((Nat.le_of_eq hn7 : n7 ≤ w39.heap.size)); clear HOv19 HOv20 HOv23 HOv31 HOv35 HOv36 BK3 BK5 HB SZ; have HOv19 := n0_; have HOv20 := n1_; have HOv23 := n2_; have HOv31 := n3_; have HOv35 := n4_; have HOv36 := n5_; have BK3 := n6_; have BK5 := n7_; have HB := n8_; have BK11 := n9_; have GL11 := n10_; have GU11 := n11_; have GE11 := n12_; have NB3_11 := n13_; have NB11_3 := n14_; have NB5_11 := n15_; have NB11_5 := n16_; have SZ := n17_; clear n0_ n1_ n2_ n3_ n4_ n5_ n6_ n7_ n8_ n9_ n10_ n11_ n12_ n13_ n14_ n15_ n16_ n17_; clear szw hn7; clear hsz0; clear hb hbox hg; have hfz11_0 := blk_frozen BK11.out 0; have hfz11_1 := blk_frozen BK11.out 1; have hfz11_2 := blk_frozen BK11.out 2; have hcz40_0 : w39.cell? ⟨gb3, 0, none⟩ = some (.string a0_0) := (blk_cell BK3.out 0).trans rfl; have hcz40_1 : w39.cell? ⟨gb3, 1, none⟩ = some (.slice A0_1 l0_1.length c0_1) := (blk_cell BK3.out 1).trans rfl; have hcz40_2 : w39.cell? ⟨gb3, 2, none⟩ = some (.slice A0_2 l0_2.length c0_2) := (blk_cell BK3.out 2).trans rfl; have hcz41_0 : w39.cell? ⟨gb5, 0, none⟩ = some (.int .i64 a2_0) := (blk_cell BK5.out 0).trans rfl; have hcz41_1 : w39.cell? ⟨gb5, 1, none⟩ = some (.int .i64 a2_1) := (blk_cell BK5.out 1).trans rfl; have hcz42_0 : w39.cell? ⟨gb11, 0, none⟩ = some (.string (⟨#[]⟩ : ByteArray)) := (blk_cell BK11.out 0).trans rfl; have hcz42_1 : w39.cell? ⟨gb11, 1, none⟩ = some (.slice none 0 0) := (blk_cell BK11.out 1).trans rfl; have hcz42_2 : w39.cell? ⟨gb11, 2, none⟩ = some (.slice none 0 0) := (blk_cell BK11.out 2).trans rfl) | ((with_reducible refine gate_callee (f := 43) rfl ?_); refine goesL_ (some 46) rfl rfl Try.func43 (by kernel_rfl) rfl #[.slice A1 l1.length c1] rfl (by (try simp only [List.map_toArray, List.map_cons, List.map_nil]); first | done | rfl | (simp only [List.length_drop, List.length_take]; rfl)) ?_; (with_reducible refine (laws_toMatrixSS.calls k _ _ l1 r22 _ ?sd1 ?sd2 E6.out).mono ?_); (case sd1 => exact Kd.C_below HR1.out (by repeat (first | (with_reducible first | exact HB.out | apply below_alloc | apply pw_below_drewN | apply below_drew1 | refine below_set ?_ GE3.out | refine below_set ?_ GE5.out | refine below_set ?_ GE11.out) | exact HB.out))); (case sd2 => exact HC1.out); rintro e w43 ⟨v44, rfl, ho0, hb⟩; refine ⟨_, rfl, ?_⟩; have hsz0 : n7 ≤ _ := pre_size_b hb (by first | (with_reducible exact SZ.out) | (simp only [size_setCell_]; exact SZ.out) | exact SZ.out); have n0_ := Aside0.mk (Kd.R_below (by (with_reducible repeat (first | apply Kd.R_alloc | apply Kd.R_drewN | apply Kd.R_drew)); exact (Kd.R_far (p := ⟨gb11, 2, none⟩) (Kd.R_far (p := ⟨gb11, 1, none⟩) (Kd.R_far (p := ⟨gb11, 0, none⟩) HOv19.out (fun k_ hk_ e_ => Nat.lt_irrefl _ (Nat.lt_of_lt_of_le hk_.2 (Nat.le_trans (Nat.le_trans (Nat.le_trans N4.out N5.out) N6.out) (by rw [e_]; exact GL11.out)))) (.string r16)) (fun k_ hk_ e_ => Nat.lt_irrefl _ (Nat.lt_of_lt_of_le hk_.2 (Nat.le_trans (Nat.le_trans (Nat.le_trans N4.out N5.out) N6.out) (by rw [e_]; exact GL11.out)))) (.slice Av35 r17.length cv35)) (fun k_ hk_ e_ => Nat.lt_irrefl _ (Nat.lt_of_lt_of_le hk_.2 (Nat.le_trans (Nat.le_trans (Nat.le_trans N4.out N5.out) N6.out) (by rw [e_]; exact GL11.out)))) (.slice Av36 r18.length cv36))) hb); have n1_ := Aside0.mk (Kd.R_below (by (with_reducible repeat (first | apply Kd.R_alloc | apply Kd.R_drewN | apply Kd.R_drew)); exact (Kd.R_far (p := ⟨gb11, 2, none⟩) (Kd.R_far (p := ⟨gb11, 1, none⟩) (Kd.R_far (p := ⟨gb11, 0, none⟩) HOv20.out (fun k_ hk_ e_ => Nat.lt_irrefl _ (Nat.lt_of_lt_of_le hk_.2 (Nat.le_trans (Nat.le_trans (Nat.le_trans N4.out N5.out) N6.out) (by rw [e_]; exact GL11.out)))) (.string r16)) (fun k_ hk_ e_ => Nat.lt_irrefl _ (Nat.lt_of_lt_of_le hk_.2 (Nat.le_trans (Nat.le_trans (Nat.le_trans N4.out N5.out) N6.out) (by rw [e_]; exact GL11.out)))) (.slice Av35 r17.length cv35)) (fun k_ hk_ e_ => Nat.lt_irrefl _ (Nat.lt_of_lt_of_le hk_.2 (Nat.le_trans (Nat.le_trans (Nat.le_trans N4.out N5.out) N6.out) (by rw [e_]; exact GL11.out)))) (.slice Av36 r18.length cv36))) hb); have n2_ := Aside0.mk (Kd.S_below (by (with_reducible repeat (first | apply Kd.S_alloc | apply Kd.S_drewN | apply Kd.S_drew)); exact (Kd.S_far (p := ⟨gb11, 2, none⟩) (Kd.S_far (p := ⟨gb11, 1, none⟩) (Kd.S_far (p := ⟨gb11, 0, none⟩) HOv23.out (fun k_ hk_ e_ => Nat.lt_irrefl _ (Nat.lt_of_lt_of_le hk_.2 (Nat.le_trans (Nat.le_trans N5.out N6.out) (by rw [e_]; exact GL11.out)))) (.string r16)) (fun k_ hk_ e_ => Nat.lt_irrefl _ (Nat.lt_of_lt_of_le hk_.2 (Nat.le_trans (Nat.le_trans N5.out N6.out) (by rw [e_]; exact GL11.out)))) (.slice Av35 r17.length cv35)) (fun k_ hk_ e_ => Nat.lt_irrefl _ (Nat.lt_of_lt_of_le hk_.2 (Nat.le_trans (Nat.le_trans N5.out N6.out) (by rw [e_]; exact GL11.out)))) (.slice Av36 r18.length cv36))) hb); have n3_ := Aside0.mk (Kd.S_below (by (with_reducible repeat (first | apply Kd.S_alloc | apply Kd.S_drewN | apply Kd.S_drew)); exact (Kd.S_far (p := ⟨gb11, 2, none⟩) (Kd.S_far (p := ⟨gb11, 1, none⟩) (Kd.S_far (p := ⟨gb11, 0, none⟩) HOv31.out (fun k_ hk_ e_ => Nat.lt_irrefl _ (Nat.lt_of_lt_of_le hk_.2 (Nat.le_trans N6.out (by rw [e_]; exact GL11.out)))) (.string r16)) (fun k_ hk_ e_ => Nat.lt_irrefl _ (Nat.lt_of_lt_of_le hk_.2 (Nat.le_trans N6.out (by rw [e_]; exact GL11.out)))) (.slice Av35 r17.length cv35)) (fun k_ hk_ e_ => Nat.lt_irrefl _ (Nat.lt_of_lt_of_le hk_.2 (Nat.le_trans N6.out (by rw [e_]; exact GL11.out)))) (.slice Av36 r18.length cv36))) hb); have n4_ := Aside0.mk (Kd.R_below (by (with_reducible repeat (first | apply Kd.R_alloc | apply Kd.R_drewN | apply Kd.R_drew)); exact (Kd.R_far (p := ⟨gb11, 2, none⟩) (Kd.R_far (p := ⟨gb11, 1, none⟩) (Kd.R_far (p := ⟨gb11, 0, none⟩) HOv35.out (fun k_ hk_ e_ => Nat.lt_irrefl _ (Nat.lt_of_lt_of_le hk_.2 (Nat.le_trans (Nat.le_refl _) (by rw [e_]; exact GL11.out)))) (.string r16)) (fun k_ hk_ e_ => Nat.lt_irrefl _ (Nat.lt_of_lt_of_le hk_.2 (Nat.le_trans (Nat.le_refl _) (by rw [e_]; exact GL11.out)))) (.slice Av35 r17.length cv35)) (fun k_ hk_ e_ => Nat.lt_irrefl _ (Nat.lt_of_lt_of_le hk_.2 (Nat.le_trans (Nat.le_refl _) (by rw [e_]; exact GL11.out)))) (.slice Av36 r18.length cv36))) hb); have n5_ := Aside0.mk (Kd.R_below (by (with_reducible repeat (first | apply Kd.R_alloc | apply Kd.R_drewN | apply Kd.R_drew)); exact (Kd.R_far (p := ⟨gb11, 2, none⟩) (Kd.R_far (p := ⟨gb11, 1, none⟩) (Kd.R_far (p := ⟨gb11, 0, none⟩) HOv36.out (fun k_ hk_ e_ => Nat.lt_irrefl _ (Nat.lt_of_lt_of_le hk_.2 (Nat.le_trans (Nat.le_refl _) (by rw [e_]; exact GL11.out)))) (.string r16)) (fun k_ hk_ e_ => Nat.lt_irrefl _ (Nat.lt_of_lt_of_le hk_.2 (Nat.le_trans (Nat.le_refl _) (by rw [e_]; exact GL11.out)))) (.slice Av35 r17.length cv35)) (fun k_ hk_ e_ => Nat.lt_irrefl _ (Nat.lt_of_lt_of_le hk_.2 (Nat.le_trans (Nat.le_refl _) (by rw [e_]; exact GL11.out)))) (.slice Av36 r18.length cv36))) hb); have n6_ := Aside0.mk (blk_below (g := gb3) (o := .cells #[.string a0_0, .slice A0_1 l0_1.length c0_1, .slice A0_2 l0_2.length c0_2] 42 (0, 0)) (by (with_reducible repeat (first | refine blk_drewN ?_ _ | refine blk_drew ?_ | refine blk_alloc ?_ _)); refine blk_far ?_ NB3_11.out _; (with_reducible repeat (first | refine blk_drewN ?_ _ | refine blk_drew ?_ | refine blk_alloc ?_ _)); refine blk_far ?_ NB3_11.out _; (with_reducible repeat (first | refine blk_drewN ?_ _ | refine blk_drew ?_ | refine blk_alloc ?_ _)); refine blk_far ?_ NB3_11.out _; (with_reducible repeat (first | refine blk_drewN ?_ _ | refine blk_drew ?_ | refine blk_alloc ?_ _)); exact BK3.out) hb); have n7_ := Aside0.mk (blk_below (g := gb5) (o := .cells #[.int .i64 a2_0, .int .i64 a2_1] 48 (0, 0)) (by (with_reducible repeat (first | refine blk_drewN ?_ _ | refine blk_drew ?_ | refine blk_alloc ?_ _)); refine blk_far ?_ NB5_11.out _; (with_reducible repeat (first | refine blk_drewN ?_ _ | refine blk_drew ?_ | refine blk_alloc ?_ _)); refine blk_far ?_ NB5_11.out _; (with_reducible repeat (first | refine blk_drewN ?_ _ | refine blk_drew ?_ | refine blk_alloc ?_ _)); refine blk_far ?_ NB5_11.out _; (with_reducible repeat (first | refine blk_drewN ?_ _ | refine blk_drew ?_ | refine blk_alloc ?_ _)); exact BK5.out) hb); have n8_ := Aside0.mk (blk_below (g := gb11) (o := .cells #[.string r16, .slice Av35 r17.length cv35, .slice Av36 r18.length cv36] 25 (0, 0)) (by (with_reducible repeat (first | refine blk_drewN ?_ _ | refine blk_drew ?_ | refine blk_alloc ?_ _)); refine blk_put (cs := #[.string r16, .slice Av35 r17.length cv35, .slice none 0 0]) ?_ 2 _ rfl; (with_reducible repeat (first | refine blk_drewN ?_ _ | refine blk_drew ?_ | refine blk_alloc ?_ _)); refine blk_put (cs := #[.string r16, .slice none 0 0, .slice none 0 0]) ?_ 1 _ rfl; (with_reducible repeat (first | refine blk_drewN ?_ _ | refine blk_drew ?_ | refine blk_alloc ?_ _)); refine blk_put (cs := #[.string (⟨#[]⟩ : ByteArray), .slice none 0 0, .slice none 0 0]) ?_ 0 _ rfl; (with_reducible repeat (first | refine blk_drewN ?_ _ | refine blk_drew ?_ | refine blk_alloc ?_ _)); exact BK11.out) hb); have n9_ := Aside0.mk (below_step (by repeat (first | (with_reducible first | exact HB.out | apply below_alloc | apply pw_below_drewN | apply below_drew1 | refine below_set ?_ GE3.out | refine below_set ?_ GE5.out | refine below_set ?_ GE11.out) | exact HB.out)) hb); obtain ⟨n8, hn8⟩ : ∃ n_ : Nat, n_ = w43.heap.size := ⟨_, rfl⟩; have szw : n7 ≤ _ := hsz0; have N8 : Aside0 (n7 ≤ n8) := ⟨Nat.le_trans szw (by rw [hn8]; exact hb.size)⟩; have n10_ := Aside0.mk (Kd.S_lower (Kd.S_mono (ok' := fun k_ => n7 ≤ k_ ∧ k_ < n8) (Kd.S_bound ho0) (fun k_ hk_ => ⟨Nat.le_trans szw hk_.2.1, Nat.lt_of_lt_of_le hk_.2.2.1 (Nat.le_of_eq hn8.symm)⟩)) (Nat.le_trans (Nat.le_trans Z0.out (Nat.le_trans (Nat.le_trans (Nat.le_trans (Nat.le_trans (Nat.le_trans (Nat.le_trans N1.out N2.out) N3.out) N4.out) N5.out) N6.out) N7.out)) szw)); have n11_ := Aside0.mk ((Nat.le_of_eq hn8 : n8 ≤ w43.heap.size)); clear HOv19 HOv20 HOv23 HOv31 HOv35 HOv36 BK3 BK5 BK11 HB SZ; have HOv19 := n0_; have HOv20 := n1_; have HOv23 := n2_; have HOv31 := n3_; have HOv35 := n4_; have HOv36 := n5_; have BK3 := n6_; have BK5 := n7_; have BK11 := n8_; have HB := n9_; have HOv44 := n10_; have SZ := n11_; clear n0_ n1_ n2_ n3_ n4_ n5_ n6_ n7_ n8_ n9_ n10_ n11_; clear szw hn8; clear hsz0; obtain ⟨Av44, cv44, eo_⟩ := Kd.S_slice HOv44.out; subst eo_; clear hb; (try clear ho0); (try clear hz0); have hcz45_0 : w43.cell? ⟨gb3, 0, none⟩ = some (.string a0_0) := (blk_cell BK3.out 0).trans rfl; have hcz45_1 : w43.cell? ⟨gb3, 1, none⟩ = some (.slice A0_1 l0_1.length c0_1) := (blk_cell BK3.out 1).trans rfl; have hcz45_2 : w43.cell? ⟨gb3, 2, none⟩ = some (.slice A0_2 l0_2.length c0_2) := (blk_cell BK3.out 2).trans rfl; have hcz46_0 : w43.cell? ⟨gb5, 0, none⟩ = some (.int .i64 a2_0) := (blk_cell BK5.out 0).trans rfl; have hcz46_1 : w43.cell? ⟨gb5, 1, none⟩ = some (.int .i64 a2_1) := (blk_cell BK5.out 1).trans rfl; have hcz47_0 : w43.cell? ⟨gb11, 0, none⟩ = some (.string r16) := (blk_cell BK11.out 0).trans rfl; have hcz47_1 : w43.cell? ⟨gb11, 1, none⟩ = some (.slice Av35 r17.length cv35) := (blk_cell BK11.out 1).trans rfl; have hcz47_2 : w43.cell? ⟨gb11, 2, none⟩ = some (.slice Av36 r18.length cv36) := (blk_cell BK11.out 2).trans rfl))
  have n0_ := Aside0.mk (Kd.R_drew HOv19.out)
  have n1_ := Aside0.mk (Kd.R_drew HOv20.out)
  have n2_ := Aside0.mk (Kd.S_drew HOv23.out)
  have n3_ := Aside0.mk (Kd.S_drew HOv31.out)
  have n4_ := Aside0.mk (Kd.R_drew HOv35.out)
  have n5_ := Aside0.mk (Kd.R_drew HOv36.out)
  have n6_ := Aside0.mk (Kd.S_drew HOv44.out)
  have n7_ := Aside0.mk (blk_drew BK3.out)
  have n8_ := Aside0.mk (blk_drew BK5.out)
  have n9_ := Aside0.mk (blk_drew BK11.out)
  have n10_ := Aside0.mk (below_drew1 HB.out)
  have n11_ := Aside0.mk ((show n8 ≤ w43.drew.heap.size from SZ.out))
  clear HOv19 HOv20 HOv23 HOv31 HOv35 HOv36 HOv44 BK3 BK5 BK11 HB SZ
  have HOv19 := n0_
  have HOv20 := n1_
  have HOv23 := n2_
  have HOv31 := n3_
  have HOv35 := n4_
  have HOv36 := n5_
  have HOv44 := n6_
  have BK3 := n7_
  have BK5 := n8_
  have BK11 := n9_
  have HB := n10_
  have SZ := n11_
  clear n0_ n1_ n2_ n3_ n4_ n5_ n6_ n7_ n8_ n9_ n10_ n11_
  refine start_ (n := 12) (S := fun w' => w'.cell? ⟨gb11, 0, none⟩ = some (.string r16) ∧ w'.cell? ⟨gb11, 1, none⟩ = some (.slice Av35 r17.length cv35) ∧ w'.cell? ⟨gb11, 2, none⟩ = some (.slice Av36 r18.length cv36) ∧ w'.cell? ⟨gb5, 0, none⟩ = some (.int .i64 a2_0) ∧ w'.cell? ⟨gb5, 1, none⟩ = some (.int .i64 a2_1)) (ds := []) #[false, false, false, false, false, false, false, false, false, false, false, false] (by kernel_rfl) rfl rfl ⟨(blk_cell BK11.out 0).trans rfl, (blk_cell BK11.out 1).trans rfl, (blk_cell BK11.out 2).trans rfl, (blk_cell BK5.out 0).trans rfl, (blk_cell BK5.out 1).trans rfl⟩ (fun hHeld => ?_)
  generalize w43.drew = w48 at HOv19 HOv20 HOv23 HOv31 HOv35 HOv36 HOv44 BK3 BK5 BK11 HB SZ hHeld ⊢
  refine take_ (i := 0) (N := some 48) (v := ?_) (a' := ?_) #[true, false, false, false, false, false, false, false, false, false, false, false] rfl rfl (by kernel_rfl) (fun _ _ _ h => h) (Or.inl ⟨by rfl, ?_⟩) hHeld ?_ ?_
  rotate_left
  · rintro w' ⟨s0, s1, s2, s3, s4⟩
    go_simp
    with_reducible rfl
  rotate_left
  · simp only [Act.put, List.setIfInBounds_toArray, List.set_cons_zero, List.set_cons_succ, i64_w, i32_w]
    rfl
  refine pure_ (i := 1) (N := some 49) (v := ?_) (a' := ?_) #[true, true, false, false, false, false, false, false, false, false, false, false] rfl rfl (by kernel_rfl) (fun _ _ _ h => h) (Or.inl ⟨by rfl, ?_⟩) ?_ ?_
  rotate_left
  · intro w'
    go_simp
    with_reducible rfl
  rotate_left
  · simp only [Act.put, List.setIfInBounds_toArray, List.set_cons_zero, List.set_cons_succ, i64_w, i32_w]
    rfl
  refine take_ (i := 2) (N := some 50) (v := ?_) (a' := ?_) #[true, true, true, false, false, false, false, false, false, false, false, false] rfl rfl (by kernel_rfl) (fun _ _ _ h => h) (Or.inl ⟨by rfl, ?_⟩) hHeld ?_ ?_
  rotate_left
  · rintro w' ⟨s0, s1, s2, s3, s4⟩
    go_simp
    with_reducible rfl
  rotate_left
  · simp only [Act.put, List.setIfInBounds_toArray, List.set_cons_zero, List.set_cons_succ, i64_w, i32_w]
    rfl
  refine one_ (i := 3) (N := some 51) #[true, true, true, true, false, false, false, false, false, false, false, false] rfl rfl (by kernel_rfl) (by decide) (fun K hK => ?_)
  refine goes_ Try.func34 (by kernel_rfl) rfl #[.agg #[.int .i64 a2_0, .int .i64 a2_1]] (by rfl) rfl rfl (by (try simp only [List.map_toArray, List.map_cons, List.map_nil]); first | done | rfl | (simp only [List.length_drop, List.length_take]; rfl)) ?_
  (with_reducible refine (laws_toMatrix.calls a2_0 a2_1 r25 r26 _ E7.out).mono ?_)
  rintro e w49 ⟨rfl, hb⟩
  refine ⟨_, rfl, ?_⟩
  have hsz0 : n8 ≤ _ := pre_size_b hb (by first | (with_reducible exact SZ.out) | (simp only [size_setCell_]; exact SZ.out) | exact SZ.out)
  have n0_ := Aside0.mk (Kd.R_below (by (with_reducible repeat (first | apply Kd.R_alloc | apply Kd.R_drewN | apply Kd.R_drew)); exact HOv19.out) hb)
  have n1_ := Aside0.mk (Kd.R_below (by (with_reducible repeat (first | apply Kd.R_alloc | apply Kd.R_drewN | apply Kd.R_drew)); exact HOv20.out) hb)
  have n2_ := Aside0.mk (Kd.S_below (by (with_reducible repeat (first | apply Kd.S_alloc | apply Kd.S_drewN | apply Kd.S_drew)); exact HOv23.out) hb)
  have n3_ := Aside0.mk (Kd.S_below (by (with_reducible repeat (first | apply Kd.S_alloc | apply Kd.S_drewN | apply Kd.S_drew)); exact HOv31.out) hb)
  have n4_ := Aside0.mk (Kd.R_below (by (with_reducible repeat (first | apply Kd.R_alloc | apply Kd.R_drewN | apply Kd.R_drew)); exact HOv35.out) hb)
  have n5_ := Aside0.mk (Kd.R_below (by (with_reducible repeat (first | apply Kd.R_alloc | apply Kd.R_drewN | apply Kd.R_drew)); exact HOv36.out) hb)
  have n6_ := Aside0.mk (Kd.S_below (by (with_reducible repeat (first | apply Kd.S_alloc | apply Kd.S_drewN | apply Kd.S_drew)); exact HOv44.out) hb)
  have n7_ := Aside0.mk (blk_below (g := gb3) (o := .cells #[.string a0_0, .slice A0_1 l0_1.length c0_1, .slice A0_2 l0_2.length c0_2] 42 (0, 0)) (by (with_reducible repeat (first | refine blk_drewN ?_ _ | refine blk_drew ?_ | refine blk_alloc ?_ _)); exact BK3.out) hb)
  have n8_ := Aside0.mk (blk_below (g := gb5) (o := .cells #[.int .i64 a2_0, .int .i64 a2_1] 48 (0, 0)) (by (with_reducible repeat (first | refine blk_drewN ?_ _ | refine blk_drew ?_ | refine blk_alloc ?_ _)); exact BK5.out) hb)
  have n9_ := Aside0.mk (blk_below (g := gb11) (o := .cells #[.string r16, .slice Av35 r17.length cv35, .slice Av36 r18.length cv36] 25 (0, 0)) (by (with_reducible repeat (first | refine blk_drewN ?_ _ | refine blk_drew ?_ | refine blk_alloc ?_ _)); exact BK11.out) hb)
  have n10_ := Aside0.mk (below_step (by repeat (first | (with_reducible first | exact HB.out | apply below_alloc | apply pw_below_drewN | apply below_drew1 | refine below_set ?_ GE3.out | refine below_set ?_ GE5.out | refine below_set ?_ GE11.out) | exact HB.out)) hb)
  have n11_ := Aside0.mk ((Nat.le_trans hsz0 hb.size : n8 ≤ w49.heap.size))
  clear HOv19 HOv20 HOv23 HOv31 HOv35 HOv36 HOv44 BK3 BK5 BK11 HB SZ
  have HOv19 := n0_
  have HOv20 := n1_
  have HOv23 := n2_
  have HOv31 := n3_
  have HOv35 := n4_
  have HOv36 := n5_
  have HOv44 := n6_
  have BK3 := n7_
  have BK5 := n8_
  have BK11 := n9_
  have HB := n10_
  have SZ := n11_
  clear n0_ n1_ n2_ n3_ n4_ n5_ n6_ n7_ n8_ n9_ n10_ n11_
  clear hsz0
  clear hb
  (try clear hz0)
  refine hK.out _ _ ⟨(blk_cell BK11.out 0).trans rfl, (blk_cell BK11.out 1).trans rfl, (blk_cell BK11.out 2).trans rfl, (blk_cell BK5.out 0).trans rfl, (blk_cell BK5.out 1).trans rfl⟩ (fun hHeld => ?_)
  clear hK K
  refine norm_ (a' := ?_) ?_ ?_
  rotate_left
  · show Act.put _ (some 51) _ = _
    simp only [Act.put, List.setIfInBounds_toArray, List.set_cons_zero, List.set_cons_succ, i64_w, i32_w]
    rfl
  refine one_ (i := 4) (N := some 52) #[true, true, true, true, true, false, false, false, false, false, false, false] rfl rfl (by kernel_rfl) (by decide) (fun K hK => ?_)
  refine goes_ Try.func23 (by kernel_rfl) rfl #[.agg #[.string r16, .slice Av35 r17.length cv35, .slice Av36 r18.length cv36], .slice Av44 r22.length cv44, .agg #[.int .i64 r25, .int .i64 r26]] (by rfl) rfl rfl (by (try simp only [List.map_toArray, List.map_cons, List.map_nil]); first | done | rfl | (simp only [List.length_drop, List.length_take]; rfl)) ?_
  (with_reducible refine (impl_DropMatrix.calls k r16 _ _ r17 _ _ r18 _ _ r22 r25 r26 r28 r29 r30 _ ?sd1 ?sd2 ?sd3 ?sd4 ?sd5 ?sd6 E9.out).mono ?_)
  (case sd1 => repeat (first | exact (Kd.R_reads' HOv35.out).2.2 | (with_reducible refine Kd.C_alloc ?_ _) | (with_reducible refine Kd.C_drewN ?_ _) | (with_reducible refine Kd.C_drew ?_)))
  (case sd2 => exact (Kd.R_reads' HOv35.out).2.1)
  (case sd3 => repeat (first | exact (Kd.R_reads' HOv36.out).2.2 | (with_reducible refine Kd.C_alloc ?_ _) | (with_reducible refine Kd.C_drewN ?_ _) | (with_reducible refine Kd.C_drew ?_)))
  (case sd4 => exact (Kd.R_reads' HOv36.out).2.1)
  (case sd5 => repeat (first | exact (Kd.S_reads' HOv44.out).2.2 | (with_reducible refine Kd.C_alloc ?_ _) | (with_reducible refine Kd.C_drewN ?_ _) | (with_reducible refine Kd.C_drew ?_)))
  (case sd6 => exact (Kd.S_reads' HOv44.out).2.1)
  rintro e w50 ⟨v51, rfl, ho0, hb⟩
  refine ⟨_, rfl, ?_⟩
  have hsz0 : n8 ≤ _ := pre_size_b hb (by first | (with_reducible exact SZ.out) | (simp only [size_setCell_]; exact SZ.out) | exact SZ.out)
  have n0_ := Aside0.mk (Kd.R_below (by (with_reducible repeat (first | apply Kd.R_alloc | apply Kd.R_drewN | apply Kd.R_drew)); exact HOv19.out) hb)
  have n1_ := Aside0.mk (Kd.R_below (by (with_reducible repeat (first | apply Kd.R_alloc | apply Kd.R_drewN | apply Kd.R_drew)); exact HOv20.out) hb)
  have n2_ := Aside0.mk (Kd.S_below (by (with_reducible repeat (first | apply Kd.S_alloc | apply Kd.S_drewN | apply Kd.S_drew)); exact HOv23.out) hb)
  have n3_ := Aside0.mk (Kd.S_below (by (with_reducible repeat (first | apply Kd.S_alloc | apply Kd.S_drewN | apply Kd.S_drew)); exact HOv31.out) hb)
  have n4_ := Aside0.mk (Kd.R_below (by (with_reducible repeat (first | apply Kd.R_alloc | apply Kd.R_drewN | apply Kd.R_drew)); exact HOv35.out) hb)
  have n5_ := Aside0.mk (Kd.R_below (by (with_reducible repeat (first | apply Kd.R_alloc | apply Kd.R_drewN | apply Kd.R_drew)); exact HOv36.out) hb)
  have n6_ := Aside0.mk (Kd.S_below (by (with_reducible repeat (first | apply Kd.S_alloc | apply Kd.S_drewN | apply Kd.S_drew)); exact HOv44.out) hb)
  have n7_ := Aside0.mk (blk_below (g := gb3) (o := .cells #[.string a0_0, .slice A0_1 l0_1.length c0_1, .slice A0_2 l0_2.length c0_2] 42 (0, 0)) (by (with_reducible repeat (first | refine blk_drewN ?_ _ | refine blk_drew ?_ | refine blk_alloc ?_ _)); exact BK3.out) hb)
  have n8_ := Aside0.mk (blk_below (g := gb5) (o := .cells #[.int .i64 a2_0, .int .i64 a2_1] 48 (0, 0)) (by (with_reducible repeat (first | refine blk_drewN ?_ _ | refine blk_drew ?_ | refine blk_alloc ?_ _)); exact BK5.out) hb)
  have n9_ := Aside0.mk (blk_below (g := gb11) (o := .cells #[.string r16, .slice Av35 r17.length cv35, .slice Av36 r18.length cv36] 25 (0, 0)) (by (with_reducible repeat (first | refine blk_drewN ?_ _ | refine blk_drew ?_ | refine blk_alloc ?_ _)); exact BK11.out) hb)
  have n10_ := Aside0.mk (below_step (by repeat (first | (with_reducible first | exact HB.out | apply below_alloc | apply pw_below_drewN | apply below_drew1 | refine below_set ?_ GE3.out | refine below_set ?_ GE5.out | refine below_set ?_ GE11.out) | exact HB.out)) hb)
  obtain ⟨n9, hn9⟩ : ∃ n_ : Nat, n_ = w50.heap.size := ⟨_, rfl⟩
  have szw : n8 ≤ _ := hsz0
  have N9 : Aside0 (n8 ≤ n9) := ⟨Nat.le_trans szw (by rw [hn9]; exact hb.size)⟩
  have n11_ := Aside0.mk (Kd.S_lower (Kd.S_mono (ok' := fun k_ => n8 ≤ k_ ∧ k_ < n9) (Kd.S_bound ho0) (fun k_ hk_ => ⟨Nat.le_trans szw hk_.2.1, Nat.lt_of_lt_of_le hk_.2.2.1 (Nat.le_of_eq hn9.symm)⟩)) (Nat.le_trans (Nat.le_trans Z0.out (Nat.le_trans (Nat.le_trans (Nat.le_trans (Nat.le_trans (Nat.le_trans (Nat.le_trans (Nat.le_trans N1.out N2.out) N3.out) N4.out) N5.out) N6.out) N7.out) N8.out)) szw))
  have n12_ := Aside0.mk ((Nat.le_of_eq hn9 : n9 ≤ w50.heap.size))
  clear HOv19 HOv20 HOv23 HOv31 HOv35 HOv36 HOv44 BK3 BK5 BK11 HB SZ
  have HOv19 := n0_
  have HOv20 := n1_
  have HOv23 := n2_
  have HOv31 := n3_
  have HOv35 := n4_
  have HOv36 := n5_
  have HOv44 := n6_
  have BK3 := n7_
  have BK5 := n8_
  have BK11 := n9_
  have HB := n10_
  have HOv51 := n11_
  have SZ := n12_
  clear n0_ n1_ n2_ n3_ n4_ n5_ n6_ n7_ n8_ n9_ n10_ n11_ n12_
  clear szw hn9
  clear hsz0
  obtain ⟨Av51, cv51, eo_⟩ := Kd.S_slice HOv51.out
  subst eo_
  clear hb
  (try clear ho0)
  (try clear hz0)
  refine hK.out _ _ ⟨(blk_cell BK11.out 0).trans rfl, (blk_cell BK11.out 1).trans rfl, (blk_cell BK11.out 2).trans rfl, (blk_cell BK5.out 0).trans rfl, (blk_cell BK5.out 1).trans rfl⟩ (fun hHeld => ?_)
  clear hK K
  refine norm_ (a' := ?_) ?_ ?_
  rotate_left
  · show Act.put _ (some 52) _ = _
    simp only [Act.put, List.setIfInBounds_toArray, List.set_cons_zero, List.set_cons_succ, i64_w, i32_w]
    rfl
  refine pure_ (i := 5) (N := some 47) (v := ?_) (a' := ?_) #[true, true, true, true, true, true, false, false, false, false, false, false] rfl rfl (by kernel_rfl) (fun _ _ _ h => h) (Or.inl ⟨by rfl, ?_⟩) ?_ ?_
  rotate_left
  · intro w'
    go_simp
    with_reducible rfl
  rotate_left
  · simp only [Act.put, List.setIfInBounds_toArray, List.set_cons_zero, List.set_cons_succ, i64_w, i32_w]
    rfl
  refine pure_ (i := 6) (N := some 53) (v := ?_) (a' := ?_) #[true, true, true, true, true, true, true, false, false, false, false, false] rfl rfl (by kernel_rfl) (fun _ _ _ h => h) (Or.inl ⟨by rfl, ?_⟩) ?_ ?_
  rotate_left
  · intro w'
    go_simp
    with_reducible rfl
  rotate_left
  · simp only [Act.put, List.setIfInBounds_toArray, List.set_cons_zero, List.set_cons_succ, i64_w, i32_w]
    rfl
  refine pure_ (i := 7) (N := some 54) (v := ?_) (a' := ?_) #[true, true, true, true, true, true, true, true, false, false, false, false] rfl rfl (by kernel_rfl) (fun _ _ _ h => h) (Or.inl ⟨by rfl, ?_⟩) ?_ ?_
  rotate_left
  · intro w'
    go_simp
    with_reducible rfl
  rotate_left
  · simp only [Act.put, List.setIfInBounds_toArray, List.set_cons_zero, List.set_cons_succ, i64_w, i32_w]
    rfl
  refine pure_ (i := 8) (N := some 55) (v := ?_) (a' := ?_) #[true, true, true, true, true, true, true, true, true, false, false, false] rfl rfl (by kernel_rfl) (fun _ _ _ h => h) (Or.inl ⟨by rfl, ?_⟩) ?_ ?_
  rotate_left
  · intro w'
    go_simp
    with_reducible rfl
  rotate_left
  · simp only [Act.put, List.setIfInBounds_toArray, List.set_cons_zero, List.set_cons_succ, i64_w, i32_w]
    rfl
  refine pure_ (i := 9) (N := some 13) (v := ?_) (a' := ?_) #[true, true, true, true, true, true, true, true, true, true, false, false] rfl rfl (by kernel_rfl) (fun _ _ _ h => h) (Or.inl ⟨by rfl, ?_⟩) ?_ ?_
  rotate_left
  · intro w'
    go_simp
    with_reducible rfl
  rotate_left
  · simp only [Act.put, List.setIfInBounds_toArray, List.set_cons_zero, List.set_cons_succ, i64_w, i32_w]
    rfl
  refine pure_ (i := 10) (N := some 14) (v := ?_) (a' := ?_) #[true, true, true, true, true, true, true, true, true, true, true, false] rfl rfl (by kernel_rfl) (fun _ _ _ h => h) (Or.inl ⟨by rfl, ?_⟩) ?_ ?_
  rotate_left
  · intro w'
    go_simp
    with_reducible rfl
  rotate_left
  · simp only [Act.put, List.setIfInBounds_toArray, List.set_cons_zero, List.set_cons_succ, i64_w, i32_w]
    rfl
  refine pure_ (i := 11) (N := some 15) (v := ?_) (a' := ?_) #[true, true, true, true, true, true, true, true, true, true, true, true] rfl rfl (by kernel_rfl) (fun _ _ _ h => h) (Or.inl ⟨by rfl, ?_⟩) ?_ ?_
  rotate_left
  · intro w'
    go_simp
    with_reducible rfl
  rotate_left
  · simp only [Act.put, List.setIfInBounds_toArray, List.set_cons_zero, List.set_cons_succ, i64_w, i32_w]
    rfl
  refine done_ (by kernel_rfl) ?_
  have hcz52_0 : w50.cell? ⟨gb3, 0, none⟩ = some (.string a0_0) := (blk_cell BK3.out 0).trans rfl
  have hcz52_1 : w50.cell? ⟨gb3, 1, none⟩ = some (.slice A0_1 l0_1.length c0_1) := (blk_cell BK3.out 1).trans rfl
  have hcz52_2 : w50.cell? ⟨gb3, 2, none⟩ = some (.slice A0_2 l0_2.length c0_2) := (blk_cell BK3.out 2).trans rfl
  have hcz53_0 : w50.cell? ⟨gb5, 0, none⟩ = some (.int .i64 a2_0) := (blk_cell BK5.out 0).trans rfl
  have hcz53_1 : w50.cell? ⟨gb5, 1, none⟩ = some (.int .i64 a2_1) := (blk_cell BK5.out 1).trans rfl
  have hcz54_0 : w50.cell? ⟨gb11, 0, none⟩ = some (.string r16) := (blk_cell BK11.out 0).trans rfl
  have hcz54_1 : w50.cell? ⟨gb11, 1, none⟩ = some (.slice Av35 r17.length cv35) := (blk_cell BK11.out 1).trans rfl
  have hcz54_2 : w50.cell? ⟨gb11, 2, none⟩ = some (.slice Av36 r18.length cv36) := (blk_cell BK11.out 2).trans rfl
  try go_wp2_with (first | ((with_reducible refine gate_callee (f := 45) rfl ?_); refine goesL_ (some 58) rfl rfl Try.func45 (by kernel_rfl) rfl #[.slice Av51 r28.length cv51, .slice Av31 r28.length cv31] rfl (by (try simp only [List.map_toArray, List.map_cons, List.map_nil]); first | done | rfl | (simp only [List.length_drop, List.length_take]; rfl)) ?_; (with_reducible refine (laws_eqMatrixSS.calls k _ _ r28 _ _ r28 true _ ?sd1 ?sd2 ?sd3 ?sd4 E10.out).mono ?_); (case sd1 => repeat (first | exact (Kd.S_reads' HOv51.out).2.2 | (with_reducible refine Kd.C_alloc ?_ _) | (with_reducible refine Kd.C_drewN ?_ _) | (with_reducible refine Kd.C_drew ?_))); (case sd2 => exact (Kd.S_reads' HOv51.out).2.1); (case sd3 => repeat (first | exact (Kd.S_reads' HOv31.out).2.2 | (with_reducible refine Kd.C_alloc ?_ _) | (with_reducible refine Kd.C_drewN ?_ _) | (with_reducible refine Kd.C_drew ?_))); (case sd4 => exact (Kd.S_reads' HOv31.out).2.1); rintro e w55 ⟨rfl, hb⟩; refine ⟨_, rfl, ?_⟩; have hsz0 : n9 ≤ _ := pre_size_b hb (by first | (with_reducible exact SZ.out) | (simp only [size_setCell_]; exact SZ.out) | exact SZ.out); have n0_ := Aside0.mk (Kd.R_below (by (with_reducible repeat (first | apply Kd.R_alloc | apply Kd.R_drewN | apply Kd.R_drew)); exact HOv19.out) hb); have n1_ := Aside0.mk (Kd.R_below (by (with_reducible repeat (first | apply Kd.R_alloc | apply Kd.R_drewN | apply Kd.R_drew)); exact HOv20.out) hb); have n2_ := Aside0.mk (Kd.S_below (by (with_reducible repeat (first | apply Kd.S_alloc | apply Kd.S_drewN | apply Kd.S_drew)); exact HOv23.out) hb); have n3_ := Aside0.mk (Kd.S_below (by (with_reducible repeat (first | apply Kd.S_alloc | apply Kd.S_drewN | apply Kd.S_drew)); exact HOv31.out) hb); have n4_ := Aside0.mk (Kd.R_below (by (with_reducible repeat (first | apply Kd.R_alloc | apply Kd.R_drewN | apply Kd.R_drew)); exact HOv35.out) hb); have n5_ := Aside0.mk (Kd.R_below (by (with_reducible repeat (first | apply Kd.R_alloc | apply Kd.R_drewN | apply Kd.R_drew)); exact HOv36.out) hb); have n6_ := Aside0.mk (Kd.S_below (by (with_reducible repeat (first | apply Kd.S_alloc | apply Kd.S_drewN | apply Kd.S_drew)); exact HOv44.out) hb); have n7_ := Aside0.mk (Kd.S_below (by (with_reducible repeat (first | apply Kd.S_alloc | apply Kd.S_drewN | apply Kd.S_drew)); exact HOv51.out) hb); have n8_ := Aside0.mk (blk_below (g := gb3) (o := .cells #[.string a0_0, .slice A0_1 l0_1.length c0_1, .slice A0_2 l0_2.length c0_2] 42 (0, 0)) (by (with_reducible repeat (first | refine blk_drewN ?_ _ | refine blk_drew ?_ | refine blk_alloc ?_ _)); exact BK3.out) hb); have n9_ := Aside0.mk (blk_below (g := gb5) (o := .cells #[.int .i64 a2_0, .int .i64 a2_1] 48 (0, 0)) (by (with_reducible repeat (first | refine blk_drewN ?_ _ | refine blk_drew ?_ | refine blk_alloc ?_ _)); exact BK5.out) hb); have n10_ := Aside0.mk (blk_below (g := gb11) (o := .cells #[.string r16, .slice Av35 r17.length cv35, .slice Av36 r18.length cv36] 25 (0, 0)) (by (with_reducible repeat (first | refine blk_drewN ?_ _ | refine blk_drew ?_ | refine blk_alloc ?_ _)); exact BK11.out) hb); have n11_ := Aside0.mk (below_step (by repeat (first | (with_reducible first | exact HB.out | apply below_alloc | apply pw_below_drewN | apply below_drew1 | refine below_set ?_ GE3.out | refine below_set ?_ GE5.out | refine below_set ?_ GE11.out) | exact HB.out)) hb); have n12_ := Aside0.mk ((Nat.le_trans hsz0 hb.size : n9 ≤ w55.heap.size)); clear HOv19 HOv20 HOv23 HOv31 HOv35 HOv36 HOv44 HOv51 BK3 BK5 BK11 HB SZ; have HOv19 := n0_; have HOv20 := n1_; have HOv23 := n2_; have HOv31 := n3_; have HOv35 := n4_; have HOv36 := n5_; have HOv44 := n6_; have HOv51 := n7_; have BK3 := n8_; have BK5 := n9_; have BK11 := n10_; have HB := n11_; have SZ := n12_; clear n0_ n1_ n2_ n3_ n4_ n5_ n6_ n7_ n8_ n9_ n10_ n11_ n12_; clear hsz0; clear hb; (try clear hz0); have hcz56_0 : w55.cell? ⟨gb3, 0, none⟩ = some (.string a0_0) := (blk_cell BK3.out 0).trans rfl; have hcz56_1 : w55.cell? ⟨gb3, 1, none⟩ = some (.slice A0_1 l0_1.length c0_1) := (blk_cell BK3.out 1).trans rfl; have hcz56_2 : w55.cell? ⟨gb3, 2, none⟩ = some (.slice A0_2 l0_2.length c0_2) := (blk_cell BK3.out 2).trans rfl; have hcz57_0 : w55.cell? ⟨gb5, 0, none⟩ = some (.int .i64 a2_0) := (blk_cell BK5.out 0).trans rfl; have hcz57_1 : w55.cell? ⟨gb5, 1, none⟩ = some (.int .i64 a2_1) := (blk_cell BK5.out 1).trans rfl; have hcz58_0 : w55.cell? ⟨gb11, 0, none⟩ = some (.string r16) := (blk_cell BK11.out 0).trans rfl; have hcz58_1 : w55.cell? ⟨gb11, 1, none⟩ = some (.slice Av35 r17.length cv35) := (blk_cell BK11.out 1).trans rfl; have hcz58_2 : w55.cell? ⟨gb11, 2, none⟩ = some (.slice Av36 r18.length cv36) := (blk_cell BK11.out 2).trans rfl))
  have n0_ := Aside0.mk (Kd.R_drew HOv19.out)
  have n1_ := Aside0.mk (Kd.R_drew HOv20.out)
  have n2_ := Aside0.mk (Kd.S_drew HOv23.out)
  have n3_ := Aside0.mk (Kd.S_drew HOv31.out)
  have n4_ := Aside0.mk (Kd.R_drew HOv35.out)
  have n5_ := Aside0.mk (Kd.R_drew HOv36.out)
  have n6_ := Aside0.mk (Kd.S_drew HOv44.out)
  have n7_ := Aside0.mk (Kd.S_drew HOv51.out)
  have n8_ := Aside0.mk (blk_drew BK3.out)
  have n9_ := Aside0.mk (blk_drew BK5.out)
  have n10_ := Aside0.mk (blk_drew BK11.out)
  have n11_ := Aside0.mk (below_drew1 HB.out)
  have n12_ := Aside0.mk ((show n9 ≤ w55.drew.heap.size from SZ.out))
  clear HOv19 HOv20 HOv23 HOv31 HOv35 HOv36 HOv44 HOv51 BK3 BK5 BK11 HB SZ
  have HOv19 := n0_
  have HOv20 := n1_
  have HOv23 := n2_
  have HOv31 := n3_
  have HOv35 := n4_
  have HOv36 := n5_
  have HOv44 := n6_
  have HOv51 := n7_
  have BK3 := n8_
  have BK5 := n9_
  have BK11 := n10_
  have HB := n11_
  have SZ := n12_
  clear n0_ n1_ n2_ n3_ n4_ n5_ n6_ n7_ n8_ n9_ n10_ n11_ n12_
  refine start_ (n := 5) (S := fun w' => w'.cell? ⟨gb11, 0, none⟩ = some (.string r16) ∧ w'.cell? ⟨gb11, 1, none⟩ = some (.slice Av35 r17.length cv35) ∧ w'.cell? ⟨gb11, 2, none⟩ = some (.slice Av36 r18.length cv36) ∧ w'.cell? ⟨gb3, 0, none⟩ = some (.string a0_0) ∧ w'.cell? ⟨gb3, 1, none⟩ = some (.slice A0_1 l0_1.length c0_1) ∧ w'.cell? ⟨gb3, 2, none⟩ = some (.slice A0_2 l0_2.length c0_2)) (ds := []) #[false, false, false, false, false] (by kernel_rfl) rfl rfl ⟨(blk_cell BK11.out 0).trans rfl, (blk_cell BK11.out 1).trans rfl, (blk_cell BK11.out 2).trans rfl, (blk_cell BK3.out 0).trans rfl, (blk_cell BK3.out 1).trans rfl, (blk_cell BK3.out 2).trans rfl⟩ (fun hHeld => ?_)
  generalize w55.drew = w59 at HOv19 HOv20 HOv23 HOv31 HOv35 HOv36 HOv44 HOv51 BK3 BK5 BK11 HB SZ hHeld ⊢
  refine take_ (i := 0) (N := some 70) (v := ?_) (a' := ?_) #[true, false, false, false, false] rfl rfl (by kernel_rfl) (fun _ _ _ h => h) (Or.inl ⟨by rfl, ?_⟩) hHeld ?_ ?_
  rotate_left
  · rintro w' ⟨s0, s1, s2, s3, s4, s5⟩
    go_simp
    with_reducible rfl
  rotate_left
  · simp only [Act.put, List.setIfInBounds_toArray, List.set_cons_zero, List.set_cons_succ, i64_w, i32_w]
    rfl
  refine take_ (i := 1) (N := some 71) (v := ?_) (a' := ?_) #[true, true, false, false, false] rfl rfl (by kernel_rfl) (fun _ _ _ h => h) (Or.inl ⟨by rfl, ?_⟩) hHeld ?_ ?_
  rotate_left
  · rintro w' ⟨s0, s1, s2, s3, s4, s5⟩
    go_simp
    with_reducible rfl
  rotate_left
  · simp only [Act.put, List.setIfInBounds_toArray, List.set_cons_zero, List.set_cons_succ, i64_w, i32_w]
    rfl
  refine one_ (i := 2) (N := some 72) #[true, true, true, false, false] rfl rfl (by kernel_rfl) (by decide) (fun K hK => ?_)
  refine goes_ Try.func30 (by kernel_rfl) rfl #[.agg #[.string a0_0, .slice A0_1 l0_1.length c0_1, .slice A0_2 l0_2.length c0_2]] (by rfl) rfl rfl (by (try simp only [List.map_toArray, List.map_cons, List.map_nil]); first | done | rfl | (simp only [List.length_drop, List.length_take]; rfl)) ?_
  (with_reducible refine (laws_toFont.calls k a0_0 _ _ l0_1 _ _ l0_2 r16 r17 r18 _ ?sd1 ?sd2 ?sd3 ?sd4 E5.out).mono ?_)
  (case sd1 => exact Kd.C_below HR0_1.out (by repeat (first | (with_reducible first | exact HB.out | apply below_alloc | apply pw_below_drewN | apply below_drew1 | refine below_set ?_ GE3.out | refine below_set ?_ GE5.out | refine below_set ?_ GE11.out) | exact HB.out)))
  (case sd2 => exact HC0_1.out)
  (case sd3 => exact Kd.C_below HR0_2.out (by repeat (first | (with_reducible first | exact HB.out | apply below_alloc | apply pw_below_drewN | apply below_drew1 | refine below_set ?_ GE3.out | refine below_set ?_ GE5.out | refine below_set ?_ GE11.out) | exact HB.out)))
  (case sd4 => exact HC0_2.out)
  rintro e w60 ⟨v61, v62, rfl, ho0, ho1, hb⟩
  refine ⟨_, rfl, ?_⟩
  have hsz0 : n9 ≤ _ := pre_size_b hb (by first | (with_reducible exact SZ.out) | (simp only [size_setCell_]; exact SZ.out) | exact SZ.out)
  have DJHOv61 : Aside0 (∀ k_, some k_ = (v61 : Value).ownBlock → ¬ some k_ = (v62 : Value).ownBlock) := ⟨fun k_ e_ e2_ => ho0.1 k_ e_.symm e2_⟩
  have n0_ := Aside0.mk (Kd.R_below (by (with_reducible repeat (first | apply Kd.R_alloc | apply Kd.R_drewN | apply Kd.R_drew)); exact HOv19.out) hb)
  have n1_ := Aside0.mk (Kd.R_below (by (with_reducible repeat (first | apply Kd.R_alloc | apply Kd.R_drewN | apply Kd.R_drew)); exact HOv20.out) hb)
  have n2_ := Aside0.mk (Kd.S_below (by (with_reducible repeat (first | apply Kd.S_alloc | apply Kd.S_drewN | apply Kd.S_drew)); exact HOv23.out) hb)
  have n3_ := Aside0.mk (Kd.S_below (by (with_reducible repeat (first | apply Kd.S_alloc | apply Kd.S_drewN | apply Kd.S_drew)); exact HOv31.out) hb)
  have n4_ := Aside0.mk (Kd.R_below (by (with_reducible repeat (first | apply Kd.R_alloc | apply Kd.R_drewN | apply Kd.R_drew)); exact HOv35.out) hb)
  have n5_ := Aside0.mk (Kd.R_below (by (with_reducible repeat (first | apply Kd.R_alloc | apply Kd.R_drewN | apply Kd.R_drew)); exact HOv36.out) hb)
  have n6_ := Aside0.mk (Kd.S_below (by (with_reducible repeat (first | apply Kd.S_alloc | apply Kd.S_drewN | apply Kd.S_drew)); exact HOv44.out) hb)
  have n7_ := Aside0.mk (Kd.S_below (by (with_reducible repeat (first | apply Kd.S_alloc | apply Kd.S_drewN | apply Kd.S_drew)); exact HOv51.out) hb)
  have n8_ := Aside0.mk (blk_below (g := gb3) (o := .cells #[.string a0_0, .slice A0_1 l0_1.length c0_1, .slice A0_2 l0_2.length c0_2] 42 (0, 0)) (by (with_reducible repeat (first | refine blk_drewN ?_ _ | refine blk_drew ?_ | refine blk_alloc ?_ _)); exact BK3.out) hb)
  have n9_ := Aside0.mk (blk_below (g := gb5) (o := .cells #[.int .i64 a2_0, .int .i64 a2_1] 48 (0, 0)) (by (with_reducible repeat (first | refine blk_drewN ?_ _ | refine blk_drew ?_ | refine blk_alloc ?_ _)); exact BK5.out) hb)
  have n10_ := Aside0.mk (blk_below (g := gb11) (o := .cells #[.string r16, .slice Av35 r17.length cv35, .slice Av36 r18.length cv36] 25 (0, 0)) (by (with_reducible repeat (first | refine blk_drewN ?_ _ | refine blk_drew ?_ | refine blk_alloc ?_ _)); exact BK11.out) hb)
  have n11_ := Aside0.mk (below_step (by repeat (first | (with_reducible first | exact HB.out | apply below_alloc | apply pw_below_drewN | apply below_drew1 | refine below_set ?_ GE3.out | refine below_set ?_ GE5.out | refine below_set ?_ GE11.out) | exact HB.out)) hb)
  obtain ⟨n10, hn10⟩ : ∃ n_ : Nat, n_ = w60.heap.size := ⟨_, rfl⟩
  have szw : n9 ≤ _ := hsz0
  have N10 : Aside0 (n9 ≤ n10) := ⟨Nat.le_trans szw (by rw [hn10]; exact hb.size)⟩
  have n12_ := Aside0.mk (Kd.R_lower (Kd.R_mono (ok' := fun k_ => n9 ≤ k_ ∧ k_ < n10) (Kd.R_bound ho0) (fun k_ hk_ => ⟨Nat.le_trans szw hk_.2.1, Nat.lt_of_lt_of_le hk_.2.2.1 (Nat.le_of_eq hn10.symm)⟩)) (Nat.le_trans (Nat.le_trans Z0.out (Nat.le_trans (Nat.le_trans (Nat.le_trans (Nat.le_trans (Nat.le_trans (Nat.le_trans (Nat.le_trans (Nat.le_trans N1.out N2.out) N3.out) N4.out) N5.out) N6.out) N7.out) N8.out) N9.out)) szw))
  have n13_ := Aside0.mk (Kd.R_lower (Kd.R_mono (ok' := fun k_ => n9 ≤ k_ ∧ k_ < n10) (Kd.R_bound ho1) (fun k_ hk_ => ⟨Nat.le_trans szw hk_.2.1, Nat.lt_of_lt_of_le hk_.2.2.1 (Nat.le_of_eq hn10.symm)⟩)) (Nat.le_trans (Nat.le_trans Z0.out (Nat.le_trans (Nat.le_trans (Nat.le_trans (Nat.le_trans (Nat.le_trans (Nat.le_trans (Nat.le_trans (Nat.le_trans N1.out N2.out) N3.out) N4.out) N5.out) N6.out) N7.out) N8.out) N9.out)) szw))
  have n14_ := Aside0.mk ((Nat.le_of_eq hn10 : n10 ≤ w60.heap.size))
  clear HOv19 HOv20 HOv23 HOv31 HOv35 HOv36 HOv44 HOv51 BK3 BK5 BK11 HB SZ
  have HOv19 := n0_
  have HOv20 := n1_
  have HOv23 := n2_
  have HOv31 := n3_
  have HOv35 := n4_
  have HOv36 := n5_
  have HOv44 := n6_
  have HOv51 := n7_
  have BK3 := n8_
  have BK5 := n9_
  have BK11 := n10_
  have HB := n11_
  have HOv61 := n12_
  have HOv62 := n13_
  have SZ := n14_
  clear n0_ n1_ n2_ n3_ n4_ n5_ n6_ n7_ n8_ n9_ n10_ n11_ n12_ n13_ n14_
  clear szw hn10
  clear hsz0
  obtain ⟨Av61, cv61, eo_⟩ := Kd.R_slice HOv61.out
  subst eo_
  obtain ⟨Av62, cv62, eo_⟩ := Kd.R_slice HOv62.out
  subst eo_
  clear hb
  (try clear ho0)
  (try clear ho1)
  (try clear hz0)
  refine hK.out _ _ ⟨(blk_cell BK11.out 0).trans rfl, (blk_cell BK11.out 1).trans rfl, (blk_cell BK11.out 2).trans rfl, (blk_cell BK3.out 0).trans rfl, (blk_cell BK3.out 1).trans rfl, (blk_cell BK3.out 2).trans rfl⟩ (fun hHeld => ?_)
  clear hK K
  refine norm_ (a' := ?_) ?_ ?_
  rotate_left
  · show Act.put _ (some 72) _ = _
    simp only [Act.put, List.setIfInBounds_toArray, List.set_cons_zero, List.set_cons_succ, i64_w, i32_w]
    rfl
  refine one_ (i := 3) (N := some 73) #[true, true, true, true, false] rfl rfl (by kernel_rfl) (by decide) (fun K hK => ?_)
  refine goes_ Try.func32 (by kernel_rfl) rfl #[.agg #[.string r16, .slice Av35 r17.length cv35, .slice Av36 r18.length cv36], .agg #[.string r16, .slice Av61 r17.length cv61, .slice Av62 r18.length cv62]] (by rfl) rfl rfl (by (try simp only [List.map_toArray, List.map_cons, List.map_nil]); first | done | rfl | (simp only [List.length_drop, List.length_take]; rfl)) ?_
  (with_reducible refine (laws_eqFont.calls k r16 _ _ r17 _ _ r18 r16 _ _ r17 _ _ r18 true _ ?sd1 ?sd2 ?sd3 ?sd4 ?sd5 ?sd6 ?sd7 ?sd8 E11.out).mono ?_)
  (case sd1 => repeat (first | exact (Kd.R_reads' HOv35.out).2.2 | (with_reducible refine Kd.C_alloc ?_ _) | (with_reducible refine Kd.C_drewN ?_ _) | (with_reducible refine Kd.C_drew ?_)))
  (case sd2 => exact (Kd.R_reads' HOv35.out).2.1)
  (case sd3 => repeat (first | exact (Kd.R_reads' HOv36.out).2.2 | (with_reducible refine Kd.C_alloc ?_ _) | (with_reducible refine Kd.C_drewN ?_ _) | (with_reducible refine Kd.C_drew ?_)))
  (case sd4 => exact (Kd.R_reads' HOv36.out).2.1)
  (case sd5 => repeat (first | exact (Kd.R_reads' HOv61.out).2.2 | (with_reducible refine Kd.C_alloc ?_ _) | (with_reducible refine Kd.C_drewN ?_ _) | (with_reducible refine Kd.C_drew ?_)))
  (case sd6 => exact (Kd.R_reads' HOv61.out).2.1)
  (case sd7 => repeat (first | exact (Kd.R_reads' HOv62.out).2.2 | (with_reducible refine Kd.C_alloc ?_ _) | (with_reducible refine Kd.C_drewN ?_ _) | (with_reducible refine Kd.C_drew ?_)))
  (case sd8 => exact (Kd.R_reads' HOv62.out).2.1)
  rintro e w63 ⟨rfl, hb⟩
  refine ⟨_, rfl, ?_⟩
  have hsz0 : n10 ≤ _ := pre_size_b hb (by first | (with_reducible exact SZ.out) | (simp only [size_setCell_]; exact SZ.out) | exact SZ.out)
  have n0_ := Aside0.mk (Kd.R_below (by (with_reducible repeat (first | apply Kd.R_alloc | apply Kd.R_drewN | apply Kd.R_drew)); exact HOv19.out) hb)
  have n1_ := Aside0.mk (Kd.R_below (by (with_reducible repeat (first | apply Kd.R_alloc | apply Kd.R_drewN | apply Kd.R_drew)); exact HOv20.out) hb)
  have n2_ := Aside0.mk (Kd.S_below (by (with_reducible repeat (first | apply Kd.S_alloc | apply Kd.S_drewN | apply Kd.S_drew)); exact HOv23.out) hb)
  have n3_ := Aside0.mk (Kd.S_below (by (with_reducible repeat (first | apply Kd.S_alloc | apply Kd.S_drewN | apply Kd.S_drew)); exact HOv31.out) hb)
  have n4_ := Aside0.mk (Kd.R_below (by (with_reducible repeat (first | apply Kd.R_alloc | apply Kd.R_drewN | apply Kd.R_drew)); exact HOv35.out) hb)
  have n5_ := Aside0.mk (Kd.R_below (by (with_reducible repeat (first | apply Kd.R_alloc | apply Kd.R_drewN | apply Kd.R_drew)); exact HOv36.out) hb)
  have n6_ := Aside0.mk (Kd.S_below (by (with_reducible repeat (first | apply Kd.S_alloc | apply Kd.S_drewN | apply Kd.S_drew)); exact HOv44.out) hb)
  have n7_ := Aside0.mk (Kd.S_below (by (with_reducible repeat (first | apply Kd.S_alloc | apply Kd.S_drewN | apply Kd.S_drew)); exact HOv51.out) hb)
  have n8_ := Aside0.mk (Kd.R_below (by (with_reducible repeat (first | apply Kd.R_alloc | apply Kd.R_drewN | apply Kd.R_drew)); exact HOv61.out) hb)
  have n9_ := Aside0.mk (Kd.R_below (by (with_reducible repeat (first | apply Kd.R_alloc | apply Kd.R_drewN | apply Kd.R_drew)); exact HOv62.out) hb)
  have n10_ := Aside0.mk (blk_below (g := gb3) (o := .cells #[.string a0_0, .slice A0_1 l0_1.length c0_1, .slice A0_2 l0_2.length c0_2] 42 (0, 0)) (by (with_reducible repeat (first | refine blk_drewN ?_ _ | refine blk_drew ?_ | refine blk_alloc ?_ _)); exact BK3.out) hb)
  have n11_ := Aside0.mk (blk_below (g := gb5) (o := .cells #[.int .i64 a2_0, .int .i64 a2_1] 48 (0, 0)) (by (with_reducible repeat (first | refine blk_drewN ?_ _ | refine blk_drew ?_ | refine blk_alloc ?_ _)); exact BK5.out) hb)
  have n12_ := Aside0.mk (blk_below (g := gb11) (o := .cells #[.string r16, .slice Av35 r17.length cv35, .slice Av36 r18.length cv36] 25 (0, 0)) (by (with_reducible repeat (first | refine blk_drewN ?_ _ | refine blk_drew ?_ | refine blk_alloc ?_ _)); exact BK11.out) hb)
  have n13_ := Aside0.mk (below_step (by repeat (first | (with_reducible first | exact HB.out | apply below_alloc | apply pw_below_drewN | apply below_drew1 | refine below_set ?_ GE3.out | refine below_set ?_ GE5.out | refine below_set ?_ GE11.out) | exact HB.out)) hb)
  have n14_ := Aside0.mk ((Nat.le_trans hsz0 hb.size : n10 ≤ w63.heap.size))
  clear HOv19 HOv20 HOv23 HOv31 HOv35 HOv36 HOv44 HOv51 HOv61 HOv62 BK3 BK5 BK11 HB SZ
  have HOv19 := n0_
  have HOv20 := n1_
  have HOv23 := n2_
  have HOv31 := n3_
  have HOv35 := n4_
  have HOv36 := n5_
  have HOv44 := n6_
  have HOv51 := n7_
  have HOv61 := n8_
  have HOv62 := n9_
  have BK3 := n10_
  have BK5 := n11_
  have BK11 := n12_
  have HB := n13_
  have SZ := n14_
  clear n0_ n1_ n2_ n3_ n4_ n5_ n6_ n7_ n8_ n9_ n10_ n11_ n12_ n13_ n14_
  clear hsz0
  clear hb
  (try clear hz0)
  refine hK.out _ _ ⟨(blk_cell BK11.out 0).trans rfl, (blk_cell BK11.out 1).trans rfl, (blk_cell BK11.out 2).trans rfl, (blk_cell BK3.out 0).trans rfl, (blk_cell BK3.out 1).trans rfl, (blk_cell BK3.out 2).trans rfl⟩ (fun hHeld => ?_)
  clear hK K
  refine norm_ (a' := ?_) ?_ ?_
  rotate_left
  · show Act.put _ (some 73) _ = _
    simp only [Act.put, List.setIfInBounds_toArray, List.set_cons_zero, List.set_cons_succ, i64_w, i32_w]
    rfl
  refine pure_ (i := 4) (N := some 74) (v := ?_) (a' := ?_) #[true, true, true, true, true] rfl rfl (by kernel_rfl) (fun _ _ _ h => h) (Or.inl ⟨by rfl, ?_⟩) ?_ ?_
  rotate_left
  · intro w'
    go_simp
    with_reducible rfl
  rotate_left
  · simp only [Act.put, List.setIfInBounds_toArray, List.set_cons_zero, List.set_cons_succ, i64_w, i32_w]
    rfl
  refine done_ (by kernel_rfl) ?_
  have hcz64_0 : w63.cell? ⟨gb3, 0, none⟩ = some (.string a0_0) := (blk_cell BK3.out 0).trans rfl
  have hcz64_1 : w63.cell? ⟨gb3, 1, none⟩ = some (.slice A0_1 l0_1.length c0_1) := (blk_cell BK3.out 1).trans rfl
  have hcz64_2 : w63.cell? ⟨gb3, 2, none⟩ = some (.slice A0_2 l0_2.length c0_2) := (blk_cell BK3.out 2).trans rfl
  have hcz65_0 : w63.cell? ⟨gb5, 0, none⟩ = some (.int .i64 a2_0) := (blk_cell BK5.out 0).trans rfl
  have hcz65_1 : w63.cell? ⟨gb5, 1, none⟩ = some (.int .i64 a2_1) := (blk_cell BK5.out 1).trans rfl
  have hcz66_0 : w63.cell? ⟨gb11, 0, none⟩ = some (.string r16) := (blk_cell BK11.out 0).trans rfl
  have hcz66_1 : w63.cell? ⟨gb11, 1, none⟩ = some (.slice Av35 r17.length cv35) := (blk_cell BK11.out 1).trans rfl
  have hcz66_2 : w63.cell? ⟨gb11, 2, none⟩ = some (.slice Av36 r18.length cv36) := (blk_cell BK11.out 2).trans rfl
  try go_wp2_with (first | ((with_reducible refine gate_callee (f := 43) rfl ?_); refine goesL_ (some 77) rfl rfl Try.func43 (by kernel_rfl) rfl #[.slice A1 l1.length c1] rfl (by (try simp only [List.map_toArray, List.map_cons, List.map_nil]); first | done | rfl | (simp only [List.length_drop, List.length_take]; rfl)) ?_; (with_reducible refine (laws_toMatrixSS.calls k _ _ l1 r22 _ ?sd1 ?sd2 E6.out).mono ?_); (case sd1 => exact Kd.C_below HR1.out (by repeat (first | (with_reducible first | exact HB.out | apply below_alloc | apply pw_below_drewN | apply below_drew1 | refine below_set ?_ GE3.out | refine below_set ?_ GE5.out | refine below_set ?_ GE11.out) | exact HB.out))); (case sd2 => exact HC1.out); rintro e w67 ⟨v68, rfl, ho0, hb⟩; refine ⟨_, rfl, ?_⟩; have hsz0 : n10 ≤ _ := pre_size_b hb (by first | (with_reducible exact SZ.out) | (simp only [size_setCell_]; exact SZ.out) | exact SZ.out); have n0_ := Aside0.mk (Kd.R_below (by (with_reducible repeat (first | apply Kd.R_alloc | apply Kd.R_drewN | apply Kd.R_drew)); exact HOv19.out) hb); have n1_ := Aside0.mk (Kd.R_below (by (with_reducible repeat (first | apply Kd.R_alloc | apply Kd.R_drewN | apply Kd.R_drew)); exact HOv20.out) hb); have n2_ := Aside0.mk (Kd.S_below (by (with_reducible repeat (first | apply Kd.S_alloc | apply Kd.S_drewN | apply Kd.S_drew)); exact HOv23.out) hb); have n3_ := Aside0.mk (Kd.S_below (by (with_reducible repeat (first | apply Kd.S_alloc | apply Kd.S_drewN | apply Kd.S_drew)); exact HOv31.out) hb); have n4_ := Aside0.mk (Kd.R_below (by (with_reducible repeat (first | apply Kd.R_alloc | apply Kd.R_drewN | apply Kd.R_drew)); exact HOv35.out) hb); have n5_ := Aside0.mk (Kd.R_below (by (with_reducible repeat (first | apply Kd.R_alloc | apply Kd.R_drewN | apply Kd.R_drew)); exact HOv36.out) hb); have n6_ := Aside0.mk (Kd.S_below (by (with_reducible repeat (first | apply Kd.S_alloc | apply Kd.S_drewN | apply Kd.S_drew)); exact HOv44.out) hb); have n7_ := Aside0.mk (Kd.S_below (by (with_reducible repeat (first | apply Kd.S_alloc | apply Kd.S_drewN | apply Kd.S_drew)); exact HOv51.out) hb); have n8_ := Aside0.mk (Kd.R_below (by (with_reducible repeat (first | apply Kd.R_alloc | apply Kd.R_drewN | apply Kd.R_drew)); exact HOv61.out) hb); have n9_ := Aside0.mk (Kd.R_below (by (with_reducible repeat (first | apply Kd.R_alloc | apply Kd.R_drewN | apply Kd.R_drew)); exact HOv62.out) hb); have n10_ := Aside0.mk (blk_below (g := gb3) (o := .cells #[.string a0_0, .slice A0_1 l0_1.length c0_1, .slice A0_2 l0_2.length c0_2] 42 (0, 0)) (by (with_reducible repeat (first | refine blk_drewN ?_ _ | refine blk_drew ?_ | refine blk_alloc ?_ _)); exact BK3.out) hb); have n11_ := Aside0.mk (blk_below (g := gb5) (o := .cells #[.int .i64 a2_0, .int .i64 a2_1] 48 (0, 0)) (by (with_reducible repeat (first | refine blk_drewN ?_ _ | refine blk_drew ?_ | refine blk_alloc ?_ _)); exact BK5.out) hb); have n12_ := Aside0.mk (blk_below (g := gb11) (o := .cells #[.string r16, .slice Av35 r17.length cv35, .slice Av36 r18.length cv36] 25 (0, 0)) (by (with_reducible repeat (first | refine blk_drewN ?_ _ | refine blk_drew ?_ | refine blk_alloc ?_ _)); exact BK11.out) hb); have n13_ := Aside0.mk (below_step (by repeat (first | (with_reducible first | exact HB.out | apply below_alloc | apply pw_below_drewN | apply below_drew1 | refine below_set ?_ GE3.out | refine below_set ?_ GE5.out | refine below_set ?_ GE11.out) | exact HB.out)) hb); obtain ⟨n11, hn11⟩ : ∃ n_ : Nat, n_ = w67.heap.size := ⟨_, rfl⟩; have szw : n10 ≤ _ := hsz0; have N11 : Aside0 (n10 ≤ n11) := ⟨Nat.le_trans szw (by rw [hn11]; exact hb.size)⟩; have n14_ := Aside0.mk (Kd.S_lower (Kd.S_mono (ok' := fun k_ => n10 ≤ k_ ∧ k_ < n11) (Kd.S_bound ho0) (fun k_ hk_ => ⟨Nat.le_trans szw hk_.2.1, Nat.lt_of_lt_of_le hk_.2.2.1 (Nat.le_of_eq hn11.symm)⟩)) (Nat.le_trans (Nat.le_trans Z0.out (Nat.le_trans (Nat.le_trans (Nat.le_trans (Nat.le_trans (Nat.le_trans (Nat.le_trans (Nat.le_trans (Nat.le_trans (Nat.le_trans N1.out N2.out) N3.out) N4.out) N5.out) N6.out) N7.out) N8.out) N9.out) N10.out)) szw)); have n15_ := Aside0.mk ((Nat.le_of_eq hn11 : n11 ≤ w67.heap.size)); clear HOv19 HOv20 HOv23 HOv31 HOv35 HOv36 HOv44 HOv51 HOv61 HOv62 BK3 BK5 BK11 HB SZ; have HOv19 := n0_; have HOv20 := n1_; have HOv23 := n2_; have HOv31 := n3_; have HOv35 := n4_; have HOv36 := n5_; have HOv44 := n6_; have HOv51 := n7_; have HOv61 := n8_; have HOv62 := n9_; have BK3 := n10_; have BK5 := n11_; have BK11 := n12_; have HB := n13_; have HOv68 := n14_; have SZ := n15_; clear n0_ n1_ n2_ n3_ n4_ n5_ n6_ n7_ n8_ n9_ n10_ n11_ n12_ n13_ n14_ n15_; clear szw hn11; clear hsz0; obtain ⟨Av68, cv68, eo_⟩ := Kd.S_slice HOv68.out; subst eo_; clear hb; (try clear ho0); (try clear hz0); have hcz69_0 : w67.cell? ⟨gb3, 0, none⟩ = some (.string a0_0) := (blk_cell BK3.out 0).trans rfl; have hcz69_1 : w67.cell? ⟨gb3, 1, none⟩ = some (.slice A0_1 l0_1.length c0_1) := (blk_cell BK3.out 1).trans rfl; have hcz69_2 : w67.cell? ⟨gb3, 2, none⟩ = some (.slice A0_2 l0_2.length c0_2) := (blk_cell BK3.out 2).trans rfl; have hcz70_0 : w67.cell? ⟨gb5, 0, none⟩ = some (.int .i64 a2_0) := (blk_cell BK5.out 0).trans rfl; have hcz70_1 : w67.cell? ⟨gb5, 1, none⟩ = some (.int .i64 a2_1) := (blk_cell BK5.out 1).trans rfl; have hcz71_0 : w67.cell? ⟨gb11, 0, none⟩ = some (.string r16) := (blk_cell BK11.out 0).trans rfl; have hcz71_1 : w67.cell? ⟨gb11, 1, none⟩ = some (.slice Av35 r17.length cv35) := (blk_cell BK11.out 1).trans rfl; have hcz71_2 : w67.cell? ⟨gb11, 2, none⟩ = some (.slice Av36 r18.length cv36) := (blk_cell BK11.out 2).trans rfl) | ((with_reducible refine gate_callee (f := 45) rfl ?_); refine goesL_ (some 78) rfl rfl Try.func45 (by kernel_rfl) rfl #[.slice Av44 r22.length cv44, .slice Av68 r22.length cv68] rfl (by (try simp only [List.map_toArray, List.map_cons, List.map_nil]); first | done | rfl | (simp only [List.length_drop, List.length_take]; rfl)) ?_; (with_reducible refine (laws_eqMatrixSS.calls k _ _ r22 _ _ r22 true _ ?sd1 ?sd2 ?sd3 ?sd4 E12.out).mono ?_); (case sd1 => repeat (first | exact (Kd.S_reads' HOv44.out).2.2 | (with_reducible refine Kd.C_alloc ?_ _) | (with_reducible refine Kd.C_drewN ?_ _) | (with_reducible refine Kd.C_drew ?_))); (case sd2 => exact (Kd.S_reads' HOv44.out).2.1); (case sd3 => repeat (first | exact (Kd.S_reads' HOv68.out).2.2 | (with_reducible refine Kd.C_alloc ?_ _) | (with_reducible refine Kd.C_drewN ?_ _) | (with_reducible refine Kd.C_drew ?_))); (case sd4 => exact (Kd.S_reads' HOv68.out).2.1); rintro e w72 ⟨rfl, hb⟩; refine ⟨_, rfl, ?_⟩; have hsz0 : n11 ≤ _ := pre_size_b hb (by first | (with_reducible exact SZ.out) | (simp only [size_setCell_]; exact SZ.out) | exact SZ.out); have n0_ := Aside0.mk (Kd.R_below (by (with_reducible repeat (first | apply Kd.R_alloc | apply Kd.R_drewN | apply Kd.R_drew)); exact HOv19.out) hb); have n1_ := Aside0.mk (Kd.R_below (by (with_reducible repeat (first | apply Kd.R_alloc | apply Kd.R_drewN | apply Kd.R_drew)); exact HOv20.out) hb); have n2_ := Aside0.mk (Kd.S_below (by (with_reducible repeat (first | apply Kd.S_alloc | apply Kd.S_drewN | apply Kd.S_drew)); exact HOv23.out) hb); have n3_ := Aside0.mk (Kd.S_below (by (with_reducible repeat (first | apply Kd.S_alloc | apply Kd.S_drewN | apply Kd.S_drew)); exact HOv31.out) hb); have n4_ := Aside0.mk (Kd.R_below (by (with_reducible repeat (first | apply Kd.R_alloc | apply Kd.R_drewN | apply Kd.R_drew)); exact HOv35.out) hb); have n5_ := Aside0.mk (Kd.R_below (by (with_reducible repeat (first | apply Kd.R_alloc | apply Kd.R_drewN | apply Kd.R_drew)); exact HOv36.out) hb); have n6_ := Aside0.mk (Kd.S_below (by (with_reducible repeat (first | apply Kd.S_alloc | apply Kd.S_drewN | apply Kd.S_drew)); exact HOv44.out) hb); have n7_ := Aside0.mk (Kd.S_below (by (with_reducible repeat (first | apply Kd.S_alloc | apply Kd.S_drewN | apply Kd.S_drew)); exact HOv51.out) hb); have n8_ := Aside0.mk (Kd.R_below (by (with_reducible repeat (first | apply Kd.R_alloc | apply Kd.R_drewN | apply Kd.R_drew)); exact HOv61.out) hb); have n9_ := Aside0.mk (Kd.R_below (by (with_reducible repeat (first | apply Kd.R_alloc | apply Kd.R_drewN | apply Kd.R_drew)); exact HOv62.out) hb); have n10_ := Aside0.mk (Kd.S_below (by (with_reducible repeat (first | apply Kd.S_alloc | apply Kd.S_drewN | apply Kd.S_drew)); exact HOv68.out) hb); have n11_ := Aside0.mk (blk_below (g := gb3) (o := .cells #[.string a0_0, .slice A0_1 l0_1.length c0_1, .slice A0_2 l0_2.length c0_2] 42 (0, 0)) (by (with_reducible repeat (first | refine blk_drewN ?_ _ | refine blk_drew ?_ | refine blk_alloc ?_ _)); exact BK3.out) hb); have n12_ := Aside0.mk (blk_below (g := gb5) (o := .cells #[.int .i64 a2_0, .int .i64 a2_1] 48 (0, 0)) (by (with_reducible repeat (first | refine blk_drewN ?_ _ | refine blk_drew ?_ | refine blk_alloc ?_ _)); exact BK5.out) hb); have n13_ := Aside0.mk (blk_below (g := gb11) (o := .cells #[.string r16, .slice Av35 r17.length cv35, .slice Av36 r18.length cv36] 25 (0, 0)) (by (with_reducible repeat (first | refine blk_drewN ?_ _ | refine blk_drew ?_ | refine blk_alloc ?_ _)); exact BK11.out) hb); have n14_ := Aside0.mk (below_step (by repeat (first | (with_reducible first | exact HB.out | apply below_alloc | apply pw_below_drewN | apply below_drew1 | refine below_set ?_ GE3.out | refine below_set ?_ GE5.out | refine below_set ?_ GE11.out) | exact HB.out)) hb); have n15_ := Aside0.mk ((Nat.le_trans hsz0 hb.size : n11 ≤ w72.heap.size)); clear HOv19 HOv20 HOv23 HOv31 HOv35 HOv36 HOv44 HOv51 HOv61 HOv62 HOv68 BK3 BK5 BK11 HB SZ; have HOv19 := n0_; have HOv20 := n1_; have HOv23 := n2_; have HOv31 := n3_; have HOv35 := n4_; have HOv36 := n5_; have HOv44 := n6_; have HOv51 := n7_; have HOv61 := n8_; have HOv62 := n9_; have HOv68 := n10_; have BK3 := n11_; have BK5 := n12_; have BK11 := n13_; have HB := n14_; have SZ := n15_; clear n0_ n1_ n2_ n3_ n4_ n5_ n6_ n7_ n8_ n9_ n10_ n11_ n12_ n13_ n14_ n15_; clear hsz0; clear hb; (try clear hz0); have hcz73_0 : w72.cell? ⟨gb3, 0, none⟩ = some (.string a0_0) := (blk_cell BK3.out 0).trans rfl; have hcz73_1 : w72.cell? ⟨gb3, 1, none⟩ = some (.slice A0_1 l0_1.length c0_1) := (blk_cell BK3.out 1).trans rfl; have hcz73_2 : w72.cell? ⟨gb3, 2, none⟩ = some (.slice A0_2 l0_2.length c0_2) := (blk_cell BK3.out 2).trans rfl; have hcz74_0 : w72.cell? ⟨gb5, 0, none⟩ = some (.int .i64 a2_0) := (blk_cell BK5.out 0).trans rfl; have hcz74_1 : w72.cell? ⟨gb5, 1, none⟩ = some (.int .i64 a2_1) := (blk_cell BK5.out 1).trans rfl; have hcz75_0 : w72.cell? ⟨gb11, 0, none⟩ = some (.string r16) := (blk_cell BK11.out 0).trans rfl; have hcz75_1 : w72.cell? ⟨gb11, 1, none⟩ = some (.slice Av35 r17.length cv35) := (blk_cell BK11.out 1).trans rfl; have hcz75_2 : w72.cell? ⟨gb11, 2, none⟩ = some (.slice Av36 r18.length cv36) := (blk_cell BK11.out 2).trans rfl) | ((with_reducible refine gate_callee (f := 52) rfl ?_); refine goesL_ (some 82) rfl rfl Try.func52 (by kernel_rfl) rfl #[.agg #[.string r16, .slice Av35 r17.length cv35, .slice Av36 r18.length cv36], .int .i64 1] rfl (by (try simp only [List.map_toArray, List.map_cons, List.map_nil]); first | done | rfl | (simp only [List.length_drop, List.length_take]; rfl)) ?_; (with_reducible refine (laws_markFont.calls k r16 (fun k_ => some k_ = (.slice Av35 r17.length cv35 : Value).ownBlock ∧ (n5 ≤ k_ ∧ k_ < n6)) (.slice Av35 r17.length cv35) r17 (fun k_ => some k_ = (.slice Av36 r18.length cv36 : Value).ownBlock ∧ (n5 ≤ k_ ∧ k_ < n6)) (.slice Av36 r18.length cv36) r18 1 r77 l78 l79 w _ ?sd1 ?sd2 ?sd3 ?sd4 ?sd5 E13.out).mono ?_); (case sd1 => exact (by repeat (first | (with_reducible first | exact HB.out | apply below_alloc | apply pw_below_drewN | apply below_drew1 | refine below_set ?_ GE3.out | refine below_set ?_ GE5.out | refine below_set ?_ GE11.out) | exact HB.out))); (case sd2 => exact Kd.R_tight2 rfl (by (with_reducible repeat (first | apply Kd.R_alloc | apply Kd.R_drewN | apply Kd.R_drew)); exact HOv35.out)); (case sd3 => exact fun k_ e_ e2_ => DJHOv35.out k_ e_.1 e2_.1); (case sd4 => exact Kd.R_tight2 rfl (by (with_reducible repeat (first | apply Kd.R_alloc | apply Kd.R_drewN | apply Kd.R_drew)); exact HOv36.out)); (case sd5 => exact fun k_ e_ e2_ => DJHOv35.out k_ e2_.1 e_.1); rintro e w76 ⟨rfl, hy0, hy1, hbb, hkp⟩; refine ⟨_, rfl, ?_⟩; have hsz0 : n11 ≤ _ := pre_size_k hkp (by first | (with_reducible exact SZ.out) | (simp only [size_setCell_]; exact SZ.out) | exact SZ.out); have n0_ := Aside0.mk (Kd.R_kept (by (with_reducible repeat (first | apply Kd.R_alloc | apply Kd.R_drewN | apply Kd.R_drew)); exact HOv19.out) hkp (fun k_ hk_ hs_ => by exact Or.elim hs_ (fun e_ => Nat.lt_irrefl _ (Nat.lt_of_lt_of_le (hk_.2) (Nat.le_trans (Nat.le_trans N4.out N5.out) (e_.2).1))) (fun e_ => Nat.lt_irrefl _ (Nat.lt_of_lt_of_le (hk_.2) (Nat.le_trans (Nat.le_trans N4.out N5.out) (e_.2).1))))); have n1_ := Aside0.mk (Kd.R_kept (by (with_reducible repeat (first | apply Kd.R_alloc | apply Kd.R_drewN | apply Kd.R_drew)); exact HOv20.out) hkp (fun k_ hk_ hs_ => by exact Or.elim hs_ (fun e_ => Nat.lt_irrefl _ (Nat.lt_of_lt_of_le (hk_.2) (Nat.le_trans (Nat.le_trans N4.out N5.out) (e_.2).1))) (fun e_ => Nat.lt_irrefl _ (Nat.lt_of_lt_of_le (hk_.2) (Nat.le_trans (Nat.le_trans N4.out N5.out) (e_.2).1))))); have n2_ := Aside0.mk (Kd.S_kept (by (with_reducible repeat (first | apply Kd.S_alloc | apply Kd.S_drewN | apply Kd.S_drew)); exact HOv23.out) hkp (fun k_ hk_ hs_ => by exact Or.elim hs_ (fun e_ => Nat.lt_irrefl _ (Nat.lt_of_lt_of_le (hk_.2) (Nat.le_trans N5.out (e_.2).1))) (fun e_ => Nat.lt_irrefl _ (Nat.lt_of_lt_of_le (hk_.2) (Nat.le_trans N5.out (e_.2).1))))); have n3_ := Aside0.mk (Kd.S_kept (by (with_reducible repeat (first | apply Kd.S_alloc | apply Kd.S_drewN | apply Kd.S_drew)); exact HOv31.out) hkp (fun k_ hk_ hs_ => by exact Or.elim hs_ (fun e_ => Nat.lt_irrefl _ (Nat.lt_of_lt_of_le (hk_.2) (Nat.le_trans (Nat.le_refl _) (e_.2).1))) (fun e_ => Nat.lt_irrefl _ (Nat.lt_of_lt_of_le (hk_.2) (Nat.le_trans (Nat.le_refl _) (e_.2).1))))); have n4_ := Aside0.mk (Kd.S_kept (by (with_reducible repeat (first | apply Kd.S_alloc | apply Kd.S_drewN | apply Kd.S_drew)); exact HOv44.out) hkp (fun k_ hk_ hs_ => by exact Or.elim hs_ (fun e_ => Nat.lt_irrefl _ (Nat.lt_of_lt_of_le (e_.2).2 (Nat.le_trans N7.out (hk_.1)))) (fun e_ => Nat.lt_irrefl _ (Nat.lt_of_lt_of_le (e_.2).2 (Nat.le_trans N7.out (hk_.1)))))); have n5_ := Aside0.mk (Kd.S_kept (by (with_reducible repeat (first | apply Kd.S_alloc | apply Kd.S_drewN | apply Kd.S_drew)); exact HOv51.out) hkp (fun k_ hk_ hs_ => by exact Or.elim hs_ (fun e_ => Nat.lt_irrefl _ (Nat.lt_of_lt_of_le (e_.2).2 (Nat.le_trans (Nat.le_trans N7.out N8.out) (hk_.1)))) (fun e_ => Nat.lt_irrefl _ (Nat.lt_of_lt_of_le (e_.2).2 (Nat.le_trans (Nat.le_trans N7.out N8.out) (hk_.1)))))); have n6_ := Aside0.mk (Kd.R_kept (by (with_reducible repeat (first | apply Kd.R_alloc | apply Kd.R_drewN | apply Kd.R_drew)); exact HOv61.out) hkp (fun k_ hk_ hs_ => by exact Or.elim hs_ (fun e_ => Nat.lt_irrefl _ (Nat.lt_of_lt_of_le (e_.2).2 (Nat.le_trans (Nat.le_trans (Nat.le_trans N7.out N8.out) N9.out) (hk_.1)))) (fun e_ => Nat.lt_irrefl _ (Nat.lt_of_lt_of_le (e_.2).2 (Nat.le_trans (Nat.le_trans (Nat.le_trans N7.out N8.out) N9.out) (hk_.1)))))); have n7_ := Aside0.mk (Kd.R_kept (by (with_reducible repeat (first | apply Kd.R_alloc | apply Kd.R_drewN | apply Kd.R_drew)); exact HOv62.out) hkp (fun k_ hk_ hs_ => by exact Or.elim hs_ (fun e_ => Nat.lt_irrefl _ (Nat.lt_of_lt_of_le (e_.2).2 (Nat.le_trans (Nat.le_trans (Nat.le_trans N7.out N8.out) N9.out) (hk_.1)))) (fun e_ => Nat.lt_irrefl _ (Nat.lt_of_lt_of_le (e_.2).2 (Nat.le_trans (Nat.le_trans (Nat.le_trans N7.out N8.out) N9.out) (hk_.1)))))); have n8_ := Aside0.mk (Kd.S_kept (by (with_reducible repeat (first | apply Kd.S_alloc | apply Kd.S_drewN | apply Kd.S_drew)); exact HOv68.out) hkp (fun k_ hk_ hs_ => by exact Or.elim hs_ (fun e_ => Nat.lt_irrefl _ (Nat.lt_of_lt_of_le (e_.2).2 (Nat.le_trans (Nat.le_trans (Nat.le_trans (Nat.le_trans N7.out N8.out) N9.out) N10.out) (hk_.1)))) (fun e_ => Nat.lt_irrefl _ (Nat.lt_of_lt_of_le (e_.2).2 (Nat.le_trans (Nat.le_trans (Nat.le_trans (Nat.le_trans N7.out N8.out) N9.out) N10.out) (hk_.1)))))); have n9_ := Aside0.mk (blk_kept (g := gb3) (o := .cells #[.string a0_0, .slice A0_1 l0_1.length c0_1, .slice A0_2 l0_2.length c0_2] 42 (0, 0)) (by (with_reducible repeat (first | refine blk_drewN ?_ _ | refine blk_drew ?_ | refine blk_alloc ?_ _)); exact BK3.out) hkp (fun hs_ => Or.elim hs_ (fun e_ => Nat.lt_irrefl _ (Nat.lt_of_lt_of_le (GU3.out) (Nat.le_trans (Nat.le_trans (Nat.le_trans (Nat.le_trans N2.out N3.out) N4.out) N5.out) (e_.2).1))) (fun e_ => Nat.lt_irrefl _ (Nat.lt_of_lt_of_le (GU3.out) (Nat.le_trans (Nat.le_trans (Nat.le_trans (Nat.le_trans N2.out N3.out) N4.out) N5.out) (e_.2).1))))); have n10_ := Aside0.mk (blk_kept (g := gb5) (o := .cells #[.int .i64 a2_0, .int .i64 a2_1] 48 (0, 0)) (by (with_reducible repeat (first | refine blk_drewN ?_ _ | refine blk_drew ?_ | refine blk_alloc ?_ _)); exact BK5.out) hkp (fun hs_ => Or.elim hs_ (fun e_ => Nat.lt_irrefl _ (Nat.lt_of_lt_of_le (GU5.out) (Nat.le_trans (Nat.le_trans (Nat.le_trans N3.out N4.out) N5.out) (e_.2).1))) (fun e_ => Nat.lt_irrefl _ (Nat.lt_of_lt_of_le (GU5.out) (Nat.le_trans (Nat.le_trans (Nat.le_trans N3.out N4.out) N5.out) (e_.2).1))))); have n11_ := Aside0.mk (blk_kept (g := gb11) (o := .cells #[.string r16, .slice Av35 r17.length cv35, .slice Av36 r18.length cv36] 25 (0, 0)) (by (with_reducible repeat (first | refine blk_drewN ?_ _ | refine blk_drew ?_ | refine blk_alloc ?_ _)); exact BK11.out) hkp (fun hs_ => Or.elim hs_ (fun e_ => Nat.lt_irrefl _ (Nat.lt_of_lt_of_le (e_.2).2 (Nat.le_trans (Nat.le_refl _) (GL11.out)))) (fun e_ => Nat.lt_irrefl _ (Nat.lt_of_lt_of_le (e_.2).2 (Nat.le_trans (Nat.le_refl _) (GL11.out)))))); have n12_ := Aside0.mk (hbb); have n13_ := Aside0.mk ((Nat.le_trans hsz0 hkp.1 : n11 ≤ w76.heap.size)); clear HOv19 HOv20 HOv23 HOv31 HOv35 HOv36 HOv44 HOv51 HOv61 HOv62 HOv68 BK3 BK5 BK11 HB SZ; have HOv19 := n0_; have HOv20 := n1_; have HOv23 := n2_; have HOv31 := n3_; have HOv44 := n4_; have HOv51 := n5_; have HOv61 := n6_; have HOv62 := n7_; have HOv68 := n8_; have BK3 := n9_; have BK5 := n10_; have BK11 := n11_; have HB := n12_; have SZ := n13_; clear n0_ n1_ n2_ n3_ n4_ n5_ n6_ n7_ n8_ n9_ n10_ n11_ n12_ n13_; clear hsz0; clear hbb hkp; (try clear hz0); (try clear hy0); (try clear hy1); have hcz80_0 : w76.cell? ⟨gb3, 0, none⟩ = some (.string a0_0) := (blk_cell BK3.out 0).trans rfl; have hcz80_1 : w76.cell? ⟨gb3, 1, none⟩ = some (.slice A0_1 l0_1.length c0_1) := (blk_cell BK3.out 1).trans rfl; have hcz80_2 : w76.cell? ⟨gb3, 2, none⟩ = some (.slice A0_2 l0_2.length c0_2) := (blk_cell BK3.out 2).trans rfl; have hcz81_0 : w76.cell? ⟨gb5, 0, none⟩ = some (.int .i64 a2_0) := (blk_cell BK5.out 0).trans rfl; have hcz81_1 : w76.cell? ⟨gb5, 1, none⟩ = some (.int .i64 a2_1) := (blk_cell BK5.out 1).trans rfl; have hcz82_0 : w76.cell? ⟨gb11, 0, none⟩ = some (.string r16) := (blk_cell BK11.out 0).trans rfl; have hcz82_1 : w76.cell? ⟨gb11, 1, none⟩ = some (.slice Av35 r17.length cv35) := (blk_cell BK11.out 1).trans rfl; have hcz82_2 : w76.cell? ⟨gb11, 2, none⟩ = some (.slice Av36 r18.length cv36) := (blk_cell BK11.out 2).trans rfl) | ((with_reducible refine gate_callee (f := 53) rfl ?_); refine goesL_ (some 85) rfl rfl Try.func53 (by kernel_rfl) rfl #[.slice Av44 r22.length cv44, .int .i64 r77] rfl (by (try simp only [List.map_toArray, List.map_cons, List.map_nil]); first | done | rfl | (simp only [List.length_drop, List.length_take]; rfl)) ?_; (with_reducible refine (laws_markMatrixSS.calls k (fun k_ => n7 ≤ k_ ∧ k_ < n8) (.slice Av44 r22.length cv44) r22 r77 r84 l85 w _ ?sd1 ?sd2 E14.out).mono ?_); (case sd1 => exact (by repeat (first | (with_reducible first | exact HB.out | apply below_alloc | apply pw_below_drewN | apply below_drew1 | refine below_set ?_ GE3.out | refine below_set ?_ GE5.out | refine below_set ?_ GE11.out) | exact HB.out))); (case sd2 => exact (by (with_reducible repeat (first | apply Kd.S_alloc | apply Kd.S_drewN | apply Kd.S_drew)); exact HOv44.out)); rintro e w83 ⟨rfl, hy0, hbb, hkp⟩; refine ⟨_, rfl, ?_⟩; have hsz0 : n11 ≤ _ := pre_size_k hkp (by first | (with_reducible exact SZ.out) | (simp only [size_setCell_]; exact SZ.out) | exact SZ.out); have n0_ := Aside0.mk (Kd.R_kept (by (with_reducible repeat (first | apply Kd.R_alloc | apply Kd.R_drewN | apply Kd.R_drew)); exact HOv19.out) hkp (fun k_ hk_ hs_ => by exact Nat.lt_irrefl _ (Nat.lt_of_lt_of_le (hk_.2) (Nat.le_trans (Nat.le_trans (Nat.le_trans (Nat.le_trans N4.out N5.out) N6.out) N7.out) (hs_).1)))); have n1_ := Aside0.mk (Kd.R_kept (by (with_reducible repeat (first | apply Kd.R_alloc | apply Kd.R_drewN | apply Kd.R_drew)); exact HOv20.out) hkp (fun k_ hk_ hs_ => by exact Nat.lt_irrefl _ (Nat.lt_of_lt_of_le (hk_.2) (Nat.le_trans (Nat.le_trans (Nat.le_trans (Nat.le_trans N4.out N5.out) N6.out) N7.out) (hs_).1)))); have n2_ := Aside0.mk (Kd.S_kept (by (with_reducible repeat (first | apply Kd.S_alloc | apply Kd.S_drewN | apply Kd.S_drew)); exact HOv23.out) hkp (fun k_ hk_ hs_ => by exact Nat.lt_irrefl _ (Nat.lt_of_lt_of_le (hk_.2) (Nat.le_trans (Nat.le_trans (Nat.le_trans N5.out N6.out) N7.out) (hs_).1)))); have n3_ := Aside0.mk (Kd.S_kept (by (with_reducible repeat (first | apply Kd.S_alloc | apply Kd.S_drewN | apply Kd.S_drew)); exact HOv31.out) hkp (fun k_ hk_ hs_ => by exact Nat.lt_irrefl _ (Nat.lt_of_lt_of_le (hk_.2) (Nat.le_trans (Nat.le_trans N6.out N7.out) (hs_).1)))); have n4_ := Aside0.mk (Kd.S_kept (by (with_reducible repeat (first | apply Kd.S_alloc | apply Kd.S_drewN | apply Kd.S_drew)); exact HOv51.out) hkp (fun k_ hk_ hs_ => by exact Nat.lt_irrefl _ (Nat.lt_of_lt_of_le (hs_).2 (Nat.le_trans (Nat.le_refl _) (hk_.1))))); have n5_ := Aside0.mk (Kd.R_kept (by (with_reducible repeat (first | apply Kd.R_alloc | apply Kd.R_drewN | apply Kd.R_drew)); exact HOv61.out) hkp (fun k_ hk_ hs_ => by exact Nat.lt_irrefl _ (Nat.lt_of_lt_of_le (hs_).2 (Nat.le_trans N9.out (hk_.1))))); have n6_ := Aside0.mk (Kd.R_kept (by (with_reducible repeat (first | apply Kd.R_alloc | apply Kd.R_drewN | apply Kd.R_drew)); exact HOv62.out) hkp (fun k_ hk_ hs_ => by exact Nat.lt_irrefl _ (Nat.lt_of_lt_of_le (hs_).2 (Nat.le_trans N9.out (hk_.1))))); have n7_ := Aside0.mk (Kd.S_kept (by (with_reducible repeat (first | apply Kd.S_alloc | apply Kd.S_drewN | apply Kd.S_drew)); exact HOv68.out) hkp (fun k_ hk_ hs_ => by exact Nat.lt_irrefl _ (Nat.lt_of_lt_of_le (hs_).2 (Nat.le_trans (Nat.le_trans N9.out N10.out) (hk_.1))))); have n8_ := Aside0.mk (blk_kept (g := gb3) (o := .cells #[.string a0_0, .slice A0_1 l0_1.length c0_1, .slice A0_2 l0_2.length c0_2] 42 (0, 0)) (by (with_reducible repeat (first | refine blk_drewN ?_ _ | refine blk_drew ?_ | refine blk_alloc ?_ _)); exact BK3.out) hkp (fun hs_ => Nat.lt_irrefl _ (Nat.lt_of_lt_of_le (GU3.out) (Nat.le_trans (Nat.le_trans (Nat.le_trans (Nat.le_trans (Nat.le_trans (Nat.le_trans N2.out N3.out) N4.out) N5.out) N6.out) N7.out) (hs_).1)))); have n9_ := Aside0.mk (blk_kept (g := gb5) (o := .cells #[.int .i64 a2_0, .int .i64 a2_1] 48 (0, 0)) (by (with_reducible repeat (first | refine blk_drewN ?_ _ | refine blk_drew ?_ | refine blk_alloc ?_ _)); exact BK5.out) hkp (fun hs_ => Nat.lt_irrefl _ (Nat.lt_of_lt_of_le (GU5.out) (Nat.le_trans (Nat.le_trans (Nat.le_trans (Nat.le_trans (Nat.le_trans N3.out N4.out) N5.out) N6.out) N7.out) (hs_).1)))); have n10_ := Aside0.mk (blk_kept (g := gb11) (o := .cells #[.string r16, .slice Av35 r17.length cv35, .slice Av36 r18.length cv36] 25 (0, 0)) (by (with_reducible repeat (first | refine blk_drewN ?_ _ | refine blk_drew ?_ | refine blk_alloc ?_ _)); exact BK11.out) hkp (fun hs_ => Nat.lt_irrefl _ (Nat.lt_of_lt_of_le (GU11.out) (Nat.le_trans (Nat.le_refl _) (hs_).1)))); have n11_ := Aside0.mk (hbb); have n12_ := Aside0.mk ((Nat.le_trans hsz0 hkp.1 : n11 ≤ w83.heap.size)); clear HOv19 HOv20 HOv23 HOv31 HOv44 HOv51 HOv61 HOv62 HOv68 BK3 BK5 BK11 HB SZ; have HOv19 := n0_; have HOv20 := n1_; have HOv23 := n2_; have HOv31 := n3_; have HOv51 := n4_; have HOv61 := n5_; have HOv62 := n6_; have HOv68 := n7_; have BK3 := n8_; have BK5 := n9_; have BK11 := n10_; have HB := n11_; have SZ := n12_; clear n0_ n1_ n2_ n3_ n4_ n5_ n6_ n7_ n8_ n9_ n10_ n11_ n12_; clear hsz0; have LNv44 := Aside0.mk (Kd.S_reads' hy0).1; have HOv44 := Aside0.mk hy0; clear hbb hkp; (try clear hz0); (try clear hy0); have hcz86_0 : w83.cell? ⟨gb3, 0, none⟩ = some (.string a0_0) := (blk_cell BK3.out 0).trans rfl; have hcz86_1 : w83.cell? ⟨gb3, 1, none⟩ = some (.slice A0_1 l0_1.length c0_1) := (blk_cell BK3.out 1).trans rfl; have hcz86_2 : w83.cell? ⟨gb3, 2, none⟩ = some (.slice A0_2 l0_2.length c0_2) := (blk_cell BK3.out 2).trans rfl; have hcz87_0 : w83.cell? ⟨gb5, 0, none⟩ = some (.int .i64 a2_0) := (blk_cell BK5.out 0).trans rfl; have hcz87_1 : w83.cell? ⟨gb5, 1, none⟩ = some (.int .i64 a2_1) := (blk_cell BK5.out 1).trans rfl; have hcz88_0 : w83.cell? ⟨gb11, 0, none⟩ = some (.string r16) := (blk_cell BK11.out 0).trans rfl; have hcz88_1 : w83.cell? ⟨gb11, 1, none⟩ = some (.slice Av35 r17.length cv35) := (blk_cell BK11.out 1).trans rfl; have hcz88_2 : w83.cell? ⟨gb11, 2, none⟩ = some (.slice Av36 r18.length cv36) := (blk_cell BK11.out 2).trans rfl) | (go_at_call 45; (with_reducible refine (laws_eqMatrixSS.calls k _ _ r28 _ _ r28 true _ ?sd1 ?sd2 ?sd3 ?sd4 E10.out).mono ?_); (case sd1 => repeat (first | exact (Kd.S_reads' HOv51.out).2.2 | (with_reducible refine Kd.C_alloc ?_ _) | (with_reducible refine Kd.C_drewN ?_ _) | (with_reducible refine Kd.C_drew ?_))); (case sd2 => exact (Kd.S_reads' HOv51.out).2.1); (case sd3 => repeat (first | exact (Kd.S_reads' HOv31.out).2.2 | (with_reducible refine Kd.C_alloc ?_ _) | (with_reducible refine Kd.C_drewN ?_ _) | (with_reducible refine Kd.C_drew ?_))); (case sd4 => exact (Kd.S_reads' HOv31.out).2.1); rintro e w89 ⟨rfl, hb⟩; have hsz0 : n11 ≤ _ := pre_size_b hb (by first | (with_reducible exact SZ.out) | (simp only [size_setCell_]; exact SZ.out) | exact SZ.out); have n0_ := Aside0.mk (Kd.R_below (by (with_reducible repeat (first | apply Kd.R_alloc | apply Kd.R_drewN | apply Kd.R_drew)); exact HOv19.out) hb); have n1_ := Aside0.mk (Kd.R_below (by (with_reducible repeat (first | apply Kd.R_alloc | apply Kd.R_drewN | apply Kd.R_drew)); exact HOv20.out) hb); have n2_ := Aside0.mk (Kd.S_below (by (with_reducible repeat (first | apply Kd.S_alloc | apply Kd.S_drewN | apply Kd.S_drew)); exact HOv23.out) hb); have n3_ := Aside0.mk (Kd.S_below (by (with_reducible repeat (first | apply Kd.S_alloc | apply Kd.S_drewN | apply Kd.S_drew)); exact HOv31.out) hb); have n4_ := Aside0.mk (Kd.S_below (by (with_reducible repeat (first | apply Kd.S_alloc | apply Kd.S_drewN | apply Kd.S_drew)); exact HOv51.out) hb); have n5_ := Aside0.mk (Kd.R_below (by (with_reducible repeat (first | apply Kd.R_alloc | apply Kd.R_drewN | apply Kd.R_drew)); exact HOv61.out) hb); have n6_ := Aside0.mk (Kd.R_below (by (with_reducible repeat (first | apply Kd.R_alloc | apply Kd.R_drewN | apply Kd.R_drew)); exact HOv62.out) hb); have n7_ := Aside0.mk (Kd.S_below (by (with_reducible repeat (first | apply Kd.S_alloc | apply Kd.S_drewN | apply Kd.S_drew)); exact HOv68.out) hb); have n8_ := Aside0.mk (Kd.S_below (by (with_reducible repeat (first | apply Kd.S_alloc | apply Kd.S_drewN | apply Kd.S_drew)); exact HOv44.out) hb); have n9_ := Aside0.mk (blk_below (g := gb3) (o := .cells #[.string a0_0, .slice A0_1 l0_1.length c0_1, .slice A0_2 l0_2.length c0_2] 42 (0, 0)) (by (with_reducible repeat (first | refine blk_drewN ?_ _ | refine blk_drew ?_ | refine blk_alloc ?_ _)); exact BK3.out) hb); have n10_ := Aside0.mk (blk_below (g := gb5) (o := .cells #[.int .i64 a2_0, .int .i64 a2_1] 48 (0, 0)) (by (with_reducible repeat (first | refine blk_drewN ?_ _ | refine blk_drew ?_ | refine blk_alloc ?_ _)); exact BK5.out) hb); have n11_ := Aside0.mk (blk_below (g := gb11) (o := .cells #[.string r16, .slice Av35 r17.length cv35, .slice Av36 r18.length cv36] 25 (0, 0)) (by (with_reducible repeat (first | refine blk_drewN ?_ _ | refine blk_drew ?_ | refine blk_alloc ?_ _)); exact BK11.out) hb); have n12_ := Aside0.mk (below_step (by repeat (first | (with_reducible first | exact HB.out | apply below_alloc | apply pw_below_drewN | apply below_drew1 | refine below_set ?_ GE3.out | refine below_set ?_ GE5.out | refine below_set ?_ GE11.out) | exact HB.out)) hb); have n13_ := Aside0.mk ((Nat.le_trans hsz0 hb.size : n11 ≤ w89.heap.size)); clear HOv19 HOv20 HOv23 HOv31 HOv51 HOv61 HOv62 HOv68 HOv44 BK3 BK5 BK11 HB SZ; have HOv19 := n0_; have HOv20 := n1_; have HOv23 := n2_; have HOv31 := n3_; have HOv51 := n4_; have HOv61 := n5_; have HOv62 := n6_; have HOv68 := n7_; have HOv44 := n8_; have BK3 := n9_; have BK5 := n10_; have BK11 := n11_; have HB := n12_; have SZ := n13_; clear n0_ n1_ n2_ n3_ n4_ n5_ n6_ n7_ n8_ n9_ n10_ n11_ n12_ n13_; clear hsz0; clear hb; (try clear hz0); have hcz90_0 : w89.cell? ⟨gb3, 0, none⟩ = some (.string a0_0) := (blk_cell BK3.out 0).trans rfl; have hcz90_1 : w89.cell? ⟨gb3, 1, none⟩ = some (.slice A0_1 l0_1.length c0_1) := (blk_cell BK3.out 1).trans rfl; have hcz90_2 : w89.cell? ⟨gb3, 2, none⟩ = some (.slice A0_2 l0_2.length c0_2) := (blk_cell BK3.out 2).trans rfl; have hcz91_0 : w89.cell? ⟨gb5, 0, none⟩ = some (.int .i64 a2_0) := (blk_cell BK5.out 0).trans rfl; have hcz91_1 : w89.cell? ⟨gb5, 1, none⟩ = some (.int .i64 a2_1) := (blk_cell BK5.out 1).trans rfl; have hcz92_0 : w89.cell? ⟨gb11, 0, none⟩ = some (.string r16) := (blk_cell BK11.out 0).trans rfl; have hcz92_1 : w89.cell? ⟨gb11, 1, none⟩ = some (.slice Av35 r17.length cv35) := (blk_cell BK11.out 1).trans rfl; have hcz92_2 : w89.cell? ⟨gb11, 2, none⟩ = some (.slice Av36 r18.length cv36) := (blk_cell BK11.out 2).trans rfl) | ((with_reducible refine gate_callee (f := 53) rfl ?_); refine goesL_ (some 106) rfl rfl Try.func53 (by kernel_rfl) rfl #[.slice Av51 r28.length cv51, .int .i64 1] rfl (by (try simp only [List.map_toArray, List.map_cons, List.map_nil]); first | done | rfl | (simp only [List.length_drop, List.length_take]; rfl)) ?_; (with_reducible refine (laws_markMatrixSS.calls k (fun k_ => n8 ≤ k_ ∧ k_ < n9) (.slice Av51 r28.length cv51) r28 1 r94 l95 w _ ?sd1 ?sd2 E16.out).mono ?_); (case sd1 => exact (by repeat (first | (with_reducible first | exact HB.out | apply below_alloc | apply pw_below_drewN | apply below_drew1 | refine below_set ?_ GE3.out | refine below_set ?_ GE5.out | refine below_set ?_ GE11.out) | exact HB.out))); (case sd2 => exact (by (with_reducible repeat (first | apply Kd.S_alloc | apply Kd.S_drewN | apply Kd.S_drew)); exact HOv51.out)); rintro e w93 ⟨rfl, hy0, hbb, hkp⟩; refine ⟨_, rfl, ?_⟩; have hsz0 : n11 ≤ _ := pre_size_k hkp (by first | (with_reducible exact SZ.out) | (simp only [size_setCell_]; exact SZ.out) | exact SZ.out); have n0_ := Aside0.mk (Kd.R_kept (by (with_reducible repeat (first | apply Kd.R_alloc | apply Kd.R_drewN | apply Kd.R_drew)); exact HOv19.out) hkp (fun k_ hk_ hs_ => by exact Nat.lt_irrefl _ (Nat.lt_of_lt_of_le (hk_.2) (Nat.le_trans (Nat.le_trans (Nat.le_trans (Nat.le_trans (Nat.le_trans N4.out N5.out) N6.out) N7.out) N8.out) (hs_).1)))); have n1_ := Aside0.mk (Kd.R_kept (by (with_reducible repeat (first | apply Kd.R_alloc | apply Kd.R_drewN | apply Kd.R_drew)); exact HOv20.out) hkp (fun k_ hk_ hs_ => by exact Nat.lt_irrefl _ (Nat.lt_of_lt_of_le (hk_.2) (Nat.le_trans (Nat.le_trans (Nat.le_trans (Nat.le_trans (Nat.le_trans N4.out N5.out) N6.out) N7.out) N8.out) (hs_).1)))); have n2_ := Aside0.mk (Kd.S_kept (by (with_reducible repeat (first | apply Kd.S_alloc | apply Kd.S_drewN | apply Kd.S_drew)); exact HOv23.out) hkp (fun k_ hk_ hs_ => by exact Nat.lt_irrefl _ (Nat.lt_of_lt_of_le (hk_.2) (Nat.le_trans (Nat.le_trans (Nat.le_trans (Nat.le_trans N5.out N6.out) N7.out) N8.out) (hs_).1)))); have n3_ := Aside0.mk (Kd.S_kept (by (with_reducible repeat (first | apply Kd.S_alloc | apply Kd.S_drewN | apply Kd.S_drew)); exact HOv31.out) hkp (fun k_ hk_ hs_ => by exact Nat.lt_irrefl _ (Nat.lt_of_lt_of_le (hk_.2) (Nat.le_trans (Nat.le_trans (Nat.le_trans N6.out N7.out) N8.out) (hs_).1)))); have n4_ := Aside0.mk (Kd.R_kept (by (with_reducible repeat (first | apply Kd.R_alloc | apply Kd.R_drewN | apply Kd.R_drew)); exact HOv61.out) hkp (fun k_ hk_ hs_ => by exact Nat.lt_irrefl _ (Nat.lt_of_lt_of_le (hs_).2 (Nat.le_trans (Nat.le_refl _) (hk_.1))))); have n5_ := Aside0.mk (Kd.R_kept (by (with_reducible repeat (first | apply Kd.R_alloc | apply Kd.R_drewN | apply Kd.R_drew)); exact HOv62.out) hkp (fun k_ hk_ hs_ => by exact Nat.lt_irrefl _ (Nat.lt_of_lt_of_le (hs_).2 (Nat.le_trans (Nat.le_refl _) (hk_.1))))); have n6_ := Aside0.mk (Kd.S_kept (by (with_reducible repeat (first | apply Kd.S_alloc | apply Kd.S_drewN | apply Kd.S_drew)); exact HOv68.out) hkp (fun k_ hk_ hs_ => by exact Nat.lt_irrefl _ (Nat.lt_of_lt_of_le (hs_).2 (Nat.le_trans N10.out (hk_.1))))); have n7_ := Aside0.mk (Kd.S_kept (by (with_reducible repeat (first | apply Kd.S_alloc | apply Kd.S_drewN | apply Kd.S_drew)); exact HOv44.out) hkp (fun k_ hk_ hs_ => by exact Nat.lt_irrefl _ (Nat.lt_of_lt_of_le (hk_.2) (Nat.le_trans (Nat.le_refl _) (hs_).1)))); have n8_ := Aside0.mk (blk_kept (g := gb3) (o := .cells #[.string a0_0, .slice A0_1 l0_1.length c0_1, .slice A0_2 l0_2.length c0_2] 42 (0, 0)) (by (with_reducible repeat (first | refine blk_drewN ?_ _ | refine blk_drew ?_ | refine blk_alloc ?_ _)); exact BK3.out) hkp (fun hs_ => Nat.lt_irrefl _ (Nat.lt_of_lt_of_le (GU3.out) (Nat.le_trans (Nat.le_trans (Nat.le_trans (Nat.le_trans (Nat.le_trans (Nat.le_trans (Nat.le_trans N2.out N3.out) N4.out) N5.out) N6.out) N7.out) N8.out) (hs_).1)))); have n9_ := Aside0.mk (blk_kept (g := gb5) (o := .cells #[.int .i64 a2_0, .int .i64 a2_1] 48 (0, 0)) (by (with_reducible repeat (first | refine blk_drewN ?_ _ | refine blk_drew ?_ | refine blk_alloc ?_ _)); exact BK5.out) hkp (fun hs_ => Nat.lt_irrefl _ (Nat.lt_of_lt_of_le (GU5.out) (Nat.le_trans (Nat.le_trans (Nat.le_trans (Nat.le_trans (Nat.le_trans (Nat.le_trans N3.out N4.out) N5.out) N6.out) N7.out) N8.out) (hs_).1)))); have n10_ := Aside0.mk (blk_kept (g := gb11) (o := .cells #[.string r16, .slice Av35 r17.length cv35, .slice Av36 r18.length cv36] 25 (0, 0)) (by (with_reducible repeat (first | refine blk_drewN ?_ _ | refine blk_drew ?_ | refine blk_alloc ?_ _)); exact BK11.out) hkp (fun hs_ => Nat.lt_irrefl _ (Nat.lt_of_lt_of_le (GU11.out) (Nat.le_trans N8.out (hs_).1)))); have n11_ := Aside0.mk (hbb); have n12_ := Aside0.mk ((Nat.le_trans hsz0 hkp.1 : n11 ≤ w93.heap.size)); clear HOv19 HOv20 HOv23 HOv31 HOv51 HOv61 HOv62 HOv68 HOv44 BK3 BK5 BK11 HB SZ; have HOv19 := n0_; have HOv20 := n1_; have HOv23 := n2_; have HOv31 := n3_; have HOv61 := n4_; have HOv62 := n5_; have HOv68 := n6_; have HOv44 := n7_; have BK3 := n8_; have BK5 := n9_; have BK11 := n10_; have HB := n11_; have SZ := n12_; clear n0_ n1_ n2_ n3_ n4_ n5_ n6_ n7_ n8_ n9_ n10_ n11_ n12_; clear hsz0; have LNv51 := Aside0.mk (Kd.S_reads' hy0).1; have HOv51 := Aside0.mk hy0; clear hbb hkp; (try clear hz0); (try clear hy0); have hcz96_0 : w93.cell? ⟨gb3, 0, none⟩ = some (.string a0_0) := (blk_cell BK3.out 0).trans rfl; have hcz96_1 : w93.cell? ⟨gb3, 1, none⟩ = some (.slice A0_1 l0_1.length c0_1) := (blk_cell BK3.out 1).trans rfl; have hcz96_2 : w93.cell? ⟨gb3, 2, none⟩ = some (.slice A0_2 l0_2.length c0_2) := (blk_cell BK3.out 2).trans rfl; have hcz97_0 : w93.cell? ⟨gb5, 0, none⟩ = some (.int .i64 a2_0) := (blk_cell BK5.out 0).trans rfl; have hcz97_1 : w93.cell? ⟨gb5, 1, none⟩ = some (.int .i64 a2_1) := (blk_cell BK5.out 1).trans rfl; have hcz98_0 : w93.cell? ⟨gb11, 0, none⟩ = some (.string r16) := (blk_cell BK11.out 0).trans rfl; have hcz98_1 : w93.cell? ⟨gb11, 1, none⟩ = some (.slice Av35 r17.length cv35) := (blk_cell BK11.out 1).trans rfl; have hcz98_2 : w93.cell? ⟨gb11, 2, none⟩ = some (.slice Av36 r18.length cv36) := (blk_cell BK11.out 2).trans rfl) | ((with_reducible refine gate_callee (f := 54) rfl ?_); refine goesL_ (some 109) rfl rfl Try.func54 (by kernel_rfl) rfl #[.slice Av51 r28.length cv51, .int .i64 1] rfl (by (try simp only [List.map_toArray, List.map_cons, List.map_nil]); first | done | rfl | (simp only [List.length_drop, List.length_take]; rfl)) ?_; refine calls_of_args (args := #[.slice Av51 r28.length cv51, .int .i64 1]) (args' := #[.slice Av51 l95.length cv51, .int .i64 1]) (by rw [LNv51.out]) ?_; (with_reducible refine (laws_heldMatrixSS.calls k _ _ l95 1 r94 _ ?sd1 ?sd2 E17.out).mono ?_); (case sd1 => repeat (first | exact (Kd.S_reads' HOv51.out).2.2 | (with_reducible refine Kd.C_alloc ?_ _) | (with_reducible refine Kd.C_drewN ?_ _) | (with_reducible refine Kd.C_drew ?_))); (case sd2 => (rw [← LNv51.out]; exact (Kd.S_reads' HOv51.out).2.1)); rintro e w99 ⟨rfl, hd⟩; refine ⟨_, rfl, ?_⟩; have hb := drawn0_below hd; have hsz0 : n11 ≤ _ := pre_size_b hb (by first | (with_reducible exact SZ.out) | (simp only [size_setCell_]; exact SZ.out) | exact SZ.out); have n0_ := Aside0.mk (Kd.R_below (by (with_reducible repeat (first | apply Kd.R_alloc | apply Kd.R_drewN | apply Kd.R_drew)); exact HOv19.out) hb); have n1_ := Aside0.mk (Kd.R_below (by (with_reducible repeat (first | apply Kd.R_alloc | apply Kd.R_drewN | apply Kd.R_drew)); exact HOv20.out) hb); have n2_ := Aside0.mk (Kd.S_below (by (with_reducible repeat (first | apply Kd.S_alloc | apply Kd.S_drewN | apply Kd.S_drew)); exact HOv23.out) hb); have n3_ := Aside0.mk (Kd.S_below (by (with_reducible repeat (first | apply Kd.S_alloc | apply Kd.S_drewN | apply Kd.S_drew)); exact HOv31.out) hb); have n4_ := Aside0.mk (Kd.R_below (by (with_reducible repeat (first | apply Kd.R_alloc | apply Kd.R_drewN | apply Kd.R_drew)); exact HOv61.out) hb); have n5_ := Aside0.mk (Kd.R_below (by (with_reducible repeat (first | apply Kd.R_alloc | apply Kd.R_drewN | apply Kd.R_drew)); exact HOv62.out) hb); have n6_ := Aside0.mk (Kd.S_below (by (with_reducible repeat (first | apply Kd.S_alloc | apply Kd.S_drewN | apply Kd.S_drew)); exact HOv68.out) hb); have n7_ := Aside0.mk (Kd.S_below (by (with_reducible repeat (first | apply Kd.S_alloc | apply Kd.S_drewN | apply Kd.S_drew)); exact HOv44.out) hb); have n8_ := Aside0.mk (Kd.S_below (by (with_reducible repeat (first | apply Kd.S_alloc | apply Kd.S_drewN | apply Kd.S_drew)); exact HOv51.out) hb); have n9_ := Aside0.mk (blk_below (g := gb3) (o := .cells #[.string a0_0, .slice A0_1 l0_1.length c0_1, .slice A0_2 l0_2.length c0_2] 42 (0, 0)) (by (with_reducible repeat (first | refine blk_drewN ?_ _ | refine blk_drew ?_ | refine blk_alloc ?_ _)); exact BK3.out) hb); have n10_ := Aside0.mk (blk_below (g := gb5) (o := .cells #[.int .i64 a2_0, .int .i64 a2_1] 48 (0, 0)) (by (with_reducible repeat (first | refine blk_drewN ?_ _ | refine blk_drew ?_ | refine blk_alloc ?_ _)); exact BK5.out) hb); have n11_ := Aside0.mk (blk_below (g := gb11) (o := .cells #[.string r16, .slice Av35 r17.length cv35, .slice Av36 r18.length cv36] 25 (0, 0)) (by (with_reducible repeat (first | refine blk_drewN ?_ _ | refine blk_drew ?_ | refine blk_alloc ?_ _)); exact BK11.out) hb); have n12_ := Aside0.mk (below_step (by repeat (first | (with_reducible first | exact HB.out | apply below_alloc | apply pw_below_drewN | apply below_drew1 | refine below_set ?_ GE3.out | refine below_set ?_ GE5.out | refine below_set ?_ GE11.out) | exact HB.out)) hb); have n13_ := Aside0.mk ((Nat.le_trans hsz0 hb.size : n11 ≤ w99.heap.size)); clear HOv19 HOv20 HOv23 HOv31 HOv61 HOv62 HOv68 HOv44 HOv51 BK3 BK5 BK11 HB SZ; have HOv19 := n0_; have HOv20 := n1_; have HOv23 := n2_; have HOv31 := n3_; have HOv61 := n4_; have HOv62 := n5_; have HOv68 := n6_; have HOv44 := n7_; have HOv51 := n8_; have BK3 := n9_; have BK5 := n10_; have BK11 := n11_; have HB := n12_; have SZ := n13_; clear n0_ n1_ n2_ n3_ n4_ n5_ n6_ n7_ n8_ n9_ n10_ n11_ n12_ n13_; clear hsz0; clear hb; (try clear hd); (try clear hz0); have hcz100_0 : w99.cell? ⟨gb3, 0, none⟩ = some (.string a0_0) := (blk_cell BK3.out 0).trans rfl; have hcz100_1 : w99.cell? ⟨gb3, 1, none⟩ = some (.slice A0_1 l0_1.length c0_1) := (blk_cell BK3.out 1).trans rfl; have hcz100_2 : w99.cell? ⟨gb3, 2, none⟩ = some (.slice A0_2 l0_2.length c0_2) := (blk_cell BK3.out 2).trans rfl; have hcz101_0 : w99.cell? ⟨gb5, 0, none⟩ = some (.int .i64 a2_0) := (blk_cell BK5.out 0).trans rfl; have hcz101_1 : w99.cell? ⟨gb5, 1, none⟩ = some (.int .i64 a2_1) := (blk_cell BK5.out 1).trans rfl; have hcz102_0 : w99.cell? ⟨gb11, 0, none⟩ = some (.string r16) := (blk_cell BK11.out 0).trans rfl; have hcz102_1 : w99.cell? ⟨gb11, 1, none⟩ = some (.slice Av35 r17.length cv35) := (blk_cell BK11.out 1).trans rfl; have hcz102_2 : w99.cell? ⟨gb11, 2, none⟩ = some (.slice Av36 r18.length cv36) := (blk_cell BK11.out 2).trans rfl))
  have n0_ := Aside0.mk (Kd.R_drew HOv19.out)
  have n1_ := Aside0.mk (Kd.R_drew HOv20.out)
  have n2_ := Aside0.mk (Kd.S_drew HOv23.out)
  have n3_ := Aside0.mk (Kd.S_drew HOv31.out)
  have n4_ := Aside0.mk (Kd.R_drew HOv61.out)
  have n5_ := Aside0.mk (Kd.R_drew HOv62.out)
  have n6_ := Aside0.mk (Kd.S_drew HOv68.out)
  have n7_ := Aside0.mk (Kd.S_drew HOv44.out)
  have n8_ := Aside0.mk (Kd.S_drew HOv51.out)
  have n9_ := Aside0.mk (blk_drew BK3.out)
  have n10_ := Aside0.mk (blk_drew BK5.out)
  have n11_ := Aside0.mk (blk_drew BK11.out)
  have n12_ := Aside0.mk (below_drew1 HB.out)
  have n13_ := Aside0.mk ((show n11 ≤ w99.drew.heap.size from SZ.out))
  clear HOv19 HOv20 HOv23 HOv31 HOv61 HOv62 HOv68 HOv44 HOv51 BK3 BK5 BK11 HB SZ
  have HOv19 := n0_
  have HOv20 := n1_
  have HOv23 := n2_
  have HOv31 := n3_
  have HOv61 := n4_
  have HOv62 := n5_
  have HOv68 := n6_
  have HOv44 := n7_
  have HOv51 := n8_
  have BK3 := n9_
  have BK5 := n10_
  have BK11 := n11_
  have HB := n12_
  have SZ := n13_
  clear n0_ n1_ n2_ n3_ n4_ n5_ n6_ n7_ n8_ n9_ n10_ n11_ n12_ n13_
  refine start_ (n := 14) (S := fun w' => w'.cell? ⟨gb3, 0, none⟩ = some (.string a0_0) ∧ w'.cell? ⟨gb3, 1, none⟩ = some (.slice A0_1 l0_1.length c0_1) ∧ w'.cell? ⟨gb3, 2, none⟩ = some (.slice A0_2 l0_2.length c0_2) ∧ w'.cell? ⟨gb5, 0, none⟩ = some (.int .i64 a2_0) ∧ w'.cell? ⟨gb5, 1, none⟩ = some (.int .i64 a2_1)) (ds := []) #[false, false, false, false, false, false, false, false, false, false, false, false, false, false] (by kernel_rfl) rfl rfl ⟨(blk_cell BK3.out 0).trans rfl, (blk_cell BK3.out 1).trans rfl, (blk_cell BK3.out 2).trans rfl, (blk_cell BK5.out 0).trans rfl, (blk_cell BK5.out 1).trans rfl⟩ (fun hHeld => ?_)
  generalize w99.drew = w103 at HOv19 HOv20 HOv23 HOv31 HOv61 HOv62 HOv68 HOv44 HOv51 BK3 BK5 BK11 HB SZ hHeld ⊢
  refine take_ (i := 0) (N := some 116) (v := ?_) (a' := ?_) #[true, false, false, false, false, false, false, false, false, false, false, false, false, false] rfl rfl (by kernel_rfl) (fun _ _ _ h => h) (Or.inl ⟨by rfl, ?_⟩) hHeld ?_ ?_
  rotate_left
  · rintro w' ⟨s0, s1, s2, s3, s4⟩
    go_simp
    with_reducible rfl
  rotate_left
  · simp only [Act.put, List.setIfInBounds_toArray, List.set_cons_zero, List.set_cons_succ, i64_w, i32_w]
    rfl
  refine pure_ (i := 2) (N := some 118) (v := ?_) (a' := ?_) #[true, false, true, false, false, false, false, false, false, false, false, false, false, false] rfl rfl (by kernel_rfl) (fun _ _ _ h => h) (Or.inl ⟨by rfl, ?_⟩) ?_ ?_
  rotate_left
  · intro w'
    go_simp
    with_reducible rfl
  rotate_left
  · simp only [Act.put, List.setIfInBounds_toArray, List.set_cons_zero, List.set_cons_succ, i64_w, i32_w]
    rfl
  refine take_ (i := 4) (N := some 120) (v := ?_) (a' := ?_) #[true, false, true, false, true, false, false, false, false, false, false, false, false, false] rfl rfl (by kernel_rfl) (fun _ _ _ h => h) (Or.inl ⟨by rfl, ?_⟩) hHeld ?_ ?_
  rotate_left
  · rintro w' ⟨s0, s1, s2, s3, s4⟩
    go_simp
    with_reducible rfl
  rotate_left
  · simp only [Act.put, List.setIfInBounds_toArray, List.set_cons_zero, List.set_cons_succ, i64_w, i32_w]
    rfl
  refine one_ (i := 1) (N := some 117) #[true, true, true, false, true, false, false, false, false, false, false, false, false, false] rfl rfl (by kernel_rfl) (by decide) (fun K hK => ?_)
  refine goes_ Try.func30 (by kernel_rfl) rfl #[.agg #[.string a0_0, .slice A0_1 l0_1.length c0_1, .slice A0_2 l0_2.length c0_2]] (by rfl) rfl rfl (by (try simp only [List.map_toArray, List.map_cons, List.map_nil]); first | done | rfl | (simp only [List.length_drop, List.length_take]; rfl)) ?_
  (with_reducible refine (laws_toFont.calls k a0_0 _ _ l0_1 _ _ l0_2 r16 r17 r18 _ ?sd1 ?sd2 ?sd3 ?sd4 E5.out).mono ?_)
  (case sd1 => exact Kd.C_below HR0_1.out (by repeat (first | (with_reducible first | exact HB.out | apply below_alloc | apply pw_below_drewN | apply below_drew1 | refine below_set ?_ GE3.out | refine below_set ?_ GE5.out | refine below_set ?_ GE11.out) | exact HB.out)))
  (case sd2 => exact HC0_1.out)
  (case sd3 => exact Kd.C_below HR0_2.out (by repeat (first | (with_reducible first | exact HB.out | apply below_alloc | apply pw_below_drewN | apply below_drew1 | refine below_set ?_ GE3.out | refine below_set ?_ GE5.out | refine below_set ?_ GE11.out) | exact HB.out)))
  (case sd4 => exact HC0_2.out)
  rintro e w104 ⟨v105, v106, rfl, ho0, ho1, hb⟩
  refine ⟨_, rfl, ?_⟩
  have hsz0 : n11 ≤ _ := pre_size_b hb (by first | (with_reducible exact SZ.out) | (simp only [size_setCell_]; exact SZ.out) | exact SZ.out)
  have DJHOv105 : Aside0 (∀ k_, some k_ = (v105 : Value).ownBlock → ¬ some k_ = (v106 : Value).ownBlock) := ⟨fun k_ e_ e2_ => ho0.1 k_ e_.symm e2_⟩
  have n0_ := Aside0.mk (Kd.R_below (by (with_reducible repeat (first | apply Kd.R_alloc | apply Kd.R_drewN | apply Kd.R_drew)); exact HOv19.out) hb)
  have n1_ := Aside0.mk (Kd.R_below (by (with_reducible repeat (first | apply Kd.R_alloc | apply Kd.R_drewN | apply Kd.R_drew)); exact HOv20.out) hb)
  have n2_ := Aside0.mk (Kd.S_below (by (with_reducible repeat (first | apply Kd.S_alloc | apply Kd.S_drewN | apply Kd.S_drew)); exact HOv23.out) hb)
  have n3_ := Aside0.mk (Kd.S_below (by (with_reducible repeat (first | apply Kd.S_alloc | apply Kd.S_drewN | apply Kd.S_drew)); exact HOv31.out) hb)
  have n4_ := Aside0.mk (Kd.R_below (by (with_reducible repeat (first | apply Kd.R_alloc | apply Kd.R_drewN | apply Kd.R_drew)); exact HOv61.out) hb)
  have n5_ := Aside0.mk (Kd.R_below (by (with_reducible repeat (first | apply Kd.R_alloc | apply Kd.R_drewN | apply Kd.R_drew)); exact HOv62.out) hb)
  have n6_ := Aside0.mk (Kd.S_below (by (with_reducible repeat (first | apply Kd.S_alloc | apply Kd.S_drewN | apply Kd.S_drew)); exact HOv68.out) hb)
  have n7_ := Aside0.mk (Kd.S_below (by (with_reducible repeat (first | apply Kd.S_alloc | apply Kd.S_drewN | apply Kd.S_drew)); exact HOv44.out) hb)
  have n8_ := Aside0.mk (Kd.S_below (by (with_reducible repeat (first | apply Kd.S_alloc | apply Kd.S_drewN | apply Kd.S_drew)); exact HOv51.out) hb)
  have n9_ := Aside0.mk (blk_below (g := gb3) (o := .cells #[.string a0_0, .slice A0_1 l0_1.length c0_1, .slice A0_2 l0_2.length c0_2] 42 (0, 0)) (by (with_reducible repeat (first | refine blk_drewN ?_ _ | refine blk_drew ?_ | refine blk_alloc ?_ _)); exact BK3.out) hb)
  have n10_ := Aside0.mk (blk_below (g := gb5) (o := .cells #[.int .i64 a2_0, .int .i64 a2_1] 48 (0, 0)) (by (with_reducible repeat (first | refine blk_drewN ?_ _ | refine blk_drew ?_ | refine blk_alloc ?_ _)); exact BK5.out) hb)
  have n11_ := Aside0.mk (blk_below (g := gb11) (o := .cells #[.string r16, .slice Av35 r17.length cv35, .slice Av36 r18.length cv36] 25 (0, 0)) (by (with_reducible repeat (first | refine blk_drewN ?_ _ | refine blk_drew ?_ | refine blk_alloc ?_ _)); exact BK11.out) hb)
  have n12_ := Aside0.mk (below_step (by repeat (first | (with_reducible first | exact HB.out | apply below_alloc | apply pw_below_drewN | apply below_drew1 | refine below_set ?_ GE3.out | refine below_set ?_ GE5.out | refine below_set ?_ GE11.out) | exact HB.out)) hb)
  obtain ⟨n12, hn12⟩ : ∃ n_ : Nat, n_ = w104.heap.size := ⟨_, rfl⟩
  have szw : n11 ≤ _ := hsz0
  have N12 : Aside0 (n11 ≤ n12) := ⟨Nat.le_trans szw (by rw [hn12]; exact hb.size)⟩
  have n13_ := Aside0.mk (Kd.R_lower (Kd.R_mono (ok' := fun k_ => n11 ≤ k_ ∧ k_ < n12) (Kd.R_bound ho0) (fun k_ hk_ => ⟨Nat.le_trans szw hk_.2.1, Nat.lt_of_lt_of_le hk_.2.2.1 (Nat.le_of_eq hn12.symm)⟩)) (Nat.le_trans (Nat.le_trans Z0.out (Nat.le_trans (Nat.le_trans (Nat.le_trans (Nat.le_trans (Nat.le_trans (Nat.le_trans (Nat.le_trans (Nat.le_trans (Nat.le_trans (Nat.le_trans N1.out N2.out) N3.out) N4.out) N5.out) N6.out) N7.out) N8.out) N9.out) N10.out) N11.out)) szw))
  have n14_ := Aside0.mk (Kd.R_lower (Kd.R_mono (ok' := fun k_ => n11 ≤ k_ ∧ k_ < n12) (Kd.R_bound ho1) (fun k_ hk_ => ⟨Nat.le_trans szw hk_.2.1, Nat.lt_of_lt_of_le hk_.2.2.1 (Nat.le_of_eq hn12.symm)⟩)) (Nat.le_trans (Nat.le_trans Z0.out (Nat.le_trans (Nat.le_trans (Nat.le_trans (Nat.le_trans (Nat.le_trans (Nat.le_trans (Nat.le_trans (Nat.le_trans (Nat.le_trans (Nat.le_trans N1.out N2.out) N3.out) N4.out) N5.out) N6.out) N7.out) N8.out) N9.out) N10.out) N11.out)) szw))
  have n15_ := Aside0.mk ((Nat.le_of_eq hn12 : n12 ≤ w104.heap.size))
  clear HOv19 HOv20 HOv23 HOv31 HOv61 HOv62 HOv68 HOv44 HOv51 BK3 BK5 BK11 HB SZ
  have HOv19 := n0_
  have HOv20 := n1_
  have HOv23 := n2_
  have HOv31 := n3_
  have HOv61 := n4_
  have HOv62 := n5_
  have HOv68 := n6_
  have HOv44 := n7_
  have HOv51 := n8_
  have BK3 := n9_
  have BK5 := n10_
  have BK11 := n11_
  have HB := n12_
  have HOv105 := n13_
  have HOv106 := n14_
  have SZ := n15_
  clear n0_ n1_ n2_ n3_ n4_ n5_ n6_ n7_ n8_ n9_ n10_ n11_ n12_ n13_ n14_ n15_
  clear szw hn12
  clear hsz0
  obtain ⟨Av105, cv105, eo_⟩ := Kd.R_slice HOv105.out
  subst eo_
  obtain ⟨Av106, cv106, eo_⟩ := Kd.R_slice HOv106.out
  subst eo_
  clear hb
  (try clear ho0)
  (try clear ho1)
  (try clear hz0)
  refine hK.out _ _ ⟨(blk_cell BK3.out 0).trans rfl, (blk_cell BK3.out 1).trans rfl, (blk_cell BK3.out 2).trans rfl, (blk_cell BK5.out 0).trans rfl, (blk_cell BK5.out 1).trans rfl⟩ (fun hHeld => ?_)
  clear hK K
  refine norm_ (a' := ?_) ?_ ?_
  rotate_left
  · show Act.put _ (some 117) _ = _
    simp only [Act.put, List.setIfInBounds_toArray, List.set_cons_zero, List.set_cons_succ, i64_w, i32_w]
    rfl
  refine one_ (i := 3) (N := some 119) #[true, true, true, true, true, false, false, false, false, false, false, false, false, false] rfl rfl (by kernel_rfl) (by decide) (fun K hK => ?_)
  refine goes_ Try.func43 (by kernel_rfl) rfl #[.slice A1 l1.length c1] (by rfl) rfl rfl (by (try simp only [List.map_toArray, List.map_cons, List.map_nil]); first | done | rfl | (simp only [List.length_drop, List.length_take]; rfl)) ?_
  (with_reducible refine (laws_toMatrixSS.calls k _ _ l1 r22 _ ?sd1 ?sd2 E6.out).mono ?_)
  (case sd1 => exact Kd.C_below HR1.out (by repeat (first | (with_reducible first | exact HB.out | apply below_alloc | apply pw_below_drewN | apply below_drew1 | refine below_set ?_ GE3.out | refine below_set ?_ GE5.out | refine below_set ?_ GE11.out) | exact HB.out)))
  (case sd2 => exact HC1.out)
  rintro e w107 ⟨v108, rfl, ho0, hb⟩
  refine ⟨_, rfl, ?_⟩
  have hsz0 : n12 ≤ _ := pre_size_b hb (by first | (with_reducible exact SZ.out) | (simp only [size_setCell_]; exact SZ.out) | exact SZ.out)
  have n0_ := Aside0.mk (Kd.R_below (by (with_reducible repeat (first | apply Kd.R_alloc | apply Kd.R_drewN | apply Kd.R_drew)); exact HOv19.out) hb)
  have n1_ := Aside0.mk (Kd.R_below (by (with_reducible repeat (first | apply Kd.R_alloc | apply Kd.R_drewN | apply Kd.R_drew)); exact HOv20.out) hb)
  have n2_ := Aside0.mk (Kd.S_below (by (with_reducible repeat (first | apply Kd.S_alloc | apply Kd.S_drewN | apply Kd.S_drew)); exact HOv23.out) hb)
  have n3_ := Aside0.mk (Kd.S_below (by (with_reducible repeat (first | apply Kd.S_alloc | apply Kd.S_drewN | apply Kd.S_drew)); exact HOv31.out) hb)
  have n4_ := Aside0.mk (Kd.R_below (by (with_reducible repeat (first | apply Kd.R_alloc | apply Kd.R_drewN | apply Kd.R_drew)); exact HOv61.out) hb)
  have n5_ := Aside0.mk (Kd.R_below (by (with_reducible repeat (first | apply Kd.R_alloc | apply Kd.R_drewN | apply Kd.R_drew)); exact HOv62.out) hb)
  have n6_ := Aside0.mk (Kd.S_below (by (with_reducible repeat (first | apply Kd.S_alloc | apply Kd.S_drewN | apply Kd.S_drew)); exact HOv68.out) hb)
  have n7_ := Aside0.mk (Kd.S_below (by (with_reducible repeat (first | apply Kd.S_alloc | apply Kd.S_drewN | apply Kd.S_drew)); exact HOv44.out) hb)
  have n8_ := Aside0.mk (Kd.S_below (by (with_reducible repeat (first | apply Kd.S_alloc | apply Kd.S_drewN | apply Kd.S_drew)); exact HOv51.out) hb)
  have n9_ := Aside0.mk (Kd.R_below (by (with_reducible repeat (first | apply Kd.R_alloc | apply Kd.R_drewN | apply Kd.R_drew)); exact HOv105.out) hb)
  have n10_ := Aside0.mk (Kd.R_below (by (with_reducible repeat (first | apply Kd.R_alloc | apply Kd.R_drewN | apply Kd.R_drew)); exact HOv106.out) hb)
  have n11_ := Aside0.mk (blk_below (g := gb3) (o := .cells #[.string a0_0, .slice A0_1 l0_1.length c0_1, .slice A0_2 l0_2.length c0_2] 42 (0, 0)) (by (with_reducible repeat (first | refine blk_drewN ?_ _ | refine blk_drew ?_ | refine blk_alloc ?_ _)); exact BK3.out) hb)
  have n12_ := Aside0.mk (blk_below (g := gb5) (o := .cells #[.int .i64 a2_0, .int .i64 a2_1] 48 (0, 0)) (by (with_reducible repeat (first | refine blk_drewN ?_ _ | refine blk_drew ?_ | refine blk_alloc ?_ _)); exact BK5.out) hb)
  have n13_ := Aside0.mk (blk_below (g := gb11) (o := .cells #[.string r16, .slice Av35 r17.length cv35, .slice Av36 r18.length cv36] 25 (0, 0)) (by (with_reducible repeat (first | refine blk_drewN ?_ _ | refine blk_drew ?_ | refine blk_alloc ?_ _)); exact BK11.out) hb)
  have n14_ := Aside0.mk (below_step (by repeat (first | (with_reducible first | exact HB.out | apply below_alloc | apply pw_below_drewN | apply below_drew1 | refine below_set ?_ GE3.out | refine below_set ?_ GE5.out | refine below_set ?_ GE11.out) | exact HB.out)) hb)
  obtain ⟨n13, hn13⟩ : ∃ n_ : Nat, n_ = w107.heap.size := ⟨_, rfl⟩
  have szw : n12 ≤ _ := hsz0
  have N13 : Aside0 (n12 ≤ n13) := ⟨Nat.le_trans szw (by rw [hn13]; exact hb.size)⟩
  have n15_ := Aside0.mk (Kd.S_lower (Kd.S_mono (ok' := fun k_ => n12 ≤ k_ ∧ k_ < n13) (Kd.S_bound ho0) (fun k_ hk_ => ⟨Nat.le_trans szw hk_.2.1, Nat.lt_of_lt_of_le hk_.2.2.1 (Nat.le_of_eq hn13.symm)⟩)) (Nat.le_trans (Nat.le_trans Z0.out (Nat.le_trans (Nat.le_trans (Nat.le_trans (Nat.le_trans (Nat.le_trans (Nat.le_trans (Nat.le_trans (Nat.le_trans (Nat.le_trans (Nat.le_trans (Nat.le_trans N1.out N2.out) N3.out) N4.out) N5.out) N6.out) N7.out) N8.out) N9.out) N10.out) N11.out) N12.out)) szw))
  have n16_ := Aside0.mk ((Nat.le_of_eq hn13 : n13 ≤ w107.heap.size))
  clear HOv19 HOv20 HOv23 HOv31 HOv61 HOv62 HOv68 HOv44 HOv51 HOv105 HOv106 BK3 BK5 BK11 HB SZ
  have HOv19 := n0_
  have HOv20 := n1_
  have HOv23 := n2_
  have HOv31 := n3_
  have HOv61 := n4_
  have HOv62 := n5_
  have HOv68 := n6_
  have HOv44 := n7_
  have HOv51 := n8_
  have HOv105 := n9_
  have HOv106 := n10_
  have BK3 := n11_
  have BK5 := n12_
  have BK11 := n13_
  have HB := n14_
  have HOv108 := n15_
  have SZ := n16_
  clear n0_ n1_ n2_ n3_ n4_ n5_ n6_ n7_ n8_ n9_ n10_ n11_ n12_ n13_ n14_ n15_ n16_
  clear szw hn13
  clear hsz0
  obtain ⟨Av108, cv108, eo_⟩ := Kd.S_slice HOv108.out
  subst eo_
  clear hb
  (try clear ho0)
  (try clear hz0)
  refine hK.out _ _ ⟨(blk_cell BK3.out 0).trans rfl, (blk_cell BK3.out 1).trans rfl, (blk_cell BK3.out 2).trans rfl, (blk_cell BK5.out 0).trans rfl, (blk_cell BK5.out 1).trans rfl⟩ (fun hHeld => ?_)
  clear hK K
  refine norm_ (a' := ?_) ?_ ?_
  rotate_left
  · show Act.put _ (some 119) _ = _
    simp only [Act.put, List.setIfInBounds_toArray, List.set_cons_zero, List.set_cons_succ, i64_w, i32_w]
    rfl
  refine one_ (i := 5) (N := some 121) #[true, true, true, true, true, true, false, false, false, false, false, false, false, false] rfl rfl (by kernel_rfl) (by decide) (fun K hK => ?_)
  refine goes_ Try.func34 (by kernel_rfl) rfl #[.agg #[.int .i64 a2_0, .int .i64 a2_1]] (by rfl) rfl rfl (by (try simp only [List.map_toArray, List.map_cons, List.map_nil]); first | done | rfl | (simp only [List.length_drop, List.length_take]; rfl)) ?_
  (with_reducible refine (laws_toMatrix.calls a2_0 a2_1 r25 r26 _ E7.out).mono ?_)
  rintro e w109 ⟨rfl, hb⟩
  refine ⟨_, rfl, ?_⟩
  have hsz0 : n13 ≤ _ := pre_size_b hb (by first | (with_reducible exact SZ.out) | (simp only [size_setCell_]; exact SZ.out) | exact SZ.out)
  have n0_ := Aside0.mk (Kd.R_below (by (with_reducible repeat (first | apply Kd.R_alloc | apply Kd.R_drewN | apply Kd.R_drew)); exact HOv19.out) hb)
  have n1_ := Aside0.mk (Kd.R_below (by (with_reducible repeat (first | apply Kd.R_alloc | apply Kd.R_drewN | apply Kd.R_drew)); exact HOv20.out) hb)
  have n2_ := Aside0.mk (Kd.S_below (by (with_reducible repeat (first | apply Kd.S_alloc | apply Kd.S_drewN | apply Kd.S_drew)); exact HOv23.out) hb)
  have n3_ := Aside0.mk (Kd.S_below (by (with_reducible repeat (first | apply Kd.S_alloc | apply Kd.S_drewN | apply Kd.S_drew)); exact HOv31.out) hb)
  have n4_ := Aside0.mk (Kd.R_below (by (with_reducible repeat (first | apply Kd.R_alloc | apply Kd.R_drewN | apply Kd.R_drew)); exact HOv61.out) hb)
  have n5_ := Aside0.mk (Kd.R_below (by (with_reducible repeat (first | apply Kd.R_alloc | apply Kd.R_drewN | apply Kd.R_drew)); exact HOv62.out) hb)
  have n6_ := Aside0.mk (Kd.S_below (by (with_reducible repeat (first | apply Kd.S_alloc | apply Kd.S_drewN | apply Kd.S_drew)); exact HOv68.out) hb)
  have n7_ := Aside0.mk (Kd.S_below (by (with_reducible repeat (first | apply Kd.S_alloc | apply Kd.S_drewN | apply Kd.S_drew)); exact HOv44.out) hb)
  have n8_ := Aside0.mk (Kd.S_below (by (with_reducible repeat (first | apply Kd.S_alloc | apply Kd.S_drewN | apply Kd.S_drew)); exact HOv51.out) hb)
  have n9_ := Aside0.mk (Kd.R_below (by (with_reducible repeat (first | apply Kd.R_alloc | apply Kd.R_drewN | apply Kd.R_drew)); exact HOv105.out) hb)
  have n10_ := Aside0.mk (Kd.R_below (by (with_reducible repeat (first | apply Kd.R_alloc | apply Kd.R_drewN | apply Kd.R_drew)); exact HOv106.out) hb)
  have n11_ := Aside0.mk (Kd.S_below (by (with_reducible repeat (first | apply Kd.S_alloc | apply Kd.S_drewN | apply Kd.S_drew)); exact HOv108.out) hb)
  have n12_ := Aside0.mk (blk_below (g := gb3) (o := .cells #[.string a0_0, .slice A0_1 l0_1.length c0_1, .slice A0_2 l0_2.length c0_2] 42 (0, 0)) (by (with_reducible repeat (first | refine blk_drewN ?_ _ | refine blk_drew ?_ | refine blk_alloc ?_ _)); exact BK3.out) hb)
  have n13_ := Aside0.mk (blk_below (g := gb5) (o := .cells #[.int .i64 a2_0, .int .i64 a2_1] 48 (0, 0)) (by (with_reducible repeat (first | refine blk_drewN ?_ _ | refine blk_drew ?_ | refine blk_alloc ?_ _)); exact BK5.out) hb)
  have n14_ := Aside0.mk (blk_below (g := gb11) (o := .cells #[.string r16, .slice Av35 r17.length cv35, .slice Av36 r18.length cv36] 25 (0, 0)) (by (with_reducible repeat (first | refine blk_drewN ?_ _ | refine blk_drew ?_ | refine blk_alloc ?_ _)); exact BK11.out) hb)
  have n15_ := Aside0.mk (below_step (by repeat (first | (with_reducible first | exact HB.out | apply below_alloc | apply pw_below_drewN | apply below_drew1 | refine below_set ?_ GE3.out | refine below_set ?_ GE5.out | refine below_set ?_ GE11.out) | exact HB.out)) hb)
  have n16_ := Aside0.mk ((Nat.le_trans hsz0 hb.size : n13 ≤ w109.heap.size))
  clear HOv19 HOv20 HOv23 HOv31 HOv61 HOv62 HOv68 HOv44 HOv51 HOv105 HOv106 HOv108 BK3 BK5 BK11 HB SZ
  have HOv19 := n0_
  have HOv20 := n1_
  have HOv23 := n2_
  have HOv31 := n3_
  have HOv61 := n4_
  have HOv62 := n5_
  have HOv68 := n6_
  have HOv44 := n7_
  have HOv51 := n8_
  have HOv105 := n9_
  have HOv106 := n10_
  have HOv108 := n11_
  have BK3 := n12_
  have BK5 := n13_
  have BK11 := n14_
  have HB := n15_
  have SZ := n16_
  clear n0_ n1_ n2_ n3_ n4_ n5_ n6_ n7_ n8_ n9_ n10_ n11_ n12_ n13_ n14_ n15_ n16_
  clear hsz0
  clear hb
  (try clear hz0)
  refine hK.out _ _ ⟨(blk_cell BK3.out 0).trans rfl, (blk_cell BK3.out 1).trans rfl, (blk_cell BK3.out 2).trans rfl, (blk_cell BK5.out 0).trans rfl, (blk_cell BK5.out 1).trans rfl⟩ (fun hHeld => ?_)
  clear hK K
  refine norm_ (a' := ?_) ?_ ?_
  rotate_left
  · show Act.put _ (some 121) _ = _
    simp only [Act.put, List.setIfInBounds_toArray, List.set_cons_zero, List.set_cons_succ, i64_w, i32_w]
    rfl
  refine one_ (i := 6) (N := some 122) #[true, true, true, true, true, true, true, false, false, false, false, false, false, false] rfl rfl (by kernel_rfl) (by decide) (fun K hK => ?_)
  refine goes_ Try.func23 (by kernel_rfl) rfl #[.agg #[.string r16, .slice Av105 r17.length cv105, .slice Av106 r18.length cv106], .slice Av108 r22.length cv108, .agg #[.int .i64 r25, .int .i64 r26]] (by rfl) rfl rfl (by (try simp only [List.map_toArray, List.map_cons, List.map_nil]); first | done | rfl | (simp only [List.length_drop, List.length_take]; rfl)) ?_
  (with_reducible refine (impl_DropMatrix.calls k r16 _ _ r17 _ _ r18 _ _ r22 r25 r26 r28 r29 r30 _ ?sd1 ?sd2 ?sd3 ?sd4 ?sd5 ?sd6 E9.out).mono ?_)
  (case sd1 => repeat (first | exact (Kd.R_reads' HOv105.out).2.2 | (with_reducible refine Kd.C_alloc ?_ _) | (with_reducible refine Kd.C_drewN ?_ _) | (with_reducible refine Kd.C_drew ?_)))
  (case sd2 => exact (Kd.R_reads' HOv105.out).2.1)
  (case sd3 => repeat (first | exact (Kd.R_reads' HOv106.out).2.2 | (with_reducible refine Kd.C_alloc ?_ _) | (with_reducible refine Kd.C_drewN ?_ _) | (with_reducible refine Kd.C_drew ?_)))
  (case sd4 => exact (Kd.R_reads' HOv106.out).2.1)
  (case sd5 => repeat (first | exact (Kd.S_reads' HOv108.out).2.2 | (with_reducible refine Kd.C_alloc ?_ _) | (with_reducible refine Kd.C_drewN ?_ _) | (with_reducible refine Kd.C_drew ?_)))
  (case sd6 => exact (Kd.S_reads' HOv108.out).2.1)
  rintro e w110 ⟨v111, rfl, ho0, hb⟩
  refine ⟨_, rfl, ?_⟩
  have hsz0 : n13 ≤ _ := pre_size_b hb (by first | (with_reducible exact SZ.out) | (simp only [size_setCell_]; exact SZ.out) | exact SZ.out)
  have n0_ := Aside0.mk (Kd.R_below (by (with_reducible repeat (first | apply Kd.R_alloc | apply Kd.R_drewN | apply Kd.R_drew)); exact HOv19.out) hb)
  have n1_ := Aside0.mk (Kd.R_below (by (with_reducible repeat (first | apply Kd.R_alloc | apply Kd.R_drewN | apply Kd.R_drew)); exact HOv20.out) hb)
  have n2_ := Aside0.mk (Kd.S_below (by (with_reducible repeat (first | apply Kd.S_alloc | apply Kd.S_drewN | apply Kd.S_drew)); exact HOv23.out) hb)
  have n3_ := Aside0.mk (Kd.S_below (by (with_reducible repeat (first | apply Kd.S_alloc | apply Kd.S_drewN | apply Kd.S_drew)); exact HOv31.out) hb)
  have n4_ := Aside0.mk (Kd.R_below (by (with_reducible repeat (first | apply Kd.R_alloc | apply Kd.R_drewN | apply Kd.R_drew)); exact HOv61.out) hb)
  have n5_ := Aside0.mk (Kd.R_below (by (with_reducible repeat (first | apply Kd.R_alloc | apply Kd.R_drewN | apply Kd.R_drew)); exact HOv62.out) hb)
  have n6_ := Aside0.mk (Kd.S_below (by (with_reducible repeat (first | apply Kd.S_alloc | apply Kd.S_drewN | apply Kd.S_drew)); exact HOv68.out) hb)
  have n7_ := Aside0.mk (Kd.S_below (by (with_reducible repeat (first | apply Kd.S_alloc | apply Kd.S_drewN | apply Kd.S_drew)); exact HOv44.out) hb)
  have n8_ := Aside0.mk (Kd.S_below (by (with_reducible repeat (first | apply Kd.S_alloc | apply Kd.S_drewN | apply Kd.S_drew)); exact HOv51.out) hb)
  have n9_ := Aside0.mk (Kd.R_below (by (with_reducible repeat (first | apply Kd.R_alloc | apply Kd.R_drewN | apply Kd.R_drew)); exact HOv105.out) hb)
  have n10_ := Aside0.mk (Kd.R_below (by (with_reducible repeat (first | apply Kd.R_alloc | apply Kd.R_drewN | apply Kd.R_drew)); exact HOv106.out) hb)
  have n11_ := Aside0.mk (Kd.S_below (by (with_reducible repeat (first | apply Kd.S_alloc | apply Kd.S_drewN | apply Kd.S_drew)); exact HOv108.out) hb)
  have n12_ := Aside0.mk (blk_below (g := gb3) (o := .cells #[.string a0_0, .slice A0_1 l0_1.length c0_1, .slice A0_2 l0_2.length c0_2] 42 (0, 0)) (by (with_reducible repeat (first | refine blk_drewN ?_ _ | refine blk_drew ?_ | refine blk_alloc ?_ _)); exact BK3.out) hb)
  have n13_ := Aside0.mk (blk_below (g := gb5) (o := .cells #[.int .i64 a2_0, .int .i64 a2_1] 48 (0, 0)) (by (with_reducible repeat (first | refine blk_drewN ?_ _ | refine blk_drew ?_ | refine blk_alloc ?_ _)); exact BK5.out) hb)
  have n14_ := Aside0.mk (blk_below (g := gb11) (o := .cells #[.string r16, .slice Av35 r17.length cv35, .slice Av36 r18.length cv36] 25 (0, 0)) (by (with_reducible repeat (first | refine blk_drewN ?_ _ | refine blk_drew ?_ | refine blk_alloc ?_ _)); exact BK11.out) hb)
  have n15_ := Aside0.mk (below_step (by repeat (first | (with_reducible first | exact HB.out | apply below_alloc | apply pw_below_drewN | apply below_drew1 | refine below_set ?_ GE3.out | refine below_set ?_ GE5.out | refine below_set ?_ GE11.out) | exact HB.out)) hb)
  obtain ⟨n14, hn14⟩ : ∃ n_ : Nat, n_ = w110.heap.size := ⟨_, rfl⟩
  have szw : n13 ≤ _ := hsz0
  have N14 : Aside0 (n13 ≤ n14) := ⟨Nat.le_trans szw (by rw [hn14]; exact hb.size)⟩
  have n16_ := Aside0.mk (Kd.S_lower (Kd.S_mono (ok' := fun k_ => n13 ≤ k_ ∧ k_ < n14) (Kd.S_bound ho0) (fun k_ hk_ => ⟨Nat.le_trans szw hk_.2.1, Nat.lt_of_lt_of_le hk_.2.2.1 (Nat.le_of_eq hn14.symm)⟩)) (Nat.le_trans (Nat.le_trans Z0.out (Nat.le_trans (Nat.le_trans (Nat.le_trans (Nat.le_trans (Nat.le_trans (Nat.le_trans (Nat.le_trans (Nat.le_trans (Nat.le_trans (Nat.le_trans (Nat.le_trans (Nat.le_trans N1.out N2.out) N3.out) N4.out) N5.out) N6.out) N7.out) N8.out) N9.out) N10.out) N11.out) N12.out) N13.out)) szw))
  have n17_ := Aside0.mk ((Nat.le_of_eq hn14 : n14 ≤ w110.heap.size))
  clear HOv19 HOv20 HOv23 HOv31 HOv61 HOv62 HOv68 HOv44 HOv51 HOv105 HOv106 HOv108 BK3 BK5 BK11 HB SZ
  have HOv19 := n0_
  have HOv20 := n1_
  have HOv23 := n2_
  have HOv31 := n3_
  have HOv61 := n4_
  have HOv62 := n5_
  have HOv68 := n6_
  have HOv44 := n7_
  have HOv51 := n8_
  have HOv105 := n9_
  have HOv106 := n10_
  have HOv108 := n11_
  have BK3 := n12_
  have BK5 := n13_
  have BK11 := n14_
  have HB := n15_
  have HOv111 := n16_
  have SZ := n17_
  clear n0_ n1_ n2_ n3_ n4_ n5_ n6_ n7_ n8_ n9_ n10_ n11_ n12_ n13_ n14_ n15_ n16_ n17_
  clear szw hn14
  clear hsz0
  obtain ⟨Av111, cv111, eo_⟩ := Kd.S_slice HOv111.out
  subst eo_
  clear hb
  (try clear ho0)
  (try clear hz0)
  refine hK.out _ _ ⟨(blk_cell BK3.out 0).trans rfl, (blk_cell BK3.out 1).trans rfl, (blk_cell BK3.out 2).trans rfl, (blk_cell BK5.out 0).trans rfl, (blk_cell BK5.out 1).trans rfl⟩ (fun hHeld => ?_)
  clear hK K
  refine norm_ (a' := ?_) ?_ ?_
  rotate_left
  · show Act.put _ (some 122) _ = _
    simp only [Act.put, List.setIfInBounds_toArray, List.set_cons_zero, List.set_cons_succ, i64_w, i32_w]
    rfl
  refine pure_ (i := 7) (N := some 115) (v := ?_) (a' := ?_) #[true, true, true, true, true, true, true, true, false, false, false, false, false, false] rfl rfl (by kernel_rfl) (fun _ _ _ h => h) (Or.inl ⟨by rfl, ?_⟩) ?_ ?_
  rotate_left
  · intro w'
    go_simp
    with_reducible rfl
  rotate_left
  · simp only [Act.put, List.setIfInBounds_toArray, List.set_cons_zero, List.set_cons_succ, i64_w, i32_w]
    rfl
  refine pure_ (i := 8) (N := some 123) (v := ?_) (a' := ?_) #[true, true, true, true, true, true, true, true, true, false, false, false, false, false] rfl rfl (by kernel_rfl) (fun _ _ _ h => h) (Or.inl ⟨by rfl, ?_⟩) ?_ ?_
  rotate_left
  · intro w'
    go_simp
    with_reducible rfl
  rotate_left
  · simp only [Act.put, List.setIfInBounds_toArray, List.set_cons_zero, List.set_cons_succ, i64_w, i32_w]
    rfl
  refine pure_ (i := 9) (N := some 124) (v := ?_) (a' := ?_) #[true, true, true, true, true, true, true, true, true, true, false, false, false, false] rfl rfl (by kernel_rfl) (fun _ _ _ h => h) (Or.inl ⟨by rfl, ?_⟩) ?_ ?_
  rotate_left
  · intro w'
    go_simp
    with_reducible rfl
  rotate_left
  · simp only [Act.put, List.setIfInBounds_toArray, List.set_cons_zero, List.set_cons_succ, i64_w, i32_w]
    rfl
  refine pure_ (i := 10) (N := some 125) (v := ?_) (a' := ?_) #[true, true, true, true, true, true, true, true, true, true, true, false, false, false] rfl rfl (by kernel_rfl) (fun _ _ _ h => h) (Or.inl ⟨by rfl, ?_⟩) ?_ ?_
  rotate_left
  · intro w'
    go_simp
    with_reducible rfl
  rotate_left
  · simp only [Act.put, List.setIfInBounds_toArray, List.set_cons_zero, List.set_cons_succ, i64_w, i32_w]
    rfl
  refine pure_ (i := 11) (N := some 19) (v := ?_) (a' := ?_) #[true, true, true, true, true, true, true, true, true, true, true, true, false, false] rfl rfl (by kernel_rfl) (fun _ _ _ h => h) (Or.inl ⟨by rfl, ?_⟩) ?_ ?_
  rotate_left
  · intro w'
    go_simp
    with_reducible rfl
  rotate_left
  · simp only [Act.put, List.setIfInBounds_toArray, List.set_cons_zero, List.set_cons_succ, i64_w, i32_w]
    rfl
  refine pure_ (i := 12) (N := some 20) (v := ?_) (a' := ?_) #[true, true, true, true, true, true, true, true, true, true, true, true, true, false] rfl rfl (by kernel_rfl) (fun _ _ _ h => h) (Or.inl ⟨by rfl, ?_⟩) ?_ ?_
  rotate_left
  · intro w'
    go_simp
    with_reducible rfl
  rotate_left
  · simp only [Act.put, List.setIfInBounds_toArray, List.set_cons_zero, List.set_cons_succ, i64_w, i32_w]
    rfl
  refine pure_ (i := 13) (N := some 21) (v := ?_) (a' := ?_) #[true, true, true, true, true, true, true, true, true, true, true, true, true, true] rfl rfl (by kernel_rfl) (fun _ _ _ h => h) (Or.inl ⟨by rfl, ?_⟩) ?_ ?_
  rotate_left
  · intro w'
    go_simp
    with_reducible rfl
  rotate_left
  · simp only [Act.put, List.setIfInBounds_toArray, List.set_cons_zero, List.set_cons_succ, i64_w, i32_w]
    rfl
  refine done_ (by kernel_rfl) ?_
  have hcz112_0 : w110.cell? ⟨gb3, 0, none⟩ = some (.string a0_0) := (blk_cell BK3.out 0).trans rfl
  have hcz112_1 : w110.cell? ⟨gb3, 1, none⟩ = some (.slice A0_1 l0_1.length c0_1) := (blk_cell BK3.out 1).trans rfl
  have hcz112_2 : w110.cell? ⟨gb3, 2, none⟩ = some (.slice A0_2 l0_2.length c0_2) := (blk_cell BK3.out 2).trans rfl
  have hcz113_0 : w110.cell? ⟨gb5, 0, none⟩ = some (.int .i64 a2_0) := (blk_cell BK5.out 0).trans rfl
  have hcz113_1 : w110.cell? ⟨gb5, 1, none⟩ = some (.int .i64 a2_1) := (blk_cell BK5.out 1).trans rfl
  have hcz114_0 : w110.cell? ⟨gb11, 0, none⟩ = some (.string r16) := (blk_cell BK11.out 0).trans rfl
  have hcz114_1 : w110.cell? ⟨gb11, 1, none⟩ = some (.slice Av35 r17.length cv35) := (blk_cell BK11.out 1).trans rfl
  have hcz114_2 : w110.cell? ⟨gb11, 2, none⟩ = some (.slice Av36 r18.length cv36) := (blk_cell BK11.out 2).trans rfl
  try go_wp2_with (first | ((with_reducible refine gate_callee (f := 45) rfl ?_); refine goesL_ (some 128) rfl rfl Try.func45 (by kernel_rfl) rfl #[.slice Av111 r28.length cv111, .slice Av31 r28.length cv31] rfl (by (try simp only [List.map_toArray, List.map_cons, List.map_nil]); first | done | rfl | (simp only [List.length_drop, List.length_take]; rfl)) ?_; (with_reducible refine (laws_eqMatrixSS.calls k _ _ r28 _ _ r28 true _ ?sd1 ?sd2 ?sd3 ?sd4 E10.out).mono ?_); (case sd1 => repeat (first | exact (Kd.S_reads' HOv111.out).2.2 | (with_reducible refine Kd.C_alloc ?_ _) | (with_reducible refine Kd.C_drewN ?_ _) | (with_reducible refine Kd.C_drew ?_))); (case sd2 => exact (Kd.S_reads' HOv111.out).2.1); (case sd3 => repeat (first | exact (Kd.S_reads' HOv31.out).2.2 | (with_reducible refine Kd.C_alloc ?_ _) | (with_reducible refine Kd.C_drewN ?_ _) | (with_reducible refine Kd.C_drew ?_))); (case sd4 => exact (Kd.S_reads' HOv31.out).2.1); rintro e w115 ⟨rfl, hb⟩; refine ⟨_, rfl, ?_⟩; have hsz0 : n14 ≤ _ := pre_size_b hb (by first | (with_reducible exact SZ.out) | (simp only [size_setCell_]; exact SZ.out) | exact SZ.out); have n0_ := Aside0.mk (Kd.R_below (by (with_reducible repeat (first | apply Kd.R_alloc | apply Kd.R_drewN | apply Kd.R_drew)); exact HOv19.out) hb); have n1_ := Aside0.mk (Kd.R_below (by (with_reducible repeat (first | apply Kd.R_alloc | apply Kd.R_drewN | apply Kd.R_drew)); exact HOv20.out) hb); have n2_ := Aside0.mk (Kd.S_below (by (with_reducible repeat (first | apply Kd.S_alloc | apply Kd.S_drewN | apply Kd.S_drew)); exact HOv23.out) hb); have n3_ := Aside0.mk (Kd.S_below (by (with_reducible repeat (first | apply Kd.S_alloc | apply Kd.S_drewN | apply Kd.S_drew)); exact HOv31.out) hb); have n4_ := Aside0.mk (Kd.R_below (by (with_reducible repeat (first | apply Kd.R_alloc | apply Kd.R_drewN | apply Kd.R_drew)); exact HOv61.out) hb); have n5_ := Aside0.mk (Kd.R_below (by (with_reducible repeat (first | apply Kd.R_alloc | apply Kd.R_drewN | apply Kd.R_drew)); exact HOv62.out) hb); have n6_ := Aside0.mk (Kd.S_below (by (with_reducible repeat (first | apply Kd.S_alloc | apply Kd.S_drewN | apply Kd.S_drew)); exact HOv68.out) hb); have n7_ := Aside0.mk (Kd.S_below (by (with_reducible repeat (first | apply Kd.S_alloc | apply Kd.S_drewN | apply Kd.S_drew)); exact HOv44.out) hb); have n8_ := Aside0.mk (Kd.S_below (by (with_reducible repeat (first | apply Kd.S_alloc | apply Kd.S_drewN | apply Kd.S_drew)); exact HOv51.out) hb); have n9_ := Aside0.mk (Kd.R_below (by (with_reducible repeat (first | apply Kd.R_alloc | apply Kd.R_drewN | apply Kd.R_drew)); exact HOv105.out) hb); have n10_ := Aside0.mk (Kd.R_below (by (with_reducible repeat (first | apply Kd.R_alloc | apply Kd.R_drewN | apply Kd.R_drew)); exact HOv106.out) hb); have n11_ := Aside0.mk (Kd.S_below (by (with_reducible repeat (first | apply Kd.S_alloc | apply Kd.S_drewN | apply Kd.S_drew)); exact HOv108.out) hb); have n12_ := Aside0.mk (Kd.S_below (by (with_reducible repeat (first | apply Kd.S_alloc | apply Kd.S_drewN | apply Kd.S_drew)); exact HOv111.out) hb); have n13_ := Aside0.mk (blk_below (g := gb3) (o := .cells #[.string a0_0, .slice A0_1 l0_1.length c0_1, .slice A0_2 l0_2.length c0_2] 42 (0, 0)) (by (with_reducible repeat (first | refine blk_drewN ?_ _ | refine blk_drew ?_ | refine blk_alloc ?_ _)); exact BK3.out) hb); have n14_ := Aside0.mk (blk_below (g := gb5) (o := .cells #[.int .i64 a2_0, .int .i64 a2_1] 48 (0, 0)) (by (with_reducible repeat (first | refine blk_drewN ?_ _ | refine blk_drew ?_ | refine blk_alloc ?_ _)); exact BK5.out) hb); have n15_ := Aside0.mk (blk_below (g := gb11) (o := .cells #[.string r16, .slice Av35 r17.length cv35, .slice Av36 r18.length cv36] 25 (0, 0)) (by (with_reducible repeat (first | refine blk_drewN ?_ _ | refine blk_drew ?_ | refine blk_alloc ?_ _)); exact BK11.out) hb); have n16_ := Aside0.mk (below_step (by repeat (first | (with_reducible first | exact HB.out | apply below_alloc | apply pw_below_drewN | apply below_drew1 | refine below_set ?_ GE3.out | refine below_set ?_ GE5.out | refine below_set ?_ GE11.out) | exact HB.out)) hb); have n17_ := Aside0.mk ((Nat.le_trans hsz0 hb.size : n14 ≤ w115.heap.size)); clear HOv19 HOv20 HOv23 HOv31 HOv61 HOv62 HOv68 HOv44 HOv51 HOv105 HOv106 HOv108 HOv111 BK3 BK5 BK11 HB SZ; have HOv19 := n0_; have HOv20 := n1_; have HOv23 := n2_; have HOv31 := n3_; have HOv61 := n4_; have HOv62 := n5_; have HOv68 := n6_; have HOv44 := n7_; have HOv51 := n8_; have HOv105 := n9_; have HOv106 := n10_; have HOv108 := n11_; have HOv111 := n12_; have BK3 := n13_; have BK5 := n14_; have BK11 := n15_; have HB := n16_; have SZ := n17_; clear n0_ n1_ n2_ n3_ n4_ n5_ n6_ n7_ n8_ n9_ n10_ n11_ n12_ n13_ n14_ n15_ n16_ n17_; clear hsz0; clear hb; (try clear hz0); have hcz116_0 : w115.cell? ⟨gb3, 0, none⟩ = some (.string a0_0) := (blk_cell BK3.out 0).trans rfl; have hcz116_1 : w115.cell? ⟨gb3, 1, none⟩ = some (.slice A0_1 l0_1.length c0_1) := (blk_cell BK3.out 1).trans rfl; have hcz116_2 : w115.cell? ⟨gb3, 2, none⟩ = some (.slice A0_2 l0_2.length c0_2) := (blk_cell BK3.out 2).trans rfl; have hcz117_0 : w115.cell? ⟨gb5, 0, none⟩ = some (.int .i64 a2_0) := (blk_cell BK5.out 0).trans rfl; have hcz117_1 : w115.cell? ⟨gb5, 1, none⟩ = some (.int .i64 a2_1) := (blk_cell BK5.out 1).trans rfl; have hcz118_0 : w115.cell? ⟨gb11, 0, none⟩ = some (.string r16) := (blk_cell BK11.out 0).trans rfl; have hcz118_1 : w115.cell? ⟨gb11, 1, none⟩ = some (.slice Av35 r17.length cv35) := (blk_cell BK11.out 1).trans rfl; have hcz118_2 : w115.cell? ⟨gb11, 2, none⟩ = some (.slice Av36 r18.length cv36) := (blk_cell BK11.out 2).trans rfl) | ((with_reducible refine gate_callee (f := 54) rfl ?_); refine goesL_ (some 142) rfl rfl Try.func54 (by kernel_rfl) rfl #[.slice Av51 r28.length cv51, .int .i64 1] rfl (by (try simp only [List.map_toArray, List.map_cons, List.map_nil]); first | done | rfl | (simp only [List.length_drop, List.length_take]; rfl)) ?_; refine calls_of_args (args := #[.slice Av51 r28.length cv51, .int .i64 1]) (args' := #[.slice Av51 l95.length cv51, .int .i64 1]) (by rw [LNv51.out]) ?_; (with_reducible refine (laws_heldMatrixSS.calls k _ _ l95 1 r94 _ ?sd1 ?sd2 E17.out).mono ?_); (case sd1 => repeat (first | exact (Kd.S_reads' HOv51.out).2.2 | (with_reducible refine Kd.C_alloc ?_ _) | (with_reducible refine Kd.C_drewN ?_ _) | (with_reducible refine Kd.C_drew ?_))); (case sd2 => (rw [← LNv51.out]; exact (Kd.S_reads' HOv51.out).2.1)); rintro e w119 ⟨rfl, hd⟩; refine ⟨_, rfl, ?_⟩; have hb := drawn0_below hd; have hsz0 : n14 ≤ _ := pre_size_b hb (by first | (with_reducible exact SZ.out) | (simp only [size_setCell_]; exact SZ.out) | exact SZ.out); have n0_ := Aside0.mk (Kd.R_below (by (with_reducible repeat (first | apply Kd.R_alloc | apply Kd.R_drewN | apply Kd.R_drew)); exact HOv19.out) hb); have n1_ := Aside0.mk (Kd.R_below (by (with_reducible repeat (first | apply Kd.R_alloc | apply Kd.R_drewN | apply Kd.R_drew)); exact HOv20.out) hb); have n2_ := Aside0.mk (Kd.S_below (by (with_reducible repeat (first | apply Kd.S_alloc | apply Kd.S_drewN | apply Kd.S_drew)); exact HOv23.out) hb); have n3_ := Aside0.mk (Kd.S_below (by (with_reducible repeat (first | apply Kd.S_alloc | apply Kd.S_drewN | apply Kd.S_drew)); exact HOv31.out) hb); have n4_ := Aside0.mk (Kd.R_below (by (with_reducible repeat (first | apply Kd.R_alloc | apply Kd.R_drewN | apply Kd.R_drew)); exact HOv61.out) hb); have n5_ := Aside0.mk (Kd.R_below (by (with_reducible repeat (first | apply Kd.R_alloc | apply Kd.R_drewN | apply Kd.R_drew)); exact HOv62.out) hb); have n6_ := Aside0.mk (Kd.S_below (by (with_reducible repeat (first | apply Kd.S_alloc | apply Kd.S_drewN | apply Kd.S_drew)); exact HOv68.out) hb); have n7_ := Aside0.mk (Kd.S_below (by (with_reducible repeat (first | apply Kd.S_alloc | apply Kd.S_drewN | apply Kd.S_drew)); exact HOv44.out) hb); have n8_ := Aside0.mk (Kd.S_below (by (with_reducible repeat (first | apply Kd.S_alloc | apply Kd.S_drewN | apply Kd.S_drew)); exact HOv51.out) hb); have n9_ := Aside0.mk (Kd.R_below (by (with_reducible repeat (first | apply Kd.R_alloc | apply Kd.R_drewN | apply Kd.R_drew)); exact HOv105.out) hb); have n10_ := Aside0.mk (Kd.R_below (by (with_reducible repeat (first | apply Kd.R_alloc | apply Kd.R_drewN | apply Kd.R_drew)); exact HOv106.out) hb); have n11_ := Aside0.mk (Kd.S_below (by (with_reducible repeat (first | apply Kd.S_alloc | apply Kd.S_drewN | apply Kd.S_drew)); exact HOv108.out) hb); have n12_ := Aside0.mk (Kd.S_below (by (with_reducible repeat (first | apply Kd.S_alloc | apply Kd.S_drewN | apply Kd.S_drew)); exact HOv111.out) hb); have n13_ := Aside0.mk (blk_below (g := gb3) (o := .cells #[.string a0_0, .slice A0_1 l0_1.length c0_1, .slice A0_2 l0_2.length c0_2] 42 (0, 0)) (by (with_reducible repeat (first | refine blk_drewN ?_ _ | refine blk_drew ?_ | refine blk_alloc ?_ _)); exact BK3.out) hb); have n14_ := Aside0.mk (blk_below (g := gb5) (o := .cells #[.int .i64 a2_0, .int .i64 a2_1] 48 (0, 0)) (by (with_reducible repeat (first | refine blk_drewN ?_ _ | refine blk_drew ?_ | refine blk_alloc ?_ _)); exact BK5.out) hb); have n15_ := Aside0.mk (blk_below (g := gb11) (o := .cells #[.string r16, .slice Av35 r17.length cv35, .slice Av36 r18.length cv36] 25 (0, 0)) (by (with_reducible repeat (first | refine blk_drewN ?_ _ | refine blk_drew ?_ | refine blk_alloc ?_ _)); exact BK11.out) hb); have n16_ := Aside0.mk (below_step (by repeat (first | (with_reducible first | exact HB.out | apply below_alloc | apply pw_below_drewN | apply below_drew1 | refine below_set ?_ GE3.out | refine below_set ?_ GE5.out | refine below_set ?_ GE11.out) | exact HB.out)) hb); have n17_ := Aside0.mk ((Nat.le_trans hsz0 hb.size : n14 ≤ w119.heap.size)); clear HOv19 HOv20 HOv23 HOv31 HOv61 HOv62 HOv68 HOv44 HOv51 HOv105 HOv106 HOv108 HOv111 BK3 BK5 BK11 HB SZ; have HOv19 := n0_; have HOv20 := n1_; have HOv23 := n2_; have HOv31 := n3_; have HOv61 := n4_; have HOv62 := n5_; have HOv68 := n6_; have HOv44 := n7_; have HOv51 := n8_; have HOv105 := n9_; have HOv106 := n10_; have HOv108 := n11_; have HOv111 := n12_; have BK3 := n13_; have BK5 := n14_; have BK11 := n15_; have HB := n16_; have SZ := n17_; clear n0_ n1_ n2_ n3_ n4_ n5_ n6_ n7_ n8_ n9_ n10_ n11_ n12_ n13_ n14_ n15_ n16_ n17_; clear hsz0; clear hb; (try clear hd); (try clear hz0); have hcz120_0 : w119.cell? ⟨gb3, 0, none⟩ = some (.string a0_0) := (blk_cell BK3.out 0).trans rfl; have hcz120_1 : w119.cell? ⟨gb3, 1, none⟩ = some (.slice A0_1 l0_1.length c0_1) := (blk_cell BK3.out 1).trans rfl; have hcz120_2 : w119.cell? ⟨gb3, 2, none⟩ = some (.slice A0_2 l0_2.length c0_2) := (blk_cell BK3.out 2).trans rfl; have hcz121_0 : w119.cell? ⟨gb5, 0, none⟩ = some (.int .i64 a2_0) := (blk_cell BK5.out 0).trans rfl; have hcz121_1 : w119.cell? ⟨gb5, 1, none⟩ = some (.int .i64 a2_1) := (blk_cell BK5.out 1).trans rfl; have hcz122_0 : w119.cell? ⟨gb11, 0, none⟩ = some (.string r16) := (blk_cell BK11.out 0).trans rfl; have hcz122_1 : w119.cell? ⟨gb11, 1, none⟩ = some (.slice Av35 r17.length cv35) := (blk_cell BK11.out 1).trans rfl; have hcz122_2 : w119.cell? ⟨gb11, 2, none⟩ = some (.slice Av36 r18.length cv36) := (blk_cell BK11.out 2).trans rfl))
  try go_wp2
  go_ret
  exact ⟨by first | rfl | (simp only [i64_w, i32_w]; rfl) | (simp; done) | (simp [*]; done), (by repeat (first | (with_reducible first | exact HB.out | apply below_alloc | apply pw_below_drewN | apply below_drew1 | refine below_set ?_ GE3.out | refine below_set ?_ GE5.out | refine below_set ?_ GE11.out) | exact HB.out))⟩

/-- THE ONE PURE STATEMENT of laws_FnExactDropMatrix. -/
def laws_FnExactDropMatrix.Pure : Prop := ∀ (a0_0 : ByteArray) (l0_1 : List Int) (l0_2 : List Int) (l1 : List (List (S48))) (a2_0 : Int) (a2_1 : Int), a0_0.size ≤ maxLen → l0_1.length ≤ maxLen → (∀ x0_ ∈ l0_1, (Lit.int .i64 x0_).wf = true) → l0_2.length ≤ maxLen → (∀ x0_ ∈ l0_2, (Lit.int .i64 x0_).wf = true) → l1.length ≤ maxLen → (∀ x0_ ∈ l1, x0_.length ≤ maxLen ∧ (∀ x1_ ∈ x0_, (Lit.int .i64 x1_.f0).wf = true ∧ (Lit.int .i64 x1_.f1).wf = true)) → (Lit.int .i64 a2_0).wf = true → (Lit.int .i64 a2_1).wf = true → ∃ k, laws_FnExactDropMatrix.P k a0_0 l0_1 l0_2 l1 a2_0 a2_1
end Go.Proofs.Ytilbngklgjjblaa.Q
