/- Contracts of Go functions over this translation. Conditions: those that each theorem names. -/
import Derived.Test.YtilbngklgjjblaaQ0
import Derived.Test.YtilbngklgjjblaaQ6
namespace Go.Proofs.Ytilbngklgjjblaa.Q
open Go.RowKit Go.Proofs.YtilbngklgjjblaaW.PrintWords Go.Proofs.YtilbngklgjjblaaW.PrintLast Go.Proofs.YtilbngklgjjblaaW.PrintMore
attribute [local go_sem] max2_int min2_int max_two min_two max_three min_three max_four min_four
set_option linter.unusedVariables false
set_option linter.unusedSimpArgs false

mutual
def impl_MagazineOk.j0 : Nat → List (List (S30)) → Bool → ByteArray → List Int → List Int → Option (Bool)
  | 0, _, _, _, _, _ => none
  | k + 1, x1, x17, x140000, x140001, x140002 => if x17 = true then (some false) else (impl_MagazineOk.l0 k x1 (x1.length : Int) 0 x140000 x140001 x140002)
def impl_MagazineOk.l0 : Nat → List (List (S30)) → Int → Int → ByteArray → List Int → List Int → Option (Bool)
  | 0, _, _, _, _, _, _ => none
  | k + 1, x18, x19, x20, x140000, x140001, x140002 => if x20 < x19 then (if 0 ≤ x20 then (if x20 < (x18.length : Int) then (if ((rd_L2 x18 x20).length : Int) > 20 then (some false) else ((impl_allOf.f x140000 x140001 x140002 (rd_L2 x18 x20)).bind fun t142 => (if t142 = true then (impl_MagazineOk.l0 k x18 x19 (wrap64 (x20 + 1)) x140000 x140001 x140002) else (some false)))) else (none)) else (none)) else (some true)
end
def impl_MagazineOk.f (k : Nat) (a0_0 : ByteArray) (l0_1 : List Int) (l0_2 : List Int) (l1 : List (List (S30))) : Option (Bool) := (impl_FontOk.f k a0_0 l0_1 l0_2).bind fun t140 => (if t140 = true then (impl_MagazineOk.j0 k l1 ((l1.length : Int) != (a0_0.size : Int)) a0_0 l0_1 l0_2) else (impl_MagazineOk.j0 k l1 true a0_0 l0_1 l0_2))
theorem impl_MagazineOk.mono_l : ∀ k, (∀ y0 y1 y2 y3 y4, LeO (impl_MagazineOk.j0 k y0 y1 y2 y3 y4) (impl_MagazineOk.j0 (k + 1) y0 y1 y2 y3 y4)) ∧ (∀ y0 y1 y2 y3 y4 y5, LeO (impl_MagazineOk.l0 k y0 y1 y2 y3 y4 y5) (impl_MagazineOk.l0 (k + 1) y0 y1 y2 y3 y4 y5))
  | 0 => ⟨fun _ _ _ _ _ r h => by simp [impl_MagazineOk.j0] at h, fun _ _ _ _ _ _ r h => by simp [impl_MagazineOk.l0] at h⟩
  | k + 1 => by
    obtain ⟨ih0, ih1⟩ := impl_MagazineOk.mono_l k
    refine ⟨?_, ?_⟩ <;> intros <;> (first | unfold impl_MagazineOk.j0 | unfold impl_MagazineOk.l0) <;> repeat' first | (with_reducible first | exact ih0 _ _ _ _ _ | exact ih1 _ _ _ _ _ _ | exact impl_FontOk.mono _ _ _ _ | exact LeO.refl _ | exact LeO.none _ | refine LeO.ite ?_ ?_ | refine LeO.bind ?_ (fun _ => ?_)) | exact ih0 _ _ _ _ _ | exact ih1 _ _ _ _ _ _ | exact impl_FontOk.mono _ _ _ _ | exact LeO.none _ | refine LeO.ite ?_ ?_ | refine LeO.bind ?_ (fun _ => ?_)
theorem impl_MagazineOk.mono : ∀ a0 a1 a2 a3 k, LeO (impl_MagazineOk.f k a0 a1 a2 a3) (impl_MagazineOk.f (k + 1) a0 a1 a2 a3) := by
 intro a0 a1 a2 a3 k
 obtain ⟨ih0, ih1⟩ := impl_MagazineOk.mono_l k
 unfold impl_MagazineOk.f
 repeat' first | (with_reducible first | exact ih0 _ _ _ _ _ | exact ih1 _ _ _ _ _ _ | exact impl_FontOk.mono _ _ _ _ | exact LeO.refl _ | exact LeO.none _ | refine LeO.ite ?_ ?_ | refine LeO.bind ?_ (fun _ => ?_)) | exact ih0 _ _ _ _ _ | exact ih1 _ _ _ _ _ _ | exact impl_FontOk.mono _ _ _ _ | exact LeO.none _ | refine LeO.ite ?_ ?_ | refine LeO.bind ?_ (fun _ => ?_)
set_option maxHeartbeats 8000000 in
set_option maxRecDepth 100000 in
theorem impl_MagazineOk.calls (k : Nat) (a0_0 : ByteArray) (A0_1 : Option Addr) (c0_1 : Nat) (l0_1 : List Int) (A0_2 : Option Addr) (c0_2 : Nat) (l0_2 : List Int) (A1 : Option Addr) (c1 : Nat) (l1 : List (List (S30))) (r : Bool) (w : World) (hr0_1 : Kd.C (Kd.int .i64) w A0_1 l0_1.length l0_1) (hc0_1 : l0_1.length ≤ c0_1) (hr0_2 : Kd.C (Kd.int .i64) w A0_2 l0_2.length l0_2) (hc0_2 : l0_2.length ≤ c0_2) (hr1 : Kd.C (Kd.slice 30 k30) w A1 l1.length l1) (hc1 : l1.length ≤ c1) (h : impl_MagazineOk.f k a0_0 l0_1 l0_2 l1 = some r) :
    Calls Try.prog 44 #[.agg #[.string a0_0, .slice A0_1 l0_1.length c0_1, .slice A0_2 l0_2.length c0_2], .slice A1 l1.length c1] w fun e w' => e = .returned (.bool r) ∧ Below w.heap.size w w' := by
 have hu25 := Try.underlying25
 have HR0_1 := M_ hr0_1
 have HC0_1 := M_ hc0_1
 clear hr0_1 hc0_1
 have HR0_2 := M_ hr0_2
 have HC0_2 := M_ hc0_2
 clear hr0_2 hc0_2
 have HR1 := M_ hr1
 have HC1 := M_ hc1
 clear hr1 hc1
 have HB := M_ (Below.refl w.heap.size w)
 have H : ((impl_FontOk.f k a0_0 l0_1 l0_2).bind fun t140 => (if t140 = true then (impl_MagazineOk.j0 k l1 ((l1.length : Int) != (a0_0.size : Int)) a0_0 l0_1 l0_2) else (impl_MagazineOk.j0 k l1 true a0_0 l0_1 l0_2))) = some r := h
 clear h
 have HC3 := M_ H
 clear H
 go_enter Try.func44, Try.ntmps44
 go_upto_region 1 with (first | ((with_reducible refine gate_dst (N := 2) rfl ?_); (try (refine gate_guard (by rfl) ?_; dsimp only)); refine be_ 2 #[.string a0_0, .slice A0_1 l0_1.length c0_1, .slice A0_2 l0_2.length c0_2] 25 ?_; intro gb139 hg w4 hbox hb; have z_ := t3_ (bS_ (bw0_ HB.out) hb) hbox (gv_ hg (bw0_ HB.out) : w.heap.size ≤ gb139); clear HB; obtain ⟨HB, BK139, GE139⟩ := z_; clear hb hbox hg))
 (try simp only [Act.put, lA_, lB_, lC_])
 go_cut [17] (fun v17 wc => ∃ (kq : Nat) (x17_2 : Bool), v17 = .bool x17_2 ∧ Aside0 (impl_MagazineOk.j0 kq l1 x17_2 a0_0 l0_1 l0_2 = some r) ∧ Aside0 (kq ≤ k) ∧ Aside0 (wc.heap[gb139]? = some (.cells #[.string a0_0, (.slice A0_1 l0_1.length c0_1), (.slice A0_2 l0_2.length c0_2)] 25 (0, 0))) ∧ Aside0 (Below w.heap.size w wc))
 case first =>
  have H := HC3.out
  clear HC3
  replace H := bs_ H
  obtain ⟨t140, A50, H⟩ := H
  (try dsimp only at H)
  have A5 := M_ A50
  clear A50
  by_cases c6 : t140 = true
  ·subst c6
   rw [if_pos rfl] at H
   have H' := M_ H
   clear H
   have hcz7_0 := cz_ BK139.out 0 (.string a0_0)
   have hcz7_1 := cz_ BK139.out 1 (.slice A0_1 l0_1.length c0_1)
   have hcz7_2 := cz_ BK139.out 2 (.slice A0_2 l0_2.length c0_2)
   have hfz7_0 := fz_ BK139.out 0
   have hfz7_1 := fz_ BK139.out 1
   have hfz7_2 := fz_ BK139.out 2
   go_wp2_with (first | ((with_reducible refine gate_callee (f := 31) rfl ?_); refine gl_ (some 8) Try.func31 #[.agg #[.string a0_0, .slice A0_1 l0_1.length c0_1, .slice A0_2 l0_2.length c0_2]] ?_; (with_reducible refine (impl_FontOk.calls k a0_0 _ _ l0_1 _ _ l0_2 true _ ?side1 ?side2 ?side3 ?side4 A5.out).mono ?_); (case side1 => exact kC_ HR0_1.out HB.out); (case side2 => exact HC0_1.out); (case side3 => exact kC_ HR0_2.out HB.out); (case side4 => exact HC0_2.out); rintro e w8 ⟨rfl, hb⟩; refine ⟨_, rfl, ?_⟩; have z_ := t2_ (bB_ (bk_ BK139.out) hb) (bS_ (bw1_ HB.out GE139.out) hb); (try clear BK139); clear HB; obtain ⟨BK139, HB⟩ := z_; (try clear hb); have hcz9_0 := cz_ BK139.out 0 (.string a0_0); have hcz9_1 := cz_ BK139.out 1 (.slice A0_1 l0_1.length c0_1); have hcz9_2 := cz_ BK139.out 2 (.slice A0_2 l0_2.length c0_2); have hfz9_0 := fz_ BK139.out 0; have hfz9_1 := fz_ BK139.out 1; have hfz9_2 := fz_ BK139.out 2))
   go_meet
   case rel => exact ⟨_, (((l1.length : Int) != (a0_0.size : Int))), (by first | rfl | (simp; done) | (simp [*]; done)), H', ⟨by first | omega | exact Nat.le_refl _⟩, ⟨by refine bk_ ?_; exact BK139.out⟩, ⟨bw1_ HB.out GE139.out⟩⟩
  ·replace c6 := Bool.eq_false_iff.mpr c6
   subst c6
   rw [if_neg (show ¬ (false = true) by decide)] at H
   have H' := M_ H
   clear H
   have hcz10_0 := cz_ BK139.out 0 (.string a0_0)
   have hcz10_1 := cz_ BK139.out 1 (.slice A0_1 l0_1.length c0_1)
   have hcz10_2 := cz_ BK139.out 2 (.slice A0_2 l0_2.length c0_2)
   have hfz10_0 := fz_ BK139.out 0
   have hfz10_1 := fz_ BK139.out 1
   have hfz10_2 := fz_ BK139.out 2
   go_wp2_with (first | ((with_reducible refine gate_callee (f := 31) rfl ?_); refine gl_ (some 8) Try.func31 #[.agg #[.string a0_0, .slice A0_1 l0_1.length c0_1, .slice A0_2 l0_2.length c0_2]] ?_; (with_reducible refine (impl_FontOk.calls k a0_0 _ _ l0_1 _ _ l0_2 false _ ?side1 ?side2 ?side3 ?side4 A5.out).mono ?_); (case side1 => exact kC_ HR0_1.out HB.out); (case side2 => exact HC0_1.out); (case side3 => exact kC_ HR0_2.out HB.out); (case side4 => exact HC0_2.out); rintro e w11 ⟨rfl, hb⟩; refine ⟨_, rfl, ?_⟩; have z_ := t2_ (bB_ (bk_ BK139.out) hb) (bS_ (bw1_ HB.out GE139.out) hb); (try clear BK139); clear HB; obtain ⟨BK139, HB⟩ := z_; (try clear hb)))
   go_meet
   case rel => exact ⟨_, (true), (by first | rfl | (simp; done) | (simp [*]; done)), H', ⟨by first | omega | exact Nat.le_refl _⟩, ⟨by refine bk_ ?_; exact BK139.out⟩, ⟨bw1_ HB.out GE139.out⟩⟩
 case rest =>
  clear HC3
  (try clear hfz9_2 hfz9_1 hfz9_0 hfz7_2 hfz7_1 hfz7_0 hfz10_2 hfz10_1 hfz10_0 hcz9_2 hcz9_1 hcz9_0 hcz7_2 hcz7_1 hcz7_0 hcz10_2 hcz10_1 hcz10_0 c6 c4 c3 p2 c1)
  obtain ⟨kq, x17_2, rfl, HA, HJ2, BK139, HB⟩ := hcut
  cases kq with
  | zero => exact absurd HA.out (by simp [impl_MagazineOk.j0])
  | succ kj2 =>
   have H := HA.out
   clear HA
   simp only [impl_MagazineOk.j0] at H
   by_cases c12 : x17_2 = true
   ·subst c12
    rw [if_pos rfl] at H
    obtain rfl := Option.some.inj H
    go_wp2
    go_ret
    exact ⟨rb_, bw1_ HB.out GE139.out⟩
   ·replace c12 := Bool.eq_false_iff.mpr c12
    subst c12
    rw [if_neg (show ¬ (false = true) by decide)] at H
    have H' := M_ H
    clear H
    go_wp2
    go_loopg [20] kj2 (fun kq v20 w' => ∃ (x20_2 : Int), v20 = .int .i64 x20_2 ∧ Aside0 (impl_MagazineOk.l0 kq l1 (l1.length : Int) x20_2 a0_0 l0_1 l0_2 = some r) ∧ Aside0 (kq ≤ kj2) ∧ Aside0 (w'.heap[gb139]? = some (.cells #[.string a0_0, (.slice A0_1 l0_1.length c0_1), (.slice A0_2 l0_2.length c0_2)] 25 (0, 0))) ∧ Aside0 (Below w.heap.size w w'))
    case atStart => exact ⟨(0), (by first | rfl | (simp; done) | (simp [*]; done)), H', ⟨Nat.le_refl _⟩, ⟨by refine bk_ ?_; exact BK139.out⟩, ⟨bw1_ HB.out GE139.out⟩⟩
    case round =>
     clear H'
     (try clear p2 hfz9_2 hfz9_1 hfz9_0 hfz7_2 hfz7_1 hfz7_0 hfz10_2 hfz10_1 hfz10_0 hcz9_2 hcz9_1 hcz9_0 hcz7_2 hcz7_1 hcz7_0 hcz10_2 hcz10_1 hcz10_0 c12 p6 c6 c4 c3 p2 c1)
     obtain ⟨x20_2, rfl, HA, HK2, BK139, HB⟩ := hrel
     cases gk with
     | zero => exact absurd HA.out (by simp [impl_MagazineOk.l0])
     | succ k2 =>
      have H := HA.out
      clear HA
      simp only [impl_MagazineOk.l0] at H
      by_cases c13 : x20_2 < (l1.length : Int)
      ·rw [if_pos c13] at H
       have c13b0 := dt_ c13
       clear c13
       by_cases c14 : 0 ≤ x20_2
       ·rw [if_pos c14] at H
        have c14b0 := dt_ c14
        clear c14
        by_cases c15 : x20_2 < (l1.length : Int)
        ·rw [if_pos c15] at H
         have c15b0 := dt_ c15
         clear c15
         by_cases c16 : ((rd_L2 l1 x20_2).length : Int) > 20
         ·rw [if_pos c16] at H
          have c16b0 : decide (20 < ((rd_L2 l1 x20_2).length : Int)) = true := dt_ c16
          have c16b1 : decide (20 < (rd_L2 l1 x20_2).length) = true := dt_ (by omega)
          clear c16
          obtain rfl := Option.some.inj H
          have p141 : 0 ≤ (x20_2 : Int) := od_ as_
          have q141 : x20_2 < (l1.length : Int) := od_ as_
          obtain ⟨ad141, A141_0, c141_0, e141, hx141_0, hl141_0, hi141_0⟩ := at_L2 HR1.out x20_2 p141 q141
          cases e141
          replace hx141_0 := (HB.out.cell (World.block_lt_of_cell? w _ hx141_0)).trans hx141_0
          have HR141_0 := M_ hi141_0
          have HC141_0 := M_ hl141_0
          clear hi141_0 hl141_0
          replace p141 := eq_true p141
          replace q141 := eq_true q141
          go_wp2
          go_ret
          exact ⟨rb_, bw1_ HB.out GE139.out⟩
         ·rw [if_neg c16] at H
          have c16b0 : decide (20 < ((rd_L2 l1 x20_2).length : Int)) = false := decide_eq_false c16
          have c16b1 : decide (20 < (rd_L2 l1 x20_2).length) = false := decide_eq_false (by omega)
          clear c16
          replace H := bs_ H
          obtain ⟨t142, A170, H⟩ := H
          (try dsimp only at H)
          have A17 := M_ A170
          clear A170
          by_cases c18 : t142 = true
          ·subst c18
           rw [if_pos rfl] at H
           have H' := M_ H
           clear H
           have p141 : 0 ≤ (x20_2 : Int) := od_ as_
           have q141 : x20_2 < (l1.length : Int) := od_ as_
           obtain ⟨ad141, A141_0, c141_0, e141, hx141_0, hl141_0, hi141_0⟩ := at_L2 HR1.out x20_2 p141 q141
           cases e141
           replace hx141_0 := (HB.out.cell (World.block_lt_of_cell? w _ hx141_0)).trans hx141_0
           have HR141_0 := M_ hi141_0
           have HC141_0 := M_ hl141_0
           clear hi141_0 hl141_0
           replace p141 := eq_true p141
           replace q141 := eq_true q141
           have hcz19_0 : wr.cell? ⟨gb139, 0, none⟩ = some (.string a0_0) := (blk_cell BK139.out 0).trans rfl
           have hcz19_1 : wr.cell? ⟨gb139, 1, none⟩ = some (.slice A0_1 l0_1.length c0_1) := (blk_cell BK139.out 1).trans rfl
           have hcz19_2 : wr.cell? ⟨gb139, 2, none⟩ = some (.slice A0_2 l0_2.length c0_2) := (blk_cell BK139.out 2).trans rfl
           have hfz19_0 := fz_ BK139.out 0
           have hfz19_1 := fz_ BK139.out 1
           have hfz19_2 := fz_ BK139.out 2
           go_wp2_with (first | (go_at_call 87; (with_reducible refine (impl_allOf.calls a0_0 _ _ l0_1 _ _ l0_2 _ _ (rd_L2 l1 x20_2) true _ ?side1 ?side2 ?side3 ?side4 ?side5 ?side6 A17.out).mono ?_); (case side1 => exact kC_ HR0_1.out HB.out); (case side2 => exact HC0_1.out); (case side3 => exact kC_ HR0_2.out HB.out); (case side4 => exact HC0_2.out); (case side5 => exact kC_ HR141_0.out HB.out); (case side6 => exact HC141_0.out); rintro e w20 ⟨rfl, hb⟩; have z_ := t2_ (bB_ (bk_ BK139.out) hb) (bS_ (bw1_ HB.out GE139.out) hb); (try clear BK139); clear HB; obtain ⟨BK139, HB⟩ := z_; (try clear hb)))
           go_roundg k2
           case measure => have := HJ2.out; have := HK2.out; omega
           case rel => exact ⟨(wrap64 (x20_2 + 1)), (by first | rfl | (simp; done) | (simp [*]; done)), H', ⟨by have := HJ2.out; have := HK2.out; omega⟩, ⟨by refine bk_ ?_; exact BK139.out⟩, ⟨bw1_ HB.out GE139.out⟩⟩
          ·replace c18 := Bool.eq_false_iff.mpr c18
           subst c18
           rw [if_neg (show ¬ (false = true) by decide)] at H
           obtain rfl := Option.some.inj H
           have p141 : 0 ≤ (x20_2 : Int) := od_ as_
           have q141 : x20_2 < (l1.length : Int) := od_ as_
           obtain ⟨ad141, A141_0, c141_0, e141, hx141_0, hl141_0, hi141_0⟩ := at_L2 HR1.out x20_2 p141 q141
           cases e141
           replace hx141_0 := (HB.out.cell (World.block_lt_of_cell? w _ hx141_0)).trans hx141_0
           have HR141_0 := M_ hi141_0
           have HC141_0 := M_ hl141_0
           clear hi141_0 hl141_0
           replace p141 := eq_true p141
           replace q141 := eq_true q141
           have hcz21_0 : wr.cell? ⟨gb139, 0, none⟩ = some (.string a0_0) := (blk_cell BK139.out 0).trans rfl
           have hcz21_1 : wr.cell? ⟨gb139, 1, none⟩ = some (.slice A0_1 l0_1.length c0_1) := (blk_cell BK139.out 1).trans rfl
           have hcz21_2 : wr.cell? ⟨gb139, 2, none⟩ = some (.slice A0_2 l0_2.length c0_2) := (blk_cell BK139.out 2).trans rfl
           have hfz21_0 := fz_ BK139.out 0
           have hfz21_1 := fz_ BK139.out 1
           have hfz21_2 := fz_ BK139.out 2
           go_wp2_with (first | (go_at_call 87; (with_reducible refine (impl_allOf.calls a0_0 _ _ l0_1 _ _ l0_2 _ _ (rd_L2 l1 x20_2) false _ ?side1 ?side2 ?side3 ?side4 ?side5 ?side6 A17.out).mono ?_); (case side1 => exact kC_ HR0_1.out HB.out); (case side2 => exact HC0_1.out); (case side3 => exact kC_ HR0_2.out HB.out); (case side4 => exact HC0_2.out); (case side5 => exact kC_ HR141_0.out HB.out); (case side6 => exact HC141_0.out); rintro e w22 ⟨rfl, hb⟩; have n1_ := M_ (bS_ (bw1_ HB.out GE139.out) hb); (try clear BK139); clear HB; have HB := n1_; clear n1_; (try clear hb)))
           go_ret
           exact ⟨rb_, bw1_ HB.out GE139.out⟩
        ·rw [if_neg c15] at H
         exact absurd H (by simp)
       ·rw [if_neg c14] at H
        exact absurd H (by simp)
      ·rw [if_neg c13] at H
       have c13b0 := decide_eq_false c13
       clear c13
       obtain rfl := Option.some.inj H
       go_wp2
       go_ret
       exact ⟨rb_, bw1_ HB.out GE139.out⟩

mutual
def impl_KindCounts.l0 : Nat → List Int → List (List (S30)) → Int → Int → Option (List Int)
  | 0, _, _, _, _ => none
  | k + 1, x5, x17, x18, x19 => if x19 < x18 then (if 0 ≤ x19 then (if x19 < (x17.length : Int) then (impl_KindCounts.l1 k x5 x17 x18 x19 (rd_L2 x17 x19) ((rd_L2 x17 x19).length : Int) 0) else (none)) else (none)) else (some x5)
def impl_KindCounts.l1 : Nat → List Int → List (List (S30)) → Int → Int → List (S30) → Int → Int → Option (List Int)
  | 0, _, _, _, _, _, _, _ => none
  | k + 1, x5, x17, x18, x19, x23, x24, x25 => if x25 < x24 then (if 0 ≤ x25 then (if x25 < (x23.length : Int) then (if 0 ≤ ((rd_T30 x23 x25).f0) then (if ((rd_T30 x23 x25).f0) < (x5.length : Int) then (impl_KindCounts.l1 k (x5.set (((rd_T30 x23 x25).f0) : Int).toNat (wrap64 ((rd x5 ((rd_T30 x23 x25).f0)) + 1))) x17 x18 x19 x23 x24 (wrap64 (x25 + 1))) else (none)) else (none)) else (none)) else (none)) else (impl_KindCounts.l0 k x5 x17 x18 (wrap64 (x19 + 1)))
end
def impl_KindCounts.f (k : Nat) (a0_0 : ByteArray) (l0_1 : List Int) (l0_2 : List Int) (l1 : List (List (S30))) : Option (List Int) := (impl_MagazineOk.f k a0_0 l0_1 l0_2 l1).bind fun t144 => (if t144 = true then (if 0 ≤ (l1.length : Int) then (if ((l1.length : Int) : Int).toNat ≤ 35184372088832 then (impl_KindCounts.l0 k (List.replicate ((l1.length : Int) : Int).toNat 0) l1 (l1.length : Int) 0) else (none)) else (none)) else (some ([] : List Int)))
theorem impl_KindCounts.mono_l : ∀ k, (∀ y0 y1 y2 y3, LeO (impl_KindCounts.l0 k y0 y1 y2 y3) (impl_KindCounts.l0 (k + 1) y0 y1 y2 y3)) ∧ (∀ y0 y1 y2 y3 y4 y5 y6, LeO (impl_KindCounts.l1 k y0 y1 y2 y3 y4 y5 y6) (impl_KindCounts.l1 (k + 1) y0 y1 y2 y3 y4 y5 y6))
  | 0 => ⟨fun _ _ _ _ r h => by simp [impl_KindCounts.l0] at h, fun _ _ _ _ _ _ _ r h => by simp [impl_KindCounts.l1] at h⟩
  | k + 1 => by
    obtain ⟨ih0, ih1⟩ := impl_KindCounts.mono_l k
    refine ⟨?_, ?_⟩ <;> intros <;> (first | unfold impl_KindCounts.l0 | unfold impl_KindCounts.l1) <;> repeat' first | (with_reducible first | exact ih0 _ _ _ _ | exact ih1 _ _ _ _ _ _ _ | exact impl_MagazineOk.mono _ _ _ _ _ | exact LeO.refl _ | exact LeO.none _ | refine LeO.ite ?_ ?_ | refine LeO.bind ?_ (fun _ => ?_)) | exact ih0 _ _ _ _ | exact ih1 _ _ _ _ _ _ _ | exact impl_MagazineOk.mono _ _ _ _ _ | exact LeO.none _ | refine LeO.ite ?_ ?_ | refine LeO.bind ?_ (fun _ => ?_)
theorem impl_KindCounts.mono : ∀ a0 a1 a2 a3 k, LeO (impl_KindCounts.f k a0 a1 a2 a3) (impl_KindCounts.f (k + 1) a0 a1 a2 a3) := by
 intro a0 a1 a2 a3 k
 obtain ⟨ih0, ih1⟩ := impl_KindCounts.mono_l k
 unfold impl_KindCounts.f
 repeat' first | (with_reducible first | exact ih0 _ _ _ _ | exact ih1 _ _ _ _ _ _ _ | exact impl_MagazineOk.mono _ _ _ _ _ | exact LeO.refl _ | exact LeO.none _ | refine LeO.ite ?_ ?_ | refine LeO.bind ?_ (fun _ => ?_)) | exact ih0 _ _ _ _ | exact ih1 _ _ _ _ _ _ _ | exact impl_MagazineOk.mono _ _ _ _ _ | exact LeO.none _ | refine LeO.ite ?_ ?_ | refine LeO.bind ?_ (fun _ => ?_)
set_option maxHeartbeats 8000000 in
set_option maxRecDepth 100000 in
theorem impl_KindCounts.calls (k : Nat) (a0_0 : ByteArray) (A0_1 : Option Addr) (c0_1 : Nat) (l0_1 : List Int) (A0_2 : Option Addr) (c0_2 : Nat) (l0_2 : List Int) (A1 : Option Addr) (c1 : Nat) (l1 : List (List (S30))) (r : List Int) (w : World) (hr0_1 : Kd.C (Kd.int .i64) w A0_1 l0_1.length l0_1) (hc0_1 : l0_1.length ≤ c0_1) (hr0_2 : Kd.C (Kd.int .i64) w A0_2 l0_2.length l0_2) (hc0_2 : l0_2.length ≤ c0_2) (hr1 : Kd.C (Kd.slice 30 k30) w A1 l1.length l1) (hc1 : l1.length ≤ c1) (h : impl_KindCounts.f k a0_0 l0_1 l0_2 l1 = some r) :
    Calls Try.prog 27 #[.agg #[.string a0_0, .slice A0_1 l0_1.length c0_1, .slice A0_2 l0_2.length c0_2], .slice A1 l1.length c1] w fun e w' => ∃ v0_ : Value, e = .returned (v0_) ∧ Kd.R (Kd.int .i64) 3 w' w.heap.size (fun _ => True) v0_ r ∧ Below w.heap.size w w' := by
 have hu25 := Try.underlying25
 have hu30 := Try.underlying30
 have HR0_1 := M_ hr0_1
 have HC0_1 := M_ hc0_1
 clear hr0_1 hc0_1
 have HR0_2 := M_ hr0_2
 have HC0_2 := M_ hc0_2
 clear hr0_2 hc0_2
 have HR1 := M_ hr1
 have HC1 := M_ hc1
 clear hr1 hc1
 have HB := M_ (Below.refl w.heap.size w)
 have H : ((impl_MagazineOk.f k a0_0 l0_1 l0_2 l1).bind fun t144 => (if t144 = true then (if 0 ≤ (l1.length : Int) then (if ((l1.length : Int) : Int).toNat ≤ 35184372088832 then (impl_KindCounts.l0 k (List.replicate ((l1.length : Int) : Int).toNat 0) l1 (l1.length : Int) 0) else (none)) else (none)) else (some ([] : List Int)))) = some r := h
 clear h
 replace H := bs_ H
 obtain ⟨t144, A30, H⟩ := H
 (try dsimp only at H)
 have A3 := M_ A30
 clear A30
 by_cases c4 : t144 = true
 ·subst c4
  rw [if_pos rfl] at H
  by_cases c5 : 0 ≤ (l1.length : Int)
  ·rw [if_pos c5] at H
   have c5b0 := eq_true c5
   have c5b1 := dt_ c5
   clear c5
   by_cases c6 : ((l1.length : Int) : Int).toNat ≤ 35184372088832
   ·rw [if_pos c6] at H
    have c6b0 := eq_true c6
    have c6b1 := dt_ c6
    clear c6
    obtain ⟨y145, hy145⟩ : ∃ y_ : List Int, y_ = (List.replicate ((l1.length : Int) : Int).toNat 0) := ⟨_, rfl⟩
    replace H : (impl_KindCounts.l0 k y145 l1 (l1.length : Int) 0) = some r := by first | (rw [hy145]; with_reducible exact H) | (have H2_ := (Option.bind_some _ _).symm.trans H; rw [hy145]; with_reducible exact H2_) | (have H2_ := (Option.bind_some _ _).symm.trans H; with_reducible exact H2_) | with_reducible exact H | (rw [hy145]; exact H) | exact H
    have Ny145 := M_ hy145
    clear hy145
    have H' := M_ H
    clear H
    go_enter Try.func27, Try.ntmps27
    go_wp2_with (first | ((with_reducible refine gate_dst (N := 2) rfl ?_); refine be_ 2 #[.string a0_0, .slice A0_1 l0_1.length c0_1, .slice A0_2 l0_2.length c0_2] 25 ?_; intro gb143 hg w7 hbox hb; have z_ := t3_ (bS_ (bw0_ HB.out) hb) hbox (gv_ hg (bw0_ HB.out) : w.heap.size ≤ gb143); clear HB; obtain ⟨HB, BK143, GE143⟩ := z_; clear hb hbox hg; have hcz8_0 := cz_ BK143.out 0 (.string a0_0); have hcz8_1 := cz_ BK143.out 1 (.slice A0_1 l0_1.length c0_1); have hcz8_2 := cz_ BK143.out 2 (.slice A0_2 l0_2.length c0_2); have hfz8_0 := fz_ BK143.out 0; have hfz8_1 := fz_ BK143.out 1; have hfz8_2 := fz_ BK143.out 2) | ((with_reducible refine gate_callee (f := 44) rfl ?_); refine gl_ (some 12) Try.func44 #[.agg #[.string a0_0, .slice A0_1 l0_1.length c0_1, .slice A0_2 l0_2.length c0_2], .slice A1 l1.length c1] ?_; (with_reducible refine (impl_MagazineOk.calls k a0_0 _ _ l0_1 _ _ l0_2 _ _ l1 true _ ?side1 ?side2 ?side3 ?side4 ?side5 ?side6 A3.out).mono ?_); (case side1 => exact kC_ HR0_1.out HB.out); (case side2 => exact HC0_1.out); (case side3 => exact kC_ HR0_2.out HB.out); (case side4 => exact HC0_2.out); (case side5 => exact kC_ HR1.out HB.out); (case side6 => exact HC1.out); rintro e w9 ⟨rfl, hb⟩; refine ⟨_, rfl, ?_⟩; have z_ := t2_ (bB_ (bk_ BK143.out) hb) (bS_ (bw1_ HB.out GE143.out) hb); (try clear BK143); clear HB; obtain ⟨BK143, HB⟩ := z_; (try clear hb)) | ((with_reducible refine gate_dst (N := 16) rfl ?_); refine Kd.R_make (Kd.int .i64) _ 3 rfl (N := 16) rfl 23 _ _ rfl (l1.length : Int) rfl rfl Try.underlying23 (.int .i64 0) 8 info3 rfl (by decide) (by omega) 0 (ok := fun _ => True) (okp := fun _ => True) rfl (fun _ hk => hk) trivial (od_ as_) (Nat.le_trans (Nat.mul_le_mul_right _ (od_ as_ : (l1.length : Int).toNat ≤ 35184372088832)) (by omega)) (Below.refl _ _) (Nat.le_refl _) ?_; intro v146 w10 ho11 hb hg_ hnew_; clear hg_ hnew_; (first | rw [← Ny145.out] at ho11 | (simp only [Int.reduceToNat] at ho11; rw [← Ny145.out] at ho11)); have z_ := t3_ (Kd.R_lower ho11 (below_size (bw1_ HB.out GE143.out))) (bB_ (bk_ BK143.out) hb) (bS_ (bw1_ HB.out GE143.out) hb); (try clear BK143); clear HB; obtain ⟨HO147, BK143, HB⟩ := z_; clear hb ho11))
    go_loopg [19] k (fun kq v19 w' => ∃ (x5_1 : List Int) (x19_1 : Int), v19 = .int .i64 x19_1 ∧ Aside0 (impl_KindCounts.l0 kq x5_1 l1 (l1.length : Int) x19_1 = some r) ∧ Aside0 (kq ≤ k) ∧ Aside0 (Kd.R (Kd.int .i64) 3 w' w.heap.size (fun _ => True) v146 x5_1) ∧ Aside0 (w'.heap[gb143]? = some (.cells #[.string a0_0, (.slice A0_1 l0_1.length c0_1), (.slice A0_2 l0_2.length c0_2)] 25 (0, 0))) ∧ Aside0 (Below w.heap.size w w'))
    case atStart => exact ⟨(y145), (0), (by first | rfl | (simp; done) | (simp [*]; done)), H', ⟨Nat.le_refl _⟩, ⟨by refine kR_ ?_; exact HO147.out⟩, ⟨by refine bk_ ?_; exact BK143.out⟩, ⟨bw1_ HB.out GE143.out⟩⟩
    case round =>
     clear H'
     (try clear hfz8_2 hfz8_1 hfz8_0 hcz8_2 hcz8_1 hcz8_0 c6b1 c6b0 c6 c5b1 c5b0 c5 c4 p2 c2 c1)
     obtain ⟨x5_1, x19_1, rfl, HA, HK1, HO_5, BK143, HB⟩ := hrel
     cases gk with
     | zero => exact absurd HA.out (by simp [impl_KindCounts.l0])
     | succ k1 =>
      have H := HA.out
      clear HA
      simp only [impl_KindCounts.l0] at H
      by_cases c12 : x19_1 < (l1.length : Int)
      ·rw [if_pos c12] at H
       have c12b0 := dt_ c12
       clear c12
       by_cases c13 : 0 ≤ x19_1
       ·rw [if_pos c13] at H
        have c13b0 := dt_ c13
        clear c13
        by_cases c14 : x19_1 < (l1.length : Int)
        ·rw [if_pos c14] at H
         have c14b0 := dt_ c14
         clear c14
         have H' := M_ H
         clear H
         have p148 : 0 ≤ (x19_1 : Int) := od_ as_
         have q148 : x19_1 < (l1.length : Int) := od_ as_
         obtain ⟨ad148, A148_0, c148_0, e148, hx148_0, hl148_0, hi148_0⟩ := at_L2 HR1.out x19_1 p148 q148
         cases e148
         replace hx148_0 := (HB.out.cell (World.block_lt_of_cell? w _ hx148_0)).trans hx148_0
         have HR148_0 := M_ hi148_0
         have HC148_0 := M_ hl148_0
         clear hi148_0 hl148_0
         replace p148 := eq_true p148
         replace q148 := eq_true q148
         go_wp2
         go_loopg [25] k1 (fun kq v25 w' => ∃ (x5_2 : List Int) (x25_2 : Int), v25 = .int .i64 x25_2 ∧ Aside0 (impl_KindCounts.l1 kq x5_2 l1 (l1.length : Int) x19_1 (rd_L2 l1 x19_1) ((rd_L2 l1 x19_1).length : Int) x25_2 = some r) ∧ Aside0 (kq ≤ k1) ∧ Aside0 (Kd.R (Kd.int .i64) 3 w' w.heap.size (fun _ => True) v146 x5_2) ∧ Aside0 (w'.heap[gb143]? = some (.cells #[.string a0_0, (.slice A0_1 l0_1.length c0_1), (.slice A0_2 l0_2.length c0_2)] 25 (0, 0))) ∧ Aside0 (Below w.heap.size w w'))
         case atStart => exact ⟨(x5_1), (0), (by first | rfl | (simp; done) | (simp [*]; done)), H', ⟨Nat.le_refl _⟩, ⟨by refine kR_ ?_; exact HO_5.out⟩, ⟨by refine bk_ ?_; exact BK143.out⟩, ⟨bw1_ HB.out GE143.out⟩⟩
         case round =>
          clear H'
          (try clear q148 p2 p148 hx148_0 hfz8_2 hfz8_1 hfz8_0 hcz8_2 hcz8_1 hcz8_0 hx14 q14 p14 c14b0 c14 c13b0 c13 c12b0 c12 c6b1 c6b0 c6 c5b1 c5b0 c5 c4 p2 c2 hx1 q1 p1 c1)
          obtain ⟨x5_2, x25_2, rfl, HA, HK2, HO_5, BK143, HB⟩ := hrel
          cases gk with
          | zero => exact absurd HA.out (by simp [impl_KindCounts.l1])
          | succ k2 =>
           have H := HA.out
           clear HA
           simp only [impl_KindCounts.l1] at H
           by_cases c15 : x25_2 < ((rd_L2 l1 x19_1).length : Int)
           ·rw [if_pos c15] at H
            have c15b0 := dt_ c15
            clear c15
            by_cases c16 : 0 ≤ x25_2
            ·rw [if_pos c16] at H
             have c16b0 := dt_ c16
             clear c16
             by_cases c17 : x25_2 < ((rd_L2 l1 x19_1).length : Int)
             ·rw [if_pos c17] at H
              have c17b0 := dt_ c17
              clear c17
              by_cases c18 : 0 ≤ ((rd_T30 (rd_L2 l1 x19_1) x25_2).f0)
              ·rw [if_pos c18] at H
               have c18b0 := dt_ c18
               clear c18
               by_cases c19 : ((rd_T30 (rd_L2 l1 x19_1) x25_2).f0) < (x5_2.length : Int)
               ·rw [if_pos c19] at H
                have c19b0 := dt_ c19
                clear c19
                obtain ⟨y152, hy152⟩ : ∃ y_ : List Int, y_ = (x5_2.set (((rd_T30 (rd_L2 l1 x19_1) x25_2).f0) : Int).toNat (wrap64 ((rd x5_2 ((rd_T30 (rd_L2 l1 x19_1) x25_2).f0)) + 1))) := ⟨_, rfl⟩
                replace H : (impl_KindCounts.l1 k2 y152 l1 (l1.length : Int) x19_1 (rd_L2 l1 x19_1) ((rd_L2 l1 x19_1).length : Int) (wrap64 (x25_2 + 1))) = some r := by first | (rw [hy152]; with_reducible exact H) | (have H2_ := (Option.bind_some _ _).symm.trans H; rw [hy152]; with_reducible exact H2_) | (have H2_ := (Option.bind_some _ _).symm.trans H; with_reducible exact H2_) | with_reducible exact H | (rw [hy152]; exact H) | exact H
                have Ny152 := M_ hy152
                clear hy152
                have H' := M_ H
                clear H
                have p149 : 0 ≤ (x25_2 : Int) := od_ as_
                have q149 : x25_2 < ((rd_L2 l1 x19_1).length : Int) := od_ as_
                obtain ⟨ad149, e149, hx149_0, hx149_1⟩ := at_T30 HR148_0.out x25_2 p149 q149
                cases e149
                replace hx149_0 := (HB.out.cell (World.block_lt_of_cell? w _ hx149_0)).trans hx149_0
                replace hx149_1 := (HB.out.cell (World.block_lt_of_cell? w _ hx149_1)).trans hx149_1
                replace p149 := eq_true p149
                replace q149 := eq_true q149
                go_wp2_with (first | ((with_reducible refine gate_dst (N := 9) rfl ?_); refine be_ 9 #[.int .i64 0, .int .i64 0] 30 ?_; intro gb150 hg w21 hbox hb; have z_ := t6_ (rB_ (kR_ HO_5.out) hb) (bB_ (bk_ BK143.out) hb) (bS_ (bw1_ HB.out GE143.out) hb) hbox (gv_ hg (bw1_ HB.out GE143.out) : w.heap.size ≤ gb150) (by rw [hg]; exact Nat.ne_of_lt (blk_lt (bk_ BK143.out)) : gb143 ≠ gb150); clear HO_5; (try clear BK143); clear HB; obtain ⟨HO_5, BK143, HB, BK150, GE150, NB143_150⟩ := z_; have NB150_143 := M_ NB143_150.out.symm; clear hb hbox hg; have hnb22 := NB150_143.out; have hnc22 := NB143_150.out; have hcz23_0 := cz_ BK150.out 0 (.int .i64 0); have hcz23_1 := cz_ BK150.out 1 (.int .i64 0); have hfz23_0 := fz_ BK150.out 0; have hfz23_1 := fz_ BK150.out 1) | ((with_reducible refine gate_store (t := 30) (p := 9) rfl ?_); refine store_event (t := 30) (p := 9) (v := ?vo_w24) (w1 := ((w21.setCell ⟨gb150, 0, none⟩ (.int .i64 ((rd_T30 (rd_L2 l1 x19_1) x25_2).f0))).setCell ⟨gb150, 1, none⟩ (.int .i64 ((rd_T30 (rd_L2 l1 x19_1) x25_2).f1)))) ?hg ?ho ?hn ?hr ?_; (case ho => rfl); (case hg => rfl); (case hn => rfl); (case hr => first | (go_simp; done) | (go_simp; rfl)); intro w24 hw; have n0_ : Aside0 (Kd.R (Kd.int .i64) 3 w24 w.heap.size (fun _ => True) v146 x5_2) := ⟨(by rw [hw]; exact (by refine kR_ ?_; exact Kd.R_mono (Kd.R_far (p := ⟨gb150, 1, none⟩) (Kd.R_far (p := ⟨gb150, 0, none⟩) (Kd.R_types HO_5.out BK150.out (by decide)) (fun _ hk => hk.2) (.int .i64 ((rd_T30 (rd_L2 l1 x19_1) x25_2).f0))) (fun _ hk => hk.2) (.int .i64 ((rd_T30 (rd_L2 l1 x19_1) x25_2).f1))) (fun _ hk => trivial)))⟩; have n1_ : Aside0 (w24.heap[gb143]? = some (.cells #[.string a0_0, .slice A0_1 l0_1.length c0_1, .slice A0_2 l0_2.length c0_2] 25 (0, 0))) := ⟨(by rw [hw]; exact (by refine bk_ ?_; refine blk_far ?_ NB143_150.out _; refine bk_ ?_; refine blk_far ?_ NB143_150.out _; refine bk_ ?_; exact BK143.out))⟩; have n2_ : Aside0 (w24.heap[gb150]? = some (.cells #[.int .i64 ((rd_T30 (rd_L2 l1 x19_1) x25_2).f0), .int .i64 ((rd_T30 (rd_L2 l1 x19_1) x25_2).f1)] 30 (0, 0))) := ⟨(by rw [hw]; exact (by refine bk_ ?_; refine blk_put (cs := #[.int .i64 ((rd_T30 (rd_L2 l1 x19_1) x25_2).f0), .int .i64 0]) ?_ 1 _ rfl; refine bk_ ?_; refine blk_put (cs := #[.int .i64 0, .int .i64 0]) ?_ 0 _ rfl; refine bk_ ?_; exact BK150.out))⟩; have n3_ : Aside0 (Below w.heap.size w w24) := ⟨(by rw [hw]; exact (bw2_ HB.out GE143.out GE150.out))⟩; clear HO_5 hw; (try clear BK150 BK143); clear HB; have HO_5 := n0_; have BK143 := n1_; have BK150 := n2_; have HB := n3_; clear n0_ n1_ n2_ n3_; have hcz25_0 := cz_ BK150.out 0 (.int .i64 ((rd_T30 (rd_L2 l1 x19_1) x25_2).f0)); have hcz25_1 := cz_ BK150.out 1 (.int .i64 ((rd_T30 (rd_L2 l1 x19_1) x25_2).f1)); have hfz25_0 := fz_ BK150.out 0; have hfz25_1 := fz_ BK150.out 1; obtain ⟨Ao26, co26, eo26⟩ := Kd.R_slice HO_5.out; subst eo26; have p151 : 0 ≤ (((rd_T30 (rd_L2 l1 x19_1) x25_2).f0) : Int) := od_ as_; have q151 : ((rd_T30 (rd_L2 l1 x19_1) x25_2).f0) < (x5_2.length : Int) := od_ as_; obtain ⟨ad151, e151, hx151_0⟩ := Kd.at_int (Kd.R_reads' HO_5.out).2.2 ((rd_T30 (rd_L2 l1 x19_1) x25_2).f0) p151 q151; cases e151; replace p151 := eq_true p151; replace q151 := eq_true q151; have p20 : 0 ≤ (((rd_T30 (rd_L2 l1 x19_1) x25_2).f0) : Int) := od_ as_; have q20 : (((rd_T30 (rd_L2 l1 x19_1) x25_2).f0) : Int) < ((x5_2.length : Int) : Int) := od_ as_; obtain ⟨go20, co20, eo20, gb20, gl20, cl20, HG20⟩ := Kd.R_form HO_5.out (by omega); (first | cases eo20 | (injection eo20 with ea_ en_ ec_; (first | subst ea_ | (injection ea_ with ea_; subst ea_)); subst ec_; clear en_)); have GB20 := M_ gb20; have GG20 := M_ HG20; clear gb20 gl20 HG20; (first | simp only [add_plain] at hx151_0 | skip); obtain ⟨hx20_0, hf20_0⟩ := Kd.R_celln 0 HO_5.out (((rd_T30 (rd_L2 l1 x19_1) x25_2).f0) : Int) p20 q20; replace p20 := eq_true p20; replace q20 := eq_true q20; obtain ⟨hy27_, hz27_⟩ := Kd.R_celln 0 HO_5.out (((rd_T30 (rd_L2 l1 x19_1) x25_2).f0) : Int) (od_ as_) (od_ as_); have HP27 := Kd.R_putg HO_5.out (((rd_T30 (rd_L2 l1 x19_1) x25_2).f0) : Int) (wrap64 ((rd x5_2 ((rd_T30 (rd_L2 l1 x19_1) x25_2).f0)) + 1))) | ((with_reducible refine gate_store (t := 3) (p := 35) rfl ?_); refine store_event (t := 3) (p := 35) (v := ?vo_w28) (w1 := (w24.setCell ⟨go20, (((rd_T30 (rd_L2 l1 x19_1) x25_2).f0) : Int).toNat, none⟩ (.int .i64 (wrap64 ((rd x5_2 ((rd_T30 (rd_L2 l1 x19_1) x25_2).f0)) + 1))))) ?hg ?ho ?hn ?hr ?_; (case ho => rfl); (case hg => rfl); (case hn => rfl); (case hr => first | (go_simp; done) | (go_simp; rfl)); intro w28 hw; have hg : w24.grownBy w28 (some go20) := (by rw [hw]; exact HP27.2); have hp_ : Kd.R (Kd.int .i64) 3 w28 w.heap.size (fun _ => True) (.slice (some ⟨go20, 0, none⟩) x5_2.length co26) y152 := (by rw [hw, Ny152.out]; exact HP27.1); clear HP27; have z_ := t3_ hp_ (blk_grown (g := gb143) (o := .cells #[.string a0_0, .slice A0_1 l0_1.length c0_1, .slice A0_2 l0_2.length c0_2] 25 (0, 0)) (bk_ BK143.out) hg (Kd.R_ne HO_5.out BK143.out (by decide))) (by rw [hw]; exact below_set (HB.out) GB20.out : Below w.heap.size w w28); clear HO_5; (try clear BK150 BK143); clear HB; obtain ⟨HO_5, BK143, HB⟩ := z_; clear hg hw hp_))
                go_roundg k2
                case measure => have := HK1.out; have := HK2.out; omega
                case rel => exact ⟨(y152), (wrap64 (x25_2 + 1)), (by first | rfl | (simp; done) | (simp [*]; done)), H', ⟨by have := HK1.out; have := HK2.out; omega⟩, ⟨by refine kR_ ?_; exact HO_5.out⟩, ⟨by refine bk_ ?_; exact BK143.out⟩, ⟨bw2_ HB.out GE143.out GE150.out⟩⟩
               ·rw [if_neg c19] at H
                exact absurd H (by simp)
              ·rw [if_neg c18] at H
               exact absurd H (by simp)
             ·rw [if_neg c17] at H
              exact absurd H (by simp)
            ·rw [if_neg c16] at H
             exact absurd H (by simp)
           ·rw [if_neg c15] at H
            have c15b0 := decide_eq_false c15
            clear c15
            have H' := M_ H
            clear H
            go_wp2
            go_roundg k2
            case measure => have := HK1.out; have := HK2.out; omega
            case rel => exact ⟨(x5_2), (wrap64 (x19_1 + 1)), (by first | rfl | (simp; done) | (simp [*]; done)), H', ⟨by have := HK1.out; have := HK2.out; omega⟩, ⟨by refine kR_ ?_; exact HO_5.out⟩, ⟨by refine bk_ ?_; exact BK143.out⟩, ⟨bw1_ HB.out GE143.out⟩⟩
        ·rw [if_neg c14] at H
         exact absurd H (by simp)
       ·rw [if_neg c13] at H
        exact absurd H (by simp)
      ·rw [if_neg c12] at H
       have c12b0 := decide_eq_false c12
       clear c12
       obtain rfl := Option.some.inj H
       go_wp2
       go_ret
       exact ⟨_, rb_, by refine kR_ ?_; exact HO_5.out, bw1_ HB.out GE143.out⟩
   ·rw [if_neg c6] at H
    exact absurd H (by simp)
  ·rw [if_neg c5] at H
   exact absurd H (by simp)
 ·replace c4 := Bool.eq_false_iff.mpr c4
  subst c4
  rw [if_neg (show ¬ (false = true) by decide)] at H
  obtain rfl := Option.some.inj H
  go_enter Try.func27, Try.ntmps27
  go_wp2_with (first | ((with_reducible refine gate_dst (N := 2) rfl ?_); refine be_ 2 #[.string a0_0, .slice A0_1 l0_1.length c0_1, .slice A0_2 l0_2.length c0_2] 25 ?_; intro gb143 hg w29 hbox hb; have z_ := t3_ (bS_ (bw0_ HB.out) hb) hbox (gv_ hg (bw0_ HB.out) : w.heap.size ≤ gb143); clear HB; obtain ⟨HB, BK143, GE143⟩ := z_; clear hb hbox hg; have hcz30_0 := cz_ BK143.out 0 (.string a0_0); have hcz30_1 := cz_ BK143.out 1 (.slice A0_1 l0_1.length c0_1); have hcz30_2 := cz_ BK143.out 2 (.slice A0_2 l0_2.length c0_2); have hfz30_0 := fz_ BK143.out 0; have hfz30_1 := fz_ BK143.out 1; have hfz30_2 := fz_ BK143.out 2) | ((with_reducible refine gate_callee (f := 44) rfl ?_); refine gl_ (some 12) Try.func44 #[.agg #[.string a0_0, .slice A0_1 l0_1.length c0_1, .slice A0_2 l0_2.length c0_2], .slice A1 l1.length c1] ?_; (with_reducible refine (impl_MagazineOk.calls k a0_0 _ _ l0_1 _ _ l0_2 _ _ l1 false _ ?side1 ?side2 ?side3 ?side4 ?side5 ?side6 A3.out).mono ?_); (case side1 => exact kC_ HR0_1.out HB.out); (case side2 => exact HC0_1.out); (case side3 => exact kC_ HR0_2.out HB.out); (case side4 => exact HC0_2.out); (case side5 => exact kC_ HR1.out HB.out); (case side6 => exact HC1.out); rintro e w31 ⟨rfl, hb⟩; refine ⟨_, rfl, ?_⟩; have n1_ := M_ (bS_ (bw1_ HB.out GE143.out) hb); (try clear BK143); clear HB; have HB := n1_; clear n1_; (try clear hb)))
  go_ret
  exact ⟨_, rb_, by first | exact Kd.R_nil _ _ _ _ _ | exact Kd.N_nil _ _ _ _ _ | exact Kd.V_nil _ _ _ _ _ | exact Kd.Q_nil _ _ _ _ _ | exact Kd.S_nil _ _ _ _ _, bw1_ HB.out GE143.out⟩

end Go.Proofs.Ytilbngklgjjblaa.Q
