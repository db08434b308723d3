/- Contracts of Go functions over this translation. Conditions: those that each theorem names. -/
import Derived.Test.YtilbngklgjjblaaQ0
import Derived.Test.YtilbngklgjjblaaQ12
namespace Go.Proofs.Ytilbngklgjjblaa.Q
open Go.RowKit Go.Proofs.YtilbngklgjjblaaW.PrintWords Go.Proofs.YtilbngklgjjblaaW.PrintLast Go.Proofs.YtilbngklgjjblaaW.PrintMore
attribute [local go_sem] max2_int min2_int max_two min_two max_three min_three max_four min_four
set_option linter.unusedVariables false
set_option linter.unusedSimpArgs false

mutual
def impl_MagazineOk.j0 : Nat → List (List (S30)) → Bool → ByteArray → List Int → List Int → Option (Bool)
  | 0, _, _, _, _, _ => none
  | k + 1, x1, x17, x369000, x369001, x369002 => if x17 = true then (some false) else (impl_MagazineOk.l0 k x1 (x1.length : Int) 0 x369000 x369001 x369002)
def impl_MagazineOk.l0 : Nat → List (List (S30)) → Int → Int → ByteArray → List Int → List Int → Option (Bool)
  | 0, _, _, _, _, _, _ => none
  | k + 1, x18, x19, x20, x369000, x369001, x369002 => if x20 < x19 then (if 0 ≤ x20 then (if x20 < (x18.length : Int) then (if ((rd_L5 x18 x20).length : Int) > 20 then (some false) else ((impl_allOf.f x369000 x369001 x369002 (rd_L5 x18 x20)).bind fun t371 => (if t371 = true then (impl_MagazineOk.l0 k x18 x19 (wrap64 (x20 + 1)) x369000 x369001 x369002) else (some false)))) else (none)) else (none)) else (some true)
end
def impl_MagazineOk.f (k : Nat) (a0_0 : ByteArray) (l0_1 : List Int) (l0_2 : List Int) (l1 : List (List (S30))) : Option (Bool) := (impl_FontOk.f k a0_0 l0_1 l0_2).bind fun t369 => (if t369 = true then (impl_MagazineOk.j0 k l1 ((l1.length : Int) != (a0_0.size : Int)) a0_0 l0_1 l0_2) else (impl_MagazineOk.j0 k l1 true a0_0 l0_1 l0_2))
theorem impl_MagazineOk.mono_l : ∀ k, (∀ y0 y1 y2 y3 y4, LeO (impl_MagazineOk.j0 k y0 y1 y2 y3 y4) (impl_MagazineOk.j0 (k + 1) y0 y1 y2 y3 y4)) ∧ (∀ y0 y1 y2 y3 y4 y5, LeO (impl_MagazineOk.l0 k y0 y1 y2 y3 y4 y5) (impl_MagazineOk.l0 (k + 1) y0 y1 y2 y3 y4 y5))
  | 0 => ⟨fun _ _ _ _ _ r h => by simp [impl_MagazineOk.j0] at h, fun _ _ _ _ _ _ r h => by simp [impl_MagazineOk.l0] at h⟩
  | k + 1 => by
    obtain ⟨ih0, ih1⟩ := impl_MagazineOk.mono_l k
    refine ⟨?_, ?_⟩ <;> intros <;> (first | unfold impl_MagazineOk.j0 | unfold impl_MagazineOk.l0) <;> repeat' first | (with_reducible first | exact ih0 _ _ _ _ _ | exact ih1 _ _ _ _ _ _ | exact impl_FontOk.mono _ _ _ _ | exact LeO.refl _ | exact LeO.none _ | refine LeO.ite ?_ ?_ | refine LeO.bind ?_ (fun _ => ?_)) | exact ih0 _ _ _ _ _ | exact ih1 _ _ _ _ _ _ | exact impl_FontOk.mono _ _ _ _ | exact LeO.none _ | refine LeO.ite ?_ ?_ | refine LeO.bind ?_ (fun _ => ?_)
theorem impl_MagazineOk.mono : ∀ a0 a1 a2 a3 k, LeO (impl_MagazineOk.f k a0 a1 a2 a3) (impl_MagazineOk.f (k + 1) a0 a1 a2 a3) := by
 intro a0 a1 a2 a3 k
 obtain ⟨ih0, ih1⟩ := impl_MagazineOk.mono_l k
 unfold impl_MagazineOk.f
 repeat' first | (with_reducible first | exact ih0 _ _ _ _ _ | exact ih1 _ _ _ _ _ _ | exact impl_FontOk.mono _ _ _ _ | exact LeO.refl _ | exact LeO.none _ | refine LeO.ite ?_ ?_ | refine LeO.bind ?_ (fun _ => ?_)) | exact ih0 _ _ _ _ _ | exact ih1 _ _ _ _ _ _ | exact impl_FontOk.mono _ _ _ _ | exact LeO.none _ | refine LeO.ite ?_ ?_ | refine LeO.bind ?_ (fun _ => ?_)
set_option maxHeartbeats 8000000 in
set_option maxRecDepth 100000 in
theorem impl_MagazineOk.calls (k : Nat) (a0_0 : ByteArray) (A0_1 : Option Addr) (c0_1 : Nat) (l0_1 : List Int) (A0_2 : Option Addr) (c0_2 : Nat) (l0_2 : List Int) (A1 : Option Addr) (c1 : Nat) (l1 : List (List (S30))) (r : Bool) (w : World) (hr0_1 : Kd.C (Kd.int .i64) w A0_1 l0_1.length l0_1) (hc0_1 : l0_1.length ≤ c0_1) (hr0_2 : Kd.C (Kd.int .i64) w A0_2 l0_2.length l0_2) (hc0_2 : l0_2.length ≤ c0_2) (hr1 : Kd.C (Kd.slice 30 k30) w A1 l1.length l1) (hc1 : l1.length ≤ c1) (h : impl_MagazineOk.f k a0_0 l0_1 l0_2 l1 = some r) :
    Calls Try.prog 44 #[.agg #[.string a0_0, .slice A0_1 l0_1.length c0_1, .slice A0_2 l0_2.length c0_2], .slice A1 l1.length c1] w fun e w' => e = .returned (.bool r) ∧ Below w.heap.size w w' := by
 have hu25 := Try.underlying25
 have HR0_1 := M_ hr0_1
 have HC0_1 := M_ hc0_1
 clear hr0_1 hc0_1
 have HR0_2 := M_ hr0_2
 have HC0_2 := M_ hc0_2
 clear hr0_2 hc0_2
 have HR1 := M_ hr1
 have HC1 := M_ hc1
 clear hr1 hc1
 have HB := M_ (Below.refl w.heap.size w)
 have H : ((impl_FontOk.f k a0_0 l0_1 l0_2).bind fun t369 => (if t369 = true then (impl_MagazineOk.j0 k l1 ((l1.length : Int) != (a0_0.size : Int)) a0_0 l0_1 l0_2) else (impl_MagazineOk.j0 k l1 true a0_0 l0_1 l0_2))) = some r := h
 clear h
 have HC3 := M_ H
 clear H
 go_enter Try.func44, Try.ntmps44
 go_upto_region 1 with (first | ((with_reducible refine gate_dst (N := 2) rfl ?_); (try (refine gate_guard (by rfl) ?_; dsimp only)); refine be_ 2 #[.string a0_0, .slice A0_1 l0_1.length c0_1, .slice A0_2 l0_2.length c0_2] 25 ?_; intro gb368 hg w4 hbox hb; have z_ := t3_ (bS_ (bw0_ HB.out) hb) hbox (gv_ hg (bw0_ HB.out) : w.heap.size ≤ gb368); clear HB; obtain ⟨HB, BK368, GE368⟩ := z_; clear hb hbox hg))
 (try simp only [Act.put, lA_, lB_, lC_])
 go_cut [17] (fun v17 wc => ∃ (kq : Nat) (x17_2 : Bool), v17 = .bool x17_2 ∧ Aside0 (impl_MagazineOk.j0 kq l1 x17_2 a0_0 l0_1 l0_2 = some r) ∧ Aside0 (kq ≤ k) ∧ Aside0 (wc.heap[gb368]? = some (.cells #[.string a0_0, (.slice A0_1 l0_1.length c0_1), (.slice A0_2 l0_2.length c0_2)] 25 (0, 0))) ∧ Aside0 (Below w.heap.size w wc))
 case first =>
  have H := HC3.out
  clear HC3
  replace H := bs_ H
  obtain ⟨t369, A50, H⟩ := H
  (try dsimp only at H)
  have A5 := M_ A50
  clear A50
  by_cases c6 : t369 = true
  ·subst c6
   rw [if_pos rfl] at H
   have H' := M_ H
   clear H
   have hcz7_0 := cz_ BK368.out 0 (.string a0_0)
   have hcz7_1 := cz_ BK368.out 1 (.slice A0_1 l0_1.length c0_1)
   have hcz7_2 := cz_ BK368.out 2 (.slice A0_2 l0_2.length c0_2)
   have hfz7_0 := fz_ BK368.out 0
   have hfz7_1 := fz_ BK368.out 1
   have hfz7_2 := fz_ BK368.out 2
   go_wp2_with (first | ((with_reducible refine gate_callee (f := 31) rfl ?_); refine gl_ (some 8) Try.func31 #[.agg #[.string a0_0, .slice A0_1 l0_1.length c0_1, .slice A0_2 l0_2.length c0_2]] ?_; (with_reducible refine (impl_FontOk.calls k a0_0 _ _ l0_1 _ _ l0_2 true _ ?side1 ?side2 ?side3 ?side4 A5.out).mono ?_); (case side1 => exact kC_ HR0_1.out HB.out); (case side2 => exact HC0_1.out); (case side3 => exact kC_ HR0_2.out HB.out); (case side4 => exact HC0_2.out); rintro e w8 ⟨rfl, hb⟩; refine ⟨_, rfl, ?_⟩; have z_ := t2_ (bB_ (bk_ BK368.out) hb) (bS_ (bw1_ HB.out GE368.out) hb); (try clear BK368); clear HB; obtain ⟨BK368, HB⟩ := z_; (try clear hb); have hcz9_0 := cz_ BK368.out 0 (.string a0_0); have hcz9_1 := cz_ BK368.out 1 (.slice A0_1 l0_1.length c0_1); have hcz9_2 := cz_ BK368.out 2 (.slice A0_2 l0_2.length c0_2); have hfz9_0 := fz_ BK368.out 0; have hfz9_1 := fz_ BK368.out 1; have hfz9_2 := fz_ BK368.out 2))
   go_meet
   case rel => exact ⟨_, (((l1.length : Int) != (a0_0.size : Int))), (by first | rfl | (simp; done) | (simp [*]; done)), H', ⟨by first | omega | exact Nat.le_refl _⟩, ⟨by refine bk_ ?_; exact BK368.out⟩, ⟨bw1_ HB.out GE368.out⟩⟩
  ·replace c6 := Bool.eq_false_iff.mpr c6
   subst c6
   rw [if_neg (show ¬ (false = true) by decide)] at H
   have H' := M_ H
   clear H
   have hcz10_0 := cz_ BK368.out 0 (.string a0_0)
   have hcz10_1 := cz_ BK368.out 1 (.slice A0_1 l0_1.length c0_1)
   have hcz10_2 := cz_ BK368.out 2 (.slice A0_2 l0_2.length c0_2)
   have hfz10_0 := fz_ BK368.out 0
   have hfz10_1 := fz_ BK368.out 1
   have hfz10_2 := fz_ BK368.out 2
   go_wp2_with (first | ((with_reducible refine gate_callee (f := 31) rfl ?_); refine gl_ (some 8) Try.func31 #[.agg #[.string a0_0, .slice A0_1 l0_1.length c0_1, .slice A0_2 l0_2.length c0_2]] ?_; (with_reducible refine (impl_FontOk.calls k a0_0 _ _ l0_1 _ _ l0_2 false _ ?side1 ?side2 ?side3 ?side4 A5.out).mono ?_); (case side1 => exact kC_ HR0_1.out HB.out); (case side2 => exact HC0_1.out); (case side3 => exact kC_ HR0_2.out HB.out); (case side4 => exact HC0_2.out); rintro e w11 ⟨rfl, hb⟩; refine ⟨_, rfl, ?_⟩; have z_ := t2_ (bB_ (bk_ BK368.out) hb) (bS_ (bw1_ HB.out GE368.out) hb); (try clear BK368); clear HB; obtain ⟨BK368, HB⟩ := z_; (try clear hb)))
   go_meet
   case rel => exact ⟨_, (true), (by first | rfl | (simp; done) | (simp [*]; done)), H', ⟨by first | omega | exact Nat.le_refl _⟩, ⟨by refine bk_ ?_; exact BK368.out⟩, ⟨bw1_ HB.out GE368.out⟩⟩
 case rest =>
  clear HC3
  (try clear hfz9_2 hfz9_1 hfz9_0 hfz7_2 hfz7_1 hfz7_0 hfz10_2 hfz10_1 hfz10_0 hcz9_2 hcz9_1 hcz9_0 hcz7_2 hcz7_1 hcz7_0 hcz10_2 hcz10_1 hcz10_0 c6 c4 c3 p2 c1)
  obtain ⟨kq, x17_2, rfl, HA, HJ2, BK368, HB⟩ := hcut
  cases kq with
  | zero => exact absurd HA.out (by simp [impl_MagazineOk.j0])
  | succ kj2 =>
   have H := HA.out
   clear HA
   simp only [impl_MagazineOk.j0] at H
   by_cases c12 : x17_2 = true
   ·subst c12
    rw [if_pos rfl] at H
    obtain rfl := Option.some.inj H
    go_wp2
    go_ret
    exact ⟨rb_, bw1_ HB.out GE368.out⟩
   ·replace c12 := Bool.eq_false_iff.mpr c12
    subst c12
    rw [if_neg (show ¬ (false = true) by decide)] at H
    have H' := M_ H
    clear H
    go_wp2
    go_loopg [20] kj2 (fun kq v20 w' => ∃ (x20_2 : Int), v20 = .int .i64 x20_2 ∧ Aside0 (impl_MagazineOk.l0 kq l1 (l1.length : Int) x20_2 a0_0 l0_1 l0_2 = some r) ∧ Aside0 (kq ≤ kj2) ∧ Aside0 (w'.heap[gb368]? = some (.cells #[.string a0_0, (.slice A0_1 l0_1.length c0_1), (.slice A0_2 l0_2.length c0_2)] 25 (0, 0))) ∧ Aside0 (Below w.heap.size w w'))
    case atStart => exact ⟨(0), (by first | rfl | (simp; done) | (simp [*]; done)), H', ⟨Nat.le_refl _⟩, ⟨by refine bk_ ?_; exact BK368.out⟩, ⟨bw1_ HB.out GE368.out⟩⟩
    case round =>
     clear H'
     (try clear p2 hfz9_2 hfz9_1 hfz9_0 hfz7_2 hfz7_1 hfz7_0 hfz10_2 hfz10_1 hfz10_0 hcz9_2 hcz9_1 hcz9_0 hcz7_2 hcz7_1 hcz7_0 hcz10_2 hcz10_1 hcz10_0 c12 p6 c6 c4 c3 p2 c1)
     obtain ⟨x20_2, rfl, HA, HK2, BK368, HB⟩ := hrel
     cases gk with
     | zero => exact absurd HA.out (by simp [impl_MagazineOk.l0])
     | succ k2 =>
      have H := HA.out
      clear HA
      simp only [impl_MagazineOk.l0] at H
      by_cases c13 : x20_2 < (l1.length : Int)
      ·rw [if_pos c13] at H
       have c13b0 := dt_ c13
       clear c13
       by_cases c14 : 0 ≤ x20_2
       ·rw [if_pos c14] at H
        have c14b0 := dt_ c14
        clear c14
        by_cases c15 : x20_2 < (l1.length : Int)
        ·rw [if_pos c15] at H
         have c15b0 := dt_ c15
         clear c15
         by_cases c16 : ((rd_L5 l1 x20_2).length : Int) > 20
         ·rw [if_pos c16] at H
          have c16b0 : decide (20 < ((rd_L5 l1 x20_2).length : Int)) = true := dt_ c16
          have c16b1 : decide (20 < (rd_L5 l1 x20_2).length) = true := dt_ (by omega)
          clear c16
          obtain rfl := Option.some.inj H
          have p370 : 0 ≤ (x20_2 : Int) := od_ as_
          have q370 : x20_2 < (l1.length : Int) := od_ as_
          obtain ⟨ad370, A370_0, c370_0, e370, hx370_0, hl370_0, hi370_0⟩ := at_L5 HR1.out x20_2 p370 q370
          cases e370
          replace hx370_0 := (HB.out.cell (World.block_lt_of_cell? w _ hx370_0)).trans hx370_0
          have HR370_0 := M_ hi370_0
          have HC370_0 := M_ hl370_0
          clear hi370_0 hl370_0
          replace p370 := eq_true p370
          replace q370 := eq_true q370
          go_wp2
          go_ret
          exact ⟨rb_, bw1_ HB.out GE368.out⟩
         ·rw [if_neg c16] at H
          have c16b0 : decide (20 < ((rd_L5 l1 x20_2).length : Int)) = false := decide_eq_false c16
          have c16b1 : decide (20 < (rd_L5 l1 x20_2).length) = false := decide_eq_false (by omega)
          clear c16
          replace H := bs_ H
          obtain ⟨t371, A170, H⟩ := H
          (try dsimp only at H)
          have A17 := M_ A170
          clear A170
          by_cases c18 : t371 = true
          ·subst c18
           rw [if_pos rfl] at H
           have H' := M_ H
           clear H
           have p370 : 0 ≤ (x20_2 : Int) := od_ as_
           have q370 : x20_2 < (l1.length : Int) := od_ as_
           obtain ⟨ad370, A370_0, c370_0, e370, hx370_0, hl370_0, hi370_0⟩ := at_L5 HR1.out x20_2 p370 q370
           cases e370
           replace hx370_0 := (HB.out.cell (World.block_lt_of_cell? w _ hx370_0)).trans hx370_0
           have HR370_0 := M_ hi370_0
           have HC370_0 := M_ hl370_0
           clear hi370_0 hl370_0
           replace p370 := eq_true p370
           replace q370 := eq_true q370
           have hcz19_0 : wr.cell? ⟨gb368, 0, none⟩ = some (.string a0_0) := (blk_cell BK368.out 0).trans rfl
           have hcz19_1 : wr.cell? ⟨gb368, 1, none⟩ = some (.slice A0_1 l0_1.length c0_1) := (blk_cell BK368.out 1).trans rfl
           have hcz19_2 : wr.cell? ⟨gb368, 2, none⟩ = some (.slice A0_2 l0_2.length c0_2) := (blk_cell BK368.out 2).trans rfl
           have hfz19_0 := fz_ BK368.out 0
           have hfz19_1 := fz_ BK368.out 1
           have hfz19_2 := fz_ BK368.out 2
           go_wp2_with (first | (go_at_call 87; (with_reducible refine (impl_allOf.calls a0_0 _ _ l0_1 _ _ l0_2 _ _ (rd_L5 l1 x20_2) true _ ?side1 ?side2 ?side3 ?side4 ?side5 ?side6 A17.out).mono ?_); (case side1 => exact kC_ HR0_1.out HB.out); (case side2 => exact HC0_1.out); (case side3 => exact kC_ HR0_2.out HB.out); (case side4 => exact HC0_2.out); (case side5 => exact kC_ HR370_0.out HB.out); (case side6 => exact HC370_0.out); rintro e w20 ⟨rfl, hb⟩; have z_ := t2_ (bB_ (bk_ BK368.out) hb) (bS_ (bw1_ HB.out GE368.out) hb); (try clear BK368); clear HB; obtain ⟨BK368, HB⟩ := z_; (try clear hb)))
           go_roundg k2
           case measure => have := HJ2.out; have := HK2.out; omega
           case rel => exact ⟨(wrap64 (x20_2 + 1)), (by first | rfl | (simp; done) | (simp [*]; done)), H', ⟨by have := HJ2.out; have := HK2.out; omega⟩, ⟨by refine bk_ ?_; exact BK368.out⟩, ⟨bw1_ HB.out GE368.out⟩⟩
          ·replace c18 := Bool.eq_false_iff.mpr c18
           subst c18
           rw [if_neg (show ¬ (false = true) by decide)] at H
           obtain rfl := Option.some.inj H
           have p370 : 0 ≤ (x20_2 : Int) := od_ as_
           have q370 : x20_2 < (l1.length : Int) := od_ as_
           obtain ⟨ad370, A370_0, c370_0, e370, hx370_0, hl370_0, hi370_0⟩ := at_L5 HR1.out x20_2 p370 q370
           cases e370
           replace hx370_0 := (HB.out.cell (World.block_lt_of_cell? w _ hx370_0)).trans hx370_0
           have HR370_0 := M_ hi370_0
           have HC370_0 := M_ hl370_0
           clear hi370_0 hl370_0
           replace p370 := eq_true p370
           replace q370 := eq_true q370
           have hcz21_0 : wr.cell? ⟨gb368, 0, none⟩ = some (.string a0_0) := (blk_cell BK368.out 0).trans rfl
           have hcz21_1 : wr.cell? ⟨gb368, 1, none⟩ = some (.slice A0_1 l0_1.length c0_1) := (blk_cell BK368.out 1).trans rfl
           have hcz21_2 : wr.cell? ⟨gb368, 2, none⟩ = some (.slice A0_2 l0_2.length c0_2) := (blk_cell BK368.out 2).trans rfl
           have hfz21_0 := fz_ BK368.out 0
           have hfz21_1 := fz_ BK368.out 1
           have hfz21_2 := fz_ BK368.out 2
           go_wp2_with (first | (go_at_call 87; (with_reducible refine (impl_allOf.calls a0_0 _ _ l0_1 _ _ l0_2 _ _ (rd_L5 l1 x20_2) false _ ?side1 ?side2 ?side3 ?side4 ?side5 ?side6 A17.out).mono ?_); (case side1 => exact kC_ HR0_1.out HB.out); (case side2 => exact HC0_1.out); (case side3 => exact kC_ HR0_2.out HB.out); (case side4 => exact HC0_2.out); (case side5 => exact kC_ HR370_0.out HB.out); (case side6 => exact HC370_0.out); rintro e w22 ⟨rfl, hb⟩; have n1_ := M_ (bS_ (bw1_ HB.out GE368.out) hb); (try clear BK368); clear HB; have HB := n1_; clear n1_; (try clear hb)))
           go_ret
           exact ⟨rb_, bw1_ HB.out GE368.out⟩
        ·rw [if_neg c15] at H
         exact absurd H (by simp)
       ·rw [if_neg c14] at H
        exact absurd H (by simp)
      ·rw [if_neg c13] at H
       have c13b0 := decide_eq_false c13
       clear c13
       obtain rfl := Option.some.inj H
       go_wp2
       go_ret
       exact ⟨rb_, bw1_ HB.out GE368.out⟩

/-- slices.Clone: the same elements in memory of its own. -/
def impl_Matrix_102.f (l0 : List S30) : Option (List S30) := if l0.length * 16 ≤ 140737488355328 then some l0 else none
set_option maxHeartbeats 2000000 in
set_option maxRecDepth 100000 in
theorem impl_Matrix_102.calls (A0 : Option Addr) (c0 : Nat) (l0 : List S30) (r : List S30) (w : World) (hr0 : Kd.C k30 w A0 l0.length l0) (hc0 : l0.length ≤ c0) (h : impl_Matrix_102.f l0 = some r) :
    Calls Try.prog 102 #[.slice A0 l0.length c0] w fun e w' => ∃ v0_ : Value, e = .returned (v0_) ∧ Kd.R k30 30 w' w.heap.size (fun _ => True) v0_ r ∧ Below w.heap.size w w' := by
 unfold impl_Matrix_102.f at h
 by_cases hlim : l0.length * 16 ≤ 140737488355328
 case neg => rw [if_neg hlim] at h; exact absurd h (by simp)
 rw [if_pos hlim] at h
 obtain rfl := Option.some.inj h
 clear h
 have hq : ∀ (W : World) (a : Option Addr) (n c n' c' : Nat), (binOp .eql 34 (.slice a n c) (.slice none n' c')).run Try.prog W = .ok (.bool a.isNone) W := fun W a n c n' c' => Lib.run_eql_slice_nil W _ _ a n c n' c' Try.underlying34
 cases A0 with
 | none =>
  have hl : l0 = [] := by
   cases l0 with
   | nil => rfl
   | cons a t =>
    obtain ⟨ad, e1, _⟩ := hr0.2.2 (by simp)
    exact absurd e1 (by simp)
  subst hl
  clear hr0 hlim
  go_enter Try.func102, Try.ntmps102
  go_wp2
  go_ret
  exact ⟨_, rfl, Kd.R_nil _ _ _ _ _, Below.refl _ _⟩
 | some ad =>
  have HR0 := M_ hr0
  have HC0 := M_ hc0
  have LMc16 := M_ hlim
  have HB := M_ (Below.refl w.heap.size w)
  clear hr0 hc0 hlim
  obtain ⟨y404, hy404⟩ : ∃ y_ : List S30, y_ = ([] : List S30) := ⟨_, rfl⟩
  obtain ⟨y407, hy407⟩ : ∃ y_ : List S30, y_ = y404 ++ l0 := ⟨_, rfl⟩
  have Ny404 := M_ hy404
  have Ny407 := M_ hy407
  clear hy404 hy407
  go_enter Try.func102, Try.ntmps102
  go_wp2_with (first | ((with_reducible refine gate_dst (N := 5) rfl ?_); refine Kd.R_lit k30 _ 30 ?hg (N := 5) ?hd (xs := ([] : List S30)) (inner := []) (ok := fun _ => True) (okp := fun _ => True) ?hr ?hp (fun _ hk => hk) trivial (Below.refl _ _) (Nat.le_refl _) (by simp) ?_; (case hd => rfl); (case hg => rfl); (case hr => first | (go_simp; done) | (go_simp; rfl)); (case hp => exact (Reps.none _ _)); intro v405 w21 ho22 hb hg_ hnew_; clear hg_ hnew_; rw [← Ny404.out] at ho22; have z_ := t2_ (Kd.R_lower ho22 (below_size (bw0_ HB.out))) (bS_ (bw0_ HB.out) hb); clear HB; obtain ⟨HO406, HB⟩ := z_; clear hb ho22) | ((with_reducible refine gate_builtin (b := .append) (xs := #[.tmp 5, .tmp 6]) rfl ?_); at_builtin; refine Kd.R_append_rows k30 (w0 := w) w.heap.size rfl (.tmp 5) (.tmp 6) 34 30 (.agg #[.int .i64 0, .int .i64 0]) 16 rfl Try.underlying34 info30 rfl (by decide) (by omega) v405 y404 l0 _ _ _ (fun _ => True) (fun _ => False) rfl rfl ?aO ?aR (fun _ _ h => h) (fun _ h => h.elim) ?aF ?aB ?aS ?aL ?_; (case aR => exact kC_ HR0.out HB.out); (case aB => exact (bw0_ HB.out)); (case aF => exact (fun _ _ => trivial)); (case aO => exact (kR_ HO406.out)); (case aS => exact (below_size (bw0_ HB.out))); (case aL => have := LMc16.out; rw [Ny404.out]; simpa using this); intro v408 w23 ho hb hg hat; rw [← Ny407.out] at ho; have z_ := t2_ hb ho; clear HO406 HB; obtain ⟨HB, HO409⟩ := z_; clear ho hb hg hat))
  go_ret
  have E : y407 = l0 := by rw [Ny407.out, Ny404.out]; rfl
  exact ⟨_, rfl, E ▸ HO409.out, HB.out⟩

def impl_copyMagazine.l0 : Nat → List (List (S30)) → List (List (S30)) → Int → Int → Option ((List (List (S30))))
  | 0, _, _, _, _ => none
  | k + 1, x3, x7, x8, x9 => if x9 < x8 then (if 0 ≤ x9 then (if x9 < (x7.length : Int) then ((impl_Matrix_102.f (rd_L5 x7 x9)).bind fun t376 => (if x3.length < 5864062014805 then (impl_copyMagazine.l0 k (x3 ++ [t376]) x7 x8 (wrap64 (x9 + 1))) else (none))) else (none)) else (none)) else (some x3)
def impl_copyMagazine.f (k : Nat) (l0 : List (List (S30))) : Option ((List (List (S30)))) := impl_copyMagazine.l0 k (([] : List (List (S30)))) l0 (l0.length : Int) 0
theorem impl_copyMagazine.mono_l : ∀ k, (∀ y0 y1 y2 y3, LeO (impl_copyMagazine.l0 k y0 y1 y2 y3) (impl_copyMagazine.l0 (k + 1) y0 y1 y2 y3))
  | 0 => fun _ _ _ _ r h => by simp [impl_copyMagazine.l0] at h
  | k + 1 => by
    have ih0 := impl_copyMagazine.mono_l k
    · intro y0 y1 y2 y3
      unfold impl_copyMagazine.l0
      repeat' first | (with_reducible first | exact ih0 _ _ _ _ | exact LeO.refl _ | exact LeO.none _ | refine LeO.ite ?_ ?_ | refine LeO.bind ?_ (fun _ => ?_)) | exact ih0 _ _ _ _ | exact LeO.none _ | refine LeO.ite ?_ ?_ | refine LeO.bind ?_ (fun _ => ?_)
theorem impl_copyMagazine.mono : ∀ a0 k, LeO (impl_copyMagazine.f k a0) (impl_copyMagazine.f (k + 1) a0) := by
 intro a0 k
 have ih0 := impl_copyMagazine.mono_l k
 unfold impl_copyMagazine.f
 repeat' first | (with_reducible first | exact ih0 _ _ _ _ | exact LeO.refl _ | exact LeO.none _ | refine LeO.ite ?_ ?_ | refine LeO.bind ?_ (fun _ => ?_)) | exact ih0 _ _ _ _ | exact LeO.none _ | refine LeO.ite ?_ ?_ | refine LeO.bind ?_ (fun _ => ?_)
set_option maxHeartbeats 8000000 in
set_option maxRecDepth 100000 in
theorem impl_copyMagazine.calls (k : Nat) (A0 : Option Addr) (c0 : Nat) (l0 : List (List (S30))) (r : List (List (S30))) (w : World) (hr0 : Kd.C (Kd.slice 30 k30) w A0 l0.length l0) (hc0 : l0.length ≤ c0) (h : impl_copyMagazine.f k l0 = some r) :
    Calls Try.prog 74 #[.slice A0 l0.length c0] w fun e w' => ∃ v0_ : Value, e = .returned (v0_) ∧ Kd.S (Kd.slice 30 k30) 34 w' w.heap.size (fun _ => True) v0_ r ∧ Below w.heap.size w w' := by
 have HR0 := M_ hr0
 have HC0 := M_ hc0
 clear hr0 hc0
 have HB := M_ (Below.refl w.heap.size w)
 have H : (impl_copyMagazine.l0 k (([] : List (List (S30)))) l0 (l0.length : Int) 0) = some r := h
 clear h
 obtain ⟨y372, hy372⟩ : ∃ y_ : List (List (S30)), y_ = (([] : List (List (S30)))) := ⟨_, rfl⟩
 replace H : (impl_copyMagazine.l0 k y372 l0 (l0.length : Int) 0) = some r := by first | (rw [hy372]; with_reducible exact H) | (have H2_ := (Option.bind_some _ _).symm.trans H; rw [hy372]; with_reducible exact H2_) | (have H2_ := (Option.bind_some _ _).symm.trans H; with_reducible exact H2_) | with_reducible exact H | (rw [hy372]; exact H) | exact H
 have Ny372 := M_ hy372
 clear hy372
 have H' := M_ H
 clear H
 go_enter Try.func74, Try.ntmps74
 go_wp2_with (first | ((with_reducible refine gate_dst (N := 6) rfl ?_); refine Kd.S_lit (Kd.slice 30 k30) _ 34 ?hg (N := 6) ?hd (xs := ([] : List (List (S30)))) (inner := []) (ok := fun _ => True) (okp := fun _ => True) ?hr ?hp (fun _ hk => hk) trivial (Below.refl _ _) (Nat.le_refl _) (by simp) ?_; (case hd => rfl); (case hg => rfl); (case hr => first | (go_simp; done) | (go_simp; rfl)); (case hp => exact (Reps.none _ _)); intro v373 w2 ho3 hb hg_ hnew_; clear hg_ hnew_; (first | rw [← Ny372.out] at ho3 | (simp only [Int.reduceToNat] at ho3; rw [← Ny372.out] at ho3)); have z_ := t2_ (Kd.S_lower ho3 (below_size (bw0_ HB.out))) (bS_ (bw0_ HB.out) hb); clear HB; obtain ⟨HO374, HB⟩ := z_; clear hb ho3))
 go_loopg [3, 9] k (fun kq v3 v9 w' => ∃ (x3_1 : List (List (S30))) (x9_1 : Int), v9 = .int .i64 x9_1 ∧ Aside0 (impl_copyMagazine.l0 kq x3_1 l0 (l0.length : Int) x9_1 = some r) ∧ Aside0 (kq ≤ k) ∧ Aside0 (Kd.S (Kd.slice 30 k30) 34 w' w.heap.size (fun _ => True) v3 x3_1) ∧ Aside0 (Below w.heap.size w w'))
 case atStart => exact ⟨(y372), (0), (by first | rfl | (simp; done) | (simp [*]; done)), H', ⟨Nat.le_refl _⟩, ⟨by refine kS_ ?_; exact HO374.out⟩, ⟨bw0_ HB.out⟩⟩
 case round =>
  clear H'
  try clear p2
  obtain ⟨x3_1, x9_1, rfl, HA, HK1, HO_3, HB⟩ := hrel
  cases gk with
  | zero => exact absurd HA.out (by simp [impl_copyMagazine.l0])
  | succ k1 =>
   have H := HA.out
   clear HA
   simp only [impl_copyMagazine.l0] at H
   by_cases c4 : x9_1 < (l0.length : Int)
   ·rw [if_pos c4] at H
    have c4b0 := dt_ c4
    clear c4
    by_cases c5 : 0 ≤ x9_1
    ·rw [if_pos c5] at H
     have c5b0 := dt_ c5
     clear c5
     by_cases c6 : x9_1 < (l0.length : Int)
     ·rw [if_pos c6] at H
      have c6b0 := dt_ c6
      clear c6
      replace H := bs_ H
      obtain ⟨t376, A70, H⟩ := H
      (try dsimp only at H)
      have A7 := M_ A70
      clear A70
      by_cases c8 : x3_1.length < 5864062014805
      ·rw [if_pos c8] at H
       have LMc8 := M_ c8
       clear c8
       obtain ⟨y379, hy379⟩ : ∃ y_ : List (List (S30)), y_ = (x3_1 ++ [t376]) := ⟨_, rfl⟩
       replace H : (impl_copyMagazine.l0 k1 y379 l0 (l0.length : Int) (wrap64 (x9_1 + 1))) = some r := by first | (rw [hy379]; with_reducible exact H) | (have H2_ := (Option.bind_some _ _).symm.trans H; rw [hy379]; with_reducible exact H2_) | (have H2_ := (Option.bind_some _ _).symm.trans H; with_reducible exact H2_) | with_reducible exact H | (rw [hy379]; exact H) | exact H
       have Ny379 := M_ hy379
       clear hy379
       have H' := M_ H
       clear H
       have p375 : 0 ≤ (x9_1 : Int) := od_ as_
       have q375 : x9_1 < (l0.length : Int) := od_ as_
       obtain ⟨ad375, A375_0, c375_0, e375, hx375_0, hl375_0, hi375_0⟩ := at_L5 HR0.out x9_1 p375 q375
       cases e375
       replace hx375_0 := (HB.out.cell (World.block_lt_of_cell? w _ hx375_0)).trans hx375_0
       have HR375_0 := M_ hi375_0
       have HC375_0 := M_ hl375_0
       clear hi375_0 hl375_0
       replace p375 := eq_true p375
       replace q375 := eq_true q375
       go_wp2_with (first | ((with_reducible refine gate_callee (f := 102) rfl ?_); refine gl_ (some 15) Try.func102 #[.slice A375_0 (rd_L5 l0 x9_1).length c375_0] ?_; (with_reducible refine (impl_Matrix_102.calls _ _ (rd_L5 l0 x9_1) t376 _ ?side1 ?side2 A7.out).mono ?_); (case side1 => exact kC_ HR375_0.out HB.out); (case side2 => exact HC375_0.out); rintro e w9 ⟨v377, rfl, ho0, hb⟩; refine ⟨_, rfl, ?_⟩; have z_ := t3_ (Kd.S_elder' (kS_ HO_3.out) (Kd.R_base ho0) hb) (Kd.R_lower ho0 (below_size (bw0_ HB.out))) (bS_ (bw0_ HB.out) hb); clear HB HO_3; obtain ⟨HO_3, HO378, HB⟩ := z_; (try clear ho0 hb); obtain ⟨Ao11, co11, eo11⟩ := Kd.R_slice HO378.out; subst eo11) | ((with_reducible refine gate_builtin (b := .append) (xs := #[.tmp 13, .tmp 16]) rfl ?_); at_builtin; refine Kd.S_append (Kd.slice 30 k30) (w0 := w) w.heap.size rfl (.tmp 13) (.tmp 16) 26 34 (.slice none 0 0) 24 rfl Try.underlying26 info34 rfl (by decide) (by omega) u3 x3_1 t376 [.slice Ao11 t376.length co11] (fun _ => True) (fun k_ => some k_ = (.slice Ao11 t376.length co11 : Value).ownBlock) rfl rfl ?aP (fun k_ hk_ => ((Kd.R_mono (ok' := fun k_ => ((fun _ => True)) k_ ∧ some k_ ≠ (u3 : Value).ownBlock) (Kd.R_apart' (HO378.out) (Kd.S_typed HO_3.out) (by decide)) (fun k_ hk => ⟨trivial, hk.2⟩))).1 k_ hk_.symm) ?aF ?aO ?aB ?aS ?aL ?_; (case aP => exact Kd.M_row (Kd.R_mono (Kd.R_tight rfl (Kd.R_mono (ok' := fun k_ => ((fun _ => True)) k_ ∧ some k_ ≠ (u3 : Value).ownBlock) (Kd.R_apart' (HO378.out) (Kd.S_typed HO_3.out) (by decide)) (fun k_ hk => ⟨trivial, hk.2⟩))) (fun _ h_ => h_))); (case aB => exact (bw0_ HB.out)); (case aF => exact (fun _ _ => trivial)); (case aO => exact (by refine kS_ ?_; exact Kd.S_mono HO_3.out (fun k_ hk => ⟨trivial, fun e_ => hk.2 e_⟩))); (case aS => exact (below_size (bw0_ HB.out))); (case aL => have := LMc8.out; omega); intro v380 w10 ho hb hg hat; rw [← Ny379.out] at ho; have z_ := t2_ hb ho; clear HO378 HO_3 HB; obtain ⟨HB, HO381⟩ := z_; clear ho hb hg hat))
       go_roundg k1
       case measure => have := HK1.out; omega
       case rel => exact ⟨(y379), (wrap64 (x9_1 + 1)), (by first | rfl | (simp; done) | (simp [*]; done)), H', ⟨by have := HK1.out; omega⟩, ⟨by refine kS_ ?_; exact HO381.out⟩, ⟨bw0_ HB.out⟩⟩
      ·rw [if_neg c8] at H
       exact absurd H (by simp)
     ·rw [if_neg c6] at H
      exact absurd H (by simp)
    ·rw [if_neg c5] at H
     exact absurd H (by simp)
   ·rw [if_neg c4] at H
    have c4b0 := decide_eq_false c4
    clear c4
    obtain rfl := Option.some.inj H
    go_wp2
    go_ret
    exact ⟨_, rb_, by refine kS_ ?_; exact HO_3.out, bw0_ HB.out⟩

end Go.Proofs.Ytilbngklgjjblaa.Q
