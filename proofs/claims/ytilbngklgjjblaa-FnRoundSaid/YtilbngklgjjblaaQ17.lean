/- Contracts of Go functions over this translation. Conditions: those that each theorem names. -/
import Derived.Test.YtilbngklgjjblaaQ0
import Derived.Test.YtilbngklgjjblaaQ11
import Derived.Test.YtilbngklgjjblaaQ12
import Derived.Test.YtilbngklgjjblaaQ13
namespace Go.Proofs.Ytilbngklgjjblaa.Q
open Go.RowKit Go.Proofs.YtilbngklgjjblaaW.PrintWords Go.Proofs.YtilbngklgjjblaaW.PrintLast Go.Proofs.YtilbngklgjjblaaW.PrintMore
attribute [local go_sem] max2_int min2_int max_two min_two max_three min_three max_four min_four
set_option linter.unusedVariables false
set_option linter.unusedSimpArgs false

def impl_DropMatrix.j0 : Nat → List (List (S30)) → Bool → ByteArray → List Int → List Int → Int → Int → Option ((List (List (S30))) × Int × Bool)
  | 0, _, _, _, _, _, _, _ => none
  | k + 1, x1, x20, x421000, x421001, x421002, x422000, x422001 => if x20 = true then (some (([] : List (List (S30))), 0, false)) else ((impl_fall.f k x421002 x422001).bind fun t424 => (if 0 ≤ t424 then (if t424 < (x1.length : Int) then (if ((rd_L5 x1 t424).length : Int) = 20 then (some (([] : List (List (S30))), 0, false)) else ((impl_copyMagazine.f k x1).bind fun t426 => (if t424 < (t426.length : Int) then (if (rd_L5 t426 t424).length < 8796093022208 then (some ((t426.set (t424 : Int).toNat ((rd_L5 t426 t424) ++ [(⟨x422000, x422001⟩ : S30)])), t424, true)) else (none)) else (none)))) else (none)) else (none)))
def impl_DropMatrix.f (k : Nat) (a0_0 : ByteArray) (l0_1 : List Int) (l0_2 : List Int) (l1 : List (List (S30))) (a2_0 : Int) (a2_1 : Int) : Option ((List (List (S30))) × Int × Bool) := (impl_MagazineOk.f k a0_0 l0_1 l0_2 l1).bind fun t422 => (if t422 = true then ((impl_ofFont.f a0_0 l0_1 l0_2 a2_0 a2_1).bind fun t423 => (impl_DropMatrix.j0 k l1 (!t423) a0_0 l0_1 l0_2 a2_0 a2_1)) else (impl_DropMatrix.j0 k l1 true a0_0 l0_1 l0_2 a2_0 a2_1))
theorem impl_DropMatrix.mono_l : ∀ k, (∀ y0 y1 y2 y3 y4 y5 y6, LeO (impl_DropMatrix.j0 k y0 y1 y2 y3 y4 y5 y6) (impl_DropMatrix.j0 (k + 1) y0 y1 y2 y3 y4 y5 y6))
  | 0 => fun _ _ _ _ _ _ _ r h => by simp [impl_DropMatrix.j0] at h
  | k + 1 => by
    have ih0 := impl_DropMatrix.mono_l k
    · intro y0 y1 y2 y3 y4 y5 y6
      unfold impl_DropMatrix.j0
      repeat' first | (with_reducible first | exact ih0 _ _ _ _ _ _ _ | exact impl_MagazineOk.mono _ _ _ _ _ | exact impl_copyMagazine.mono _ _ | exact impl_fall.mono _ _ _ | exact LeO.refl _ | exact LeO.none _ | refine LeO.ite ?_ ?_ | refine LeO.bind ?_ (fun _ => ?_)) | exact ih0 _ _ _ _ _ _ _ | exact impl_MagazineOk.mono _ _ _ _ _ | exact impl_copyMagazine.mono _ _ | exact impl_fall.mono _ _ _ | exact LeO.none _ | refine LeO.ite ?_ ?_ | refine LeO.bind ?_ (fun _ => ?_)
theorem impl_DropMatrix.mono : ∀ a0 a1 a2 a3 a4 a5 k, LeO (impl_DropMatrix.f k a0 a1 a2 a3 a4 a5) (impl_DropMatrix.f (k + 1) a0 a1 a2 a3 a4 a5) := by
 intro a0 a1 a2 a3 a4 a5 k
 have ih0 := impl_DropMatrix.mono_l k
 unfold impl_DropMatrix.f
 repeat' first | (with_reducible first | exact ih0 _ _ _ _ _ _ _ | exact impl_MagazineOk.mono _ _ _ _ _ | exact impl_copyMagazine.mono _ _ | exact impl_fall.mono _ _ _ | exact LeO.refl _ | exact LeO.none _ | refine LeO.ite ?_ ?_ | refine LeO.bind ?_ (fun _ => ?_)) | exact ih0 _ _ _ _ _ _ _ | exact impl_MagazineOk.mono _ _ _ _ _ | exact impl_copyMagazine.mono _ _ | exact impl_fall.mono _ _ _ | exact LeO.none _ | refine LeO.ite ?_ ?_ | refine LeO.bind ?_ (fun _ => ?_)
def impl_DropMatrix.T7 : Bool × List (List Nat × List Nat) := (true, [([], []), ([], []), ([], []), ([], []), ([2, 3], [2, 3]), ([4], [4]), ([], []), ([6], [6]), ([5, 7], [5, 7]), ([0, 1, 0, 1, 2, 3, 4, 5, 6, 7, 8], [0, 1]), ([9, 8, 8, 0, 1, 2, 3, 4, 5, 6, 7, 8], [8, 9])])
def impl_DropMatrix.B7 : List Nat := [0, 0, 0, 0, 12, 28, 0, 64, 252, 511, 1023]
theorem impl_DropMatrix.tab7 : rtab .any (opsOf Try.f23 7) = impl_DropMatrix.T7 := by kernel_rfl
theorem impl_DropMatrix.bits7 : waitsOk impl_DropMatrix.T7.2 impl_DropMatrix.B7 = true := by kernel_rfl
set_option maxHeartbeats 8000000 in
set_option maxRecDepth 100000 in
theorem impl_DropMatrix.calls (k : Nat) (a0_0 : ByteArray) (A0_1 : Option Addr) (c0_1 : Nat) (l0_1 : List Int) (A0_2 : Option Addr) (c0_2 : Nat) (l0_2 : List Int) (A1 : Option Addr) (c1 : Nat) (l1 : List (List (S30))) (a2_0 : Int) (a2_1 : Int) (r1 : List (List (S30))) (r2 : Int) (r3 : Bool) (w : World) (hr0_1 : Kd.C (Kd.int .i64) w A0_1 l0_1.length l0_1) (hc0_1 : l0_1.length ≤ c0_1) (hr0_2 : Kd.C (Kd.int .i64) w A0_2 l0_2.length l0_2) (hc0_2 : l0_2.length ≤ c0_2) (hr1 : Kd.C (Kd.slice 30 k30) w A1 l1.length l1) (hc1 : l1.length ≤ c1) (h : impl_DropMatrix.f k a0_0 l0_1 l0_2 l1 a2_0 a2_1 = some (r1, r2, r3)) :
    Calls Try.prog 23 #[.agg #[.string a0_0, .slice A0_1 l0_1.length c0_1, .slice A0_2 l0_2.length c0_2], .slice A1 l1.length c1, .agg #[.int .i64 a2_0, .int .i64 a2_1]] w fun e w' => ∃ v0_ : Value, e = .returned (.tuple #[v0_, .int .i64 r2, .bool r3]) ∧ Kd.S (Kd.slice 30 k30) 34 w' w.heap.size (fun _ => True) v0_ r1 ∧ Below w.heap.size w w' := by
 have hu25 := Try.underlying25
 have hu30 := Try.underlying30
 have HR0_1 := M_ hr0_1
 have HC0_1 := M_ hc0_1
 clear hr0_1 hc0_1
 have HR0_2 := M_ hr0_2
 have HC0_2 := M_ hc0_2
 clear hr0_2 hc0_2
 have HR1 := M_ hr1
 have HC1 := M_ hc1
 clear hr1 hc1
 have HB := M_ (Below.refl w.heap.size w)
 have H : ((impl_MagazineOk.f k a0_0 l0_1 l0_2 l1).bind fun t422 => (if t422 = true then ((impl_ofFont.f a0_0 l0_1 l0_2 a2_0 a2_1).bind fun t423 => (impl_DropMatrix.j0 k l1 (!t423) a0_0 l0_1 l0_2 a2_0 a2_1)) else (impl_DropMatrix.j0 k l1 true a0_0 l0_1 l0_2 a2_0 a2_1))) = some (r1, r2, r3) := h
 clear h
 have HC4 := M_ H
 clear H
 go_enter Try.func23, Try.ntmps23
 go_upto_region 1 with (first | ((with_reducible refine gate_dst (N := 3) rfl ?_); refine be_ 3 #[.string a0_0, .slice A0_1 l0_1.length c0_1, .slice A0_2 l0_2.length c0_2] 25 ?_; intro gb420 hg w5 hbox hb; have z_ := t3_ (bS_ (bw0_ HB.out) hb) hbox (gv_ hg (bw0_ HB.out) : w.heap.size ≤ gb420); clear HB; obtain ⟨HB, BK420, GE420⟩ := z_; clear hb hbox hg) | ((with_reducible refine gate_dst (N := 5) rfl ?_); refine be_ 5 #[.int .i64 a2_0, .int .i64 a2_1] 30 ?_; intro gb421 hg w6 hbox hb; have z_ := t5_ (bB_ (bk_ BK420.out) hb) (bS_ (bw1_ HB.out GE420.out) hb) hbox (gv_ hg (bw1_ HB.out GE420.out) : w.heap.size ≤ gb421) (by rw [hg]; exact Nat.ne_of_lt (blk_lt (bk_ BK420.out)) : gb420 ≠ gb421); clear HB BK420; obtain ⟨BK420, HB, BK421, GE421, NB420_421⟩ := z_; have NB421_420 := M_ NB420_421.out.symm; clear hb hbox hg))
 (try simp only [Act.put, lA_, lB_, lC_])
 go_cut [20] (fun v20 wc => ∃ (kq : Nat) (x20_3 : Bool), v20 = .bool x20_3 ∧ Aside0 (impl_DropMatrix.j0 kq l1 x20_3 a0_0 l0_1 l0_2 a2_0 a2_1 = some (r1, r2, r3)) ∧ Aside0 (kq ≤ k) ∧ Aside0 (wc.heap[gb420]? = some (.cells #[.string a0_0, (.slice A0_1 l0_1.length c0_1), (.slice A0_2 l0_2.length c0_2)] 25 (0, 0))) ∧ Aside0 (wc.heap[gb421]? = some (.cells #[.int .i64 a2_0, .int .i64 a2_1] 30 (0, 0))) ∧ Aside0 (Below w.heap.size w wc))
 case first =>
  have H := HC4.out
  clear HC4
  replace H := bs_ H
  obtain ⟨t422, A70, H⟩ := H
  (try dsimp only at H)
  have A7 := M_ A70
  clear A70
  by_cases c8 : t422 = true
  ·subst c8
   rw [if_pos rfl] at H
   replace H := bs_ H
   obtain ⟨t423, A90, H⟩ := H
   (try dsimp only at H)
   have A9 := M_ A90
   clear A90
   have H' := M_ H
   clear H
   have hnb10 := NB420_421.out
   have hnc10 := NB421_420.out
   have hcz11_0 := cz_ BK420.out 0 (.string a0_0)
   have hcz11_1 := cz_ BK420.out 1 (.slice A0_1 l0_1.length c0_1)
   have hcz11_2 := cz_ BK420.out 2 (.slice A0_2 l0_2.length c0_2)
   have hfz11_0 := fz_ BK420.out 0
   have hfz11_1 := fz_ BK420.out 1
   have hfz11_2 := fz_ BK420.out 2
   go_wp2_with (first | ((with_reducible refine gate_callee (f := 44) rfl ?_); refine gl_ (some 13) Try.func44 #[.agg #[.string a0_0, .slice A0_1 l0_1.length c0_1, .slice A0_2 l0_2.length c0_2], .slice A1 l1.length c1] ?_; (with_reducible refine (impl_MagazineOk.calls k a0_0 _ _ l0_1 _ _ l0_2 _ _ l1 true _ ?side1 ?side2 ?side3 ?side4 ?side5 ?side6 A7.out).mono ?_); (case side1 => exact kC_ HR0_1.out HB.out); (case side2 => exact HC0_1.out); (case side3 => exact kC_ HR0_2.out HB.out); (case side4 => exact HC0_2.out); (case side5 => exact kC_ HR1.out HB.out); (case side6 => exact HC1.out); rintro e w12 ⟨rfl, hb⟩; refine ⟨_, rfl, ?_⟩; have z_ := t3_ (bB_ (bk_ BK420.out) hb) (bB_ (bk_ BK421.out) hb) (bS_ (bw2_ HB.out GE420.out GE421.out) hb); clear HB BK421 BK420; obtain ⟨BK420, BK421, HB⟩ := z_; (try clear hb); have hcz13_0 := cz_ BK420.out 0 (.string a0_0); have hcz13_1 := cz_ BK420.out 1 (.slice A0_1 l0_1.length c0_1); have hcz13_2 := cz_ BK420.out 2 (.slice A0_2 l0_2.length c0_2); have hfz13_0 := fz_ BK420.out 0; have hfz13_1 := fz_ BK420.out 1; have hfz13_2 := fz_ BK420.out 2; have hcz14_0 := cz_ BK421.out 0 (.int .i64 a2_0); have hcz14_1 := cz_ BK421.out 1 (.int .i64 a2_1); have hfz14_0 := fz_ BK421.out 0; have hfz14_1 := fz_ BK421.out 1) | (go_at_call 76; (with_reducible refine (impl_ofFont.calls a0_0 _ _ l0_1 _ _ l0_2 a2_0 a2_1 t423 _ ?side1 ?side2 ?side3 ?side4 A9.out).mono ?_); (case side1 => exact kC_ HR0_1.out HB.out); (case side2 => exact HC0_1.out); (case side3 => exact kC_ HR0_2.out HB.out); (case side4 => exact HC0_2.out); rintro e w15 ⟨rfl, hb⟩; have z_ := t3_ (bB_ (bk_ BK420.out) hb) (bB_ (bk_ BK421.out) hb) (bS_ (bw2_ HB.out GE420.out GE421.out) hb); clear HB BK421 BK420; obtain ⟨BK420, BK421, HB⟩ := z_; (try clear hb)))
   go_meet
   case rel => exact ⟨_, (!t423), (by first | rfl | (simp; done) | (simp [*]; done)), H', ⟨by first | omega | exact Nat.le_refl _⟩, ⟨by refine bk_ ?_; exact BK420.out⟩, ⟨by refine bk_ ?_; exact BK421.out⟩, ⟨bw2_ HB.out GE420.out GE421.out⟩⟩
  ·replace c8 := Bool.eq_false_iff.mpr c8
   subst c8
   rw [if_neg (show ¬ (false = true) by decide)] at H
   have H' := M_ H
   clear H
   have hnb16 := NB420_421.out
   have hnc16 := NB421_420.out
   have hcz17_0 := cz_ BK420.out 0 (.string a0_0)
   have hcz17_1 := cz_ BK420.out 1 (.slice A0_1 l0_1.length c0_1)
   have hcz17_2 := cz_ BK420.out 2 (.slice A0_2 l0_2.length c0_2)
   have hfz17_0 := fz_ BK420.out 0
   have hfz17_1 := fz_ BK420.out 1
   have hfz17_2 := fz_ BK420.out 2
   go_wp2_with (first | ((with_reducible refine gate_callee (f := 44) rfl ?_); refine gl_ (some 13) Try.func44 #[.agg #[.string a0_0, .slice A0_1 l0_1.length c0_1, .slice A0_2 l0_2.length c0_2], .slice A1 l1.length c1] ?_; (with_reducible refine (impl_MagazineOk.calls k a0_0 _ _ l0_1 _ _ l0_2 _ _ l1 false _ ?side1 ?side2 ?side3 ?side4 ?side5 ?side6 A7.out).mono ?_); (case side1 => exact kC_ HR0_1.out HB.out); (case side2 => exact HC0_1.out); (case side3 => exact kC_ HR0_2.out HB.out); (case side4 => exact HC0_2.out); (case side5 => exact kC_ HR1.out HB.out); (case side6 => exact HC1.out); rintro e w18 ⟨rfl, hb⟩; refine ⟨_, rfl, ?_⟩; have z_ := t3_ (bB_ (bk_ BK420.out) hb) (bB_ (bk_ BK421.out) hb) (bS_ (bw2_ HB.out GE420.out GE421.out) hb); clear HB BK421 BK420; obtain ⟨BK420, BK421, HB⟩ := z_; (try clear hb)))
   go_meet
   case rel => exact ⟨_, (true), (by first | rfl | (simp; done) | (simp [*]; done)), H', ⟨by first | omega | exact Nat.le_refl _⟩, ⟨by refine bk_ ?_; exact BK420.out⟩, ⟨by refine bk_ ?_; exact BK421.out⟩, ⟨bw2_ HB.out GE420.out GE421.out⟩⟩
 case rest =>
  clear HC4
  (try clear hfz17_2 hfz17_1 hfz17_0 hfz14_1 hfz14_0 hfz13_2 hfz13_1 hfz13_0 hfz11_2 hfz11_1 hfz11_0 hcz17_2 hcz17_1 hcz17_0 hcz14_1 hcz14_0 hcz13_2 hcz13_1 hcz13_0 hcz11_2 hcz11_1 hcz11_0 c16 c10 c8 c4 p2 c2 c1)
  obtain ⟨kq, x20_3, rfl, HA, HJ3, BK420, BK421, HB⟩ := hcut
  cases kq with
  | zero => exact absurd HA.out (by simp [impl_DropMatrix.j0])
  | succ kj3 =>
   have H := HA.out
   clear HA
   simp only [impl_DropMatrix.j0] at H
   by_cases c19 : x20_3 = true
   ·subst c19
    rw [if_pos rfl] at H
    simp only [Option.some.injEq, Prod.mk.injEq] at H
    obtain ⟨rfl, rfl, rfl⟩ := H
    go_wp2
    go_ret3
    exact ⟨_, rb_, by first | exact Kd.S_nil _ _ _ _ _ | exact Kd.N_nil _ _ _ _ _ | exact Kd.V_nil _ _ _ _ _ | exact Kd.Q_nil _ _ _ _ _ | exact Kd.R_nil _ _ _ _ _, bw2_ HB.out GE420.out GE421.out⟩
   ·replace c19 := Bool.eq_false_iff.mpr c19
    subst c19
    rw [if_neg (show ¬ (false = true) by decide)] at H
    replace H := bs_ H
    obtain ⟨t424, A200, H⟩ := H
    (try dsimp only at H)
    have A20 := M_ A200
    clear A200
    by_cases c21 : 0 ≤ t424
    ·rw [if_pos c21] at H
     have c21b0 := dt_ c21
     clear c21
     by_cases c22 : t424 < (l1.length : Int)
     ·rw [if_pos c22] at H
      have c22b0 := dt_ c22
      clear c22
      by_cases c23 : ((rd_L5 l1 t424).length : Int) = 20
      ·rw [if_pos c23] at H
       have c23b0 := beq_iff_eq.mpr c23
       have c23b1 := bne_eq_false_iff_eq.mpr c23
       clear c23
       simp only [Option.some.injEq, Prod.mk.injEq] at H
       obtain ⟨rfl, rfl, rfl⟩ := H
       have hnb24 := NB420_421.out
       have hnc24 := NB421_420.out
       have hcz25_0 : wc.cell? ⟨gb420, 0, none⟩ = some (.string a0_0) := (blk_cell BK420.out 0).trans rfl
       have hcz25_1 : wc.cell? ⟨gb420, 1, none⟩ = some (.slice A0_1 l0_1.length c0_1) := (blk_cell BK420.out 1).trans rfl
       have hcz25_2 : wc.cell? ⟨gb420, 2, none⟩ = some (.slice A0_2 l0_2.length c0_2) := (blk_cell BK420.out 2).trans rfl
       have hfz25_0 := fz_ BK420.out 0
       have hfz25_1 := fz_ BK420.out 1
       have hfz25_2 := fz_ BK420.out 2
       have hcz26_0 : wc.cell? ⟨gb421, 0, none⟩ = some (.int .i64 a2_0) := (blk_cell BK421.out 0).trans rfl
       have hcz26_1 : wc.cell? ⟨gb421, 1, none⟩ = some (.int .i64 a2_1) := (blk_cell BK421.out 1).trans rfl
       have hfz26_0 := fz_ BK421.out 0
       have hfz26_1 := fz_ BK421.out 1
       go_wp2_with (first | ((with_reducible refine gate_callee (f := 77) rfl ?_); refine gl_ (some 25) Try.func77 #[.slice A0_2 l0_2.length c0_2, .int .i64 a2_1] ?_; (with_reducible refine (impl_fall.calls kj3 _ _ l0_2 a2_1 t424 _ ?side1 ?side2 A20.out).mono ?_); (case side1 => exact kC_ HR0_2.out HB.out); (case side2 => exact HC0_2.out); rintro e w' ⟨rfl, ⟨nd, rfl⟩⟩; refine ⟨_, rfl, ?_⟩; have p425 : 0 ≤ (t424 : Int) := od_ as_; have q425 : t424 < (l1.length : Int) := od_ as_; obtain ⟨ad425, A425_0, c425_0, e425, hx425_0, hl425_0, hi425_0⟩ := at_L5 HR1.out t424 p425 q425; cases e425; replace hx425_0 := (HB.out.cell (World.block_lt_of_cell? w _ hx425_0)).trans hx425_0; have HR425_0 := M_ hi425_0; have HC425_0 := M_ hl425_0; clear hi425_0 hl425_0; replace p425 := eq_true p425; replace q425 := eq_true q425))
       go_ret3
       exact ⟨_, rb_, by first | exact Kd.S_nil _ _ _ _ _ | exact Kd.N_nil _ _ _ _ _ | exact Kd.V_nil _ _ _ _ _ | exact Kd.Q_nil _ _ _ _ _ | exact Kd.R_nil _ _ _ _ _, bw2_ HB.out GE420.out GE421.out⟩
      ·rw [if_neg c23] at H
       have c23b0 : (((rd_L5 l1 t424).length : Int) == 20) = false := beq_eq_false_iff_ne.mpr c23
       have c23b1 : (((rd_L5 l1 t424).length : Int) != 20) = true := bne_iff_ne.mpr c23
       replace H := bs_ H
       obtain ⟨t426, A270, H⟩ := H
       (try dsimp only at H)
       have A27 := M_ A270
       clear A270
       by_cases c28 : t424 < (t426.length : Int)
       ·rw [if_pos c28] at H
        have c28b0 := dt_ c28
        clear c28
        by_cases c29 : (rd_L5 t426 t424).length < 8796093022208
        ·rw [if_pos c29] at H
         have LMc29 := M_ c29
         clear c29
         obtain ⟨y430, hy430⟩ : ∃ y_ : List (S30), y_ = ((rd_L5 t426 t424) ++ [(⟨a2_0, a2_1⟩ : S30)]) := ⟨_, rfl⟩
         replace H : (some ((t426.set (t424 : Int).toNat y430), t424, true)) = some (r1, r2, r3) := by first | (rw [hy430]; with_reducible exact H) | (have H2_ := (Option.bind_some _ _).symm.trans H; rw [hy430]; with_reducible exact H2_) | (have H2_ := (Option.bind_some _ _).symm.trans H; with_reducible exact H2_) | with_reducible exact H | (rw [hy430]; exact H) | exact H
         have Ny430 := M_ hy430
         clear hy430
         obtain ⟨y433, hy433⟩ : ∃ y_ : List (List (S30)), y_ = (t426.set (t424 : Int).toNat y430) := ⟨_, rfl⟩
         replace H : (some (y433, t424, true)) = some (r1, r2, r3) := by first | (rw [hy433]; with_reducible exact H) | (have H2_ := (Option.bind_some _ _).symm.trans H; rw [hy433]; with_reducible exact H2_) | (have H2_ := (Option.bind_some _ _).symm.trans H; with_reducible exact H2_) | with_reducible exact H | (rw [hy433]; exact H) | exact H
         have Ny433 := M_ hy433
         clear hy433
         simp only [Option.some.injEq, Prod.mk.injEq] at H
         obtain ⟨rfl, rfl, rfl⟩ := H
         have hnb31 := NB420_421.out
         have hnc31 := NB421_420.out
         have hcz32_0 : wc.cell? ⟨gb420, 0, none⟩ = some (.string a0_0) := (blk_cell BK420.out 0).trans rfl
         have hcz32_1 : wc.cell? ⟨gb420, 1, none⟩ = some (.slice A0_1 l0_1.length c0_1) := (blk_cell BK420.out 1).trans rfl
         have hcz32_2 : wc.cell? ⟨gb420, 2, none⟩ = some (.slice A0_2 l0_2.length c0_2) := (blk_cell BK420.out 2).trans rfl
         have hfz32_0 := fz_ BK420.out 0
         have hfz32_1 := fz_ BK420.out 1
         have hfz32_2 := fz_ BK420.out 2
         have hcz33_0 : wc.cell? ⟨gb421, 0, none⟩ = some (.int .i64 a2_0) := (blk_cell BK421.out 0).trans rfl
         have hcz33_1 : wc.cell? ⟨gb421, 1, none⟩ = some (.int .i64 a2_1) := (blk_cell BK421.out 1).trans rfl
         have hfz33_0 := fz_ BK421.out 0
         have hfz33_1 := fz_ BK421.out 1
         try go_wp2_with (first | ((with_reducible refine gate_callee (f := 77) rfl ?_); refine gl_ (some 25) Try.func77 #[.slice A0_2 l0_2.length c0_2, .int .i64 a2_1] ?_; (with_reducible refine (impl_fall.calls kj3 _ _ l0_2 a2_1 t424 _ ?side1 ?side2 A20.out).mono ?_); (case side1 => exact kC_ HR0_2.out HB.out); (case side2 => exact HC0_2.out); rintro e w' ⟨rfl, ⟨nd, rfl⟩⟩; refine ⟨_, rfl, ?_⟩; (try (rw [drewN_self wc]; generalize hq_ : World.drewN wc _ = wc; have n0_ : Aside0 (wc.heap[gb420]? = some (.cells #[.string a0_0, .slice A0_1 l0_1.length c0_1, .slice A0_2 l0_2.length c0_2] 25 (0, 0))) := ⟨by rw [← hq_]; exact (bk_ BK420.out)⟩; have n1_ : Aside0 (wc.heap[gb421]? = some (.cells #[.int .i64 a2_0, .int .i64 a2_1] 30 (0, 0))) := ⟨by rw [← hq_]; exact (bk_ BK421.out)⟩; have n2_ : Aside0 (Below w.heap.size w wc) := ⟨by rw [← hq_]; exact (bw2_ HB.out GE420.out GE421.out)⟩; clear BK420 BK421 HB hq_; have BK420 := n0_; have BK421 := n1_; have HB := n2_; clear n0_ n1_ n2_)); have p425 : 0 ≤ (t424 : Int) := od_ as_; have q425 : t424 < (l1.length : Int) := od_ as_; obtain ⟨ad425, A425_0, c425_0, e425, hx425_0, hl425_0, hi425_0⟩ := at_L5 HR1.out t424 p425 q425; cases e425; replace hx425_0 := (HB.out.cell (World.block_lt_of_cell? w _ hx425_0)).trans hx425_0; have HR425_0 := M_ hi425_0; have HC425_0 := M_ hl425_0; clear hi425_0 hl425_0; replace p425 := eq_true p425; replace q425 := eq_true q425) | ((with_reducible refine gate_callee (f := 74) rfl ?_); refine gl_ (some 33) Try.func74 #[.slice (some ad425) l1.length c1] ?_; (with_reducible refine (impl_copyMagazine.calls kj3 _ _ l1 t426 _ ?side1 ?side2 A27.out).mono ?_); (case side1 => exact kC_ HR1.out HB.out); (case side2 => exact HC1.out); rintro e w34 ⟨v427, rfl, ho0, hb⟩; refine ⟨_, rfl, ?_⟩; have z_ := t4_ (Kd.S_lower (Kd.S_newB ho0 (g := gb421) (o := .cells #[.int .i64 a2_0, .int .i64 a2_1] 30 (0, 0)) (bk_ BK421.out)) (below_size (bw2_ HB.out GE420.out GE421.out))) (bB_ (bk_ BK420.out) hb) (bB_ (bk_ BK421.out) hb) (bS_ (bw2_ HB.out GE420.out GE421.out) hb); clear HB BK421 BK420; obtain ⟨HO428, BK420, BK421, HB⟩ := z_; (try clear ho0 hb)))
         have z_ := t4_ (Kd.S_drew HO428.out) (blk_drew BK420.out) (blk_drew BK421.out) (below_drew1 HB.out)
         clear HB BK421 BK420 HO428
         obtain ⟨HO428, BK420, BK421, HB⟩ := z_
         obtain ⟨Ao36, co36, eo36⟩ := Kd.S_slice HO428.out
         (first | subst eo36 | (injection eo36 with f1_ f2_ f3_; have f4_ := f1_.symm; have f5_ := f3_.symm; clear f1_ f2_ f3_; subst f4_; subst f5_))
         have p429 : 0 ≤ (t424 : Int) := od_ as_
         have q429 : t424 < (t426.length : Int) := od_ as_
         obtain ⟨ad429, A429_0, c429_0, e429, hx429_0, hl429_0, hi429_0⟩ := at_L5 (Kd.S_reads' HO428.out).2.2 t424 p429 q429
         cases e429
         obtain ⟨ce429, hce429, hMe429, hcc429⟩ := Kd.S_get HO428.out [] t424 p429 (by first | exact q429 | exact od_ as_ | (have e_ := (Kd.S_reads' HO428.out).1; omega))
         obtain ⟨ve429_0, rfl, ge429_0⟩ := hMe429
         have hv429_0 := hcc429 0 _ rfl
         rw [Nat.add_zero, show ((Kd.slice 30 k30)).sz = 1 from rfl, Nat.mul_one] at hv429_0
         replace hv429_0 := Option.some.inj (hv429_0.symm.trans hx429_0)
         rw [hv429_0] at ge429_0
         have HL429_0 := M_ (show Kd.R k30 30 _ _ _ _ (rd_L5 t426 t424) from ge429_0)
         clear hv429_0 ge429_0
         have HX429_0 := M_ hx429_0
         clear hcc429 hce429
         have HR429_0 := M_ hi429_0
         have HC429_0 := M_ hl429_0
         clear hi429_0 hl429_0
         replace p429 := eq_true p429
         replace q429 := eq_true q429
         have n_ := M_ (Kd.S_mono (ok' := (fun k_ => k_ ≠ gb421)) HO428.out (fun k_ hk => hk.2))
         clear HO428
         have HO428 := n_
         clear n_
         obtain ⟨go37, co37, eo37, gb37, gl37, cl37, HG37⟩ := Kd.S_form HO428.out (by have h_ : (t424 : Int) < ((t426.length : Int) : Int) := od_ as_; have h2_ : 0 ≤ (t424 : Int) := (od_ as_); omega)
         (first | cases eo37 | (injection eo37 with ea_ en_ ec_; (first | subst ea_ | (injection ea_ with ea_; subst ea_)); subst ec_; clear en_))
         have GB37 := M_ gb37
         have GG37 := M_ HG37
         clear gb37 gl37 HG37
         (first | simp only [add_plain] at hx429_0 | skip)
         obtain ⟨oki37, ce37, hcl37, hM37, hcc37, _, _, hH37⟩ := Kd.S_elem HO428.out [] (t424 : Int) (od_ as_) (by have h_ : (t424 : Int) < ((t426.length : Int) : Int) := od_ as_; first | exact h_ | (have e_ := (Kd.S_reads' HO428.out).1; omega) | simpa using h_)
         obtain ⟨ve37_0, rfl, ge37_0⟩ := hM37
         have hv37 := hcc37 0 _ rfl
         have hX37 := HX429_0.out
         (try simp only [add_plain] at hX37)
         (try simp only [Nat.add_zero] at hv37)
         (try rw [show ((Kd.slice 30 k30)).sz = 1 from rfl, Nat.mul_one] at hv37)
         replace hv37 := Option.some.inj (hv37.symm.trans hX37)
         subst hv37
         clear hX37 hcc37 hcl37
         have UU37 := M_ (show Kd.R k30 30 _ w.heap.size oki37 (.slice A429_0 (rd_L5 t426 t424).length c429_0) (rd_L5 t426 t424) from ge37_0)
         have HH37 := M_ hH37
         have HN37 := M_ (Kd.S_reads' HO428.out).1
         clear hH37 ge37_0
         refine start_ (n := 11) (S := fun w' => w'.cell? ⟨gb421, 0, none⟩ = some (.int .i64 a2_0) ∧ w'.cell? ⟨gb421, 1, none⟩ = some (.int .i64 a2_1) ∧ w'.cell? ⟨go37, (t424).toNat, none⟩ = some (.slice A429_0 (rd_L5 t426 t424).length c429_0)) (ds := [10]) (mk_ 11 0) (by kernel_rfl) rfl rfl ⟨(blk_cell BK421.out 0).trans rfl, (blk_cell BK421.out 1).trans rfl, hx429_0⟩ (fun hHeld => ?_); refine with_tabW impl_DropMatrix.tab7 impl_DropMatrix.bits7 (fun HT_ HW_ => ?_)
         generalize w34.drew = w35 at HO428 BK420 BK421 HB GG37 HH37 HL429_0 HR429_0 HX429_0 UU37 hx429_0 hHeld ⊢
         refine pu_ 0 (some 34) (mk_ 11 1) HT_.out ?_
         refine pu_ 1 (some 35) (mk_ 11 3) HT_.out ?_
         refine pu_ 2 (some 36) (mk_ 11 7) HT_.out ?_
         refine pu_ 3 (some 37) (mk_ 11 15) HT_.out ?_
         refine pu_ 4 (some 38) (mk_ 11 31) HT_.out ?_
         refine ta_ 5 (some 39) (mk_ 11 63) HT_.out HW_.out hHeld (hy := by rintro w' ⟨s0, s1, s2⟩; go_simp; with_reducible rfl) (h := ?_)
         refine ta_ 6 (some 40) (mk_ 11 127) HT_.out HW_.out hHeld (hy := by rintro w' ⟨s0, s1, s2⟩; go_simp; with_reducible rfl) (h := ?_)
         refine on_ 7 (some 41) (mk_ 11 255) HT_.out fun K hK => ?_
         refine value_ (w1 := ?_) (v := ?_) (by rfl) rfl ?_ ?_
         rotate_left 2
         ·go_simp
          constructor
          ·rfl
          ·rfl
         refine hK.out _ _ ⟨(blk_cell (blk_alloc BK421.out _) 0).trans rfl, (blk_cell (blk_alloc BK421.out _) 1).trans rfl, (World.cell?_alloc_lt _ _ _ (World.block_lt_of_cell? _ _ (hHeld.2.2))).trans (hHeld.2.2)⟩ (fun hHeld => ?_)
         clear hK K
         refine norm_ (a' := ?_) ?_ ?_
         rotate_left
         ·show Act.put _ (some 41) _ = _
          simp only [Act.put, lA_, lB_, lC_, i64_w, i32_w]
          rfl
         refine on_ 8 (some 42) (mk_ 11 511) HT_.out fun K hK => ?_
         refine Kd.R_append_step k30 (w0 := w) w.heap.size (by rfl) (.tmp 39) (.tmp 41) 34 30 (.agg #[(.int .i64 0), (.int .i64 0)]) 16 rfl Try.underlying34 info30 rfl (by decide) (by omega) (.slice A429_0 (rd_L5 t426 t424).length c429_0) (rd_L5 t426 t424) (⟨a2_0, a2_1⟩ : S30) [.int .i64 a2_0, .int .i64 a2_1] (fun k_ => oki37 k_ ∨ ((fun k_ => k_ ≠ gb421)) k_ ∧ w35.heap.size ≤ k_) (fun _ => False) rfl rfl ?aP (fun _ hk => hk.elim) ?aF ?aO ?aB ?aS ?aL ?_
         (case aP => exact k30_mkM _ _ _ (⟨a2_0, a2_1⟩ : S30))
         (case aB => exact (bw2_ HB.out GE420.out GE421.out))
         (case aF => exact (fun k_ hk => .inr ⟨Kd.freshB (g := gb421) (o := .cells #[.int .i64 a2_0, .int .i64 a2_1] 30 (0, 0)) (bk_ BK421.out) k_ hk, hk⟩))
         (case aO => exact (by refine kR_ ?_; exact Kd.R_mono UU37.out (fun _ hk => .inl hk)))
         (case aS => exact (below_size (bw2_ HB.out GE420.out GE421.out)))
         (case aL => have := LMc29.out; omega)
         intro v431 w38 ho hb hg hat
         (first | have HS2_ := cell_grown hg (hHeld.2.2) (by first | (rw [add_block]; exact (fun e_ => ((HL429_0.out.1 _ e_.symm).2) rfl)) | (show some (Addr.add _ _).block ≠ _; rw [add_block]; exact (fun e_ => ((HL429_0.out.1 _ e_.symm).2) rfl)) | exact (fun e_ => ((HL429_0.out.1 _ e_.symm).2) rfl)) | have HS2_ := cell_grown hg (cell_unalloc (hHeld.2.2) (by first | (rw [add_block]; exact Kd.S_lt HO428.out _ rfl) | (show (Addr.add _ _).block < _; rw [add_block]; exact Kd.S_lt HO428.out _ rfl) | exact Kd.S_lt HO428.out _ rfl)) (by first | (rw [add_block]; exact (fun e_ => ((HL429_0.out.1 _ e_.symm).2) rfl)) | (show some (Addr.add _ _).block ≠ _; rw [add_block]; exact (fun e_ => ((HL429_0.out.1 _ e_.symm).2) rfl)) | exact (fun e_ => ((HL429_0.out.1 _ e_.symm).2) rfl)))
         rw [← Ny430.out] at ho
         have z_ := t5_ (blk_grown (g := gb420) (o := .cells #[.string a0_0, .slice A0_1 l0_1.length c0_1, .slice A0_2 l0_2.length c0_2] 25 (0, 0)) (bk_ BK420.out) hg (Kd.R_ne HL429_0.out BK420.out (by decide))) (blk_grown (g := gb421) (o := .cells #[.int .i64 a2_0, .int .i64 a2_1] 30 (0, 0)) (bk_ BK421.out) hg (Kd.R_away HL429_0.out (fun _ hk => hk.1.2))) hb (Kd.H_grown (Kd.H_widen (by repeat (first | exact HH37.out | refine Kd.H_alloc ?_ _ | refine Kd.H_drewN ?_ _ | refine Kd.H_drew ?_))) hg (fun k_ e_ => .inl (UU37.out.1 k_ e_))) ho
         clear HL429_0 UU37 HO428 HH37 HB BK421 BK420
         obtain ⟨BK420, BK421, HB, HH37, HO432⟩ := z_
         clear ho hb hg hat
         have p30 : 0 ≤ (t424 : Int) := od_ as_
         have q30 : (t424 : Int) < ((t426.length : Int) : Int) := od_ as_
         replace p30 := eq_true p30
         replace q30 := eq_true q30
         obtain ⟨Ao41, co41, eo41⟩ := Kd.R_slice HO432.out
         (first | subst eo41 | (injection eo41 with f1_ f2_ f3_; have f4_ := f1_.symm; have f5_ := f3_.symm; clear f1_ f2_ f3_; subst f4_; subst f5_))
         obtain ⟨_, _, hraw39, _, _, hcc39, _⟩ := Kd.H_raw HH37.out (od_ as_) (by have h_ : (t424 : Int) < ((t426.length : Int) : Int) := od_ as_; first | exact h_ | (have e_ := (HN37.out); omega) | simpa using h_)
         obtain ⟨_, hfr39⟩ := Kd.H_at HH37.out (od_ as_) (by have h_ : (t424 : Int) < ((t426.length : Int) : Int) := od_ as_; first | exact h_ | (have e_ := (HN37.out); omega) | simpa using h_)
         have hx39_0 := hcc39 0 _ rfl
         have hf39_0 := hfr39 0
         (try simp only [Nat.add_zero] at hx39_0 hf39_0)
         (try rw [show ((Kd.slice 30 k30)).sz = 1 from rfl, Nat.mul_one] at hx39_0)
         (try rw [show ((Kd.slice 30 k30)).sz = 1 from rfl, Nat.mul_one] at hf39_0)
         have HP39 := Kd.S_seg0 HH37.out (od_ as_) (by have h_ : (t424 : Int) < ((t426.length : Int) : Int) := od_ as_; first | exact h_ | (have e_ := (HN37.out); omega) | simpa using h_) (seg := [.slice Ao41 y430.length co41]) (j := 0) (show 1 ≤ 1 from by decide) (x' := y430) (Kd.M_row HO432.out) (fun _ hk => hk)
         (try simp only [show ((Kd.slice 30 k30)).sz = 1 from rfl, Nat.mul_one, Nat.add_zero] at HP39)
         clear hcc39 hfr39
         have HNB420_go37 := M_ (show gb420 ≠ go37 from by have h_ := Kd.R_ne hraw39 BK420.out (by decide); intro e_; exact h_ (by rw [e_]; rfl))
         have HNB421_go37 := M_ (show gb421 ≠ go37 from by have h_ := Kd.R_ne hraw39 BK421.out (by decide); intro e_; exact h_ (by rw [e_]; rfl))
         have HS39 := HP39.1
         rw [← Ny433.out] at HS39
         have HQ39 := M_ HS39
         obtain ⟨_, hgg39⟩ := Kd.R_typed hraw39 go37 rfl
         have GG39_ := M_ hgg39
         clear HP39 HS39 hgg39
         refine hK.out _ _ ⟨(blk_cell BK421.out 0).trans rfl, (blk_cell BK421.out 1).trans rfl, HS2_⟩ (fun hHeld => ?_)
         clear hK K
         refine norm_ (a' := ?_) ?_ ?_
         rotate_left
         ·show Act.put _ (some 42) _ = _
          simp only [Act.put, lA_, lB_, lC_, i64_w, i32_w]
          rfl
         refine pu_ 9 (some 43) (mk_ 11 1023) HT_.out ?_
         refine la_ 10 none (mk_ 11 2047) HT_.out fun K hK => ?_
         refine skip_ (w1 := ?_) (by rfl) rfl ?_ ?_
         rotate_left
         ·go_simp
          rfl
         refine hK.out _ _ ?_
         clear hK K
         refine done_ (done_of HT_.out (by kernel_rfl)) ?_
         try go_wp2
         go_ret3
         exact ⟨_, rb_, by refine kS_ ?_; exact Kd.S_mono HQ39.out (fun _ hk => trivial), bw3_ HB.out GB37.out GE420.out GE421.out⟩
        ·rw [if_neg c29] at H
         exact absurd H (by simp)
       ·rw [if_neg c28] at H
        exact absurd H (by simp)
     ·rw [if_neg c22] at H
      exact absurd H (by simp)
    ·rw [if_neg c21] at H
     exact absurd H (by simp)

def impl_FallOf.f (k : Nat) (l0 : List Int) (a1 : Int) : Option (Int) := (impl_IsBar.f l0).bind fun t434 => (if t434 = true then ((impl_isSet.f a1).bind fun t435 => (if t435 = true then ((impl_fall.f k l0 a1).bind fun t436 => (some t436)) else (some (-1)))) else (some (-1)))
theorem impl_FallOf.mono : ∀ a0 a1 k, LeO (impl_FallOf.f k a0 a1) (impl_FallOf.f (k + 1) a0 a1) := by
 intro a0 a1 k
 unfold impl_FallOf.f
 repeat' first | (with_reducible first | exact impl_fall.mono _ _ _ | exact LeO.refl _ | exact LeO.none _ | refine LeO.ite ?_ ?_ | refine LeO.bind ?_ (fun _ => ?_)) | exact impl_fall.mono _ _ _ | exact LeO.none _ | refine LeO.ite ?_ ?_ | refine LeO.bind ?_ (fun _ => ?_)
set_option maxHeartbeats 8000000 in
set_option maxRecDepth 100000 in
theorem impl_FallOf.calls (k : Nat) (A0 : Option Addr) (c0 : Nat) (l0 : List Int) (a1 : Int) (r : Int) (w : World) (hr0 : Kd.C (Kd.int .i64) w A0 l0.length l0) (hc0 : l0.length ≤ c0) (h : impl_FallOf.f k l0 a1 = some r) :
    Calls Try.prog 24 #[.slice A0 l0.length c0, .int .i64 a1] w fun e w' => e = .returned (.int .i64 r) ∧ Drawn0 w w' := by
 have HR0 := M_ hr0
 have HC0 := M_ hc0
 clear hr0 hc0
 have H : ((impl_IsBar.f l0).bind fun t434 => (if t434 = true then ((impl_isSet.f a1).bind fun t435 => (if t435 = true then ((impl_fall.f k l0 a1).bind fun t436 => (some t436)) else (some (-1)))) else (some (-1)))) = some r := h
 clear h
 replace H := bs_ H
 obtain ⟨t434, A30, H⟩ := H
 (try dsimp only at H)
 have A3 := M_ A30
 clear A30
 by_cases c4 : t434 = true
 ·subst c4
  rw [if_pos rfl] at H
  replace H := bs_ H
  obtain ⟨t435, A50, H⟩ := H
  (try dsimp only at H)
  have A5 := M_ A50
  clear A50
  by_cases c6 : t435 = true
  ·subst c6
   rw [if_pos rfl] at H
   replace H := bs_ H
   obtain ⟨t436, A70, H⟩ := H
   (try dsimp only at H)
   have A7 := M_ A70
   clear A70
   obtain rfl := Option.some.inj H
   go_enter Try.func24, Try.ntmps24
   go_wp2_with (first | ((with_reducible refine gate_callee (f := 78) rfl ?_); refine gl_ (some 6) Try.func78 #[.slice A0 l0.length c0] ?_; (with_reducible refine (impl_IsBar.calls _ _ l0 true _ ?side1 ?side2 A3.out).mono ?_); (case side1 => exact kD_ HR0.out); (case side2 => exact HC0.out); rintro e w' ⟨rfl, ⟨nd, rfl⟩⟩; refine ⟨_, rfl, ?_⟩) | (go_at_call 79; (with_reducible refine (impl_isSet.calls a1 true _ A5.out).mono ?_); rintro e w' ⟨rfl, ⟨nd, rfl⟩⟩) | ((with_reducible refine gate_callee (f := 77) rfl ?_); refine gl_ (some 15) Try.func77 #[.slice A0 l0.length c0, .int .i64 a1] ?_; (with_reducible refine (impl_fall.calls k _ _ l0 a1 t436 _ ?side1 ?side2 A7.out).mono ?_); (case side1 => exact kD_ HR0.out); (case side2 => exact HC0.out); rintro e w' ⟨rfl, ⟨nd, rfl⟩⟩; refine ⟨_, rfl, ?_⟩))
   go_ret
   exact ⟨ra_, dr_⟩
  ·replace c6 := Bool.eq_false_iff.mpr c6
   subst c6
   rw [if_neg (show ¬ (false = true) by decide)] at H
   obtain rfl := Option.some.inj H
   go_enter Try.func24, Try.ntmps24
   go_wp2_with (first | ((with_reducible refine gate_callee (f := 78) rfl ?_); refine gl_ (some 6) Try.func78 #[.slice A0 l0.length c0] ?_; (with_reducible refine (impl_IsBar.calls _ _ l0 true _ ?side1 ?side2 A3.out).mono ?_); (case side1 => exact kD_ HR0.out); (case side2 => exact HC0.out); rintro e w' ⟨rfl, ⟨nd, rfl⟩⟩; refine ⟨_, rfl, ?_⟩) | (go_at_call 79; (with_reducible refine (impl_isSet.calls a1 false _ A5.out).mono ?_); rintro e w' ⟨rfl, ⟨nd, rfl⟩⟩))
   go_ret
   exact ⟨ra_, dr_⟩
 ·replace c4 := Bool.eq_false_iff.mpr c4
  subst c4
  rw [if_neg (show ¬ (false = true) by decide)] at H
  obtain rfl := Option.some.inj H
  go_enter Try.func24, Try.ntmps24
  go_wp2_with (first | ((with_reducible refine gate_callee (f := 78) rfl ?_); refine gl_ (some 6) Try.func78 #[.slice A0 l0.length c0] ?_; (with_reducible refine (impl_IsBar.calls _ _ l0 false _ ?side1 ?side2 A3.out).mono ?_); (case side1 => exact kD_ HR0.out); (case side2 => exact HC0.out); rintro e w' ⟨rfl, ⟨nd, rfl⟩⟩; refine ⟨_, rfl, ?_⟩))
  go_ret
  exact ⟨ra_, dr_⟩

def impl_MatrixOk.f (k : Nat) (a0_0 : ByteArray) (l0_1 : List Int) (l0_2 : List Int) (a1_0 : Int) (a1_1 : Int) : Option (Bool) := (impl_FontOk.f k a0_0 l0_1 l0_2).bind fun t439 => (if t439 = true then ((impl_ofFont.f a0_0 l0_1 l0_2 a1_0 a1_1).bind fun t440 => (some t440)) else (some false))
theorem impl_MatrixOk.mono : ∀ a0 a1 a2 a3 a4 k, LeO (impl_MatrixOk.f k a0 a1 a2 a3 a4) (impl_MatrixOk.f (k + 1) a0 a1 a2 a3 a4) := by
 intro a0 a1 a2 a3 a4 k
 unfold impl_MatrixOk.f
 repeat' first | (with_reducible first | exact impl_FontOk.mono _ _ _ _ | exact LeO.refl _ | exact LeO.none _ | refine LeO.ite ?_ ?_ | refine LeO.bind ?_ (fun _ => ?_)) | exact impl_FontOk.mono _ _ _ _ | exact LeO.none _ | refine LeO.ite ?_ ?_ | refine LeO.bind ?_ (fun _ => ?_)
set_option maxHeartbeats 8000000 in
set_option maxRecDepth 100000 in
theorem impl_MatrixOk.calls (k : Nat) (a0_0 : ByteArray) (A0_1 : Option Addr) (c0_1 : Nat) (l0_1 : List Int) (A0_2 : Option Addr) (c0_2 : Nat) (l0_2 : List Int) (a1_0 : Int) (a1_1 : Int) (r : Bool) (w : World) (hr0_1 : Kd.C (Kd.int .i64) w A0_1 l0_1.length l0_1) (hc0_1 : l0_1.length ≤ c0_1) (hr0_2 : Kd.C (Kd.int .i64) w A0_2 l0_2.length l0_2) (hc0_2 : l0_2.length ≤ c0_2) (h : impl_MatrixOk.f k a0_0 l0_1 l0_2 a1_0 a1_1 = some r) :
    Calls Try.prog 25 #[.agg #[.string a0_0, .slice A0_1 l0_1.length c0_1, .slice A0_2 l0_2.length c0_2], .agg #[.int .i64 a1_0, .int .i64 a1_1]] w fun e w' => e = .returned (.bool r) ∧ Below w.heap.size w w' := by
 have hu25 := Try.underlying25
 have hu30 := Try.underlying30
 have HR0_1 := M_ hr0_1
 have HC0_1 := M_ hc0_1
 clear hr0_1 hc0_1
 have HR0_2 := M_ hr0_2
 have HC0_2 := M_ hc0_2
 clear hr0_2 hc0_2
 have HB := M_ (Below.refl w.heap.size w)
 have H : ((impl_FontOk.f k a0_0 l0_1 l0_2).bind fun t439 => (if t439 = true then ((impl_ofFont.f a0_0 l0_1 l0_2 a1_0 a1_1).bind fun t440 => (some t440)) else (some false))) = some r := h
 clear h
 replace H := bs_ H
 obtain ⟨t439, A30, H⟩ := H
 (try dsimp only at H)
 have A3 := M_ A30
 clear A30
 by_cases c4 : t439 = true
 ·subst c4
  rw [if_pos rfl] at H
  replace H := bs_ H
  obtain ⟨t440, A50, H⟩ := H
  (try dsimp only at H)
  have A5 := M_ A50
  clear A50
  obtain rfl := Option.some.inj H
  go_enter Try.func25, Try.ntmps25
  go_wp2_with (first | ((with_reducible refine gate_dst (N := 2) rfl ?_); refine be_ 2 #[.string a0_0, .slice A0_1 l0_1.length c0_1, .slice A0_2 l0_2.length c0_2] 25 ?_; intro gb437 hg w6 hbox hb; have z_ := t3_ (bS_ (bw0_ HB.out) hb) hbox (gv_ hg (bw0_ HB.out) : w.heap.size ≤ gb437); clear HB; obtain ⟨HB, BK437, GE437⟩ := z_; clear hb hbox hg) | ((with_reducible refine gate_dst (N := 3) rfl ?_); refine be_ 3 #[.int .i64 a1_0, .int .i64 a1_1] 30 ?_; intro gb438 hg w7 hbox hb; have z_ := t5_ (bB_ (bk_ BK437.out) hb) (bS_ (bw1_ HB.out GE437.out) hb) hbox (gv_ hg (bw1_ HB.out GE437.out) : w.heap.size ≤ gb438) (by rw [hg]; exact Nat.ne_of_lt (blk_lt (bk_ BK437.out)) : gb437 ≠ gb438); (try clear BK437); clear HB; obtain ⟨BK437, HB, BK438, GE438, NB437_438⟩ := z_; have NB438_437 := M_ NB437_438.out.symm; clear hb hbox hg; have hnb8 := NB437_438.out; have hnc8 := NB438_437.out; have hcz9_0 := cz_ BK437.out 0 (.string a0_0); have hcz9_1 := cz_ BK437.out 1 (.slice A0_1 l0_1.length c0_1); have hcz9_2 := cz_ BK437.out 2 (.slice A0_2 l0_2.length c0_2); have hfz9_0 := fz_ BK437.out 0; have hfz9_1 := fz_ BK437.out 1; have hfz9_2 := fz_ BK437.out 2) | ((with_reducible refine gate_callee (f := 31) rfl ?_); refine gl_ (some 6) Try.func31 #[.agg #[.string a0_0, .slice A0_1 l0_1.length c0_1, .slice A0_2 l0_2.length c0_2]] ?_; (with_reducible refine (impl_FontOk.calls k a0_0 _ _ l0_1 _ _ l0_2 true _ ?side1 ?side2 ?side3 ?side4 A3.out).mono ?_); (case side1 => exact kC_ HR0_1.out HB.out); (case side2 => exact HC0_1.out); (case side3 => exact kC_ HR0_2.out HB.out); (case side4 => exact HC0_2.out); rintro e w10 ⟨rfl, hb⟩; refine ⟨_, rfl, ?_⟩; have z_ := t3_ (bB_ (bk_ BK437.out) hb) (bB_ (bk_ BK438.out) hb) (bS_ (bw2_ HB.out GE437.out GE438.out) hb); (try clear BK438 BK437); clear HB; obtain ⟨BK437, BK438, HB⟩ := z_; (try clear hb); have hcz11_0 := cz_ BK437.out 0 (.string a0_0); have hcz11_1 := cz_ BK437.out 1 (.slice A0_1 l0_1.length c0_1); have hcz11_2 := cz_ BK437.out 2 (.slice A0_2 l0_2.length c0_2); have hfz11_0 := fz_ BK437.out 0; have hfz11_1 := fz_ BK437.out 1; have hfz11_2 := fz_ BK437.out 2; have hcz12_0 := cz_ BK438.out 0 (.int .i64 a1_0); have hcz12_1 := cz_ BK438.out 1 (.int .i64 a1_1); have hfz12_0 := fz_ BK438.out 0; have hfz12_1 := fz_ BK438.out 1) | (go_at_call 76; (with_reducible refine (impl_ofFont.calls a0_0 _ _ l0_1 _ _ l0_2 a1_0 a1_1 t440 _ ?side1 ?side2 ?side3 ?side4 A5.out).mono ?_); (case side1 => exact kC_ HR0_1.out HB.out); (case side2 => exact HC0_1.out); (case side3 => exact kC_ HR0_2.out HB.out); (case side4 => exact HC0_2.out); rintro e w13 ⟨rfl, hb⟩; have z_ := t2_ (bB_ (bk_ BK437.out) hb) (bS_ (bw2_ HB.out GE437.out GE438.out) hb); (try clear BK438 BK437); clear HB; obtain ⟨BK437, HB⟩ := z_; (try clear hb)))
  go_ret
  exact ⟨rb_, bw2_ HB.out GE437.out GE438.out⟩
 ·replace c4 := Bool.eq_false_iff.mpr c4
  subst c4
  rw [if_neg (show ¬ (false = true) by decide)] at H
  obtain rfl := Option.some.inj H
  go_enter Try.func25, Try.ntmps25
  go_wp2_with (first | ((with_reducible refine gate_dst (N := 2) rfl ?_); refine be_ 2 #[.string a0_0, .slice A0_1 l0_1.length c0_1, .slice A0_2 l0_2.length c0_2] 25 ?_; intro gb437 hg w14 hbox hb; have z_ := t3_ (bS_ (bw0_ HB.out) hb) hbox (gv_ hg (bw0_ HB.out) : w.heap.size ≤ gb437); clear HB; obtain ⟨HB, BK437, GE437⟩ := z_; clear hb hbox hg) | ((with_reducible refine gate_dst (N := 3) rfl ?_); refine be_ 3 #[.int .i64 a1_0, .int .i64 a1_1] 30 ?_; intro gb438 hg w15 hbox hb; have z_ := t4_ (bB_ (bk_ BK437.out) hb) (bS_ (bw1_ HB.out GE437.out) hb) (gv_ hg (bw1_ HB.out GE437.out) : w.heap.size ≤ gb438) (by rw [hg]; exact Nat.ne_of_lt (blk_lt (bk_ BK437.out)) : gb437 ≠ gb438); (try clear BK437); clear HB; obtain ⟨BK437, HB, GE438, NB437_438⟩ := z_; have NB438_437 := M_ NB437_438.out.symm; clear hb hbox hg; have hnb16 := NB437_438.out; have hnc16 := NB438_437.out; have hcz17_0 := cz_ BK437.out 0 (.string a0_0); have hcz17_1 := cz_ BK437.out 1 (.slice A0_1 l0_1.length c0_1); have hcz17_2 := cz_ BK437.out 2 (.slice A0_2 l0_2.length c0_2); have hfz17_0 := fz_ BK437.out 0; have hfz17_1 := fz_ BK437.out 1; have hfz17_2 := fz_ BK437.out 2) | ((with_reducible refine gate_callee (f := 31) rfl ?_); refine gl_ (some 6) Try.func31 #[.agg #[.string a0_0, .slice A0_1 l0_1.length c0_1, .slice A0_2 l0_2.length c0_2]] ?_; (with_reducible refine (impl_FontOk.calls k a0_0 _ _ l0_1 _ _ l0_2 false _ ?side1 ?side2 ?side3 ?side4 A3.out).mono ?_); (case side1 => exact kC_ HR0_1.out HB.out); (case side2 => exact HC0_1.out); (case side3 => exact kC_ HR0_2.out HB.out); (case side4 => exact HC0_2.out); rintro e w18 ⟨rfl, hb⟩; refine ⟨_, rfl, ?_⟩; have n2_ := M_ (bS_ (bw2_ HB.out GE437.out GE438.out) hb); (try clear BK438 BK437); clear HB; have HB := n2_; clear n2_; (try clear hb)))
  go_ret
  exact ⟨rb_, bw2_ HB.out GE437.out GE438.out⟩

end Go.Proofs.Ytilbngklgjjblaa.Q
