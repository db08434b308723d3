/- Contracts of Go functions over this translation. Conditions: those that each theorem names. -/
import Derived.Test.YtilbngklgjjblaaQ0
import Derived.Test.YtilbngklgjjblaaQ10
import Derived.Test.YtilbngklgjjblaaQ11
namespace Go.Proofs.Ytilbngklgjjblaa.Q
open Go.RowKit Go.Proofs.YtilbngklgjjblaaW.PrintWords Go.Proofs.YtilbngklgjjblaaW.PrintLast Go.Proofs.YtilbngklgjjblaaW.PrintMore
attribute [local go_sem] max2_int min2_int max_two min_two max_three min_three max_four min_four
set_option linter.unusedVariables false
set_option linter.unusedSimpArgs false

mutual
def spec_OrderBar.l0 : Nat → List Int → List Bool → Int → Int → Option (List Int × Bool)
  | 0, _, _, _, _ => none
  | k + 1, x0, x4, x16, x17 => if x17 < x16 then (if 0 ≤ x17 then (if x17 < (x4.length : Int) then (spec_OrderBar.l0 k x0 (x4.set (x17 : Int).toNat true) x16 (wrap64 (x17 + 1))) else (none)) else (none)) else (spec_OrderBar.l1 k x0 x4 (([] : List Int)))
def spec_OrderBar.l1 : Nat → List Int → List Bool → List Int → Option (List Int × Bool)
  | 0, _, _, _ => none
  | k + 1, x0, x4, x6 => if (x6.length : Int) < (x0.length : Int) then (spec_OrderBar.l2 k x0 x4 x6 x0 (x0.length : Int) 0) else (some (x6, true))
def spec_OrderBar.l2 : Nat → List Int → List Bool → List Int → List Int → Int → Int → Option (List Int × Bool)
  | 0, _, _, _, _, _, _ => none
  | k + 1, x0, x4, x6, x30, x31, x32 => if x32 < x31 then (if 0 ≤ x32 then (if x32 < (x30.length : Int) then (if x32 < (x4.length : Int) then (if rdOf false x4 x32 = true then ((spec_l1Free.f k x0 x4 x32).bind fun t221 => (if t221 = true then (if x6.length < 17592186044416 then (spec_OrderBar.l1 k x0 (x4.set (x32 : Int).toNat false) (x6 ++ [rd x30 x32])) else (none)) else (spec_OrderBar.l2 k x0 x4 x6 x30 x31 (wrap64 (x32 + 1))))) else (spec_OrderBar.l2 k x0 x4 x6 x30 x31 (wrap64 (x32 + 1)))) else (none)) else (none)) else (none)) else (spec_OrderBar.l1 k x0 x4 x6)
end
def spec_OrderBar.f (k : Nat) (l0 : List Int) : Option (List Int × Bool) := (spec_l1Sets.f k l0).bind fun t211 => (if t211 = true then (if 0 ≤ (l0.length : Int) then (if ((l0.length : Int) : Int).toNat ≤ 281474976710656 then ((some (List.replicate ((l0.length : Int) : Int).toNat false : List Bool)).bind fun y212 => (spec_OrderBar.l0 k l0 y212 (y212.length : Int) 0)) else (none)) else (none)) else (some (([] : List Int), false)))
theorem spec_OrderBar.mono_l : ∀ k, (∀ y0 y1 y2 y3, LeO (spec_OrderBar.l0 k y0 y1 y2 y3) (spec_OrderBar.l0 (k + 1) y0 y1 y2 y3)) ∧ (∀ y0 y1 y2, LeO (spec_OrderBar.l1 k y0 y1 y2) (spec_OrderBar.l1 (k + 1) y0 y1 y2)) ∧ (∀ y0 y1 y2 y3 y4 y5, LeO (spec_OrderBar.l2 k y0 y1 y2 y3 y4 y5) (spec_OrderBar.l2 (k + 1) y0 y1 y2 y3 y4 y5))
  | 0 => ⟨fun _ _ _ _ r h => by simp [spec_OrderBar.l0] at h, fun _ _ _ r h => by simp [spec_OrderBar.l1] at h, fun _ _ _ _ _ _ r h => by simp [spec_OrderBar.l2] at h⟩
  | k + 1 => by
    obtain ⟨ih0, ih1, ih2⟩ := spec_OrderBar.mono_l k
    refine ⟨?_, ?_, ?_⟩ <;> intros <;> (first | unfold spec_OrderBar.l0 | unfold spec_OrderBar.l1 | unfold spec_OrderBar.l2) <;> repeat' first | (with_reducible first | exact ih0 _ _ _ _ | exact ih1 _ _ _ | exact ih2 _ _ _ _ _ _ | exact spec_l1Free.mono _ _ _ _ | exact spec_l1Sets.mono _ _ | exact LeO.refl _ | exact LeO.none _ | refine LeO.ite ?_ ?_ | refine LeO.bind ?_ (fun _ => ?_)) | exact ih0 _ _ _ _ | exact ih1 _ _ _ | exact ih2 _ _ _ _ _ _ | exact spec_l1Free.mono _ _ _ _ | exact spec_l1Sets.mono _ _ | exact LeO.none _ | refine LeO.ite ?_ ?_ | refine LeO.bind ?_ (fun _ => ?_)
theorem spec_OrderBar.mono : ∀ a0 k, LeO (spec_OrderBar.f k a0) (spec_OrderBar.f (k + 1) a0) := by
 intro a0 k
 obtain ⟨ih0, ih1, ih2⟩ := spec_OrderBar.mono_l k
 unfold spec_OrderBar.f
 repeat' first | (with_reducible first | exact ih0 _ _ _ _ | exact ih1 _ _ _ | exact ih2 _ _ _ _ _ _ | exact spec_l1Free.mono _ _ _ _ | exact spec_l1Sets.mono _ _ | exact LeO.refl _ | exact LeO.none _ | refine LeO.ite ?_ ?_ | refine LeO.bind ?_ (fun _ => ?_)) | exact ih0 _ _ _ _ | exact ih1 _ _ _ | exact ih2 _ _ _ _ _ _ | exact spec_l1Free.mono _ _ _ _ | exact spec_l1Sets.mono _ _ | exact LeO.none _ | refine LeO.ite ?_ ?_ | refine LeO.bind ?_ (fun _ => ?_)
set_option maxHeartbeats 8000000 in
set_option maxRecDepth 100000 in
theorem spec_OrderBar.calls (k : Nat) (A0 : Option Addr) (c0 : Nat) (l0 : List Int) (r1 : List Int) (r2 : Bool) (w : World) (hr0 : Kd.C (Kd.int .i64) w A0 l0.length l0) (hc0 : l0.length ≤ c0) (h : spec_OrderBar.f k l0 = some (r1, r2)) :
    Calls Try.prog 120 #[.slice A0 l0.length c0] w fun e w' => ∃ v0_ : Value, e = .returned (.tuple #[v0_, .bool r2]) ∧ Kd.R (Kd.int .i64) 3 w' w.heap.size (fun _ => True) v0_ r1 ∧ Below w.heap.size w w' := by
 have HR0 := M_ hr0
 have HC0 := M_ hc0
 clear hr0 hc0
 have HB := M_ (Below.refl w.heap.size w)
 have H : ((spec_l1Sets.f k l0).bind fun t211 => (if t211 = true then (if 0 ≤ (l0.length : Int) then (if ((l0.length : Int) : Int).toNat ≤ 281474976710656 then ((some (List.replicate ((l0.length : Int) : Int).toNat false : List Bool)).bind fun y212 => (spec_OrderBar.l0 k l0 y212 (y212.length : Int) 0)) else (none)) else (none)) else (some (([] : List Int), false)))) = some (r1, r2) := h
 clear h
 replace H := bs_ H
 obtain ⟨t211, A20, H⟩ := H
 (try dsimp only at H)
 have A2 := M_ A20
 clear A20
 by_cases c3 : t211 = true
 ·subst c3
  rw [if_pos rfl] at H
  by_cases c4 : 0 ≤ (l0.length : Int)
  ·rw [if_pos c4] at H
   have c4b0 := eq_true c4
   have c4b1 := dt_ c4
   clear c4
   by_cases c5 : ((l0.length : Int) : Int).toNat ≤ 281474976710656
   ·rw [if_pos c5] at H
    have c5b0 := eq_true c5
    have c5b1 := dt_ c5
    clear c5
    obtain ⟨y212, hy212⟩ : ∃ y_ : List Bool, y_ = (List.replicate ((l0.length : Int) : Int).toNat false) := ⟨_, rfl⟩
    replace H : (spec_OrderBar.l0 k l0 y212 (y212.length : Int) 0) = some (r1, r2) := by first | (rw [hy212]; with_reducible exact H) | (have H2_ := (Option.bind_some _ _).symm.trans H; rw [hy212]; with_reducible exact H2_) | (have H2_ := (Option.bind_some _ _).symm.trans H; with_reducible exact H2_) | with_reducible exact H | (rw [hy212]; exact H) | exact H
    have Ny212 := M_ hy212
    clear hy212
    have H' := M_ H
    clear H
    go_enter Try.func120, Try.ntmps120
    go_wp2_with (first | ((with_reducible refine gate_callee (f := 119) rfl ?_); refine gl_ (some 10) Try.func119 #[.slice A0 l0.length c0] ?_; (with_reducible refine (spec_l1Sets.calls k _ _ l0 true _ ?side1 ?side2 A2.out).mono ?_); (case side1 => exact kD_ HR0.out); (case side2 => exact HC0.out); rintro e w' ⟨rfl, ⟨nd, rfl⟩⟩; refine ⟨_, rfl, ?_⟩) | ((with_reducible refine gate_dst (N := 14) rfl ?_); refine Kd.R_make Kd.bool _ 4 rfl (N := 14) rfl 124 _ _ rfl (l0.length : Int) rfl rfl Try.underlying124 (.bool false) 1 info4 rfl (by decide) (by omega) false (ok := fun _ => True) (okp := fun _ => True) rfl (fun _ hk => hk) trivial (od_ as_) (Nat.le_trans (Nat.mul_le_mul_right _ (od_ as_ : (l0.length : Int).toNat ≤ 281474976710656)) (by omega)) (Below.refl _ _) (Nat.le_refl _) ?_; intro v213 w6 ho7 hb hg_ hnew_; clear hg_ hnew_; (first | rw [← Ny212.out] at ho7 | (simp only [Int.reduceToNat] at ho7; rw [← Ny212.out] at ho7)); have z_ := t2_ (Kd.R_lower ho7 (below_size (bw0_ HB.out))) (bS_ (bw0_ HB.out) hb); clear HB; obtain ⟨HO214, HB⟩ := z_; clear hb ho7; obtain ⟨Ao8, co8, eo8⟩ := Kd.R_slice HO214.out; subst eo8))
    go_loopg [17] k (fun kq v17 w' => ∃ (x4_1 : List Bool) (x17_1 : Int), v17 = .int .i64 x17_1 ∧ Aside0 (spec_OrderBar.l0 kq l0 x4_1 (y212.length : Int) x17_1 = some (r1, r2)) ∧ Aside0 (kq ≤ k) ∧ Aside0 (Kd.R Kd.bool 4 w' w.heap.size (fun _ => True) (.slice Ao8 y212.length co8) x4_1) ∧ Aside0 (Below w.heap.size w w'))
    case atStart => exact ⟨(y212), (0), (by first | rfl | (simp; done) | (simp [*]; done)), H', ⟨Nat.le_refl _⟩, ⟨by refine kR_ ?_; exact HO214.out⟩, ⟨bw0_ HB.out⟩⟩
    case round =>
     clear H'
     (try clear c5b1 c5b0 c5 c4b1 c4b0 c4 c3 p2 c1)
     obtain ⟨x4_1, x17_1, rfl, HA, HK1, HO_4, HB⟩ := hrel
     have hl4_1 := (Kd.R_reads' HO_4.out).1
     rw [hl4_1] at HO_4
     (try simp only [hl4_1])
     cases gk with
     | zero => exact absurd HA.out (by simp [spec_OrderBar.l0])
     | succ k1 =>
      have H := HA.out
      clear HA
      simp only [spec_OrderBar.l0] at H
      by_cases c9 : x17_1 < (y212.length : Int)
      ·rw [if_pos c9] at H
       have c9b0 := dt_ c9
       (try (have c9h0 := c9b0; simp only [hl4_1] at c9h0))
       clear c9
       by_cases c10 : 0 ≤ x17_1
       ·rw [if_pos c10] at H
        have c10b0 := dt_ c10
        (try (have c10h0 := c10b0; simp only [hl4_1] at c10h0))
        clear c10
        by_cases c11 : x17_1 < (x4_1.length : Int)
        ·rw [if_pos c11] at H
         have c11b0 := dt_ c11
         (try (have c11h0 := c11b0; simp only [hl4_1] at c11h0))
         clear c11
         obtain ⟨y215, hy215⟩ : ∃ y_ : List Bool, y_ = (x4_1.set (x17_1 : Int).toNat true) := ⟨_, rfl⟩
         replace H : (spec_OrderBar.l0 k1 l0 y215 (y212.length : Int) (wrap64 (x17_1 + 1))) = some (r1, r2) := by first | (rw [hy215]; with_reducible exact H) | (have H2_ := (Option.bind_some _ _).symm.trans H; rw [hy215]; with_reducible exact H2_) | (have H2_ := (Option.bind_some _ _).symm.trans H; with_reducible exact H2_) | with_reducible exact H | (rw [hy215]; exact H) | exact H
         have Ny215 := M_ hy215
         clear hy215
         have H' := M_ H
         clear H
         have p12 : 0 ≤ (x17_1 : Int) := od_ as_
         have q12 : (x17_1 : Int) < ((x4_1.length : Int) : Int) := od_ as_
         obtain ⟨go12, co12, eo12, gb12, gl12, cl12, HG12⟩ := Kd.R_form HO_4.out (by omega)
         (first | cases eo12 | (injection eo12 with ea_ en_ ec_; (first | subst ea_ | (injection ea_ with ea_; subst ea_)); subst ec_; clear en_))
         have GB12 := M_ gb12
         have GG12 := M_ HG12
         clear gb12 gl12 HG12
         obtain ⟨hx12_0, hf12_0⟩ := Kd.R_celln false HO_4.out (x17_1 : Int) p12 q12
         replace p12 := eq_true p12
         replace q12 := eq_true q12
         have HP13 := Kd.R_putg HO_4.out (x17_1 : Int) true
         go_wp2_with (first | ((with_reducible refine gate_store (t := 4) (p := 22) rfl ?_); refine store_event (t := 4) (p := 22) (v := ?vo_w14) (w1 := (wr.setCell ⟨go12, (x17_1 : Int).toNat, none⟩ (.bool true))) ?hg ?ho ?hn ?hr ?_; (case ho => rfl); (case hg => rfl); (case hn => rfl); (case hr => first | (go_simp; done) | (go_simp; rfl)); intro w14 hw; have hg : wr.grownBy w14 (some go12) := (by rw [hw]; exact HP13.2); have hp_ : Kd.R Kd.bool 4 w14 w.heap.size (fun _ => True) (.slice (some ⟨go12, 0, none⟩) x4_1.length co8) y215 := (by rw [hw, Ny215.out]; exact HP13.1); clear HP13; have z_ := t2_ hp_ (by rw [hw]; exact below_set (HB.out) GB12.out : Below w.heap.size w w14); clear HB HO_4; obtain ⟨HO_4, HB⟩ := z_; clear hg hw hp_))
         (try simp only [← hl4_1])
         go_roundg k1
         case measure => have := HK1.out; omega
         case rel => exact ⟨(y215), (wrap64 (x17_1 + 1)), (by first | rfl | (simp; done) | (simp [*]; done)), H', ⟨by have := HK1.out; omega⟩, ⟨by (try simp only [hl4_1]); refine kR_ ?_; exact HO_4.out⟩, ⟨bw0_ HB.out⟩⟩
        ·rw [if_neg c11] at H
         exact absurd H (by simp)
       ·rw [if_neg c10] at H
        exact absurd H (by simp)
      ·rw [if_neg c9] at H
       have c9b0 := decide_eq_false c9
       (try (have c9h0 := c9b0; simp only [hl4_1] at c9h0))
       clear c9
       obtain ⟨y216, hy216⟩ : ∃ y_ : List Int, y_ = (([] : List Int)) := ⟨_, rfl⟩
       replace H : (spec_OrderBar.l1 k1 l0 x4_1 y216) = some (r1, r2) := by first | (rw [hy216]; with_reducible exact H) | (have H2_ := (Option.bind_some _ _).symm.trans H; rw [hy216]; with_reducible exact H2_) | (have H2_ := (Option.bind_some _ _).symm.trans H; with_reducible exact H2_) | with_reducible exact H | (rw [hy216]; exact H) | exact H
       have Ny216 := M_ hy216
       clear hy216
       have H' := M_ H
       clear H
       go_wp2_with (first | ((with_reducible refine gate_dst (N := 24) rfl ?_); refine Kd.R_lit (Kd.int .i64) _ 3 ?hg (N := 24) ?hd (xs := ([] : List Int)) (inner := []) (ok := fun _ => True) (okp := fun _ => True) ?hr ?hp (fun _ hk => hk) trivial (Below.refl _ _) (Nat.le_refl _) (by simp) ?_; (case hd => rfl); (case hg => rfl); (case hr => first | (go_simp; done) | (go_simp; rfl)); (case hp => exact (Reps.none _ _)); intro v217 w15 ho16 hb hg_ hnew_; clear hg_ hnew_; (first | rw [← Ny216.out] at ho16 | (simp only [Int.reduceToNat] at ho16; rw [← Ny216.out] at ho16)); have z_ := t3_ (rB_ (kR_ HO_4.out) hb) (Kd.R_lower ho16 (below_size (bw0_ HB.out))) (bS_ (bw0_ HB.out) hb); clear HB HO_4; obtain ⟨HO_4, HO218, HB⟩ := z_; clear hb ho16))
       go_loopg [6] k1 (fun kq v6 w' => ∃ (x4_2 : List Bool) (x6_2 : List Int), Aside0 (spec_OrderBar.l1 kq l0 x4_2 x6_2 = some (r1, r2)) ∧ Aside0 (kq ≤ k1) ∧ Aside0 (Kd.R Kd.bool 4 w' w.heap.size (fun _ => True) (.slice Ao8 x4_1.length co8) x4_2) ∧ Aside0 (Kd.R (Kd.int .i64) 3 w' w.heap.size (fun _ => True) v6 x6_2) ∧ Aside0 (Below w.heap.size w w'))
       case atStart => exact ⟨(x4_1), (y216), H', ⟨Nat.le_refl _⟩, ⟨by (try simp only [hl4_1]); refine kR_ ?_; exact HO_4.out⟩, ⟨by (try simp only [hl4_1]); refine kR_ ?_; exact HO218.out⟩, ⟨bw0_ HB.out⟩⟩
       case round =>
        clear H'
        (try clear q12 p2 p12 hx12_0 hf12 hx12 q12 p12 c12 c11b0 c11 c10b0 c10 c9b0 c9 p6 c5b1 c5b0 c5 c4b1 c4b0 c4 c3 p2 hf1 hx1 q1 p1 c1)
        obtain ⟨x4_2, x6_2, HA, HK2, HO_4, HO_6, HB⟩ := hrel
        have hl4_2 := (Kd.R_reads' HO_4.out).1
        rw [hl4_2] at HO_4
        (try simp only [hl4_2])
        (try simp only [hl4_2] at HO_6)
        cases gk with
        | zero => exact absurd HA.out (by simp [spec_OrderBar.l1])
        | succ k2 =>
         have H := HA.out
         clear HA
         simp only [spec_OrderBar.l1] at H
         by_cases c17 : (x6_2.length : Int) < (l0.length : Int)
         ·rw [if_pos c17] at H
          have c17b0 := dt_ c17
          have c17b1 : decide (x6_2.length < l0.length) = true := dt_ (Int.ofNat_lt.mp c17)
          (try (have c17h0 := c17b0; simp only [hl4_1, hl4_2] at c17h0))
          (try (have c17h1 := c17b1; simp only [hl4_1, hl4_2] at c17h1))
          clear c17
          have H' := M_ H
          clear H
          obtain ⟨Ao18, co18, eo18⟩ := Kd.R_slice HO_6.out
          subst eo18
          go_wp2
          go_loopg [6, 32] k2 (fun kq v6 v32 w' => ∃ (x4_3 : List Bool) (x6_3 : List Int) (x32_3 : Int), v32 = .int .i64 x32_3 ∧ Aside0 (spec_OrderBar.l2 kq l0 x4_3 x6_3 l0 (l0.length : Int) x32_3 = some (r1, r2)) ∧ Aside0 (kq ≤ k2) ∧ Aside0 (Kd.R Kd.bool 4 w' w.heap.size (fun _ => True) (.slice Ao8 x4_2.length co8) x4_3) ∧ Aside0 (Kd.R (Kd.int .i64) 3 w' w.heap.size (fun _ => True) v6 x6_3) ∧ Aside0 (Below w.heap.size w w'))
          case atStart => exact ⟨(x4_2), (x6_2), (0), (by first | rfl | (simp; done) | (simp [*]; done)), H', ⟨Nat.le_refl _⟩, ⟨by (try simp only [hl4_1]); (try simp only [hl4_2]); refine kR_ ?_; exact HO_4.out⟩, ⟨by (try simp only [hl4_1]); (try simp only [hl4_2]); refine kR_ ?_; exact HO_6.out⟩, ⟨bw0_ HB.out⟩⟩
          case round =>
           clear H'
           (try clear q12 q1 p6 p2 p12 p1 hx12_0 c17b1 c17b0 c17 hf12 hx12 q12 p12 c12 c11b0 c11 c10b0 c10 c9b0 c9 p6 c5b1 c5b0 c5 c4b1 c4b0 c4 c3 p2 hf1 hx1 q1 p1 c1)
           obtain ⟨x4_3, x6_3, x32_3, rfl, HA, HK3, HO_4, HO_6, HB⟩ := hrel
           have hl4_3 := (Kd.R_reads' HO_4.out).1
           rw [hl4_3] at HO_4
           (try simp only [hl4_3])
           (try simp only [hl4_3] at HO_6)
           cases gk with
           | zero => exact absurd HA.out (by simp [spec_OrderBar.l2])
           | succ k3 =>
            have H := HA.out
            clear HA
            simp only [spec_OrderBar.l2] at H
            by_cases c19 : x32_3 < (l0.length : Int)
            ·rw [if_pos c19] at H
             have c19b0 := dt_ c19
             (try (have c19h0 := c19b0; simp only [hl4_1, hl4_2, hl4_3] at c19h0))
             clear c19
             by_cases c20 : 0 ≤ x32_3
             ·rw [if_pos c20] at H
              have c20b0 := dt_ c20
              (try (have c20h0 := c20b0; simp only [hl4_1, hl4_2, hl4_3] at c20h0))
              clear c20
              by_cases c21 : x32_3 < (l0.length : Int)
              ·rw [if_pos c21] at H
               have c21b0 := dt_ c21
               (try (have c21h0 := c21b0; simp only [hl4_1, hl4_2, hl4_3] at c21h0))
               clear c21
               by_cases c22 : x32_3 < (x4_3.length : Int)
               ·rw [if_pos c22] at H
                have c22b0 := dt_ c22
                (try (have c22h0 := c22b0; simp only [hl4_1, hl4_2, hl4_3] at c22h0))
                clear c22
                obtain ⟨bq23, hbq23⟩ : ∃ b_ : Bool, b_ = (rdOf false x4_3 x32_3) := ⟨_, rfl⟩
                replace H : (if bq23 = true then ((spec_l1Free.f k3 l0 x4_3 x32_3).bind fun t221 => (if t221 = true then (if x6_3.length < 17592186044416 then (spec_OrderBar.l1 k3 l0 (x4_3.set (x32_3 : Int).toNat false) (x6_3 ++ [rd l0 x32_3])) else (none)) else (spec_OrderBar.l2 k3 l0 x4_3 x6_3 l0 (l0.length : Int) (wrap64 (x32_3 + 1))))) else (spec_OrderBar.l2 k3 l0 x4_3 x6_3 l0 (l0.length : Int) (wrap64 (x32_3 + 1)))) = some (r1, r2) := by rw [← hbq23] at H; exact H
                have Nbq23 := M_ hbq23
                clear hbq23
                by_cases c24 : bq23 = true
                ·subst c24
                 rw [if_pos rfl] at H
                 replace H := bs_ H
                 obtain ⟨t221, A250, H⟩ := H
                 (try dsimp only at H)
                 have A25 := M_ A250
                 clear A250
                 by_cases c26 : t221 = true
                 ·subst c26
                  rw [if_pos rfl] at H
                  by_cases c27 : x6_3.length < 17592186044416
                  ·rw [if_pos c27] at H
                   have LMc27 := M_ c27
                   clear c27
                   obtain ⟨y222, hy222⟩ : ∃ y_ : List Int, y_ = (x6_3 ++ [rd l0 x32_3]) := ⟨_, rfl⟩
                   replace H : (spec_OrderBar.l1 k3 l0 (x4_3.set (x32_3 : Int).toNat false) y222) = some (r1, r2) := by first | (rw [hy222]; with_reducible exact H) | (have H2_ := (Option.bind_some _ _).symm.trans H; rw [hy222]; with_reducible exact H2_) | (have H2_ := (Option.bind_some _ _).symm.trans H; with_reducible exact H2_) | with_reducible exact H | (rw [hy222]; exact H) | exact H
                   have Ny222 := M_ hy222
                   clear hy222
                   obtain ⟨y225, hy225⟩ : ∃ y_ : List Bool, y_ = (x4_3.set (x32_3 : Int).toNat false) := ⟨_, rfl⟩
                   replace H : (spec_OrderBar.l1 k3 l0 y225 y222) = some (r1, r2) := by first | (rw [hy225]; with_reducible exact H) | (have H2_ := (Option.bind_some _ _).symm.trans H; rw [hy225]; with_reducible exact H2_) | (have H2_ := (Option.bind_some _ _).symm.trans H; with_reducible exact H2_) | with_reducible exact H | (rw [hy225]; exact H) | exact H
                   have Ny225 := M_ hy225
                   clear hy225
                   have H' := M_ H
                   clear H
                   have p219 : 0 ≤ (x32_3 : Int) := od_ as_
                   have q219 : x32_3 < (l0.length : Int) := od_ as_
                   obtain ⟨ad219, e219, hx219_0⟩ := Kd.at_int HR0.out x32_3 p219 q219
                   cases e219
                   replace hx219_0 := (HB.out.cell (World.block_lt_of_cell? w _ hx219_0)).trans hx219_0
                   replace p219 := eq_true p219
                   replace q219 := eq_true q219
                   have p220 : 0 ≤ (x32_3 : Int) := od_ as_
                   have q220 : x32_3 < (x4_3.length : Int) := od_ as_
                   obtain ⟨ad220, e220, hx220_0⟩ := Kd.at_bool (Kd.R_reads' HO_4.out).2.2 x32_3 p220 q220
                   (try rw [← Nbq23.out] at hx220_0)
                   cases e220
                   replace p220 := eq_true p220
                   replace q220 := eq_true q220
                   go_wp2_with (first | (go_at_call 121; (with_reducible refine (spec_l1Free.calls k3 _ _ l0 _ _ x4_3 x32_3 true _ ?side1 ?side2 ?side3 ?side4 A25.out).mono ?_); (case side1 => exact kC_ HR0.out HB.out); (case side2 => exact HC0.out); (case side3 => exact kD_ (Kd.R_reads' HO_4.out).2.2); (case side4 => exact (Kd.R_reads' HO_4.out).2.1); rintro e w' ⟨rfl, ⟨nd, rfl⟩⟩; (try (rw [drewN_self wr]; generalize hq_ : World.drewN wr _ = wr; have n0_ : Aside0 (Kd.R Kd.bool 4 wr w.heap.size (fun _ => True) (.slice (some ad220) x4_3.length co8) x4_3) := ⟨by rw [← hq_]; exact (kR_ HO_4.out)⟩; have n1_ : Aside0 (Kd.R (Kd.int .i64) 3 wr w.heap.size (fun _ => True) u6 x6_3) := ⟨by rw [← hq_]; exact (kR_ HO_6.out)⟩; have n2_ : Aside0 (Below w.heap.size w wr) := ⟨by rw [← hq_]; exact (bw0_ HB.out)⟩; clear HO_4 HO_6 HB hq_; have HO_4 := n0_; have HO_6 := n1_; have HB := n2_; clear n0_ n1_ n2_))) | ((with_reducible refine gate_builtin (b := .append) (xs := #[.tmp 47, .tmp 49]) rfl ?_); at_builtin; refine Kd.R_append (Kd.int .i64) (w0 := w) w.heap.size rfl (.tmp 47) (.tmp 49) 23 3 (.int .i64 0) 8 rfl Try.underlying23 info3 rfl (by decide) (by omega) u6 x6_3 (rd l0 x32_3) [.int .i64 (rd l0 x32_3)] (fun _ => True) (fun _ => False) rfl rfl ?aP (fun _ hk => hk.elim) ?aF ?aO ?aB ?aS ?aL ?_; (case aP => exact rfl); (case aB => exact (bw0_ HB.out)); (case aF => exact (fun _ _ => trivial)); (case aO => exact (kR_ HO_6.out)); (case aS => exact (below_size (bw0_ HB.out))); (case aL => have := LMc27.out; omega); intro v223 w29 ho hb hg hat; rw [← Ny222.out] at ho; have z_ := t3_ (Kd.R_over' (kR_ HO_4.out) (Kd.R_typed (kR_ HO_6.out)) (by decide) hg) hb ho; clear HO_6 HB HO_4; obtain ⟨HO_4, HB, HO224⟩ := z_; clear ho hb hg hat; have p28 : 0 ≤ (x32_3 : Int) := od_ as_; have q28 : (x32_3 : Int) < ((x4_3.length : Int) : Int) := od_ as_; obtain ⟨go28, co28, eo28, gb28, gl28, cl28, HG28⟩ := Kd.R_form HO_4.out (by omega); (first | cases eo28 | (injection eo28 with ea_ en_ ec_; (first | subst ea_ | (injection ea_ with ea_; subst ea_)); subst ec_; clear en_)); have GB28 := M_ gb28; have GG28 := M_ HG28; clear gb28 gl28 HG28; (first | simp only [add_plain] at hx220_0 | skip); obtain ⟨hx28_0, hf28_0⟩ := Kd.R_celln false HO_4.out (x32_3 : Int) p28 q28; replace p28 := eq_true p28; replace q28 := eq_true q28; obtain ⟨hy30_, hz30_⟩ := Kd.R_celln false HO_4.out (x32_3 : Int) (od_ as_) (od_ as_); have HP30 := Kd.R_putg HO_4.out (x32_3 : Int) false) | ((with_reducible refine gate_store (t := 4) (p := 53) rfl ?_); refine store_event (t := 4) (p := 53) (v := ?vo_w31) (w1 := (w29.setCell ⟨go28, (x32_3 : Int).toNat, none⟩ (.bool false))) ?hg ?ho ?hn ?hr ?_; (case ho => rfl); (case hg => rfl); (case hn => rfl); (case hr => first | (go_simp; done) | (go_simp; rfl)); intro w31 hw; have hg : w29.grownBy w31 (some go28) := (by rw [hw]; exact HP30.2); have hp_ : Kd.R Kd.bool 4 w31 w.heap.size (fun _ => True) (.slice (some ⟨go28, 0, none⟩) x4_3.length co8) y225 := (by rw [hw, Ny225.out]; exact HP30.1); clear HP30; have z_ := t3_ hp_ (Kd.R_over' (v := (.slice (some ⟨go28, 0, none⟩) x4_3.length co8)) (kR_ HO224.out) (Kd.R_typed HO_4.out) (by decide) hg) (by rw [hw]; exact below_set (HB.out) GB28.out : Below w.heap.size w w31); clear HB HO224 HO_4; obtain ⟨HO_4, HO224, HB⟩ := z_; clear hg hw hp_))
                   (try simp only [← hl4_2, ← hl4_3])
                   go_roundg k3
                   case measure => have := HK1.out; have := HK2.out; have := HK3.out; omega
                   case rel => exact ⟨(y225), (y222), H', ⟨by have := HK1.out; have := HK2.out; have := HK3.out; omega⟩, ⟨by (try simp only [hl4_1]); (try simp only [hl4_2]); (try simp only [hl4_3]); refine kR_ ?_; exact HO_4.out⟩, ⟨by (try simp only [hl4_1]); (try simp only [hl4_2]); (try simp only [hl4_3]); refine kR_ ?_; exact HO224.out⟩, ⟨bw0_ HB.out⟩⟩
                  ·rw [if_neg c27] at H
                   exact absurd H (by simp)
                 ·replace c26 := Bool.eq_false_iff.mpr c26
                  subst c26
                  rw [if_neg (show ¬ (false = true) by decide)] at H
                  have H' := M_ H
                  clear H
                  have p219 : 0 ≤ (x32_3 : Int) := od_ as_
                  have q219 : x32_3 < (l0.length : Int) := od_ as_
                  obtain ⟨ad219, e219, hx219_0⟩ := Kd.at_int HR0.out x32_3 p219 q219
                  cases e219
                  replace hx219_0 := (HB.out.cell (World.block_lt_of_cell? w _ hx219_0)).trans hx219_0
                  replace p219 := eq_true p219
                  replace q219 := eq_true q219
                  have p220 : 0 ≤ (x32_3 : Int) := od_ as_
                  have q220 : x32_3 < (x4_3.length : Int) := od_ as_
                  obtain ⟨ad220, e220, hx220_0⟩ := Kd.at_bool (Kd.R_reads' HO_4.out).2.2 x32_3 p220 q220
                  (try rw [← Nbq23.out] at hx220_0)
                  cases e220
                  replace p220 := eq_true p220
                  replace q220 := eq_true q220
                  go_wp2_with (first | (go_at_call 121; (with_reducible refine (spec_l1Free.calls k3 _ _ l0 _ _ x4_3 x32_3 false _ ?side1 ?side2 ?side3 ?side4 A25.out).mono ?_); (case side1 => exact kC_ HR0.out HB.out); (case side2 => exact HC0.out); (case side3 => exact kD_ (Kd.R_reads' HO_4.out).2.2); (case side4 => exact (Kd.R_reads' HO_4.out).2.1); rintro e w' ⟨rfl, ⟨nd, rfl⟩⟩))
                  (try simp only [← hl4_3])
                  go_roundg k3
                  case measure => have := HK1.out; have := HK2.out; have := HK3.out; omega
                  case rel => exact ⟨(x4_3), (x6_3), (wrap64 (x32_3 + 1)), (by first | rfl | (simp; done) | (simp [*]; done)), H', ⟨by have := HK1.out; have := HK2.out; have := HK3.out; omega⟩, ⟨by (try simp only [hl4_1]); (try simp only [hl4_2]); (try simp only [hl4_3]); refine kR_ ?_; exact HO_4.out⟩, ⟨by (try simp only [hl4_1]); (try simp only [hl4_2]); (try simp only [hl4_3]); refine kR_ ?_; exact HO_6.out⟩, ⟨bw0_ HB.out⟩⟩
                ·replace c24 := Bool.eq_false_iff.mpr c24
                 subst c24
                 rw [if_neg (show ¬ (false = true) by decide)] at H
                 have H' := M_ H
                 clear H
                 have p219 : 0 ≤ (x32_3 : Int) := od_ as_
                 have q219 : x32_3 < (l0.length : Int) := od_ as_
                 obtain ⟨ad219, e219, hx219_0⟩ := Kd.at_int HR0.out x32_3 p219 q219
                 cases e219
                 replace hx219_0 := (HB.out.cell (World.block_lt_of_cell? w _ hx219_0)).trans hx219_0
                 replace p219 := eq_true p219
                 replace q219 := eq_true q219
                 have p220 : 0 ≤ (x32_3 : Int) := od_ as_
                 have q220 : x32_3 < (x4_3.length : Int) := od_ as_
                 obtain ⟨ad220, e220, hx220_0⟩ := Kd.at_bool (Kd.R_reads' HO_4.out).2.2 x32_3 p220 q220
                 (try rw [← Nbq23.out] at hx220_0)
                 cases e220
                 replace p220 := eq_true p220
                 replace q220 := eq_true q220
                 go_wp2
                 (try simp only [← hl4_3])
                 go_roundg k3
                 case measure => have := HK1.out; have := HK2.out; have := HK3.out; omega
                 case rel => exact ⟨(x4_3), (x6_3), (wrap64 (x32_3 + 1)), (by first | rfl | (simp; done) | (simp [*]; done)), H', ⟨by have := HK1.out; have := HK2.out; have := HK3.out; omega⟩, ⟨by (try simp only [hl4_1]); (try simp only [hl4_2]); (try simp only [hl4_3]); refine kR_ ?_; exact HO_4.out⟩, ⟨by (try simp only [hl4_1]); (try simp only [hl4_2]); (try simp only [hl4_3]); refine kR_ ?_; exact HO_6.out⟩, ⟨bw0_ HB.out⟩⟩
               ·rw [if_neg c22] at H
                exact absurd H (by simp)
              ·rw [if_neg c21] at H
               exact absurd H (by simp)
             ·rw [if_neg c20] at H
              exact absurd H (by simp)
            ·rw [if_neg c19] at H
             have c19b0 := decide_eq_false c19
             (try (have c19h0 := c19b0; simp only [hl4_1, hl4_2, hl4_3] at c19h0))
             clear c19
             have H' := M_ H
             clear H
             go_wp2
             (try simp only [← hl4_2, ← hl4_3])
             go_roundg k3
             case measure => have := HK1.out; have := HK2.out; have := HK3.out; omega
             case rel => exact ⟨(x4_3), (x6_3), H', ⟨by have := HK1.out; have := HK2.out; have := HK3.out; omega⟩, ⟨by (try simp only [hl4_1]); (try simp only [hl4_2]); (try simp only [hl4_3]); refine kR_ ?_; exact HO_4.out⟩, ⟨by (try simp only [hl4_1]); (try simp only [hl4_2]); (try simp only [hl4_3]); refine kR_ ?_; exact HO_6.out⟩, ⟨bw0_ HB.out⟩⟩
         ·rw [if_neg c17] at H
          have c17b0 := decide_eq_false c17
          have c17b1 : decide (x6_2.length < l0.length) = false := decide_eq_false (fun h => c17 (Int.ofNat_lt.mpr h))
          (try (have c17h0 := c17b0; simp only [hl4_1, hl4_2] at c17h0))
          (try (have c17h1 := c17b1; simp only [hl4_1, hl4_2] at c17h1))
          clear c17
          simp only [Option.some.injEq, Prod.mk.injEq] at H
          obtain ⟨rfl, rfl⟩ := H
          obtain ⟨Ao32, co32, eo32⟩ := Kd.R_slice HO_6.out
          subst eo32
          go_wp2
          go_ret2
          exact ⟨_, rb_, by refine kR_ ?_; exact HO_6.out, bw0_ HB.out⟩
   ·rw [if_neg c5] at H
    exact absurd H (by simp)
  ·rw [if_neg c4] at H
   exact absurd H (by simp)
 ·replace c3 := Bool.eq_false_iff.mpr c3
  subst c3
  rw [if_neg (show ¬ (false = true) by decide)] at H
  simp only [Option.some.injEq, Prod.mk.injEq] at H
  obtain ⟨rfl, rfl⟩ := H
  go_enter Try.func120, Try.ntmps120
  go_wp2_with (first | ((with_reducible refine gate_callee (f := 119) rfl ?_); refine gl_ (some 10) Try.func119 #[.slice A0 l0.length c0] ?_; (with_reducible refine (spec_l1Sets.calls k _ _ l0 false _ ?side1 ?side2 A2.out).mono ?_); (case side1 => exact kD_ HR0.out); (case side2 => exact HC0.out); rintro e w' ⟨rfl, ⟨nd, rfl⟩⟩; refine ⟨_, rfl, ?_⟩))
  go_ret2
  exact ⟨_, rb_, by first | exact Kd.R_nil _ _ _ _ _ | exact Kd.N_nil _ _ _ _ _ | exact Kd.V_nil _ _ _ _ _ | exact Kd.Q_nil _ _ _ _ _ | exact Kd.S_nil _ _ _ _ _, bw0_ HB.out⟩

end Go.Proofs.Ytilbngklgjjblaa.Q
