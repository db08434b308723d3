/- Contracts of Go functions over this translation. Conditions: those that each theorem names. -/
import Derived.Test.YtilbngklgjjblaaQ0
import Derived.Test.YtilbngklgjjblaaQ2
namespace Go.Proofs.Ytilbngklgjjblaa.Q
open Go.RowKit Go.Proofs.YtilbngklgjjblaaW.PrintWords Go.Proofs.YtilbngklgjjblaaW.PrintLast Go.Proofs.YtilbngklgjjblaaW.PrintMore
attribute [local go_sem] max2_int min2_int max_two min_two max_three min_three max_four min_four
set_option linter.unusedVariables false
set_option linter.unusedSimpArgs false

/-- A state of type 99 at block g of W; what its slices lead to came in by w0. -/
def IsS99 (w0 W : World) (g : Nat) (f0 : List Int) (f1 : Int) (f2 : Int) : Prop := ∃ A0 c0, W.heap[g]? = some (.cells #[.slice A0 f0.length c0, .int .i64 f1, .int .i64 f2] 99 (0, 0)) ∧ w0.heap.size ≤ g ∧ Kd.C (Kd.int .u8) w0 A0 f0.length f0
theorem IsS99.grown {w0 W : World} {g : Nat} {f0 : List Int} {f1 : Int} {f2 : Int} {W1 : World} {row : Option Nat} (h : IsS99 w0 W g f0 f1 f2) (hw : W.grownBy W1 row) (hne : some g ≠ row) : IsS99 w0 W1 g f0 f1 f2 := by
 obtain ⟨A0, c0, hb, hg, hr0⟩ := h
 exact ⟨A0, c0, blk_grown hb hw hne, hg, hr0⟩
theorem IsS99.own_neN {w0 W : World} {g : Nat} {f0 : List Int} {f1 : Int} {f2 : Int} {α : Type} {d : Kd α} {e : Nat} {base : Nat} {ok : Nat → Prop} {v : Value} {xs : List α} (h : IsS99 w0 W g f0 f1 f2) (ho : Kd.N d e W base ok v xs) (ht : e ≠ 99) : some g ≠ v.ownBlock := by
 obtain ⟨A0, c0, hb, hg, hr0⟩ := h
 exact Kd.N_ne ho hb ht
theorem IsS99.fresh {w0 W : World} {g : Nat} {f0 : List Int} {f1 : Int} {f2 : Int} (h : IsS99 w0 W g f0 f1 f2) : ∀ k, W.heap.size ≤ k → k ≠ g := by
 obtain ⟨A0, c0, hb, hg, hr0⟩ := h
 exact Kd.freshB hb
theorem IsS99.kept {w0 W : World} {g : Nat} {f0 : List Int} {f1 : Int} {f2 : Int} {W1 : World} {S : Nat → Prop} (h : IsS99 w0 W g f0 f1 f2) (hk : Kept W W1 S) (hne : ¬ S g) : IsS99 w0 W1 g f0 f1 f2 := by
 obtain ⟨A0, c0, hb, hg, hr0⟩ := h
 exact ⟨A0, c0, blk_kept hb hk hne, hg, hr0⟩
theorem IsS99.below {w0 W : World} {g : Nat} {f0 : List Int} {f1 : Int} {f2 : Int} {W1 : World} (h : IsS99 w0 W g f0 f1 f2) (hw : Below W.heap.size W W1) : IsS99 w0 W1 g f0 f1 f2 := h.grown (grown_of_below hw none) (by simp)
theorem IsS99.alloc {w0 W : World} {g : Nat} {f0 : List Int} {f1 : Int} {f2 : Int} (h : IsS99 w0 W g f0 f1 f2) (o : Obj) : IsS99 w0 (W.alloc o) g f0 f1 f2 := h.below (below_alloc (Below.refl _ _) o)
theorem IsS99.drewN {w0 W : World} {g : Nat} {f0 : List Int} {f1 : Int} {f2 : Int} (h : IsS99 w0 W g f0 f1 f2) (m : Nat) : IsS99 w0 (W.drewN m) g f0 f1 f2 := h
theorem IsS99.drew {w0 W : World} {g : Nat} {f0 : List Int} {f1 : Int} {f2 : Int} (h : IsS99 w0 W g f0 f1 f2) : IsS99 w0 W.drew g f0 f1 f2 := h
theorem IsS99.at_ {w0 W : World} {g : Nat} {f0 : List Int} {f1 : Int} {f2 : Int} {w' : World} {m : Nat} (hq : W.drewN m = w') (h : IsS99 w0 W g f0 f1 f2) : IsS99 w0 w' g f0 f1 f2 := by subst hq; exact IsS99.drewN h m
theorem IsS99.apart {w0 W : World} {g : Nat} {f0 : List Int} {f1 : Int} {f2 : Int} {α : Type} {d : Kd α} {e : Nat} {base : Nat} {ok : Nat → Prop} {v : Value} {xs : List α} (h : IsS99 w0 W g f0 f1 f2) (ho : d.R e W base ok v xs) (ht : ∀ q, q ∈ e :: d.E → q ≠ 99) : d.R e W base (fun k => ok k ∧ k ≠ g) v xs := by
 obtain ⟨A0, c0, hb, hg, hr0⟩ := h
 exact Kd.R_types ho hb ht
theorem IsS99.own_ne {w0 W : World} {g : Nat} {f0 : List Int} {f1 : Int} {f2 : Int} {α : Type} {d : Kd α} {e : Nat} {base : Nat} {ok : Nat → Prop} {v : Value} {xs : List α} (h : IsS99 w0 W g f0 f1 f2) (ho : d.R e W base ok v xs) (ht : e ≠ 99) : some g ≠ v.ownBlock := by
 obtain ⟨A0, c0, hb, hg, hr0⟩ := h
 exact Kd.R_ne ho hb ht
theorem IsS99.apartQ {w0 W : World} {g : Nat} {f0 : List Int} {f1 : Int} {f2 : Int} {α : Type} {d : Kd α} {e : Nat} {base : Nat} {ok : Nat → Prop} {v : Value} {xs : List α} (h : IsS99 w0 W g f0 f1 f2) (ho : d.Q e W base ok v xs) (ht : ∀ q, q ∈ e :: d.E → q ≠ 99) : d.Q e W base (fun k => ok k ∧ k ≠ g) v xs := by
 obtain ⟨A0, c0, hb, hg, hr0⟩ := h
 exact Kd.Q_types ho hb ht
theorem IsS99.own_neQ {w0 W : World} {g : Nat} {f0 : List Int} {f1 : Int} {f2 : Int} {α : Type} {d : Kd α} {e : Nat} {base : Nat} {ok : Nat → Prop} {v : Value} {xs : List α} (h : IsS99 w0 W g f0 f1 f2) (ho : d.Q e W base ok v xs) (ht : e ≠ 99) : some g ≠ v.ownBlock := by
 obtain ⟨A0, c0, hb, hg, hr0⟩ := h
 exact Kd.Q_ne ho hb ht
theorem IsS99.apartS {w0 W : World} {g : Nat} {f0 : List Int} {f1 : Int} {f2 : Int} {α : Type} {d : Kd α} {e : Nat} {base : Nat} {ok : Nat → Prop} {v : Value} {xs : List α} (h : IsS99 w0 W g f0 f1 f2) (ho : d.S e W base ok v xs) (ht : ∀ q, q ∈ e :: d.E → q ≠ 99) : d.S e W base (fun k => ok k ∧ k ≠ g) v xs := by
 obtain ⟨A0, c0, hb, hg, hr0⟩ := h
 exact Kd.S_types ho hb ht
theorem IsS99.own_neS {w0 W : World} {g : Nat} {f0 : List Int} {f1 : Int} {f2 : Int} {α : Type} {d : Kd α} {e : Nat} {base : Nat} {ok : Nat → Prop} {v : Value} {xs : List α} (h : IsS99 w0 W g f0 f1 f2) (ho : d.S e W base ok v xs) (ht : e ≠ 99) : some g ≠ v.ownBlock := by
 obtain ⟨A0, c0, hb, hg, hr0⟩ := h
 exact Kd.S_ne ho hb ht
theorem IsS99.lt {w0 W : World} {g : Nat} {f0 : List Int} {f1 : Int} {f2 : Int} (h : IsS99 w0 W g f0 f1 f2) : g < W.heap.size := by
 obtain ⟨A0, c0, hb, hg, hr0⟩ := h
 exact blk_lt hb
theorem IsS99.ge {w0 W : World} {g : Nat} {f0 : List Int} {f1 : Int} {f2 : Int} (h : IsS99 w0 W g f0 f1 f2) : w0.heap.size ≤ g := by
 obtain ⟨A0, c0, hb, hg, hr0⟩ := h
 exact hg
theorem IsS99.ne_blk {w0 W : World} {g : Nat} {f0 : List Int} {f1 : Int} {f2 : Int} {a : Nat} {cs : Array Value} {t : TypeId} {fr : Nat × Nat} (h : IsS99 w0 W g f0 f1 f2) (hb2 : W.heap[a]? = some (.cells cs t fr)) (ht : t ≠ 99) : g ≠ a := by
 obtain ⟨A0, c0, hb, hg, hr0⟩ := h
 rintro rfl
 rw [hb] at hb2
 injection hb2 with hb2
 injection hb2 with _ ht2
 exact ht ht2.symm
theorem IsS99.far {w0 W : World} {g : Nat} {f0 : List Int} {f1 : Int} {f2 : Int} {p : Addr} (h : IsS99 w0 W g f0 f1 f2) (hne : g ≠ p.block) (u : Value) : IsS99 w0 (W.setCell p u) g f0 f1 f2 := by
 obtain ⟨A0, c0, hb, hg, hr0⟩ := h
 exact ⟨A0, c0, blk_far hb hne u, hg, hr0⟩
theorem cellS99_0 {W : World} {g : Nat} {A0 : Option Addr} {c0 : Nat} {f0 : List Int} {f1 : Int} {f2 : Int} (h : W.heap[g]? = some (.cells #[.slice A0 f0.length c0, .int .i64 f1, .int .i64 f2] 99 (0, 0))) : W.cell? ⟨g, 0, none⟩ = some (.slice A0 f0.length c0) := (blk_cell h 0).trans rfl
theorem cellS99_1 {W : World} {g : Nat} {A0 : Option Addr} {c0 : Nat} {f0 : List Int} {f1 : Int} {f2 : Int} (h : W.heap[g]? = some (.cells #[.slice A0 f0.length c0, .int .i64 f1, .int .i64 f2] 99 (0, 0))) : W.cell? ⟨g, 1, none⟩ = some (.int .i64 f1) := (blk_cell h 1).trans rfl
theorem IsS99.set_1 {w0 W : World} {g : Nat} {f0 : List Int} {f1 : Int} {f2 : Int} (h : IsS99 w0 W g f0 f1 f2) (x : Int) : IsS99 w0 (W.setCell ⟨g, 1, none⟩ (.int .i64 x)) g f0 x f2 := by
 obtain ⟨A0, c0, hb, hg, hr0⟩ := h
 exact ⟨A0, c0, by simpa using blk_set hb 1 (.int .i64 x), hg, hr0⟩
theorem cellS99_2 {W : World} {g : Nat} {A0 : Option Addr} {c0 : Nat} {f0 : List Int} {f1 : Int} {f2 : Int} (h : W.heap[g]? = some (.cells #[.slice A0 f0.length c0, .int .i64 f1, .int .i64 f2] 99 (0, 0))) : W.cell? ⟨g, 2, none⟩ = some (.int .i64 f2) := (blk_cell h 2).trans rfl
theorem IsS99.set_2 {w0 W : World} {g : Nat} {f0 : List Int} {f1 : Int} {f2 : Int} (h : IsS99 w0 W g f0 f1 f2) (x : Int) : IsS99 w0 (W.setCell ⟨g, 2, none⟩ (.int .i64 x)) g f0 f1 x := by
 obtain ⟨A0, c0, hb, hg, hr0⟩ := h
 exact ⟨A0, c0, by simpa using blk_set hb 2 (.int .i64 x), hg, hr0⟩
theorem IsS99.new (w0 W : World) (A0 : Option Addr) (c0 : Nat) (f0 : List Int) (f1 : Int) (f2 : Int) (hB : Below w0.heap.size w0 W) (hr0 : Kd.C (Kd.int .u8) w0 A0 f0.length f0) : IsS99 w0 (W.alloc (.cells #[.slice A0 f0.length c0, .int .i64 f1, .int .i64 f2] 99)) W.heap.size f0 f1 f2 := ⟨A0, c0, by simpa using heap_alloc_new W _, hB.size, hr0⟩

def spec_l01New.l0 : Nat → List Int → Int → Int → Option (List Int × Int × Int)
  | 0, _, _, _ => none
  | k + 1, x0, x3, x4 => if x4 < (x0.length : Int) then (if x4 < 4000 then (if 0 ≤ x4 then (spec_l01New.l0 k x0 (Go.bits .and .i64 (wrap64 ((wrap64 ((wrap64 (x3 * 1103)) + (wrap64 (rd x0 x4)))) + 7)) 1073741823) (wrap64 (x4 + 1))) else (none)) else (some (x0, 0, x3))) else (some (x0, 0, x3))
def spec_l01New.f (k : Nat) (l0 : List Int) : Option (List Int × Int × Int) := spec_l01New.l0 k l0 (wrap64 (3230 + (l0.length : Int))) 0
theorem spec_l01New.mono_l : ∀ k, (∀ y0 y1 y2, LeO (spec_l01New.l0 k y0 y1 y2) (spec_l01New.l0 (k + 1) y0 y1 y2))
  | 0 => fun _ _ _ r h => by simp [spec_l01New.l0] at h
  | k + 1 => by
    have ih0 := spec_l01New.mono_l k
    · intro y0 y1 y2
      unfold spec_l01New.l0
      repeat' first | (with_reducible first | exact ih0 _ _ _ | exact LeO.refl _ | exact LeO.none _ | refine LeO.ite ?_ ?_ | refine LeO.bind ?_ (fun _ => ?_)) | exact ih0 _ _ _ | exact LeO.none _ | refine LeO.ite ?_ ?_ | refine LeO.bind ?_ (fun _ => ?_)
theorem spec_l01New.mono : ∀ a0 k, LeO (spec_l01New.f k a0) (spec_l01New.f (k + 1) a0) := by
 intro a0 k
 have ih0 := spec_l01New.mono_l k
 unfold spec_l01New.f
 repeat' first | (with_reducible first | exact ih0 _ _ _ | exact LeO.refl _ | exact LeO.none _ | refine LeO.ite ?_ ?_ | refine LeO.bind ?_ (fun _ => ?_)) | exact ih0 _ _ _ | exact LeO.none _ | refine LeO.ite ?_ ?_ | refine LeO.bind ?_ (fun _ => ?_)
set_option maxHeartbeats 8000000 in
set_option maxRecDepth 100000 in
theorem spec_l01New.calls (k : Nat) (A0 : Option Addr) (c0 : Nat) (l0 : List Int) (r1 : List Int) (r2 : Int) (r3 : Int) (w0 w : World) (hB : Below w0.heap.size w0 w) (hr0 : Kd.C (Kd.int .u8) w0 A0 l0.length l0) (hc0 : l0.length ≤ c0) (h : spec_l01New.f k l0 = some (r1, r2, r3)) :
    Calls Try.prog 71 #[.slice A0 l0.length c0] w fun e w' => ∃ g_ : Nat, e = .returned (.pointer (some ⟨g_, 0, none⟩)) ∧ IsS99 w0 w' g_ r1 r2 r3 ∧ Below w0.heap.size w0 w' ∧ Below w.heap.size w w' := by
 have hu99 := Try.underlying99
 have HR0 := M_ hr0
 have HC0 := M_ hc0
 clear hr0 hc0
 have HBW := M_ (Below.refl w.heap.size w)
 have HW0 := M_ hB.size
 have HB := M_ hB
 clear hB
 have H : (spec_l01New.l0 k l0 (wrap64 (3230 + (l0.length : Int))) 0) = some (r1, r2, r3) := h
 clear h
 have H' := M_ H
 clear H
 go_enter Try.func71, Try.ntmps71
 go_wp2
 go_loopg [3, 4] k (fun kq v3 v4 w' => ∃ (x3_1 : Int) (x4_1 : Int), v3 = .int .i64 x3_1 ∧ v4 = .int .i64 x4_1 ∧ Aside0 (spec_l01New.l0 kq l0 x3_1 x4_1 = some (r1, r2, r3)) ∧ Aside0 (kq ≤ k) ∧ Aside0 (Below w.heap.size w w') ∧ Aside0 (Below w0.heap.size w0 w'))
 case atStart => exact ⟨(wrap64 (3230 + (l0.length : Int))), (0), (by first | rfl | (simp; done) | (simp [*]; done)), (by first | rfl | (simp; done) | (simp [*]; done)), H', ⟨Nat.le_refl _⟩, ⟨bw0_ HBW.out⟩, ⟨bw0_ HB.out⟩⟩
 case round =>
  clear H'
  obtain ⟨x3_1, x4_1, rfl, rfl, HA, HK1, HBW, HB⟩ := hrel
  cases gk with
  | zero => exact absurd HA.out (by simp [spec_l01New.l0])
  | succ k1 =>
   have H := HA.out
   clear HA
   simp only [spec_l01New.l0] at H
   by_cases c2 : x4_1 < (l0.length : Int)
   ·rw [if_pos c2] at H
    have c2b0 := dt_ c2
    clear c2
    by_cases c3 : x4_1 < 4000
    ·rw [if_pos c3] at H
     have c3b0 := dt_ c3
     clear c3
     by_cases c4 : 0 ≤ x4_1
     ·rw [if_pos c4] at H
      have c4b0 := dt_ c4
      clear c4
      have H' := M_ H
      clear H
      have p180 : 0 ≤ (x4_1 : Int) := od_ as_
      have q180 : x4_1 < (l0.length : Int) := od_ as_
      obtain ⟨ad180, e180, hx180_0⟩ := Kd.at_int HR0.out x4_1 p180 q180
      cases e180
      replace hx180_0 := pw_cell_below HB.out hx180_0
      replace p180 := eq_true p180
      replace q180 := eq_true q180
      go_wp2
      go_roundg k1
      case measure => have := HK1.out; omega
      case rel => exact ⟨(Go.bits .and .i64 (wrap64 ((wrap64 ((wrap64 (x3_1 * 1103)) + (wrap64 (rd l0 x4_1)))) + 7)) 1073741823), (wrap64 (x4_1 + 1)), (by first | rfl | (simp; done) | (simp [*]; done)), (by first | rfl | (simp; done) | (simp [*]; done)), H', ⟨by have := HK1.out; omega⟩, ⟨bw0_ HBW.out⟩, ⟨bw0_ HB.out⟩⟩
     ·rw [if_neg c4] at H
      exact absurd H (by simp)
    ·rw [if_neg c3] at H
     have c3b0 := decide_eq_false c3
     clear c3
     simp only [Option.some.injEq, Prod.mk.injEq] at H
     obtain ⟨rfl, rfl, rfl⟩ := H
     go_wp2_with (first | ((with_reducible refine gate_dst (N := 31) rfl ?_); refine be_ 31 #[.slice A0 l0.length c0, .int .i64 0, .int .i64 x3_1] 99 ?_; intro gb181 hg w5 hbox hb; have z_ := t4_ (bS_ HBW.out hb) (bS_ (bw0_ HB.out) hb) hbox (gv_ hg (bw0_ HBW.out) : w.heap.size ≤ gb181); clear HB HBW; obtain ⟨HBW, HB, BK181, GW181⟩ := z_; have GE181 := M_ (Nat.le_trans HW0.out GW181.out); clear hb hbox hg))
     go_ret
     exact ⟨_, rfl, (show IsS99 w0 _ gb181 l0 0 x3_1 from ⟨_, _, by refine bk_ ?_; exact BK181.out, GE181.out, HR0.out⟩), bw1_ HB.out GE181.out, bw1_ HBW.out GW181.out⟩
   ·rw [if_neg c2] at H
    have c2b0 := decide_eq_false c2
    clear c2
    simp only [Option.some.injEq, Prod.mk.injEq] at H
    obtain ⟨rfl, rfl, rfl⟩ := H
    go_wp2_with (first | ((with_reducible refine gate_dst (N := 31) rfl ?_); refine be_ 31 #[.slice A0 l0.length c0, .int .i64 0, .int .i64 x3_1] 99 ?_; intro gb182 hg w6 hbox hb; have z_ := t4_ (bS_ HBW.out hb) (bS_ (bw0_ HB.out) hb) hbox (gv_ hg (bw0_ HBW.out) : w.heap.size ≤ gb182); clear HB HBW; obtain ⟨HBW, HB, BK182, GW182⟩ := z_; have GE182 := M_ (Nat.le_trans HW0.out GW182.out); clear hb hbox hg))
    go_ret
    exact ⟨_, rfl, (show IsS99 w0 _ gb182 l0 0 x3_1 from ⟨_, _, by refine bk_ ?_; exact BK182.out, GE182.out, HR0.out⟩), bw1_ HB.out GE182.out, bw1_ HBW.out GW182.out⟩

def spec_l01Byte.f (s0_0 : List Int) (s0_1 : Int) (s0_2 : Int) : Option (Int × Int × Int) := if s0_1 < (s0_0.length : Int) then (if 0 ≤ s0_1 then (some (Go.bits .and .i64 (wrap64 ((Go.bits .and .i64 (Go.bits .xor .i64 ((wrap64 ((wrap64 (s0_2 * 6364136223846793005)) + 1442695040888963407)) / 8589934592) ((wrap64 ((wrap64 (s0_2 * 6364136223846793005)) + 1442695040888963407)) / 35184372088832)) 255) + (wrap64 (rd s0_0 s0_1)))) 255, wrap64 (s0_1 + 1), wrap64 ((wrap64 (s0_2 * 6364136223846793005)) + 1442695040888963407))) else (none)) else (some (Go.bits .and .i64 (Go.bits .xor .i64 ((wrap64 ((wrap64 (s0_2 * 6364136223846793005)) + 1442695040888963407)) / 8589934592) ((wrap64 ((wrap64 (s0_2 * 6364136223846793005)) + 1442695040888963407)) / 35184372088832)) 255, s0_1, wrap64 ((wrap64 (s0_2 * 6364136223846793005)) + 1442695040888963407)))
set_option maxHeartbeats 8000000 in
set_option maxRecDepth 100000 in
theorem spec_l01Byte.calls (g : Nat) (s0_0 : List Int) (s0_1 : Int) (s0_2 : Int) (r1 : Int) (r2 : Int) (r3 : Int) (w0 w : World) (hI : IsS99 w0 w g s0_0 s0_1 s0_2) (hB : Below w0.heap.size w0 w) (h : spec_l01Byte.f s0_0 s0_1 s0_2 = some (r1, r2, r3)) :
    Calls Try.prog 101 #[.pointer (some ⟨g, 0, none⟩)] w fun e w' => e = .returned (.int .i64 r1) ∧ IsS99 w0 w' g s0_0 r2 r3 ∧ Below w0.heap.size w0 w' ∧ KeepBut w w' g none := by
 have HI0 := M_ hI
 have HK := M_ (KeepBut.refl w g none)
 have HL := M_ hB.size
 clear hI
 have HW0 := M_ hB.size
 have HB := M_ hB
 clear hB
 have H : (if s0_1 < (s0_0.length : Int) then (if 0 ≤ s0_1 then (some (Go.bits .and .i64 (wrap64 ((Go.bits .and .i64 (Go.bits .xor .i64 ((wrap64 ((wrap64 (s0_2 * 6364136223846793005)) + 1442695040888963407)) / 8589934592) ((wrap64 ((wrap64 (s0_2 * 6364136223846793005)) + 1442695040888963407)) / 35184372088832)) 255) + (wrap64 (rd s0_0 s0_1)))) 255, wrap64 (s0_1 + 1), wrap64 ((wrap64 (s0_2 * 6364136223846793005)) + 1442695040888963407))) else (none)) else (some (Go.bits .and .i64 (Go.bits .xor .i64 ((wrap64 ((wrap64 (s0_2 * 6364136223846793005)) + 1442695040888963407)) / 8589934592) ((wrap64 ((wrap64 (s0_2 * 6364136223846793005)) + 1442695040888963407)) / 35184372088832)) 255, s0_1, wrap64 ((wrap64 (s0_2 * 6364136223846793005)) + 1442695040888963407)))) = some (r1, r2, r3) := h
 clear h
 by_cases c2 : s0_1 < (s0_0.length : Int)
 ·rw [if_pos c2] at H
  have c2b0 := dt_ c2
  clear c2
  by_cases c3 : 0 ≤ s0_1
  ·rw [if_pos c3] at H
   have c3b0 := dt_ c3
   clear c3
   simp only [Option.some.injEq, Prod.mk.injEq] at H
   obtain ⟨rfl, rfl, rfl⟩ := H
   obtain ⟨ASz4_0, cSz4_0, HGz4, hgz4, HSz4_0⟩ := HI0.out
   have hcz4_0 := cellS99_0 HGz4
   have hcz4_1 := cellS99_1 HGz4
   have hcz4_2 := cellS99_2 HGz4
   have hfz4_1 := fz_ HGz4 1
   have hfz4_2 := fz_ HGz4 2
   clear HGz4 hgz4
   have p183 : 0 ≤ (s0_1 : Int) := od_ as_
   have q183 : s0_1 < (s0_0.length : Int) := od_ as_
   obtain ⟨ad183, e183, hx183_0⟩ := Kd.at_int HSz4_0 s0_1 p183 q183
   cases e183
   have hn183_0 : ad183.block ≠ g := Nat.ne_of_lt (Nat.lt_of_lt_of_le (by have := World.block_lt_of_cell? _ _ hx183_0; first | rwa [add_block] at this | exact this) (IsS99.ge HI0.out))
   replace hx183_0 := pw_cell_below HB.out hx183_0
   replace hx183_0 := (cell_far (p := ⟨g, 2, none⟩) (by first | (rw [add_block]; exact hn183_0) | (show (Addr.add _ _).block ≠ _; rw [add_block]; exact hn183_0) | exact hn183_0) (.int .i64 (wrap64 ((wrap64 (s0_2 * 6364136223846793005)) + 1442695040888963407)))).trans hx183_0
   (try have hy183_0 := fun (n_ : Nat) => (show (((w.drewN n_).setCell ⟨g, 2, none⟩ (.int .i64 (wrap64 ((wrap64 (s0_2 * 6364136223846793005)) + 1442695040888963407))))).cell? _ = some _ from hx183_0))
   clear hn183_0
   replace p183 := eq_true p183
   replace q183 := eq_true q183
   go_enter Try.func101, Try.ntmps101
   go_wp2
   repeat (go_quiet (fail); try go_wp2)
   go_ret
   exact ⟨rb_, iz0_ HI0.out, bw1_ HB.out (IsS99.ge HI0.out), ki0_ HK.out⟩
  ·rw [if_neg c3] at H
   exact absurd H (by simp)
 ·rw [if_neg c2] at H
  have c2b0 := decide_eq_false c2
  clear c2
  simp only [Option.some.injEq, Prod.mk.injEq] at H
  obtain ⟨rfl, rfl, rfl⟩ := H
  obtain ⟨ASz5_0, cSz5_0, HGz5, hgz5, HSz5_0⟩ := HI0.out
  have hcz5_0 := cellS99_0 HGz5
  have hcz5_1 := cellS99_1 HGz5
  have hcz5_2 := cellS99_2 HGz5
  have hfz5_1 := fz_ HGz5 1
  have hfz5_2 := fz_ HGz5 2
  clear HGz5 hgz5
  go_enter Try.func101, Try.ntmps101
  go_wp2
  repeat (go_quiet (fail); try go_wp2)
  go_ret
  exact ⟨rb_, iz0_ HI0.out, bw1_ HB.out (IsS99.ge HI0.out), ki0_ HK.out⟩

def spec_l01Below.f (s0_0 : List Int) (s0_1 : Int) (s0_2 : Int) (a1 : Int) : Option (Int × Int × Int) := if a1 ≤ 0 then (some (0, s0_1, s0_2)) else (if a1 ≤ 256 then ((spec_l01Byte.f s0_0 s0_1 s0_2).bind fun bt184 => (if a1 = 0 then (none) else (some (Int.tmod bt184.1 a1, bt184.2.1, bt184.2.2)))) else ((spec_l01Byte.f s0_0 s0_1 s0_2).bind fun bt187 => ((spec_l01Byte.f s0_0 bt187.2.1 bt187.2.2).bind fun bt190 => ((spec_l01Byte.f s0_0 bt190.2.1 bt190.2.2).bind fun bt193 => ((spec_l01Byte.f s0_0 bt193.2.1 bt193.2.2).bind fun bt196 => (if a1 = 0 then (none) else (some (Int.tmod (wrap64 ((wrap64 ((wrap64 ((wrap64 (bt187.1 * 16777216)) + (wrap64 (bt190.1 * 65536)))) + (wrap64 (bt193.1 * 256)))) + bt196.1)) a1, bt196.2.1, bt196.2.2))))))))
set_option maxHeartbeats 8000000 in
set_option maxRecDepth 100000 in
theorem spec_l01Below.calls (g : Nat) (s0_0 : List Int) (s0_1 : Int) (s0_2 : Int) (a1 : Int) (r1 : Int) (r2 : Int) (r3 : Int) (w0 w : World) (hI : IsS99 w0 w g s0_0 s0_1 s0_2) (hB : Below w0.heap.size w0 w) (h : spec_l01Below.f s0_0 s0_1 s0_2 a1 = some (r1, r2, r3)) :
    Calls Try.prog 73 #[.pointer (some ⟨g, 0, none⟩), .int .i64 a1] w fun e w' => e = .returned (.int .i64 r1) ∧ IsS99 w0 w' g s0_0 r2 r3 ∧ Below w0.heap.size w0 w' ∧ KeepBut w w' g none := by
 have HI0 := M_ hI
 have HK := M_ (KeepBut.refl w g none)
 have HL := M_ hB.size
 clear hI
 have HW0 := M_ hB.size
 have HB := M_ hB
 clear hB
 have H : (if a1 ≤ 0 then (some (0, s0_1, s0_2)) else (if a1 ≤ 256 then ((spec_l01Byte.f s0_0 s0_1 s0_2).bind fun bt184 => (if a1 = 0 then (none) else (some (Int.tmod bt184.1 a1, bt184.2.1, bt184.2.2)))) else ((spec_l01Byte.f s0_0 s0_1 s0_2).bind fun bt187 => ((spec_l01Byte.f s0_0 bt187.2.1 bt187.2.2).bind fun bt190 => ((spec_l01Byte.f s0_0 bt190.2.1 bt190.2.2).bind fun bt193 => ((spec_l01Byte.f s0_0 bt193.2.1 bt193.2.2).bind fun bt196 => (if a1 = 0 then (none) else (some (Int.tmod (wrap64 ((wrap64 ((wrap64 ((wrap64 (bt187.1 * 16777216)) + (wrap64 (bt190.1 * 65536)))) + (wrap64 (bt193.1 * 256)))) + bt196.1)) a1, bt196.2.1, bt196.2.2))))))))) = some (r1, r2, r3) := h
 clear h
 by_cases c3 : a1 ≤ 0
 ·rw [if_pos c3] at H
  have c3b0 := dt_ c3
  clear c3
  simp only [Option.some.injEq, Prod.mk.injEq] at H
  obtain ⟨rfl, rfl, rfl⟩ := H
  go_enter Try.func73, Try.ntmps73
  go_wp2
  go_ret
  exact ⟨rb_, iz0_ HI0.out, bw1_ HB.out (IsS99.ge HI0.out), ki0_ HK.out⟩
 ·rw [if_neg c3] at H
  have c3b0 := decide_eq_false c3
  clear c3
  by_cases c4 : a1 ≤ 256
  ·rw [if_pos c4] at H
   have c4b0 := dt_ c4
   clear c4
   replace H := bs_ H
   obtain ⟨⟨t184, t185, t186⟩, A50, H⟩ := H
   dsimp only at H
   have A5 := M_ A50
   clear A50
   by_cases c6 : a1 = 0
   ·rw [if_pos c6] at H
    exact absurd H (by simp)
   ·rw [if_neg c6] at H
    have c6b0 : (a1 == 0) = false := beq_eq_false_iff_ne.mpr c6
    have c6b1 : (a1 != 0) = true := bne_iff_ne.mpr c6
    simp only [Option.some.injEq, Prod.mk.injEq] at H
    obtain ⟨rfl, rfl, rfl⟩ := H
    go_enter Try.func73, Try.ntmps73
    go_wp2_with (first | ((with_reducible refine gate_callee (f := 101) rfl ?_); refine gl_ (some 14) Try.func101 #[.pointer (some ⟨g, 0, none⟩)] ?_; (with_reducible refine (spec_l01Byte.calls g s0_0 s0_1 s0_2 t184 t185 t186 w0 _ ?side1 ?side2 A5.out).mono ?_); (case side1 => exact iz0_ HI0.out); (case side2 => exact bw1_ HB.out (IsS99.ge HI0.out)); rintro e w7 ⟨rfl, hi, hb, hk⟩; refine ⟨_, rfl, ?_⟩; have z_ := t3_ (kT_ (ki0_ HK.out) hk (.inl rfl)) hb hi; clear HI0 HB HK; obtain ⟨HK, HB, HI0⟩ := z_; (try clear hi hk hb)))
    go_ret
    exact ⟨rb_, iz0_ HI0.out, bw1_ HB.out (IsS99.ge HI0.out), ki0_ HK.out⟩
  ·rw [if_neg c4] at H
   have c4b0 := decide_eq_false c4
   clear c4
   replace H := bs_ H
   obtain ⟨⟨t187, t188, t189⟩, A80, H⟩ := H
   dsimp only at H
   have A8 := M_ A80
   clear A80
   replace H := bs_ H
   obtain ⟨⟨t190, t191, t192⟩, A90, H⟩ := H
   dsimp only at H
   have A9 := M_ A90
   clear A90
   replace H := bs_ H
   obtain ⟨⟨t193, t194, t195⟩, A100, H⟩ := H
   dsimp only at H
   have A10 := M_ A100
   clear A100
   replace H := bs_ H
   obtain ⟨⟨t196, t197, t198⟩, A110, H⟩ := H
   dsimp only at H
   have A11 := M_ A110
   clear A110
   by_cases c12 : a1 = 0
   ·rw [if_pos c12] at H
    exact absurd H (by simp)
   ·rw [if_neg c12] at H
    have c12b0 : (a1 == 0) = false := beq_eq_false_iff_ne.mpr c12
    have c12b1 : (a1 != 0) = true := bne_iff_ne.mpr c12
    simp only [Option.some.injEq, Prod.mk.injEq] at H
    obtain ⟨rfl, rfl, rfl⟩ := H
    go_enter Try.func73, Try.ntmps73
    go_wp2_with (first | ((with_reducible refine gate_callee (f := 101) rfl ?_); refine gl_ (some 18) Try.func101 #[.pointer (some ⟨g, 0, none⟩)] ?_; (with_reducible refine (spec_l01Byte.calls g s0_0 s0_1 s0_2 t187 t188 t189 w0 _ ?side1 ?side2 A8.out).mono ?_); (case side1 => exact iz0_ HI0.out); (case side2 => exact bw1_ HB.out (IsS99.ge HI0.out)); rintro e w13 ⟨rfl, hi, hb, hk⟩; refine ⟨_, rfl, ?_⟩; have z_ := t3_ (kT_ (ki0_ HK.out) hk (.inl rfl)) hb hi; clear HI0 HB HK; obtain ⟨HK, HB, HI0⟩ := z_; (try clear hi hk hb)) | ((with_reducible refine gate_callee (f := 101) rfl ?_); refine gl_ (some 20) Try.func101 #[.pointer (some ⟨g, 0, none⟩)] ?_; (with_reducible refine (spec_l01Byte.calls g s0_0 t188 t189 t190 t191 t192 w0 _ ?side1 ?side2 A9.out).mono ?_); (case side1 => exact iz0_ HI0.out); (case side2 => exact bw1_ HB.out (IsS99.ge HI0.out)); rintro e w14 ⟨rfl, hi, hb, hk⟩; refine ⟨_, rfl, ?_⟩; have z_ := t3_ (kT_ (ki0_ HK.out) hk (.inl rfl)) hb hi; clear HI0 HB HK; obtain ⟨HK, HB, HI0⟩ := z_; (try clear hi hk hb)) | ((with_reducible refine gate_callee (f := 101) rfl ?_); refine gl_ (some 22) Try.func101 #[.pointer (some ⟨g, 0, none⟩)] ?_; (with_reducible refine (spec_l01Byte.calls g s0_0 t191 t192 t193 t194 t195 w0 _ ?side1 ?side2 A10.out).mono ?_); (case side1 => exact iz0_ HI0.out); (case side2 => exact bw1_ HB.out (IsS99.ge HI0.out)); rintro e w15 ⟨rfl, hi, hb, hk⟩; refine ⟨_, rfl, ?_⟩; have z_ := t3_ (kT_ (ki0_ HK.out) hk (.inl rfl)) hb hi; clear HI0 HB HK; obtain ⟨HK, HB, HI0⟩ := z_; (try clear hi hk hb)) | ((with_reducible refine gate_callee (f := 101) rfl ?_); refine gl_ (some 24) Try.func101 #[.pointer (some ⟨g, 0, none⟩)] ?_; (with_reducible refine (spec_l01Byte.calls g s0_0 t194 t195 t196 t197 t198 w0 _ ?side1 ?side2 A11.out).mono ?_); (case side1 => exact iz0_ HI0.out); (case side2 => exact bw1_ HB.out (IsS99.ge HI0.out)); rintro e w16 ⟨rfl, hi, hb, hk⟩; refine ⟨_, rfl, ?_⟩; have z_ := t3_ (kT_ (ki0_ HK.out) hk (.inl rfl)) hb hi; clear HI0 HB HK; obtain ⟨HK, HB, HI0⟩ := z_; (try clear hi hk hb)))
    go_ret
    exact ⟨rb_, iz0_ HI0.out, bw1_ HB.out (IsS99.ge HI0.out), ki0_ HK.out⟩

def spec_l01Int.f (s0_0 : List Int) (s0_1 : Int) (s0_2 : Int) (l1 : List Int) : Option (Int × Int × Int) := (spec_l01Below.f s0_0 s0_1 s0_2 (l1.length : Int)).bind fun bt199 => (if 0 ≤ bt199.1 then (if bt199.1 < (l1.length : Int) then (some (rd l1 bt199.1, bt199.2.1, bt199.2.2)) else (none)) else (none))
set_option maxHeartbeats 8000000 in
set_option maxRecDepth 100000 in
theorem spec_l01Int.calls (g : Nat) (s0_0 : List Int) (s0_1 : Int) (s0_2 : Int) (A1 : Option Addr) (c1 : Nat) (l1 : List Int) (r1 : Int) (r2 : Int) (r3 : Int) (w0 w : World) (hI : IsS99 w0 w g s0_0 s0_1 s0_2) (hB : Below w0.heap.size w0 w) (hr1 : Kd.C (Kd.int .i64) w A1 l1.length l1) (hc1 : l1.length ≤ c1) (hf1 : ∀ ad, A1 = some ad → 0 < l1.length → ad.block ≠ g) (h : spec_l01Int.f s0_0 s0_1 s0_2 l1 = some (r1, r2, r3)) :
    Calls Try.prog 95 #[.pointer (some ⟨g, 0, none⟩), .slice A1 l1.length c1] w fun e w' => e = .returned (.int .i64 r1) ∧ IsS99 w0 w' g s0_0 r2 r3 ∧ Below w0.heap.size w0 w' ∧ KeepBut w w' g none := by
 have HR1 := M_ hr1
 have HC1 := M_ hc1
 clear hr1 hc1
 have HI0 := M_ hI
 have HK := M_ (KeepBut.refl w g none)
 have HL := M_ hB.size
 clear hI
 have HW0 := M_ hB.size
 have HB := M_ hB
 clear hB
 have H : ((spec_l01Below.f s0_0 s0_1 s0_2 (l1.length : Int)).bind fun bt199 => (if 0 ≤ bt199.1 then (if bt199.1 < (l1.length : Int) then (some (rd l1 bt199.1, bt199.2.1, bt199.2.2)) else (none)) else (none))) = some (r1, r2, r3) := h
 clear h
 replace H := bs_ H
 obtain ⟨⟨t199, t200, t201⟩, A30, H⟩ := H
 dsimp only at H
 have A3 := M_ A30
 clear A30
 by_cases c4 : 0 ≤ t199
 ·rw [if_pos c4] at H
  have c4b0 := dt_ c4
  clear c4
  by_cases c5 : t199 < (l1.length : Int)
  ·rw [if_pos c5] at H
   have c5b0 := dt_ c5
   clear c5
   simp only [Option.some.injEq, Prod.mk.injEq] at H
   obtain ⟨rfl, rfl, rfl⟩ := H
   go_enter Try.func95, Try.ntmps95
   go_wp2_with (first | ((with_reducible refine gate_callee (f := 73) rfl ?_); refine gl_ (some 9) Try.func73 #[.pointer (some ⟨g, 0, none⟩), .int .i64 (l1.length : Int)] ?_; (with_reducible refine (spec_l01Below.calls g s0_0 s0_1 s0_2 (l1.length : Int) t199 t200 t201 w0 _ ?side1 ?side2 A3.out).mono ?_); (case side1 => exact iz0_ HI0.out); (case side2 => exact bw1_ HB.out (IsS99.ge HI0.out)); rintro e w6 ⟨rfl, hi, hb, hk⟩; refine ⟨_, rfl, ?_⟩; have z_ := t3_ (kT_ (ki0_ HK.out) hk (.inl rfl)) hb hi; clear HI0 HB HK; obtain ⟨HK, HB, HI0⟩ := z_; (try clear hi hk hb); have p202 : 0 ≤ (t199 : Int) := od_ as_; have q202 : t199 < (l1.length : Int) := od_ as_; obtain ⟨ad202, e202, hx202_0⟩ := Kd.at_int HR1.out t199 p202 q202; cases e202; replace hx202_0 := keep_cell HK.out hx202_0 (by first | (rw [add_block]; exact hf1 _ rfl (by omega)) | exact hf1 _ rfl (by omega) | exact hf1 ad202 rfl (by omega)); replace p202 := eq_true p202; replace q202 := eq_true q202))
   go_ret
   exact ⟨rb_, iz0_ HI0.out, bw1_ HB.out (IsS99.ge HI0.out), ki0_ HK.out⟩
  ·rw [if_neg c5] at H
   exact absurd H (by simp)
 ·rw [if_neg c4] at H
  exact absurd H (by simp)

mutual
def spec_l1Sets.l0 : Nat → List Int → List Int → Int → Int → Option (Bool)
  | 0, _, _, _, _ => none
  | k + 1, x0, x7, x8, x9 => if x9 < x8 then (if 0 ≤ x9 then (if x9 < (x7.length : Int) then (if x9 ≤ (x0.length : Int) then (spec_l1Sets.l1 k x0 (rd x7 x9) x7 x8 x9 (x0.take (x9 : Int).toNat) (max x9 0) 0) else (none)) else (none)) else (none)) else ((spec_IsBar.f k x0).bind fun t203 => (some t203))
def spec_l1Sets.l1 : Nat → List Int → Int → List Int → Int → Int → List Int → Int → Int → Option (Bool)
  | 0, _, _, _, _, _, _, _, _ => none
  | k + 1, x0, x4, x7, x8, x9, x16, x17, x18 => if x18 < x17 then (if 0 ≤ x18 then (if x18 < (x16.length : Int) then (if x4 = (rd x16 x18) then (some false) else (spec_l1Sets.l1 k x0 x4 x7 x8 x9 x16 x17 (wrap64 (x18 + 1)))) else (none)) else (none)) else (spec_l1Sets.l0 k x0 x7 x8 (wrap64 (x9 + 1)))
end
def spec_l1Sets.f (k : Nat) (l0 : List Int) : Option (Bool) := spec_l1Sets.l0 k l0 l0 (l0.length : Int) 0
theorem spec_l1Sets.mono_l : ∀ k, (∀ y0 y1 y2 y3, LeO (spec_l1Sets.l0 k y0 y1 y2 y3) (spec_l1Sets.l0 (k + 1) y0 y1 y2 y3)) ∧ (∀ y0 y1 y2 y3 y4 y5 y6 y7, LeO (spec_l1Sets.l1 k y0 y1 y2 y3 y4 y5 y6 y7) (spec_l1Sets.l1 (k + 1) y0 y1 y2 y3 y4 y5 y6 y7))
  | 0 => ⟨fun _ _ _ _ r h => by simp [spec_l1Sets.l0] at h, fun _ _ _ _ _ _ _ _ r h => by simp [spec_l1Sets.l1] at h⟩
  | k + 1 => by
    obtain ⟨ih0, ih1⟩ := spec_l1Sets.mono_l k
    refine ⟨?_, ?_⟩ <;> intros <;> (first | unfold spec_l1Sets.l0 | unfold spec_l1Sets.l1) <;> repeat' first | (with_reducible first | exact ih0 _ _ _ _ | exact ih1 _ _ _ _ _ _ _ _ | exact spec_IsBar.mono _ _ | exact LeO.refl _ | exact LeO.none _ | refine LeO.ite ?_ ?_ | refine LeO.bind ?_ (fun _ => ?_)) | exact ih0 _ _ _ _ | exact ih1 _ _ _ _ _ _ _ _ | exact spec_IsBar.mono _ _ | exact LeO.none _ | refine LeO.ite ?_ ?_ | refine LeO.bind ?_ (fun _ => ?_)
theorem spec_l1Sets.mono : ∀ a0 k, LeO (spec_l1Sets.f k a0) (spec_l1Sets.f (k + 1) a0) := by
 intro a0 k
 obtain ⟨ih0, ih1⟩ := spec_l1Sets.mono_l k
 unfold spec_l1Sets.f
 repeat' first | (with_reducible first | exact ih0 _ _ _ _ | exact ih1 _ _ _ _ _ _ _ _ | exact spec_IsBar.mono _ _ | exact LeO.refl _ | exact LeO.none _ | refine LeO.ite ?_ ?_ | refine LeO.bind ?_ (fun _ => ?_)) | exact ih0 _ _ _ _ | exact ih1 _ _ _ _ _ _ _ _ | exact spec_IsBar.mono _ _ | exact LeO.none _ | refine LeO.ite ?_ ?_ | refine LeO.bind ?_ (fun _ => ?_)
set_option maxHeartbeats 8000000 in
set_option maxRecDepth 100000 in
theorem spec_l1Sets.calls (k : Nat) (A0 : Option Addr) (c0 : Nat) (l0 : List Int) (r : Bool) (w : World) (hr0 : Kd.C (Kd.int .i64) w A0 l0.length l0) (hc0 : l0.length ≤ c0) (h : spec_l1Sets.f k l0 = some r) :
    Calls Try.prog 119 #[.slice A0 l0.length c0] w fun e w' => e = .returned (.bool r) ∧ Drawn0 w w' := by
 have HR0 := M_ hr0
 have HC0 := M_ hc0
 clear hr0 hc0
 have H : (spec_l1Sets.l0 k l0 l0 (l0.length : Int) 0) = some r := h
 clear h
 have H' := M_ H
 clear H
 go_enter Try.func119, Try.ntmps119
 go_wp2
 go_loopg [9] k (fun kq v9 w' => ∃ (x9_1 : Int), v9 = .int .i64 x9_1 ∧ Aside0 (spec_l1Sets.l0 kq l0 l0 (l0.length : Int) x9_1 = some r) ∧ Aside0 (kq ≤ k) ∧ Drawn0 w w')
 case atStart => exact ⟨(0), (by first | rfl | (simp; done) | (simp [*]; done)), H', ⟨Nat.le_refl _⟩, dr_⟩
 case round =>
  clear H'
  try clear c1
  obtain ⟨x9_1, rfl, HA, HK1, ⟨m1, rfl⟩⟩ := hrel
  cases gk with
  | zero => exact absurd HA.out (by simp [spec_l1Sets.l0])
  | succ k1 =>
   have H := HA.out
   clear HA
   simp only [spec_l1Sets.l0] at H
   by_cases c2 : x9_1 < (l0.length : Int)
   ·rw [if_pos c2] at H
    have c2b0 := dt_ c2
    clear c2
    by_cases c3 : 0 ≤ x9_1
    ·rw [if_pos c3] at H
     have c3b0 := dt_ c3
     clear c3
     by_cases c4 : x9_1 < (l0.length : Int)
     ·rw [if_pos c4] at H
      have c4b0 := dt_ c4
      clear c4
      have c5b0 := eq_true (od_ as_ : 0 ≤ x9_1)
      by_cases c6 : x9_1 ≤ (l0.length : Int)
      ·rw [if_pos c6] at H
       have c6b0 := eq_true c6
       have c6b1 := dt_ c6
       clear c6
       have H' := M_ H
       clear H
       have p204 : 0 ≤ (x9_1 : Int) := od_ as_
       have q204 : x9_1 < (l0.length : Int) := od_ as_
       obtain ⟨ad204, e204, hx204_0⟩ := Kd.at_int HR0.out x9_1 p204 q204
       cases e204
       replace p204 := eq_true p204
       replace q204 := eq_true q204
       obtain ⟨i07, hi07, _, hsz7, _⟩ := info_parts info3
       obtain ⟨hcut7, hA7, hC7⟩ := print_take_of (P := Try.prog) (Value.int .i64) 0 23 3 .i64 Try.underlying23 hi07 hsz7 (some ad204) c0 l0 x9_1 (od_ as_) (od_ as_) HC0.out
       have HR205 := M_ (Kd.C_of_reads (h1 := fun _ => rfl) (hA7 _ (Kd.reads_of_C HR0.out)))
       have HC205 := M_ hC7
       clear hA7 hC7 hi07 hsz7
       go_wp2
       go_loopg [18] k1 (fun kq v18 w' => ∃ (x18_2 : Int), v18 = .int .i64 x18_2 ∧ Aside0 (spec_l1Sets.l1 kq l0 (rd l0 x9_1) l0 (l0.length : Int) x9_1 (l0.take (x9_1 : Int).toNat) (max x9_1 0) x18_2 = some r) ∧ Aside0 (kq ≤ k1) ∧ Drawn0 w w')
       case atStart => exact ⟨(0), (by first | rfl | (simp; done) | (simp [*]; done)), H', ⟨Nat.le_refl _⟩, dr_⟩
       case round =>
        clear H'
        (try clear q204 p204 hx204_0 c6b1 c6b0 c6 c5b0 c5 c4b0 c4 c3b0 c3 hx2 q2 p2 c2b0 c2 c1)
        obtain ⟨x18_2, rfl, HA, HK2, ⟨m2, rfl⟩⟩ := hrel
        cases gk with
        | zero => exact absurd HA.out (by simp [spec_l1Sets.l1])
        | succ k2 =>
         have H := HA.out
         clear HA
         simp only [spec_l1Sets.l1] at H
         by_cases c8 : x18_2 < (max x9_1 0)
         ·rw [if_pos c8] at H
          have c8b0 := dt_ c8
          clear c8
          by_cases c9 : 0 ≤ x18_2
          ·rw [if_pos c9] at H
           have c9b0 := dt_ c9
           clear c9
           by_cases c10 : x18_2 < ((l0.take (x9_1 : Int).toNat).length : Int)
           ·rw [if_pos c10] at H
            have c10b0 := dt_ c10
            clear c10
            by_cases c11 : (rd l0 x9_1) = (rd (l0.take (x9_1 : Int).toNat) x18_2)
            ·rw [if_pos c11] at H
             have c11b0 := beq_iff_eq.mpr c11
             have c11b1 := bne_eq_false_iff_eq.mpr c11
             clear c11
             obtain rfl := Option.some.inj H
             have p206 : 0 ≤ (x18_2 : Int) := od_ as_
             have q206 : x18_2 < ((l0.take (x9_1 : Int).toNat).length : Int) := od_ as_
             have qm206 : (x18_2 < max x9_1 0) = True := eq_true (by have h_ := q206; rw [List.length_take] at h_; omega)
             obtain ⟨ad206, e206, hx206_0⟩ := Kd.at_int HR205.out x18_2 p206 q206
             obtain rfl : ad204 = ad206 := (by injection e206)
             replace p206 := eq_true p206
             replace q206 := eq_true q206
             go_wp2
             go_ret
             exact ⟨ra_, dr_⟩
            ·rw [if_neg c11] at H
             have c11b0 : ((rd l0 x9_1) == (rd (l0.take (x9_1 : Int).toNat) x18_2)) = false := beq_eq_false_iff_ne.mpr c11
             have c11b1 : ((rd l0 x9_1) != (rd (l0.take (x9_1 : Int).toNat) x18_2)) = true := bne_iff_ne.mpr c11
             have H' := M_ H
             clear H
             have p206 : 0 ≤ (x18_2 : Int) := od_ as_
             have q206 : x18_2 < ((l0.take (x9_1 : Int).toNat).length : Int) := od_ as_
             have qm206 : (x18_2 < max x9_1 0) = True := eq_true (by have h_ := q206; rw [List.length_take] at h_; omega)
             obtain ⟨ad206, e206, hx206_0⟩ := Kd.at_int HR205.out x18_2 p206 q206
             obtain rfl : ad204 = ad206 := (by injection e206)
             replace p206 := eq_true p206
             replace q206 := eq_true q206
             go_wp2
             go_roundg k2
             case measure => have := HK1.out; have := HK2.out; omega
             case rel => exact ⟨(wrap64 (x18_2 + 1)), (by first | rfl | (simp; done) | (simp [*]; done)), H', ⟨by have := HK1.out; have := HK2.out; omega⟩, dr_⟩
           ·rw [if_neg c10] at H
            exact absurd H (by simp)
          ·rw [if_neg c9] at H
           exact absurd H (by simp)
         ·rw [if_neg c8] at H
          have c8b0 := decide_eq_false c8
          clear c8
          have H' := M_ H
          clear H
          go_wp2
          go_roundg k2
          case measure => have := HK1.out; have := HK2.out; omega
          case rel => exact ⟨(wrap64 (x9_1 + 1)), (by first | rfl | (simp; done) | (simp [*]; done)), H', ⟨by have := HK1.out; have := HK2.out; omega⟩, dr_⟩
      ·rw [if_neg c6] at H
       exact absurd H (by simp)
     ·rw [if_neg c4] at H
      exact absurd H (by simp)
    ·rw [if_neg c3] at H
     exact absurd H (by simp)
   ·rw [if_neg c2] at H
    have c2b0 := decide_eq_false c2
    clear c2
    replace H := bs_ H
    obtain ⟨t203, A120, H⟩ := H
    (try dsimp only at H)
    have A12 := M_ A120
    clear A120
    obtain rfl := Option.some.inj H
    go_wp2_with (first | ((with_reducible refine gate_callee (f := 108) rfl ?_); refine gl_ (some 28) Try.func108 #[.slice A0 l0.length c0] ?_; (with_reducible refine (spec_IsBar.calls k1 _ _ l0 t203 _ ?side1 ?side2 A12.out).mono ?_); (case side1 => exact kD_ HR0.out); (case side2 => exact HC0.out); rintro e w' ⟨rfl, ⟨nd, rfl⟩⟩; refine ⟨_, rfl, ?_⟩))
    go_ret
    exact ⟨ra_, dr_⟩

end Go.Proofs.Ytilbngklgjjblaa.Q
