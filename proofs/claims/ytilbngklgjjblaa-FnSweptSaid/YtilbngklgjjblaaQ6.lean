/- Contracts of Go functions over this translation. Conditions: those that each theorem names. -/
import Derived.Test.YtilbngklgjjblaaQ0
import Derived.Test.YtilbngklgjjblaaQ5
namespace Go.Proofs.Ytilbngklgjjblaa.Q
open Go.RowKit Go.Proofs.YtilbngklgjjblaaW.PrintWords Go.Proofs.YtilbngklgjjblaaW.PrintLast Go.Proofs.YtilbngklgjjblaaW.PrintMore
attribute [local go_sem] max2_int min2_int max_two min_two max_three min_three max_four min_four
set_option linter.unusedVariables false
set_option linter.unusedSimpArgs false

/-- Are the bytes behind some others letters, each once? -/
def letA : List UInt8 → List UInt8 → Bool
  | _, [] => true
  | d, c :: r => decide (33 ≤ (c.toNat : Int)) && decide ((c.toNat : Int) ≤ 126) && !d.contains c && letA (d ++ [c]) r
def impl_FontOk.f (k : Nat) (a0_0 : ByteArray) (l0_1 l0_2 : List Int) : Option Bool :=
  if 1 ≤ a0_0.size then (if a0_0.size ≤ 40 then (if l0_1.length = a0_0.size then (if l0_2.length = a0_0.size then (if letA [] a0_0.data.toList = true then (if between l0_1 1 60 = true then impl_SortsAll.f k l0_2 else some false) else some false) else some false) else some false) else some false) else some false
theorem impl_FontOk.mono : ∀ a0 a1 a2 k, LeO (impl_FontOk.f k a0 a1 a2) (impl_FontOk.f (k + 1) a0 a1 a2) := by
 intro a0 a1 a2 k
 unfold impl_FontOk.f
 repeat' first
  | (with_reducible exact impl_SortsAll.mono _ _)
  | (with_reducible exact LeO.refl _)
  | (with_reducible refine LeO.ite ?_ ?_)
theorem letA_step (a : ByteArray) (i : Nat) (hi : i < a.size) (x : UInt8) (hx : a.data.toList[i]? = some x) : letA (a.data.toList.take i) (a.data.toList.drop i) = (decide (33 ≤ (x.toNat : Int)) && decide ((x.toNat : Int) ≤ 126) && !(a.data.toList.take i).contains x && letA (a.data.toList.take (i + 1)) (a.data.toList.drop (i + 1))) := by
 obtain ⟨h1, h2⟩ := List.getElem?_eq_some_iff.1 hx
 rw [List.drop_eq_getElem_cons h1, h2, letA, List.take_succ_eq_append_getElem h1, h2]
set_option maxHeartbeats 4000000 in
set_option maxRecDepth 100000 in
theorem impl_FontOk.calls (k : Nat) (a0_0 : ByteArray) (A0_1 : Option Addr) (c0_1 : Nat) (l0_1 : List Int) (A0_2 : Option Addr) (c0_2 : Nat) (l0_2 : List Int) (r : Bool) (w : World)
    (hr0_1 : Kd.C (Kd.int .i64) w A0_1 l0_1.length l0_1) (hc0_1 : l0_1.length ≤ c0_1) (hr0_2 : Kd.C (Kd.int .i64) w A0_2 l0_2.length l0_2) (hc0_2 : l0_2.length ≤ c0_2)
    (h : impl_FontOk.f k a0_0 l0_1 l0_2 = some r) :
    Calls Try.prog 31 #[.agg #[.string a0_0, .slice A0_1 l0_1.length c0_1, .slice A0_2 l0_2.length c0_2]] w fun e w' => e = .returned (.bool r) ∧ Below w.heap.size w w' := by
 have hu25 := Try.underlying25
 have HR1 := M_ hr0_1
 have HR2 := M_ hr0_2
 have HC1 := M_ hc0_1
 have HC2 := M_ hc0_2
 have HB := M_ (Below.refl w.heap.size w)
 clear hr0_1 hc0_1 hr0_2 hc0_2
 by_cases c1 : 1 ≤ a0_0.size
 case neg =>
  unfold impl_FontOk.f at h
  rw [if_neg c1] at h
  obtain rfl := Option.some.inj h
  clear h
  have g1 : decide ((a0_0.size : Int) < 1) = true := by simp; omega
  go_enter Try.func31, Try.ntmps31
  go_wp2_with fail
  go_ret
  exact ⟨rfl, by first | exact HB.out | exact below_alloc HB.out _⟩
 by_cases c2 : a0_0.size ≤ 40
 case neg =>
  unfold impl_FontOk.f at h
  rw [if_pos c1, if_neg c2] at h
  obtain rfl := Option.some.inj h
  clear h
  have g1 : decide ((a0_0.size : Int) < 1) = false := by simp; omega
  have g2 : decide ((40 : Int) < (a0_0.size : Int)) = true := by simp; omega
  go_enter Try.func31, Try.ntmps31
  go_wp2_with fail
  go_ret
  exact ⟨rfl, by first | exact HB.out | exact below_alloc HB.out _⟩
 by_cases c3 : l0_1.length = a0_0.size
 case neg =>
  unfold impl_FontOk.f at h
  rw [if_pos c1, if_pos c2, if_neg c3] at h
  obtain rfl := Option.some.inj h
  clear h
  have g1 : decide ((a0_0.size : Int) < 1) = false := by simp; omega
  have g2 : decide ((40 : Int) < (a0_0.size : Int)) = false := by simp; omega
  have g3 : ¬ ((l0_1.length : Int) = (a0_0.size : Int)) := by omega
  go_enter Try.func31, Try.ntmps31
  go_wp2_with fail
  go_ret
  exact ⟨rfl, by first | exact HB.out | exact below_alloc HB.out _⟩
 by_cases c4 : l0_2.length = a0_0.size
 case neg =>
  unfold impl_FontOk.f at h
  rw [if_pos c1, if_pos c2, if_pos c3, if_neg c4] at h
  obtain rfl := Option.some.inj h
  clear h
  have g1 : decide ((a0_0.size : Int) < 1) = false := by simp; omega
  have g2 : decide ((40 : Int) < (a0_0.size : Int)) = false := by simp; omega
  have g3 : (l0_1.length : Int) = (a0_0.size : Int) := by omega
  have g4 : ¬ ((l0_2.length : Int) = (a0_0.size : Int)) := by omega
  go_enter Try.func31, Try.ntmps31
  go_wp2_with fail
  go_ret
  exact ⟨rfl, by first | exact HB.out | exact below_alloc HB.out _⟩
 unfold impl_FontOk.f at h
 rw [if_pos c1, if_pos c2, if_pos c3, if_pos c4] at h
 have HH := M_ h
 clear h
 have g1 : decide ((a0_0.size : Int) < 1) = false := by simp; omega
 have g2 : decide ((40 : Int) < (a0_0.size : Int)) = false := by simp; omega
 have g3 : (l0_1.length : Int) = (a0_0.size : Int) := by omega
 have g4 : (l0_2.length : Int) = (a0_0.size : Int) := by omega
 have C3 := M_ c3
 have C4 := M_ c4
 clear c3 c4
 go_enter Try.func31, Try.ntmps31
 go_wp2_with fail
 rw [show Try.zeroCells89 = Lib.setCells (a0_0.data.toList.take 0) from by rw [List.take_zero]; kernel_rfl]
 go_loopg [4, 5, 37] a0_0.size (fun gg s4 s5 s37 wx => ∃ j : Int, 0 ≤ j ∧ j + gg = a0_0.size ∧ s37 = .int .i64 j ∧ Aside0 (letA [] a0_0.data.toList = letA (a0_0.data.toList.take j.toNat) (a0_0.data.toList.drop j.toNat)) ∧ Aside0 (wx.heap[w.heap.size]? = some (.cells #[.string a0_0, .slice A0_1 l0_1.length c0_1, .slice A0_2 l0_2.length c0_2] 25 (0, 0))) ∧ Aside0 (wx.heap[w.heap.size + 1]? = some (.cells (Lib.setCells (a0_0.data.toList.take j.toNat)) 89 (0, 0))) ∧ Aside0 (Below w.heap.size w wx))
 case atStart => exact ⟨0, by omega, by omega, rfl, ⟨by simp⟩, ⟨by first | exact blk_alloc (blk_new w _) _ | (rw [C3.out, C4.out]; exact blk_alloc (blk_new w _) _)⟩, ⟨by have h_ := blk_new (w.alloc (.cells #[.string a0_0, .slice A0_1 l0_1.length c0_1, .slice A0_2 l0_2.length c0_2] 25)) (.cells (Lib.setCells (a0_0.data.toList.take 0)) 89); rw [World.size_alloc] at h_; exact h_⟩, ⟨below_alloc (below_alloc HB.out _) _⟩⟩
 case round =>
  obtain ⟨j, hj0, hjg, rfl, HL, BK0, BK1, HBX⟩ := hrel
  have hcz_0 : wr.cell? ⟨w.heap.size, 0, none⟩ = some (.string a0_0) := (blk_cell BK0.out 0).trans rfl
  have hcz_1 : wr.cell? ⟨w.heap.size, 1, none⟩ = some (.slice A0_1 l0_1.length c0_1) := (blk_cell BK0.out 1).trans rfl
  have hcz_2 : wr.cell? ⟨w.heap.size, 2, none⟩ = some (.slice A0_2 l0_2.length c0_2) := (blk_cell BK0.out 2).trans rfl
  have hfz_0 := fz_ BK0.out 0
  have hfz_1 := fz_ BK0.out 1
  have hfz_2 := fz_ BK0.out 2
  cases gk with
  | zero =>
   have hje : j = (a0_0.size : Int) := by omega
   subst hje
   clear hj0 hjg
   have c14b0 : decide ((a0_0.size : Int) < (a0_0.size : Int)) = false := by simp
   have HE : (if between l0_1 1 60 = true then impl_SortsAll.f k l0_2 else some false) = some r := by
    have h2 := HH.out
    rw [HL.out, Int.toNat_natCast, List.drop_eq_nil_of_le (by rw [← Lib.size_eq]; exact Nat.le_refl _), letA, if_pos rfl] at h2
    exact h2
   have HE' := M_ HE
   clear HE
   by_cases hbt : between l0_1 1 60 = true
   ·have HBT := M_ hbt
    have hs : impl_SortsAll.f k l0_2 = some r := by
     have h2 := HE'.out
     rw [if_pos hbt] at h2
     exact h2
    have HS := M_ hs
    clear hbt hs
    go_wp2_with (first
     | (go_at_call 84; (first | rw [← C3.out] | skip); refine (impl_between.calls A0_1 c0_1 l0_1 1 60 true _ (Kd.C_below HR1.out HBX.out) HC1.out (by unfold impl_between.f; rw [HBT.out])).mono ?_; rintro e w' ⟨rfl, hb1⟩; have hcy_2 : w'.cell? ⟨w.heap.size, 2, none⟩ = some (.slice A0_2 l0_2.length c0_2) := (blk_cell (bB_ BK0.out hb1) 2).trans rfl; have hfy_2 := fz_ (bB_ BK0.out hb1) 2; have HB2 := M_ (HBX.out.trans (hb1.mono HBX.out.size)); clear hb1)
     | (go_at_call 85; (first | rw [← C4.out] | skip); refine (impl_SortsAll.calls k A0_2 c0_2 l0_2 r _ (Kd.C_below HR2.out HB2.out) HC2.out HS.out).mono ?_; rintro e w'' ⟨rfl, hb2⟩))
    all_goals go_ret
    all_goals exact ⟨rfl, HB2.out.trans (hb2.below.mono HB2.out.size)⟩
   ·have hbt' : between l0_1 1 60 = false := by simpa using hbt
    have HBT := M_ hbt'
    have HS : false = r := by
     have h2 := HE'.out
     rw [if_neg hbt] at h2
     exact Option.some.inj h2
    subst HS
    clear hbt hbt'
    go_wp2_with (first
     | (go_at_call 84; (first | rw [← C3.out] | skip); refine (impl_between.calls A0_1 c0_1 l0_1 1 60 false _ (Kd.C_below HR1.out HBX.out) HC1.out (by unfold impl_between.f; rw [HBT.out])).mono ?_; rintro e w' ⟨rfl, hb1⟩; have HB2 := M_ (HBX.out.trans (hb1.mono HBX.out.size)); clear hb1))
    all_goals go_ret
    all_goals exact ⟨rfl, HB2.out⟩
  | succ g =>
   have hi : j.toNat < a0_0.size := by omega
   have c14b0 : decide (j < (a0_0.size : Int)) = true := by simp; omega
   obtain ⟨x, hx⟩ : ∃ x : UInt8, a0_0[j.toNat]'hi = x := ⟨_, rfl⟩
   have hxl : a0_0.data.toList[j.toNat]? = some x := by rw [← hx]; exact Lib.data_getElem? a0_0 _ hi
   have hxb : (x.toNat : Int) = bt a0_0 j := by rw [← hx]; exact bt_at a0_0 j hi
   have hstep := letA_step a0_0 j.toNat hi x hxl
   rw [hxb] at hstep
   have hb0 := (bt_range a0_0 j).1
   have hb1 : bt a0_0 j < 256 := by have := (bt_range a0_0 j).2; omega
   have hcell : wr.cell? ⟨w.heap.size + 1, (bt a0_0 j).toNat, none⟩ = some (.bool ((a0_0.data.toList.take j.toNat).contains x)) := by
    rw [← hxb, Int.toNat_natCast]
    exact (blk_cell BK1.out _).trans (Lib.setCells_at _ x)
   have hnext : (Lib.setCells (a0_0.data.toList.take j.toNat)).setIfInBounds (bt a0_0 j).toNat (.bool true) = Lib.setCells (a0_0.data.toList.take (j.toNat + 1)) := by
    rw [← hxb, Int.toNat_natCast, ← Lib.setCells_snoc, List.take_add_one, hxl]; rfl
   have hfz := fz_ BK1.out (bt a0_0 j).toNat
   have HN := M_ hnext
   have HST := M_ hstep
   have HJ := M_ hjg
   have hx18 := bt_at a0_0 j
   have hb1b : decide (bt a0_0 j < 256) = true := by simp; omega
   have hb0b : decide (0 ≤ bt a0_0 j) = true := by simp; omega
   have hj0b : decide (0 ≤ j) = true := by simp; omega
   have p18 : (0 ≤ j) = True := eq_true hj0
   have q18 : (j < (a0_0.size : Int)) = True := eq_true (by omega)
   have p19 : (0 ≤ bt a0_0 j) = True := eq_true hb0
   have q19 : (bt a0_0 j < 256) = True := eq_true hb1
   generalize (a0_0.data.toList.take j.toNat).contains x = cb at hcell hstep
   have HS2 := M_ hstep
   clear hstep hnext hxl hxb hx hb0 hb1 hjg hj0
   by_cases d1 : bt a0_0 j < 33
   ·have e1 : decide (bt a0_0 j < 33) = true := dt_ d1
    have HE : false = r := by
     have h2 := HH.out
     rw [HL.out, HS2.out, decide_eq_false (by omega), Bool.false_and, Bool.false_and, Bool.false_and, if_neg (by decide)] at h2
     exact Option.some.inj h2
    subst HE
    clear d1
    go_wp2
    repeat (go_quiet (fail); try go_wp2)
    go_ret
    exact ⟨rfl, by first | exact HBX.out | exact below_alloc HBX.out _⟩
   have e1 : decide (bt a0_0 j < 33) = false := decide_eq_false d1
   by_cases d2 : 126 < bt a0_0 j
   ·have e2 : decide (126 < bt a0_0 j) = true := dt_ d2
    have HE : false = r := by
     have h2 := HH.out
     rw [HL.out, HS2.out, decide_eq_false (show ¬ bt a0_0 j ≤ 126 by omega), Bool.and_false, Bool.false_and, Bool.false_and, if_neg (by decide)] at h2
     exact Option.some.inj h2
    subst HE
    clear d1 d2
    go_wp2
    repeat (go_quiet (fail); try go_wp2)
    go_ret
    exact ⟨rfl, by first | exact HBX.out | exact below_alloc HBX.out _⟩
   have e2 : decide (126 < bt a0_0 j) = false := decide_eq_false d2
   cases cb with
   | true =>
    have HE : false = r := by
     have h2 := HH.out
     rw [HL.out, HS2.out, Bool.not_true, Bool.and_false, Bool.false_and, if_neg (by decide)] at h2
     exact Option.some.inj h2
    subst HE
    clear d1 d2
    go_wp2
    repeat (go_quiet (fail); try go_wp2)
    go_ret
    exact ⟨rfl, by first | exact HBX.out | exact below_alloc HBX.out _⟩
   | false =>
    have HE : letA [] a0_0.data.toList = letA (a0_0.data.toList.take (j.toNat + 1)) (a0_0.data.toList.drop (j.toNat + 1)) := by
     rw [HL.out, HS2.out, dt_ (show 33 ≤ bt a0_0 j by omega), dt_ (show bt a0_0 j ≤ 126 by omega)]
     rfl
    have HE' := M_ HE
    clear d1 d2 HE
    go_wp2
    repeat (go_quiet (fail); try go_wp2)
    go_roundg g
    case measure => omega
    case rel =>
     have hjg := HJ.out
     have hj0 := of_eq_true p18
     have hw : wrap64 (j + 1) = j + 1 := by unfold wrap64; omega
     have ht : (j + 1).toNat = j.toNat + 1 := by omega
     refine ⟨j + 1, by omega, by omega, by rw [hw], ⟨by rw [ht]; exact HE'.out⟩, ⟨?_⟩, ⟨?_⟩, ⟨below_set HBX.out (Nat.le_succ _)⟩⟩
     ·exact blk_far BK0.out (by show w.heap.size ≠ w.heap.size + 1; omega) _
     ·rw [ht]; exact blk_put BK1.out _ _ HN.out

def impl_ofFont.f (a0_0 : ByteArray) (l0_1 : List Int) (l0_2 : List Int) (a1_0 : Int) (a1_1 : Int) : Option (Bool) := if a1_0 ≥ 0 then (if a1_0 < (a0_0.size : Int) then ((impl_isSet.f a1_1).bind fun t136 => (if t136 = true then (if 0 ≤ a1_0 then (if a1_0 < (l0_2.length : Int) then ((impl_part.f a1_1 (rd l0_2 a1_0)).bind fun t138 => (some t138)) else (none)) else (none)) else (some false))) else (some false)) else (some false)
set_option maxHeartbeats 8000000 in
set_option maxRecDepth 100000 in
theorem impl_ofFont.calls (a0_0 : ByteArray) (A0_1 : Option Addr) (c0_1 : Nat) (l0_1 : List Int) (A0_2 : Option Addr) (c0_2 : Nat) (l0_2 : List Int) (a1_0 : Int) (a1_1 : Int) (r : Bool) (w : World) (hr0_1 : Kd.C (Kd.int .i64) w A0_1 l0_1.length l0_1) (hc0_1 : l0_1.length ≤ c0_1) (hr0_2 : Kd.C (Kd.int .i64) w A0_2 l0_2.length l0_2) (hc0_2 : l0_2.length ≤ c0_2) (h : impl_ofFont.f a0_0 l0_1 l0_2 a1_0 a1_1 = some r) :
    Calls Try.prog 76 #[.agg #[.string a0_0, .slice A0_1 l0_1.length c0_1, .slice A0_2 l0_2.length c0_2], .agg #[.int .i64 a1_0, .int .i64 a1_1]] w fun e w' => e = .returned (.bool r) ∧ Below w.heap.size w w' := by
 have hu25 := Try.underlying25
 have hu30 := Try.underlying30
 have HR0_1 := M_ hr0_1
 have HC0_1 := M_ hc0_1
 clear hr0_1 hc0_1
 have HR0_2 := M_ hr0_2
 have HC0_2 := M_ hc0_2
 clear hr0_2 hc0_2
 have HB := M_ (Below.refl w.heap.size w)
 have H : (if a1_0 ≥ 0 then (if a1_0 < (a0_0.size : Int) then ((impl_isSet.f a1_1).bind fun t136 => (if t136 = true then (if 0 ≤ a1_0 then (if a1_0 < (l0_2.length : Int) then ((impl_part.f a1_1 (rd l0_2 a1_0)).bind fun t138 => (some t138)) else (none)) else (none)) else (some false))) else (some false)) else (some false)) = some r := h
 clear h
 by_cases c3 : a1_0 ≥ 0
 ·rw [if_pos c3] at H
  have c3b0 : decide (0 ≤ a1_0) = true := dt_ c3
  clear c3
  by_cases c4 : a1_0 < (a0_0.size : Int)
  ·rw [if_pos c4] at H
   have c4b0 := dt_ c4
   clear c4
   replace H := bs_ H
   obtain ⟨t136, A50, H⟩ := H
   (try dsimp only at H)
   have A5 := M_ A50
   clear A50
   by_cases c6 : t136 = true
   ·subst c6
    rw [if_pos rfl] at H
    by_cases c7 : 0 ≤ a1_0
    ·rw [if_pos c7] at H
     have c7b0 := dt_ c7
     clear c7
     by_cases c8 : a1_0 < (l0_2.length : Int)
     ·rw [if_pos c8] at H
      have c8b0 := dt_ c8
      clear c8
      replace H := bs_ H
      obtain ⟨t138, A90, H⟩ := H
      (try dsimp only at H)
      have A9 := M_ A90
      clear A90
      obtain rfl := Option.some.inj H
      go_enter Try.func76, Try.ntmps76
      go_wp2_with (first | ((with_reducible refine gate_dst (N := 2) rfl ?_); (try (refine gate_guard (by rfl) ?_; dsimp only)); refine be_ 2 #[.string a0_0, .slice A0_1 l0_1.length c0_1, .slice A0_2 l0_2.length c0_2] 25 ?_; intro gb134 hg w10 hbox hb; have z_ := t3_ (bS_ (bw0_ HB.out) hb) hbox (gv_ hg (bw0_ HB.out) : w.heap.size ≤ gb134); clear HB; obtain ⟨HB, BK134, GE134⟩ := z_; clear hb hbox hg) | ((with_reducible refine gate_dst (N := 3) rfl ?_); (try (refine gate_guard (by rfl) ?_; dsimp only)); refine be_ 3 #[.int .i64 a1_0, .int .i64 a1_1] 30 ?_; intro gb135 hg w11 hbox hb; have z_ := t5_ (bB_ (bk_ BK134.out) hb) (bS_ (bw1_ HB.out GE134.out) hb) hbox (gv_ hg (bw1_ HB.out GE134.out) : w.heap.size ≤ gb135) (by rw [hg]; exact Nat.ne_of_lt (blk_lt (bk_ BK134.out)) : gb134 ≠ gb135); (try clear BK134); clear HB; obtain ⟨BK134, HB, BK135, GE135, NB134_135⟩ := z_; have NB135_134 := M_ NB134_135.out.symm; clear hb hbox hg; have hnb12 := NB135_134.out; have hnc12 := NB134_135.out; have hcz13_0 := cz_ BK135.out 0 (.int .i64 a1_0); have hcz13_1 := cz_ BK135.out 1 (.int .i64 a1_1); have hfz13_0 := fz_ BK135.out 0; have hfz13_1 := fz_ BK135.out 1; have hcz14_0 := cz_ BK134.out 0 (.string a0_0); have hcz14_1 := cz_ BK134.out 1 (.slice A0_1 l0_1.length c0_1); have hcz14_2 := cz_ BK134.out 2 (.slice A0_2 l0_2.length c0_2); have hfz14_0 := fz_ BK134.out 0; have hfz14_1 := fz_ BK134.out 1; have hfz14_2 := fz_ BK134.out 2) | (go_at_call 79; (try simp only [i64_w, i32_w]); (with_reducible refine (impl_isSet.calls a1_1 true _ A5.out).mono ?_); rintro e w' ⟨rfl, ⟨nd, rfl⟩⟩; (try exact dw_); have p137 : 0 ≤ (a1_0 : Int) := od_ as_; have q137 : a1_0 < (l0_2.length : Int) := od_ as_; obtain ⟨ad137, e137, hx137_0⟩ := Kd.at_int HR0_2.out a1_0 p137 q137; cases e137; replace hx137_0 := (HB.out.cell (World.block_lt_of_cell? w _ hx137_0)).trans hx137_0; replace p137 := eq_true p137; replace q137 := eq_true q137) | (go_at_call 105; (try simp only [i64_w, i32_w]); (with_reducible refine (impl_part.calls a1_1 (rd l0_2 a1_0) t138 _ A9.out).mono ?_); rintro e w' ⟨rfl, ⟨nd, rfl⟩⟩; (try exact dw_)))
      repeat (go_quiet (first | ((with_reducible refine gate_dst (N := 2) rfl ?_); (try (refine gate_guard (by rfl) ?_; dsimp only)); refine be_ 2 #[.string a0_0, .slice A0_1 l0_1.length c0_1, .slice A0_2 l0_2.length c0_2] 25 ?_; intro gb134 hg w10 hbox hb; have z_ := t3_ (bS_ (bw0_ HB.out) hb) hbox (gv_ hg (bw0_ HB.out) : w.heap.size ≤ gb134); clear HB; obtain ⟨HB, BK134, GE134⟩ := z_; clear hb hbox hg) | ((with_reducible refine gate_dst (N := 3) rfl ?_); (try (refine gate_guard (by rfl) ?_; dsimp only)); refine be_ 3 #[.int .i64 a1_0, .int .i64 a1_1] 30 ?_; intro gb135 hg w11 hbox hb; have z_ := t5_ (bB_ (bk_ BK134.out) hb) (bS_ (bw1_ HB.out GE134.out) hb) hbox (gv_ hg (bw1_ HB.out GE134.out) : w.heap.size ≤ gb135) (by rw [hg]; exact Nat.ne_of_lt (blk_lt (bk_ BK134.out)) : gb134 ≠ gb135); (try clear BK134); clear HB; obtain ⟨BK134, HB, BK135, GE135, NB134_135⟩ := z_; have NB135_134 := M_ NB134_135.out.symm; clear hb hbox hg; have hnb12 := NB135_134.out; have hnc12 := NB134_135.out; have hcz13_0 := cz_ BK135.out 0 (.int .i64 a1_0); have hcz13_1 := cz_ BK135.out 1 (.int .i64 a1_1); have hfz13_0 := fz_ BK135.out 0; have hfz13_1 := fz_ BK135.out 1; have hcz14_0 := cz_ BK134.out 0 (.string a0_0); have hcz14_1 := cz_ BK134.out 1 (.slice A0_1 l0_1.length c0_1); have hcz14_2 := cz_ BK134.out 2 (.slice A0_2 l0_2.length c0_2); have hfz14_0 := fz_ BK134.out 0; have hfz14_1 := fz_ BK134.out 1; have hfz14_2 := fz_ BK134.out 2) | (go_at_call 79; (try simp only [i64_w, i32_w]); (with_reducible refine (impl_isSet.calls a1_1 true _ A5.out).mono ?_); rintro e w' ⟨rfl, ⟨nd, rfl⟩⟩; (try exact dw_); have p137 : 0 ≤ (a1_0 : Int) := od_ as_; have q137 : a1_0 < (l0_2.length : Int) := od_ as_; obtain ⟨ad137, e137, hx137_0⟩ := Kd.at_int HR0_2.out a1_0 p137 q137; cases e137; replace hx137_0 := (HB.out.cell (World.block_lt_of_cell? w _ hx137_0)).trans hx137_0; replace p137 := eq_true p137; replace q137 := eq_true q137) | (go_at_call 105; (try simp only [i64_w, i32_w]); (with_reducible refine (impl_part.calls a1_1 (rd l0_2 a1_0) t138 _ A9.out).mono ?_); rintro e w' ⟨rfl, ⟨nd, rfl⟩⟩; (try exact dw_))); try go_wp2_with (first | ((with_reducible refine gate_dst (N := 2) rfl ?_); (try (refine gate_guard (by rfl) ?_; dsimp only)); refine be_ 2 #[.string a0_0, .slice A0_1 l0_1.length c0_1, .slice A0_2 l0_2.length c0_2] 25 ?_; intro gb134 hg w10 hbox hb; have z_ := t3_ (bS_ (bw0_ HB.out) hb) hbox (gv_ hg (bw0_ HB.out) : w.heap.size ≤ gb134); clear HB; obtain ⟨HB, BK134, GE134⟩ := z_; clear hb hbox hg) | ((with_reducible refine gate_dst (N := 3) rfl ?_); (try (refine gate_guard (by rfl) ?_; dsimp only)); refine be_ 3 #[.int .i64 a1_0, .int .i64 a1_1] 30 ?_; intro gb135 hg w11 hbox hb; have z_ := t5_ (bB_ (bk_ BK134.out) hb) (bS_ (bw1_ HB.out GE134.out) hb) hbox (gv_ hg (bw1_ HB.out GE134.out) : w.heap.size ≤ gb135) (by rw [hg]; exact Nat.ne_of_lt (blk_lt (bk_ BK134.out)) : gb134 ≠ gb135); (try clear BK134); clear HB; obtain ⟨BK134, HB, BK135, GE135, NB134_135⟩ := z_; have NB135_134 := M_ NB134_135.out.symm; clear hb hbox hg; have hnb12 := NB135_134.out; have hnc12 := NB134_135.out; have hcz13_0 := cz_ BK135.out 0 (.int .i64 a1_0); have hcz13_1 := cz_ BK135.out 1 (.int .i64 a1_1); have hfz13_0 := fz_ BK135.out 0; have hfz13_1 := fz_ BK135.out 1; have hcz14_0 := cz_ BK134.out 0 (.string a0_0); have hcz14_1 := cz_ BK134.out 1 (.slice A0_1 l0_1.length c0_1); have hcz14_2 := cz_ BK134.out 2 (.slice A0_2 l0_2.length c0_2); have hfz14_0 := fz_ BK134.out 0; have hfz14_1 := fz_ BK134.out 1; have hfz14_2 := fz_ BK134.out 2) | (go_at_call 79; (try simp only [i64_w, i32_w]); (with_reducible refine (impl_isSet.calls a1_1 true _ A5.out).mono ?_); rintro e w' ⟨rfl, ⟨nd, rfl⟩⟩; (try exact dw_); have p137 : 0 ≤ (a1_0 : Int) := od_ as_; have q137 : a1_0 < (l0_2.length : Int) := od_ as_; obtain ⟨ad137, e137, hx137_0⟩ := Kd.at_int HR0_2.out a1_0 p137 q137; cases e137; replace hx137_0 := (HB.out.cell (World.block_lt_of_cell? w _ hx137_0)).trans hx137_0; replace p137 := eq_true p137; replace q137 := eq_true q137) | (go_at_call 105; (try simp only [i64_w, i32_w]); (with_reducible refine (impl_part.calls a1_1 (rd l0_2 a1_0) t138 _ A9.out).mono ?_); rintro e w' ⟨rfl, ⟨nd, rfl⟩⟩; (try exact dw_))))
      go_ret
      exact ⟨rb_, bw2_ HB.out GE134.out GE135.out⟩
     ·rw [if_neg c8] at H
      exact absurd H (by simp)
    ·rw [if_neg c7] at H
     exact absurd H (by simp)
   ·replace c6 := Bool.eq_false_iff.mpr c6
    subst c6
    rw [if_neg (show ¬ (false = true) by decide)] at H
    obtain rfl := Option.some.inj H
    go_enter Try.func76, Try.ntmps76
    go_wp2_with (first | ((with_reducible refine gate_dst (N := 2) rfl ?_); (try (refine gate_guard (by rfl) ?_; dsimp only)); refine be_ 2 #[.string a0_0, .slice A0_1 l0_1.length c0_1, .slice A0_2 l0_2.length c0_2] 25 ?_; intro gb134 hg w15 hbox hb; have z_ := t3_ (bS_ (bw0_ HB.out) hb) hbox (gv_ hg (bw0_ HB.out) : w.heap.size ≤ gb134); clear HB; obtain ⟨HB, BK134, GE134⟩ := z_; clear hb hbox hg) | ((with_reducible refine gate_dst (N := 3) rfl ?_); (try (refine gate_guard (by rfl) ?_; dsimp only)); refine be_ 3 #[.int .i64 a1_0, .int .i64 a1_1] 30 ?_; intro gb135 hg w16 hbox hb; have z_ := t5_ (bB_ (bk_ BK134.out) hb) (bS_ (bw1_ HB.out GE134.out) hb) hbox (gv_ hg (bw1_ HB.out GE134.out) : w.heap.size ≤ gb135) (by rw [hg]; exact Nat.ne_of_lt (blk_lt (bk_ BK134.out)) : gb134 ≠ gb135); (try clear BK134); clear HB; obtain ⟨BK134, HB, BK135, GE135, NB134_135⟩ := z_; have NB135_134 := M_ NB134_135.out.symm; clear hb hbox hg; have hnb17 := NB135_134.out; have hnc17 := NB134_135.out; have hcz18_0 := cz_ BK135.out 0 (.int .i64 a1_0); have hcz18_1 := cz_ BK135.out 1 (.int .i64 a1_1); have hfz18_0 := fz_ BK135.out 0; have hfz18_1 := fz_ BK135.out 1; have hcz19_0 := cz_ BK134.out 0 (.string a0_0); have hcz19_1 := cz_ BK134.out 1 (.slice A0_1 l0_1.length c0_1); have hcz19_2 := cz_ BK134.out 2 (.slice A0_2 l0_2.length c0_2); have hfz19_0 := fz_ BK134.out 0; have hfz19_1 := fz_ BK134.out 1; have hfz19_2 := fz_ BK134.out 2) | (go_at_call 79; (try simp only [i64_w, i32_w]); (with_reducible refine (impl_isSet.calls a1_1 false _ A5.out).mono ?_); rintro e w' ⟨rfl, ⟨nd, rfl⟩⟩; (try exact dw_)))
    repeat (go_quiet (first | ((with_reducible refine gate_dst (N := 2) rfl ?_); (try (refine gate_guard (by rfl) ?_; dsimp only)); refine be_ 2 #[.string a0_0, .slice A0_1 l0_1.length c0_1, .slice A0_2 l0_2.length c0_2] 25 ?_; intro gb134 hg w15 hbox hb; have z_ := t3_ (bS_ (bw0_ HB.out) hb) hbox (gv_ hg (bw0_ HB.out) : w.heap.size ≤ gb134); clear HB; obtain ⟨HB, BK134, GE134⟩ := z_; clear hb hbox hg) | ((with_reducible refine gate_dst (N := 3) rfl ?_); (try (refine gate_guard (by rfl) ?_; dsimp only)); refine be_ 3 #[.int .i64 a1_0, .int .i64 a1_1] 30 ?_; intro gb135 hg w16 hbox hb; have z_ := t5_ (bB_ (bk_ BK134.out) hb) (bS_ (bw1_ HB.out GE134.out) hb) hbox (gv_ hg (bw1_ HB.out GE134.out) : w.heap.size ≤ gb135) (by rw [hg]; exact Nat.ne_of_lt (blk_lt (bk_ BK134.out)) : gb134 ≠ gb135); (try clear BK134); clear HB; obtain ⟨BK134, HB, BK135, GE135, NB134_135⟩ := z_; have NB135_134 := M_ NB134_135.out.symm; clear hb hbox hg; have hnb17 := NB135_134.out; have hnc17 := NB134_135.out; have hcz18_0 := cz_ BK135.out 0 (.int .i64 a1_0); have hcz18_1 := cz_ BK135.out 1 (.int .i64 a1_1); have hfz18_0 := fz_ BK135.out 0; have hfz18_1 := fz_ BK135.out 1; have hcz19_0 := cz_ BK134.out 0 (.string a0_0); have hcz19_1 := cz_ BK134.out 1 (.slice A0_1 l0_1.length c0_1); have hcz19_2 := cz_ BK134.out 2 (.slice A0_2 l0_2.length c0_2); have hfz19_0 := fz_ BK134.out 0; have hfz19_1 := fz_ BK134.out 1; have hfz19_2 := fz_ BK134.out 2) | (go_at_call 79; (try simp only [i64_w, i32_w]); (with_reducible refine (impl_isSet.calls a1_1 false _ A5.out).mono ?_); rintro e w' ⟨rfl, ⟨nd, rfl⟩⟩; (try exact dw_))); try go_wp2_with (first | ((with_reducible refine gate_dst (N := 2) rfl ?_); (try (refine gate_guard (by rfl) ?_; dsimp only)); refine be_ 2 #[.string a0_0, .slice A0_1 l0_1.length c0_1, .slice A0_2 l0_2.length c0_2] 25 ?_; intro gb134 hg w15 hbox hb; have z_ := t3_ (bS_ (bw0_ HB.out) hb) hbox (gv_ hg (bw0_ HB.out) : w.heap.size ≤ gb134); clear HB; obtain ⟨HB, BK134, GE134⟩ := z_; clear hb hbox hg) | ((with_reducible refine gate_dst (N := 3) rfl ?_); (try (refine gate_guard (by rfl) ?_; dsimp only)); refine be_ 3 #[.int .i64 a1_0, .int .i64 a1_1] 30 ?_; intro gb135 hg w16 hbox hb; have z_ := t5_ (bB_ (bk_ BK134.out) hb) (bS_ (bw1_ HB.out GE134.out) hb) hbox (gv_ hg (bw1_ HB.out GE134.out) : w.heap.size ≤ gb135) (by rw [hg]; exact Nat.ne_of_lt (blk_lt (bk_ BK134.out)) : gb134 ≠ gb135); (try clear BK134); clear HB; obtain ⟨BK134, HB, BK135, GE135, NB134_135⟩ := z_; have NB135_134 := M_ NB134_135.out.symm; clear hb hbox hg; have hnb17 := NB135_134.out; have hnc17 := NB134_135.out; have hcz18_0 := cz_ BK135.out 0 (.int .i64 a1_0); have hcz18_1 := cz_ BK135.out 1 (.int .i64 a1_1); have hfz18_0 := fz_ BK135.out 0; have hfz18_1 := fz_ BK135.out 1; have hcz19_0 := cz_ BK134.out 0 (.string a0_0); have hcz19_1 := cz_ BK134.out 1 (.slice A0_1 l0_1.length c0_1); have hcz19_2 := cz_ BK134.out 2 (.slice A0_2 l0_2.length c0_2); have hfz19_0 := fz_ BK134.out 0; have hfz19_1 := fz_ BK134.out 1; have hfz19_2 := fz_ BK134.out 2) | (go_at_call 79; (try simp only [i64_w, i32_w]); (with_reducible refine (impl_isSet.calls a1_1 false _ A5.out).mono ?_); rintro e w' ⟨rfl, ⟨nd, rfl⟩⟩; (try exact dw_))))
    go_ret
    exact ⟨rb_, bw2_ HB.out GE134.out GE135.out⟩
  ·rw [if_neg c4] at H
   have c4b0 := decide_eq_false c4
   clear c4
   obtain rfl := Option.some.inj H
   go_enter Try.func76, Try.ntmps76
   go_wp2_with (first | ((with_reducible refine gate_dst (N := 2) rfl ?_); (try (refine gate_guard (by rfl) ?_; dsimp only)); refine be_ 2 #[.string a0_0, .slice A0_1 l0_1.length c0_1, .slice A0_2 l0_2.length c0_2] 25 ?_; intro gb134 hg w20 hbox hb; have z_ := t3_ (bS_ (bw0_ HB.out) hb) hbox (gv_ hg (bw0_ HB.out) : w.heap.size ≤ gb134); clear HB; obtain ⟨HB, BK134, GE134⟩ := z_; clear hb hbox hg) | ((with_reducible refine gate_dst (N := 3) rfl ?_); (try (refine gate_guard (by rfl) ?_; dsimp only)); refine be_ 3 #[.int .i64 a1_0, .int .i64 a1_1] 30 ?_; intro gb135 hg w21 hbox hb; have z_ := t5_ (bB_ (bk_ BK134.out) hb) (bS_ (bw1_ HB.out GE134.out) hb) hbox (gv_ hg (bw1_ HB.out GE134.out) : w.heap.size ≤ gb135) (by rw [hg]; exact Nat.ne_of_lt (blk_lt (bk_ BK134.out)) : gb134 ≠ gb135); (try clear BK134); clear HB; obtain ⟨BK134, HB, BK135, GE135, NB134_135⟩ := z_; have NB135_134 := M_ NB134_135.out.symm; clear hb hbox hg; have hnb22 := NB135_134.out; have hnc22 := NB134_135.out; have hcz23_0 := cz_ BK135.out 0 (.int .i64 a1_0); have hcz23_1 := cz_ BK135.out 1 (.int .i64 a1_1); have hfz23_0 := fz_ BK135.out 0; have hfz23_1 := fz_ BK135.out 1; have hcz24_0 := cz_ BK134.out 0 (.string a0_0); have hcz24_1 := cz_ BK134.out 1 (.slice A0_1 l0_1.length c0_1); have hcz24_2 := cz_ BK134.out 2 (.slice A0_2 l0_2.length c0_2); have hfz24_0 := fz_ BK134.out 0; have hfz24_1 := fz_ BK134.out 1; have hfz24_2 := fz_ BK134.out 2))
   repeat (go_quiet (first | ((with_reducible refine gate_dst (N := 2) rfl ?_); (try (refine gate_guard (by rfl) ?_; dsimp only)); refine be_ 2 #[.string a0_0, .slice A0_1 l0_1.length c0_1, .slice A0_2 l0_2.length c0_2] 25 ?_; intro gb134 hg w20 hbox hb; have z_ := t3_ (bS_ (bw0_ HB.out) hb) hbox (gv_ hg (bw0_ HB.out) : w.heap.size ≤ gb134); clear HB; obtain ⟨HB, BK134, GE134⟩ := z_; clear hb hbox hg) | ((with_reducible refine gate_dst (N := 3) rfl ?_); (try (refine gate_guard (by rfl) ?_; dsimp only)); refine be_ 3 #[.int .i64 a1_0, .int .i64 a1_1] 30 ?_; intro gb135 hg w21 hbox hb; have z_ := t5_ (bB_ (bk_ BK134.out) hb) (bS_ (bw1_ HB.out GE134.out) hb) hbox (gv_ hg (bw1_ HB.out GE134.out) : w.heap.size ≤ gb135) (by rw [hg]; exact Nat.ne_of_lt (blk_lt (bk_ BK134.out)) : gb134 ≠ gb135); (try clear BK134); clear HB; obtain ⟨BK134, HB, BK135, GE135, NB134_135⟩ := z_; have NB135_134 := M_ NB134_135.out.symm; clear hb hbox hg; have hnb22 := NB135_134.out; have hnc22 := NB134_135.out; have hcz23_0 := cz_ BK135.out 0 (.int .i64 a1_0); have hcz23_1 := cz_ BK135.out 1 (.int .i64 a1_1); have hfz23_0 := fz_ BK135.out 0; have hfz23_1 := fz_ BK135.out 1; have hcz24_0 := cz_ BK134.out 0 (.string a0_0); have hcz24_1 := cz_ BK134.out 1 (.slice A0_1 l0_1.length c0_1); have hcz24_2 := cz_ BK134.out 2 (.slice A0_2 l0_2.length c0_2); have hfz24_0 := fz_ BK134.out 0; have hfz24_1 := fz_ BK134.out 1; have hfz24_2 := fz_ BK134.out 2)); try go_wp2_with (first | ((with_reducible refine gate_dst (N := 2) rfl ?_); (try (refine gate_guard (by rfl) ?_; dsimp only)); refine be_ 2 #[.string a0_0, .slice A0_1 l0_1.length c0_1, .slice A0_2 l0_2.length c0_2] 25 ?_; intro gb134 hg w20 hbox hb; have z_ := t3_ (bS_ (bw0_ HB.out) hb) hbox (gv_ hg (bw0_ HB.out) : w.heap.size ≤ gb134); clear HB; obtain ⟨HB, BK134, GE134⟩ := z_; clear hb hbox hg) | ((with_reducible refine gate_dst (N := 3) rfl ?_); (try (refine gate_guard (by rfl) ?_; dsimp only)); refine be_ 3 #[.int .i64 a1_0, .int .i64 a1_1] 30 ?_; intro gb135 hg w21 hbox hb; have z_ := t5_ (bB_ (bk_ BK134.out) hb) (bS_ (bw1_ HB.out GE134.out) hb) hbox (gv_ hg (bw1_ HB.out GE134.out) : w.heap.size ≤ gb135) (by rw [hg]; exact Nat.ne_of_lt (blk_lt (bk_ BK134.out)) : gb134 ≠ gb135); (try clear BK134); clear HB; obtain ⟨BK134, HB, BK135, GE135, NB134_135⟩ := z_; have NB135_134 := M_ NB134_135.out.symm; clear hb hbox hg; have hnb22 := NB135_134.out; have hnc22 := NB134_135.out; have hcz23_0 := cz_ BK135.out 0 (.int .i64 a1_0); have hcz23_1 := cz_ BK135.out 1 (.int .i64 a1_1); have hfz23_0 := fz_ BK135.out 0; have hfz23_1 := fz_ BK135.out 1; have hcz24_0 := cz_ BK134.out 0 (.string a0_0); have hcz24_1 := cz_ BK134.out 1 (.slice A0_1 l0_1.length c0_1); have hcz24_2 := cz_ BK134.out 2 (.slice A0_2 l0_2.length c0_2); have hfz24_0 := fz_ BK134.out 0; have hfz24_1 := fz_ BK134.out 1; have hfz24_2 := fz_ BK134.out 2)))
   go_ret
   exact ⟨rb_, bw2_ HB.out GE134.out GE135.out⟩
 ·rw [if_neg c3] at H
  have c3b0 : decide (0 ≤ a1_0) = false := decide_eq_false c3
  clear c3
  obtain rfl := Option.some.inj H
  go_enter Try.func76, Try.ntmps76
  go_wp2_with (first | ((with_reducible refine gate_dst (N := 2) rfl ?_); (try (refine gate_guard (by rfl) ?_; dsimp only)); refine be_ 2 #[.string a0_0, .slice A0_1 l0_1.length c0_1, .slice A0_2 l0_2.length c0_2] 25 ?_; intro gb134 hg w25 hbox hb; have z_ := t3_ (bS_ (bw0_ HB.out) hb) hbox (gv_ hg (bw0_ HB.out) : w.heap.size ≤ gb134); clear HB; obtain ⟨HB, BK134, GE134⟩ := z_; clear hb hbox hg) | ((with_reducible refine gate_dst (N := 3) rfl ?_); (try (refine gate_guard (by rfl) ?_; dsimp only)); refine be_ 3 #[.int .i64 a1_0, .int .i64 a1_1] 30 ?_; intro gb135 hg w26 hbox hb; have z_ := t5_ (bB_ (bk_ BK134.out) hb) (bS_ (bw1_ HB.out GE134.out) hb) hbox (gv_ hg (bw1_ HB.out GE134.out) : w.heap.size ≤ gb135) (by rw [hg]; exact Nat.ne_of_lt (blk_lt (bk_ BK134.out)) : gb134 ≠ gb135); (try clear BK134); clear HB; obtain ⟨BK134, HB, BK135, GE135, NB134_135⟩ := z_; have NB135_134 := M_ NB134_135.out.symm; clear hb hbox hg; have hnb27 := NB135_134.out; have hnc27 := NB134_135.out; have hcz28_0 := cz_ BK135.out 0 (.int .i64 a1_0); have hcz28_1 := cz_ BK135.out 1 (.int .i64 a1_1); have hfz28_0 := fz_ BK135.out 0; have hfz28_1 := fz_ BK135.out 1))
  repeat (go_quiet (first | ((with_reducible refine gate_dst (N := 2) rfl ?_); (try (refine gate_guard (by rfl) ?_; dsimp only)); refine be_ 2 #[.string a0_0, .slice A0_1 l0_1.length c0_1, .slice A0_2 l0_2.length c0_2] 25 ?_; intro gb134 hg w25 hbox hb; have z_ := t3_ (bS_ (bw0_ HB.out) hb) hbox (gv_ hg (bw0_ HB.out) : w.heap.size ≤ gb134); clear HB; obtain ⟨HB, BK134, GE134⟩ := z_; clear hb hbox hg) | ((with_reducible refine gate_dst (N := 3) rfl ?_); (try (refine gate_guard (by rfl) ?_; dsimp only)); refine be_ 3 #[.int .i64 a1_0, .int .i64 a1_1] 30 ?_; intro gb135 hg w26 hbox hb; have z_ := t5_ (bB_ (bk_ BK134.out) hb) (bS_ (bw1_ HB.out GE134.out) hb) hbox (gv_ hg (bw1_ HB.out GE134.out) : w.heap.size ≤ gb135) (by rw [hg]; exact Nat.ne_of_lt (blk_lt (bk_ BK134.out)) : gb134 ≠ gb135); (try clear BK134); clear HB; obtain ⟨BK134, HB, BK135, GE135, NB134_135⟩ := z_; have NB135_134 := M_ NB134_135.out.symm; clear hb hbox hg; have hnb27 := NB135_134.out; have hnc27 := NB134_135.out; have hcz28_0 := cz_ BK135.out 0 (.int .i64 a1_0); have hcz28_1 := cz_ BK135.out 1 (.int .i64 a1_1); have hfz28_0 := fz_ BK135.out 0; have hfz28_1 := fz_ BK135.out 1)); try go_wp2_with (first | ((with_reducible refine gate_dst (N := 2) rfl ?_); (try (refine gate_guard (by rfl) ?_; dsimp only)); refine be_ 2 #[.string a0_0, .slice A0_1 l0_1.length c0_1, .slice A0_2 l0_2.length c0_2] 25 ?_; intro gb134 hg w25 hbox hb; have z_ := t3_ (bS_ (bw0_ HB.out) hb) hbox (gv_ hg (bw0_ HB.out) : w.heap.size ≤ gb134); clear HB; obtain ⟨HB, BK134, GE134⟩ := z_; clear hb hbox hg) | ((with_reducible refine gate_dst (N := 3) rfl ?_); (try (refine gate_guard (by rfl) ?_; dsimp only)); refine be_ 3 #[.int .i64 a1_0, .int .i64 a1_1] 30 ?_; intro gb135 hg w26 hbox hb; have n1_ := M_ (bS_ (bw1_ HB.out GE134.out) hb); have n2_ := M_ (hbox); have n4_ := M_ ((gv_ hg (bw1_ HB.out GE134.out) : w.heap.size ≤ gb135)); have n5_ := M_ ((by rw [hg]; exact Nat.ne_of_lt (blk_lt (bk_ BK134.out)) : gb134 ≠ gb135)); have n6_ := M_ ((by rw [hg]; exact Nat.ne_of_gt (blk_lt (bk_ BK134.out)) : gb135 ≠ gb134)); (try clear BK134); clear HB; have HB := n1_; have BK135 := n2_; have GE135 := n4_; have NB134_135 := n5_; have NB135_134 := n6_; clear hg hbox hb n6_ n5_ n4_ n2_ n1_; have hnb27 := NB135_134.out; have hnc27 := NB134_135.out; have hcz28_0 := cz_ BK135.out 0 (.int .i64 a1_0); have hcz28_1 := cz_ BK135.out 1 (.int .i64 a1_1); have hfz28_0 := fz_ BK135.out 0; have hfz28_1 := fz_ BK135.out 1)))
  go_ret
  exact ⟨rb_, bw2_ HB.out GE134.out GE135.out⟩

set_option maxHeartbeats 2000000 in
/-- slices.IndexFunc over a function value that keeps I, at a struct of two numbers. -/
theorem slices_IndexFunc_Matrix.calls (p : S30 → Bool) (g : Nat) (lb : Array Value) (I : World → Prop) (A0 : Option Addr) (c0 : Nat) (l0 : List S30) (w : World)
    (eg : ∀ args w, (callFunc g args).run Try.prog w = .ok (.enter g args) w)
    (hr0 : Kd.C k30 w A0 l0.length l0) (hc0 : l0.length ≤ c0) (hI : ∀ W, I W → Below w.heap.size w W) (h0 : I w)
    (hf : ∀ W x, x ∈ l0 → I W → Calls Try.prog g (#[.agg #[.int .i64 x.f0, .int .i64 x.f1]] ++ lb) W fun e W' => e = .returned (.bool (p x)) ∧ I W') :
    Calls Try.prog 116 #[.slice A0 l0.length c0, .func (.func g) #[] lb] w fun e w' => e = .returned (.int .i64 (idxF p l0)) ∧ I w' := by
 have HR0 := M_ hr0
 have HI := M_ hI
 have HF := M_ hf
 have H0 := M_ h0
 have hlen : l0.length ≤ 9223372036854775807 := hr0.2.1
 have hu30 := Try.underlying30
 clear hr0 hc0 hI hf h0
 go_enter Try.func116, Try.ntmps116
 go_wp2
 go_loopg [5, 8] l0.length (fun gg _ s8 wr => ∃ kk : Nat, kk ≤ l0.length ∧ l0.length - kk ≤ gg ∧ s8 = .int .i64 kk ∧ Aside0 (I wr) ∧ Aside0 (∀ j (h : j < l0.length), j < kk → p l0[j] = false))
 case atStart => exact ⟨0, Nat.zero_le _, by omega, rfl, H0, ⟨fun j h hj => absurd hj (Nat.not_lt_zero _)⟩⟩
 case round =>
  obtain ⟨kk, hkk, hg, rfl, HW, HN⟩ := hrel
  by_cases hlt : kk < l0.length
  ·have hltz : (kk : Int) < (l0.length : Int) := by omega
   obtain ⟨ad, e1, hx0, hx1⟩ := at_T30 HR0.out (kk : Int) (by omega) hltz
   cases e1
   replace hx0 := ((HI.out _ HW.out).cell (World.block_lt_of_cell? w _ hx0)).trans hx0
   replace hx1 := ((HI.out _ HW.out).cell (World.block_lt_of_cell? w _ hx1)).trans hx1
   have hrd : rd_T30 l0 (kk : Int) = l0[kk] := by simp [rd_T30, List.getD_eq_getElem?_getD, hlt]
   rw [hrd] at hx0 hx1
   have hcall := HF.out wr l0[kk] (List.getElem_mem hlt) HW.out
   clear hrd
   generalize hy : l0[kk] = y at hx0 hx1 hcall
   have HY := M_ hy
   clear hy
   simp only [Int.toNat_natCast] at hx0 hx1
   cases hq : p y with
   | true =>
    rw [hq] at hcall
    have HQ := M_ hq
    clear hq
    go_wp2_with (go_at_fn g; refine hcall.mono ?_; rintro e w' ⟨rfl, hi'⟩)
    go_ret
    exact ⟨by rw [idxF_hit p l0 kk hlt (by rw [HY.out]; exact HQ.out) HN.out]; rfl, hi'⟩
   | false =>
    rw [hq] at hcall
    have HQ := M_ hq
    clear hq
    go_wp2_with (go_at_fn g; refine hcall.mono ?_; rintro e w' ⟨rfl, hi'⟩)
    go_roundg (l0.length - (kk + 1))
    case measure => omega
    case rel =>
     refine ⟨kk + 1, by omega, by omega, by go_num, ⟨hi'⟩, ⟨fun j h hj => ?_⟩⟩
     by_cases e : j = kk
     ·subst e
      rw [HY.out]; exact HQ.out
     ·exact HN.out j h (by omega)
  ·have hltz : ¬ (kk : Int) < (l0.length : Int) := by omega
   have HK : kk = l0.length := by omega
   subst HK
   go_wp2
   go_ret
   exact ⟨by rw [idxF_miss p l0 (fun j h => HN.out j h h)]; rfl, HW.out⟩

set_option maxHeartbeats 2000000 in
/-- slices.ContainsFunc over a function value that keeps I, at a struct of two numbers. -/
theorem slices_ContainsFunc_Matrix.calls (p : S30 → Bool) (g : Nat) (lb : Array Value) (I : World → Prop) (A0 : Option Addr) (c0 : Nat) (l0 : List S30) (w : World)
    (eg : ∀ args w, (callFunc g args).run Try.prog w = .ok (.enter g args) w)
    (hr0 : Kd.C k30 w A0 l0.length l0) (hc0 : l0.length ≤ c0) (hI : ∀ W, I W → Below w.heap.size w W) (h0 : I w)
    (hf : ∀ W x, x ∈ l0 → I W → Calls Try.prog g (#[.agg #[.int .i64 x.f0, .int .i64 x.f1]] ++ lb) W fun e W' => e = .returned (.bool (p x)) ∧ I W') :
    Calls Try.prog 110 #[.slice A0 l0.length c0, .func (.func g) #[] lb] w fun e w' => e = .returned (.bool (l0.any p)) ∧ I w' := by
 have hc := slices_IndexFunc_Matrix.calls p g lb I A0 c0 l0 w eg hr0 hc0 hI h0 hf
 rw [← idxF_any p l0]
 have hrange := idxF_range p l0
 generalize idxF p l0 = r at hc hrange ⊢
 have HC := M_ hc
 clear hc hr0 hc0 hI h0 hf eg
 go_enter Try.func110, Try.ntmps110
 go_wp2_with (go_at_call 116; refine HC.out.mono ?_; rintro e w' ⟨rfl, hi'⟩)
 go_ret
 exact ⟨rfl, hi'⟩

-- NOT PRINTED: function 111 (impl_allOf_1)

/-- Whether all are matrices of the font; none where a code is missing. -/
def impl_allOf.f (a0_0 : ByteArray) (l0_1 l0_2 : List Int) (l1 : List S30) : Option Bool :=
  if l1.all (fun x => (impl_ofFont.f a0_0 l0_1 l0_2 x.f0 x.f1).isSome) = true then some (l1.all fun x => impl_ofFont.f a0_0 l0_1 l0_2 x.f0 x.f1 == some true) else none
set_option maxHeartbeats 2000000 in
theorem impl_allOf_1.calls (a0_0 : ByteArray) (A0_1 : Option Addr) (c0_1 : Nat) (l0_1 : List Int) (A0_2 : Option Addr) (c0_2 : Nat) (l0_2 : List Int) (x y : Int) (r : Bool) (q : Nat) (w : World)
    (hr0_1 : Kd.C (Kd.int .i64) w A0_1 l0_1.length l0_1) (hc0_1 : l0_1.length ≤ c0_1) (hr0_2 : Kd.C (Kd.int .i64) w A0_2 l0_2.length l0_2) (hc0_2 : l0_2.length ≤ c0_2)
    (hx0 : w.cell? ⟨q, 0, none⟩ = some (.string a0_0)) (hx1 : w.cell? ⟨q, 1, none⟩ = some (.slice A0_1 l0_1.length c0_1)) (hx2 : w.cell? ⟨q, 2, none⟩ = some (.slice A0_2 l0_2.length c0_2))
    (h : impl_ofFont.f a0_0 l0_1 l0_2 x y = some r) :
    Calls Try.prog 111 #[.agg #[.int .i64 x, .int .i64 y], .pointer (some ⟨q, 0, none⟩)] w fun e w' => e = .returned (.bool (!r)) ∧ Below w.heap.size w w' := by
 have hq : q < w.heap.size := World.block_lt_of_cell? w _ hx0
 have hu25 := Try.underlying25
 have hu30 := Try.underlying30
 have HR1 := M_ hr0_1
 have HR2 := M_ hr0_2
 have HC1 := M_ hc0_1
 have HC2 := M_ hc0_2
 have HH := M_ h
 clear hr0_1 hc0_1 hr0_2 hc0_2 h
 go_enter Try.func111, Try.ntmps111
 go_wp2_with (go_at_call 76; refine (impl_ofFont.calls a0_0 A0_1 c0_1 l0_1 A0_2 c0_2 l0_2 x y r _ ?_ HC1.out ?_ HC2.out HH.out).mono ?_; (iterate 2 (repeat (first | exact HR1.out | exact HR2.out | (with_reducible refine Kd.C_alloc ?_ _)))); rintro e w' ⟨rfl, hb⟩)
 go_ret
 exact ⟨by cases r <;> rfl, by first | exact hb | exact ((Below.refl _ _).alloc (Nat.le_refl _) _).trans (hb.mono (by simp))⟩
theorem ofFont_quiet : True := trivial
set_option maxHeartbeats 2000000 in
theorem impl_allOf.calls (a0_0 : ByteArray) (A0_1 : Option Addr) (c0_1 : Nat) (l0_1 : List Int) (A0_2 : Option Addr) (c0_2 : Nat) (l0_2 : List Int) (A1 : Option Addr) (c1 : Nat) (l1 : List S30) (r : Bool) (w : World)
    (hr0_1 : Kd.C (Kd.int .i64) w A0_1 l0_1.length l0_1) (hc0_1 : l0_1.length ≤ c0_1) (hr0_2 : Kd.C (Kd.int .i64) w A0_2 l0_2.length l0_2) (hc0_2 : l0_2.length ≤ c0_2) (hr1 : Kd.C k30 w A1 l1.length l1) (hc1 : l1.length ≤ c1)
    (h : impl_allOf.f a0_0 l0_1 l0_2 l1 = some r) :
    Calls Try.prog 87 #[.agg #[.string a0_0, .slice A0_1 l0_1.length c0_1, .slice A0_2 l0_2.length c0_2], .slice A1 l1.length c1] w fun e w' => e = .returned (.bool r) ∧ Below w.heap.size w w' := by
 unfold impl_allOf.f at h
 by_cases hall : l1.all (fun x => (impl_ofFont.f a0_0 l0_1 l0_2 x.f0 x.f1).isSome) = true
 case neg => rw [if_neg hall] at h; exact absurd h (by simp)
 rw [if_pos hall] at h
 obtain rfl := Option.some.inj h
 clear h
 have hu25 := Try.underlying25
 have eg : ∀ args w, (callFunc 111 args).run Try.prog w = .ok (.enter 111 args) w := enters_of Try.func111 (by kernel_rfl) rfl
 have hb0 : Below w.heap.size w (w.alloc (.cells #[.string a0_0, .slice A0_1 l0_1.length c0_1, .slice A0_2 l0_2.length c0_2] 25)) := (Below.refl _ w).alloc (Nat.le_refl _) _
 have hc := slices_ContainsFunc_Matrix.calls (fun x => !(impl_ofFont.f a0_0 l0_1 l0_2 x.f0 x.f1 == some true)) 111 #[.pointer (some ⟨w.heap.size, 0, none⟩)]
  (fun W => Below (w.heap.size + 1) (w.alloc (.cells #[.string a0_0, .slice A0_1 l0_1.length c0_1, .slice A0_2 l0_2.length c0_2] 25)) W) A1 c1 l1 (w.alloc (.cells #[.string a0_0, .slice A0_1 l0_1.length c0_1, .slice A0_2 l0_2.length c0_2] 25)) eg
  (Kd.C_alloc hr1 _) hc1 (fun W e => by simpa using e) (Below.refl _ _)
  (fun W x hx e => by
   obtain ⟨b, hb⟩ := Option.isSome_iff_exists.1 (List.all_eq_true.1 hall x hx)
   have hs : w.heap.size < w.heap.size + 1 := Nat.lt_succ_self _
   have e' : Below (w.alloc (.cells #[.string a0_0, .slice A0_1 l0_1.length c0_1, .slice A0_2 l0_2.length c0_2] 25)).heap.size (w.alloc (.cells #[.string a0_0, .slice A0_1 l0_1.length c0_1, .slice A0_2 l0_2.length c0_2] 25)) W := by simpa using e
   refine (impl_allOf_1.calls a0_0 A0_1 c0_1 l0_1 A0_2 c0_2 l0_2 x.f0 x.f1 b w.heap.size W (Kd.C_below (Kd.C_alloc hr0_1 _) e') hc0_1 (Kd.C_below (Kd.C_alloc hr0_2 _) e') hc0_2 ?_ ?_ ?_ hb).mono ?_
   ·exact (e.cell (p := ⟨w.heap.size, 0, none⟩) hs).trans (by simp)
   ·exact (e.cell (p := ⟨w.heap.size, 1, none⟩) hs).trans (by simp)
   ·exact (e.cell (p := ⟨w.heap.size, 2, none⟩) hs).trans (by simp)
   ·rintro e1 W' ⟨rfl, hb1⟩
    refine ⟨by rw [hb]; cases b <;> rfl, e.trans (hb1.mono ?_)⟩
    have := e.size
    simpa using this)
 have HE : (l1.any fun x => !(impl_ofFont.f a0_0 l0_1 l0_2 x.f0 x.f1 == some true)) = !(l1.all fun x => impl_ofFont.f a0_0 l0_1 l0_2 x.f0 x.f1 == some true) := by simp [List.any_eq_not_all_not]
 rw [HE] at hc
 clear HE eg hall hr0_1 hr0_2 hc0_1 hc0_2
 generalize (l1.all fun x => impl_ofFont.f a0_0 l0_1 l0_2 x.f0 x.f1 == some true) = b at hc ⊢
 have HC := M_ hc
 have HB0 := M_ hb0
 clear hc hr1 hb0
 go_enter Try.func87, Try.ntmps87
 go_wp2_with (go_at_call 110; refine HC.out.mono ?_; rintro e w' ⟨rfl, hi'⟩)
 go_ret
 exact ⟨by simp, HB0.out.trans (hi'.mono (Nat.le_succ _))⟩

end Go.Proofs.Ytilbngklgjjblaa.Q
