/- Contracts of Go functions over this translation: each call returns what the Lean function of the same name gives, and writes into no memory that was there. Written by a program of this claim's author (mp.py) over the kit's print. Conditions: those that each theorem names. -/
import Derived.Test.YtilbngklgjjblaaQ0
import Derived.Test.YtilbngklgjjblaaQ4
namespace Go.Proofs.Ytilbngklgjjblaa.Q
open Go.RowKit Go.Proofs.YtilbngklgjjblaaW.PrintWords Go.Proofs.YtilbngklgjjblaaW.PrintLast Go.Proofs.YtilbngklgjjblaaW.PrintMore
attribute [local go_sem] max2_int min2_int max_two min_two max_three min_three max_four min_four   -- for this text's walks alone
set_option linter.unusedVariables false
set_option linter.unusedSimpArgs false

/-! ### impl_FontOk: function 31 -/
/-- Are the bytes behind some others letters, each once? -/
def letA : List UInt8 → List UInt8 → Bool
  | _, [] => true
  | d, c :: r => decide (33 ≤ (c.toNat : Int)) && decide ((c.toNat : Int) ≤ 126) && !d.contains c && letA (d ++ [c]) r
def impl_FontOk.f (k : Nat) (a0_0 : ByteArray) (l0_1 l0_2 : List Int) : Option Bool :=
  if 1 ≤ a0_0.size then (if a0_0.size ≤ 40 then (if l0_1.length = a0_0.size then (if l0_2.length = a0_0.size then (if letA [] a0_0.data.toList = true then (if between l0_1 1 60 = true then impl_SortsAll.f k l0_2 else some false) else some false) else some false) else some false) else some false) else some false
theorem impl_FontOk.mono : ∀ a0 a1 a2 k, LeO (impl_FontOk.f k a0 a1 a2) (impl_FontOk.f (k + 1) a0 a1 a2) := by
  intro a0 a1 a2 k
  unfold impl_FontOk.f
  repeat' first
    | (with_reducible exact impl_SortsAll.mono _ _)
    | (with_reducible exact LeO.refl _)
    | (with_reducible refine LeO.ite ?_ ?_)
theorem letA_step (a : ByteArray) (i : Nat) (hi : i < a.size) (x : UInt8) (hx : a.data.toList[i]? = some x) : letA (a.data.toList.take i) (a.data.toList.drop i) = (decide (33 ≤ (x.toNat : Int)) && decide ((x.toNat : Int) ≤ 126) && !(a.data.toList.take i).contains x && letA (a.data.toList.take (i + 1)) (a.data.toList.drop (i + 1))) := by
  obtain ⟨h1, h2⟩ := List.getElem?_eq_some_iff.1 hx
  rw [List.drop_eq_getElem_cons h1, h2, letA, List.take_succ_eq_append_getElem h1, h2]
set_option maxHeartbeats 4000000 in
set_option maxRecDepth 100000 in
theorem impl_FontOk.calls (k : Nat) (a0_0 : ByteArray) (A0_1 : Option Addr) (c0_1 : Nat) (l0_1 : List Int) (A0_2 : Option Addr) (c0_2 : Nat) (l0_2 : List Int) (r : Bool) (w : World)
    (hr0_1 : Kd.C (Kd.int .i64) w A0_1 l0_1.length l0_1) (hc0_1 : l0_1.length ≤ c0_1) (hr0_2 : Kd.C (Kd.int .i64) w A0_2 l0_2.length l0_2) (hc0_2 : l0_2.length ≤ c0_2)
    (h : impl_FontOk.f k a0_0 l0_1 l0_2 = some r) :
    Calls Try.prog 31 #[.agg #[.string a0_0, .slice A0_1 l0_1.length c0_1, .slice A0_2 l0_2.length c0_2]] w fun e w' => e = .returned (.bool r) ∧ Below w.heap.size w w' := by
  have hu25 := Try.underlying25
  have HR1 := Aside0.mk hr0_1
  have HR2 := Aside0.mk hr0_2
  have HC1 := Aside0.mk hc0_1
  have HC2 := Aside0.mk hc0_2
  have HB := Aside0.mk (Below.refl w.heap.size w)
  clear hr0_1 hc0_1 hr0_2 hc0_2
  by_cases c1 : 1 ≤ a0_0.size
  case neg =>
    unfold impl_FontOk.f at h
    rw [if_neg c1] at h
    obtain rfl := Option.some.inj h
    clear h
    have g1 : decide ((a0_0.size : Int) < 1) = true := by simp; omega
    go_enter Try.func31, Try.ntmps31
    go_wp2_with fail
    go_ret
    exact ⟨rfl, by first | exact HB.out | exact below_alloc HB.out _⟩
  by_cases c2 : a0_0.size ≤ 40
  case neg =>
    unfold impl_FontOk.f at h
    rw [if_pos c1, if_neg c2] at h
    obtain rfl := Option.some.inj h
    clear h
    have g1 : decide ((a0_0.size : Int) < 1) = false := by simp; omega
    have g2 : decide ((40 : Int) < (a0_0.size : Int)) = true := by simp; omega
    go_enter Try.func31, Try.ntmps31
    go_wp2_with fail
    go_ret
    exact ⟨rfl, by first | exact HB.out | exact below_alloc HB.out _⟩
  by_cases c3 : l0_1.length = a0_0.size
  case neg =>
    unfold impl_FontOk.f at h
    rw [if_pos c1, if_pos c2, if_neg c3] at h
    obtain rfl := Option.some.inj h
    clear h
    have g1 : decide ((a0_0.size : Int) < 1) = false := by simp; omega
    have g2 : decide ((40 : Int) < (a0_0.size : Int)) = false := by simp; omega
    have g3 : ¬ ((l0_1.length : Int) = (a0_0.size : Int)) := by omega
    go_enter Try.func31, Try.ntmps31
    go_wp2_with fail
    go_ret
    exact ⟨rfl, by first | exact HB.out | exact below_alloc HB.out _⟩
  by_cases c4 : l0_2.length = a0_0.size
  case neg =>
    unfold impl_FontOk.f at h
    rw [if_pos c1, if_pos c2, if_pos c3, if_neg c4] at h
    obtain rfl := Option.some.inj h
    clear h
    have g1 : decide ((a0_0.size : Int) < 1) = false := by simp; omega
    have g2 : decide ((40 : Int) < (a0_0.size : Int)) = false := by simp; omega
    have g3 : (l0_1.length : Int) = (a0_0.size : Int) := by omega
    have g4 : ¬ ((l0_2.length : Int) = (a0_0.size : Int)) := by omega
    go_enter Try.func31, Try.ntmps31
    go_wp2_with fail
    go_ret
    exact ⟨rfl, by first | exact HB.out | exact below_alloc HB.out _⟩
  unfold impl_FontOk.f at h
  rw [if_pos c1, if_pos c2, if_pos c3, if_pos c4] at h
  have HH := Aside0.mk h
  clear h
  have g1 : decide ((a0_0.size : Int) < 1) = false := by simp; omega
  have g2 : decide ((40 : Int) < (a0_0.size : Int)) = false := by simp; omega
  have g3 : (l0_1.length : Int) = (a0_0.size : Int) := by omega
  have g4 : (l0_2.length : Int) = (a0_0.size : Int) := by omega
  have C3 := Aside0.mk c3
  have C4 := Aside0.mk c4
  clear c3 c4
  go_enter Try.func31, Try.ntmps31
  go_wp2_with fail
  rw [show Try.zeroCells89 = Lib.setCells (a0_0.data.toList.take 0) from by rw [List.take_zero]; kernel_rfl]
  go_loopg [4, 5, 37] a0_0.size (fun gg s4 s5 s37 wx => ∃ j : Int, 0 ≤ j ∧ j + gg = a0_0.size ∧ s37 = .int .i64 j ∧ Aside0 (letA [] a0_0.data.toList = letA (a0_0.data.toList.take j.toNat) (a0_0.data.toList.drop j.toNat)) ∧ Aside0 (wx.heap[w.heap.size]? = some (.cells #[.string a0_0, .slice A0_1 l0_1.length c0_1, .slice A0_2 l0_2.length c0_2] 25 (0, 0))) ∧ Aside0 (wx.heap[w.heap.size + 1]? = some (.cells (Lib.setCells (a0_0.data.toList.take j.toNat)) 89 (0, 0))) ∧ Aside0 (Below w.heap.size w wx))
  case atStart => exact ⟨0, by omega, by omega, rfl, ⟨by simp⟩, ⟨by first | exact blk_alloc (blk_new w _) _ | (rw [C3.out, C4.out]; exact blk_alloc (blk_new w _) _)⟩, ⟨by have h_ := blk_new (w.alloc (.cells #[.string a0_0, .slice A0_1 l0_1.length c0_1, .slice A0_2 l0_2.length c0_2] 25)) (.cells (Lib.setCells (a0_0.data.toList.take 0)) 89); rw [World.size_alloc] at h_; exact h_⟩, ⟨below_alloc (below_alloc HB.out _) _⟩⟩
  case round =>
    obtain ⟨j, hj0, hjg, rfl, HL, BK0, BK1, HBX⟩ := hrel
    have hcz_0 : wr.cell? ⟨w.heap.size, 0, none⟩ = some (.string a0_0) := (blk_cell BK0.out 0).trans rfl
    have hcz_1 : wr.cell? ⟨w.heap.size, 1, none⟩ = some (.slice A0_1 l0_1.length c0_1) := (blk_cell BK0.out 1).trans rfl
    have hcz_2 : wr.cell? ⟨w.heap.size, 2, none⟩ = some (.slice A0_2 l0_2.length c0_2) := (blk_cell BK0.out 2).trans rfl
    have hfz_0 := blk_frozen BK0.out 0
    have hfz_1 := blk_frozen BK0.out 1
    have hfz_2 := blk_frozen BK0.out 2
    cases gk with
    | zero =>
      have hje : j = (a0_0.size : Int) := by omega
      subst hje
      clear hj0 hjg
      have c14b0 : decide ((a0_0.size : Int) < (a0_0.size : Int)) = false := by simp
      have HE : (if between l0_1 1 60 = true then impl_SortsAll.f k l0_2 else some false) = some r := by
        have h2 := HH.out
        rw [HL.out, Int.toNat_natCast, List.drop_eq_nil_of_le (by rw [← Lib.size_eq]; exact Nat.le_refl _), letA, if_pos rfl] at h2
        exact h2
      have HE' := Aside0.mk HE
      clear HE
      by_cases hbt : between l0_1 1 60 = true
      · have HBT := Aside0.mk hbt
        have hs : impl_SortsAll.f k l0_2 = some r := by
          have h2 := HE'.out
          rw [if_pos hbt] at h2
          exact h2
        have HS := Aside0.mk hs
        clear hbt hs
        go_wp2_with (first
          | (go_at_call 84; (first | rw [← C3.out] | skip); refine (impl_between.calls A0_1 c0_1 l0_1 1 60 true _ (Kd.C_below HR1.out HBX.out) HC1.out (by unfold impl_between.f; rw [HBT.out])).mono ?_; rintro e w' ⟨rfl, hb1⟩; have hcy_2 : w'.cell? ⟨w.heap.size, 2, none⟩ = some (.slice A0_2 l0_2.length c0_2) := (blk_cell (blk_below BK0.out hb1) 2).trans rfl; have hfy_2 := blk_frozen (blk_below BK0.out hb1) 2; have HB2 := Aside0.mk (HBX.out.trans (hb1.mono HBX.out.size)); clear hb1)
          | (go_at_call 85; (first | rw [← C4.out] | skip); refine (impl_SortsAll.calls k A0_2 c0_2 l0_2 r _ (Kd.C_below HR2.out HB2.out) HC2.out HS.out).mono ?_; rintro e w'' ⟨rfl, hb2⟩))
        all_goals go_ret
        all_goals exact ⟨rfl, HB2.out.trans (hb2.below.mono HB2.out.size)⟩
      · have hbt' : between l0_1 1 60 = false := by simpa using hbt
        have HBT := Aside0.mk hbt'
        have HS : false = r := by
          have h2 := HE'.out
          rw [if_neg hbt] at h2
          exact Option.some.inj h2
        subst HS
        clear hbt hbt'
        go_wp2_with (first
          | (go_at_call 84; (first | rw [← C3.out] | skip); refine (impl_between.calls A0_1 c0_1 l0_1 1 60 false _ (Kd.C_below HR1.out HBX.out) HC1.out (by unfold impl_between.f; rw [HBT.out])).mono ?_; rintro e w' ⟨rfl, hb1⟩; have HB2 := Aside0.mk (HBX.out.trans (hb1.mono HBX.out.size)); clear hb1))
        all_goals go_ret
        all_goals exact ⟨rfl, HB2.out⟩
    | succ g =>
      have hi : j.toNat < a0_0.size := by omega
      have c14b0 : decide (j < (a0_0.size : Int)) = true := by simp; omega
      obtain ⟨x, hx⟩ : ∃ x : UInt8, a0_0[j.toNat]'hi = x := ⟨_, rfl⟩
      have hxl : a0_0.data.toList[j.toNat]? = some x := by rw [← hx]; exact Lib.data_getElem? a0_0 _ hi
      have hxb : (x.toNat : Int) = bt a0_0 j := by rw [← hx]; exact bt_at a0_0 j hi
      have hstep := letA_step a0_0 j.toNat hi x hxl
      rw [hxb] at hstep
      have hb0 := (bt_range a0_0 j).1
      have hb1 : bt a0_0 j < 256 := by have := (bt_range a0_0 j).2; omega
      have hcell : wr.cell? ⟨w.heap.size + 1, (bt a0_0 j).toNat, none⟩ = some (.bool ((a0_0.data.toList.take j.toNat).contains x)) := by
        rw [← hxb, Int.toNat_natCast]
        exact (blk_cell BK1.out _).trans (Lib.setCells_at _ x)
      have hnext : (Lib.setCells (a0_0.data.toList.take j.toNat)).setIfInBounds (bt a0_0 j).toNat (.bool true) = Lib.setCells (a0_0.data.toList.take (j.toNat + 1)) := by
        rw [← hxb, Int.toNat_natCast, ← Lib.setCells_snoc, List.take_add_one, hxl]; rfl
      have hfz := blk_frozen BK1.out (bt a0_0 j).toNat
      have HN := Aside0.mk hnext
      have HST := Aside0.mk hstep
      have HJ := Aside0.mk hjg
      have hx18 := bt_at a0_0 j
      have hb1b : decide (bt a0_0 j < 256) = true := by simp; omega
      have hb0b : decide (0 ≤ bt a0_0 j) = true := by simp; omega
      have hj0b : decide (0 ≤ j) = true := by simp; omega
      have p18 : (0 ≤ j) = True := eq_true hj0
      have q18 : (j < (a0_0.size : Int)) = True := eq_true (by omega)
      have p19 : (0 ≤ bt a0_0 j) = True := eq_true hb0
      have q19 : (bt a0_0 j < 256) = True := eq_true hb1
      generalize (a0_0.data.toList.take j.toNat).contains x = cb at hcell hstep
      have HS2 := Aside0.mk hstep
      clear hstep hnext hxl hxb hx hb0 hb1 hjg hj0
      by_cases d1 : bt a0_0 j < 33
      · have e1 : decide (bt a0_0 j < 33) = true := decide_eq_true d1
        have HE : false = r := by
          have h2 := HH.out
          rw [HL.out, HS2.out, decide_eq_false (by omega), Bool.false_and, Bool.false_and, Bool.false_and, if_neg (by decide)] at h2
          exact Option.some.inj h2
        subst HE
        clear d1
        go_wp2
        repeat (go_quiet (fail); try go_wp2)
        go_ret
        exact ⟨rfl, by first | exact HBX.out | exact below_alloc HBX.out _⟩
      have e1 : decide (bt a0_0 j < 33) = false := decide_eq_false d1
      by_cases d2 : 126 < bt a0_0 j
      · have e2 : decide (126 < bt a0_0 j) = true := decide_eq_true d2
        have HE : false = r := by
          have h2 := HH.out
          rw [HL.out, HS2.out, decide_eq_false (show ¬ bt a0_0 j ≤ 126 by omega), Bool.and_false, Bool.false_and, Bool.false_and, if_neg (by decide)] at h2
          exact Option.some.inj h2
        subst HE
        clear d1 d2
        go_wp2
        repeat (go_quiet (fail); try go_wp2)
        go_ret
        exact ⟨rfl, by first | exact HBX.out | exact below_alloc HBX.out _⟩
      have e2 : decide (126 < bt a0_0 j) = false := decide_eq_false d2
      cases cb with
      | true =>
        have HE : false = r := by
          have h2 := HH.out
          rw [HL.out, HS2.out, Bool.not_true, Bool.and_false, Bool.false_and, if_neg (by decide)] at h2
          exact Option.some.inj h2
        subst HE
        clear d1 d2
        go_wp2
        repeat (go_quiet (fail); try go_wp2)
        go_ret
        exact ⟨rfl, by first | exact HBX.out | exact below_alloc HBX.out _⟩
      | false =>
        have HE : letA [] a0_0.data.toList = letA (a0_0.data.toList.take (j.toNat + 1)) (a0_0.data.toList.drop (j.toNat + 1)) := by
          rw [HL.out, HS2.out, decide_eq_true (show 33 ≤ bt a0_0 j by omega), decide_eq_true (show bt a0_0 j ≤ 126 by omega)]
          rfl
        have HE' := Aside0.mk HE
        clear d1 d2 HE
        go_wp2
        repeat (go_quiet (fail); try go_wp2)
        go_roundg g
        case measure => omega
        case rel =>
          have hjg := HJ.out
          have hj0 := of_eq_true p18
          have hw : wrap64 (j + 1) = j + 1 := by unfold wrap64; omega
          have ht : (j + 1).toNat = j.toNat + 1 := by omega
          refine ⟨j + 1, by omega, by omega, by rw [hw], ⟨by rw [ht]; exact HE'.out⟩, ⟨?_⟩, ⟨?_⟩, ⟨below_set HBX.out (Nat.le_succ _)⟩⟩
          · exact blk_far BK0.out (by show w.heap.size ≠ w.heap.size + 1; omega) _
          · rw [ht]; exact blk_put BK1.out _ _ HN.out

/-! ### impl_key: function 86 -/
def impl_key.l0 : Nat → Int → Int → Int → ByteArray → List Int → List Int → Option (Int)
  | 0, _, _, _, _, _, _ => none
  | k + 1, x1, x8, x9, x146000, x146001, x146002 => if x9 < x8 then (if 0 ≤ x9 then (if x9 < (x146000.size : Int) then (if (wrap64 (bt x146000 x9)) = x1 then (some x9) else (impl_key.l0 k x1 x8 (wrap64 (x9 + 1)) x146000 x146001 x146002)) else (none)) else (none)) else (some (-1))
def impl_key.f (k : Nat) (a0_0 : ByteArray) (l0_1 : List Int) (l0_2 : List Int) (a1 : Int) : Option (Int) := impl_key.l0 k a1 (a0_0.size : Int) 0 a0_0 l0_1 l0_2
theorem impl_key.mono_l : ∀ k, (∀ y0 y1 y2 y3 y4 y5, LeO (impl_key.l0 k y0 y1 y2 y3 y4 y5) (impl_key.l0 (k + 1) y0 y1 y2 y3 y4 y5))
  | 0 => fun _ _ _ _ _ _ r h => by simp [impl_key.l0] at h
  | k + 1 => by
    have ih0 := impl_key.mono_l k
    · intro y0 y1 y2 y3 y4 y5
      unfold impl_key.l0
      repeat' first
      | (with_reducible exact ih0 _ _ _ _ _ _)
      | (with_reducible exact LeO.refl _)
      | (with_reducible exact LeO.none _)
      | (with_reducible refine LeO.ite ?_ ?_)
      | (with_reducible refine LeO.bind ?_ (fun _ => ?_))
      | exact ih0 _ _ _ _ _ _
      | exact LeO.none _
      | refine LeO.ite ?_ ?_
      | refine LeO.bind ?_ (fun _ => ?_)
theorem impl_key.mono : ∀ a0 a1 a2 a3 k, LeO (impl_key.f k a0 a1 a2 a3) (impl_key.f (k + 1) a0 a1 a2 a3) := by
  intro a0 a1 a2 a3 k
  have ih0 := impl_key.mono_l k
  unfold impl_key.f
  repeat' first
      | (with_reducible exact ih0 _ _ _ _ _ _)
      | (with_reducible exact LeO.refl _)
      | (with_reducible exact LeO.none _)
      | (with_reducible refine LeO.ite ?_ ?_)
      | (with_reducible refine LeO.bind ?_ (fun _ => ?_))
      | exact ih0 _ _ _ _ _ _
      | exact LeO.none _
      | refine LeO.ite ?_ ?_
      | refine LeO.bind ?_ (fun _ => ?_)
set_option maxHeartbeats 8000000 in
set_option maxRecDepth 100000 in
theorem impl_key.calls (k : Nat) (a0_0 : ByteArray) (A0_1 : Option Addr) (c0_1 : Nat) (l0_1 : List Int) (A0_2 : Option Addr) (c0_2 : Nat) (l0_2 : List Int) (a1 : Int) (r : Int) (w : World) (hr0_1 : Kd.C (Kd.int .i64) w A0_1 l0_1.length l0_1) (hc0_1 : l0_1.length ≤ c0_1) (hr0_2 : Kd.C (Kd.int .i64) w A0_2 l0_2.length l0_2) (hc0_2 : l0_2.length ≤ c0_2) (h : impl_key.f k a0_0 l0_1 l0_2 a1 = some r) :
    Calls Try.prog 86 #[.agg #[.string a0_0, .slice A0_1 l0_1.length c0_1, .slice A0_2 l0_2.length c0_2], .int .i64 a1] w fun e w' => e = .returned (.int .i64 r) ∧ Below w.heap.size w w' := by
  have hu25 := Try.underlying25
  have HR0_1 := Aside0.mk hr0_1
  have HC0_1 := Aside0.mk hc0_1
  clear hr0_1 hc0_1
  have HR0_2 := Aside0.mk hr0_2
  have HC0_2 := Aside0.mk hc0_2
  clear hr0_2 hc0_2
  have HB := Aside0.mk (Below.refl w.heap.size w)
  have H : (impl_key.l0 k a1 (a0_0.size : Int) 0 a0_0 l0_1 l0_2) = some r := h
  clear h
  have H' := Aside0.mk H
  clear H
  go_enter Try.func86, Try.ntmps86
  go_wp2_with (first | ((with_reducible refine gate_dst (N := 2) rfl ?_); refine box_event ?hg (N := 2) ?hd (cs := #[.string a0_0, .slice A0_1 l0_1.length c0_1, .slice A0_2 l0_2.length c0_2]) (t := 25) ?hr ?_; (case hd => rfl); (case hg => rfl); (case hr => first | (go_simp; done) | (go_simp; rfl)); intro gb145 hg w3 hbox hb; have n0_ := Aside0.mk (below_step (by repeat (first | (with_reducible first | exact HB.out | apply below_alloc | apply pw_below_drewN | apply below_drew1) | exact HB.out)) hb); have n1_ := Aside0.mk (hbox); have n2_ := Aside0.mk ((by rw [hg]; exact (below_size (by repeat (first | (with_reducible first | exact HB.out | apply below_alloc | apply pw_below_drewN | apply below_drew1) | exact HB.out))) : w.heap.size ≤ gb145)); have n3_ := Aside0.mk ((by rw [hg]; exact (below_size (by repeat (first | (with_reducible first | exact HB.out | apply below_alloc | apply pw_below_drewN | apply below_drew1) | exact HB.out))) : w.heap.size ≤ gb145)); clear HB; have HB := n0_; have BK145 := n1_; have GW145 := n2_; have GE145 := n3_; clear n0_ n1_ n2_ n3_; clear hb hbox hg; have hcz4_0 : w3.cell? ⟨gb145, 0, none⟩ = some (.string a0_0) := (blk_cell BK145.out 0).trans rfl; have hcz4_1 : w3.cell? ⟨gb145, 1, none⟩ = some (.slice A0_1 l0_1.length c0_1) := (blk_cell BK145.out 1).trans rfl; have hcz4_2 : w3.cell? ⟨gb145, 2, none⟩ = some (.slice A0_2 l0_2.length c0_2) := (blk_cell BK145.out 2).trans rfl; have hfz4_0 := blk_frozen BK145.out 0; have hfz4_1 := blk_frozen BK145.out 1; have hfz4_2 := blk_frozen BK145.out 2))
  go_loopg [9] k (fun kq v9 w' => ∃ (x9_1 : Int), v9 = .int .i64 x9_1 ∧ Aside0 (impl_key.l0 kq a1 (a0_0.size : Int) x9_1 a0_0 l0_1 l0_2 = some r) ∧ Aside0 (kq ≤ k) ∧ Aside0 (w'.heap[gb145]? = some (.cells #[.string a0_0, (.slice A0_1 l0_1.length c0_1), (.slice A0_2 l0_2.length c0_2)] 25 (0, 0))) ∧ Aside0 (Below w.heap.size w w'))
  case atStart => exact ⟨(0), (by first | rfl | (simp; done) | (simp [*]; done)), H', ⟨Nat.le_refl _⟩, ⟨by (with_reducible repeat (first | refine blk_drewN ?_ _ | refine blk_drew ?_ | refine blk_alloc ?_ _)); exact BK145.out⟩, ⟨by repeat (first | (with_reducible first | exact HB.out | apply below_alloc | apply pw_below_drewN | apply below_drew1 | refine below_set ?_ GE145.out) | exact HB.out)⟩⟩
  case round =>
    clear H'
    try clear p2
    try clear hcz4_0
    try clear hcz4_1
    try clear hcz4_2
    try clear hfz4_0
    try clear hfz4_1
    try clear hfz4_2
    obtain ⟨x9_1, rfl, HA, HK1, BK145, HB⟩ := hrel
    cases gk with
    | zero => exact absurd HA.out (by simp [impl_key.l0])
    | succ k1 =>
      have H := HA.out
      clear HA
      simp only [impl_key.l0] at H
      by_cases c5 : x9_1 < (a0_0.size : Int)
      · rw [if_pos c5] at H
        have c5b0 : decide (x9_1 < (a0_0.size : Int)) = true := decide_eq_true c5
        clear c5
        by_cases c6 : 0 ≤ x9_1
        · rw [if_pos c6] at H
          have c6b0 : decide (0 ≤ x9_1) = true := decide_eq_true c6
          clear c6
          by_cases c7 : x9_1 < (a0_0.size : Int)
          · rw [if_pos c7] at H
            have c7b0 : decide (x9_1 < (a0_0.size : Int)) = true := decide_eq_true c7
            clear c7
            by_cases c9 : (wrap64 (bt a0_0 x9_1)) = a1
            · rw [if_pos c9] at H
              have c9b0 : ((wrap64 (bt a0_0 x9_1)) == a1) = true := beq_iff_eq.mpr c9
              have c9b1 : ((wrap64 (bt a0_0 x9_1)) != a1) = false := bne_eq_false_iff_eq.mpr c9
              clear c9
              obtain rfl := Option.some.inj H
              have hcz10_0 : wr.cell? ⟨gb145, 0, none⟩ = some (.string a0_0) := (blk_cell BK145.out 0).trans rfl
              have hcz10_1 : wr.cell? ⟨gb145, 1, none⟩ = some (.slice A0_1 l0_1.length c0_1) := (blk_cell BK145.out 1).trans rfl
              have hcz10_2 : wr.cell? ⟨gb145, 2, none⟩ = some (.slice A0_2 l0_2.length c0_2) := (blk_cell BK145.out 2).trans rfl
              have hfz10_0 := blk_frozen BK145.out 0
              have hfz10_1 := blk_frozen BK145.out 1
              have hfz10_2 := blk_frozen BK145.out 2
              have p8 : 0 ≤ (x9_1 : Int) := of_decide_eq_true (by first | (with_reducible assumption) | assumption)
              have q8 : x9_1 < (a0_0.size : Int) := of_decide_eq_true (by first | (with_reducible assumption) | assumption)
              have hx8 := bt_at a0_0 x9_1
              replace p8 := eq_true p8
              replace q8 := eq_true q8
              go_wp2
              go_ret
              exact ⟨by first | rfl | (simp only [i64_w, i32_w]; rfl) | (simp only [i64_w, i32_w, wrap64_zero, Int.sub_zero, Int.add_zero, Int.mul_zero, Int.zero_mul]; rfl) | (simp [errW_none, errW_some] <;> rfl) | (simp [*, errW_none, errW_some] <;> rfl), by repeat (first | (with_reducible first | exact HB.out | apply below_alloc | apply pw_below_drewN | apply below_drew1 | refine below_set ?_ GE145.out) | exact HB.out)⟩
            · rw [if_neg c9] at H
              have c9b0 : ((wrap64 (bt a0_0 x9_1)) == a1) = false := beq_eq_false_iff_ne.mpr c9
              have c9b1 : ((wrap64 (bt a0_0 x9_1)) != a1) = true := bne_iff_ne.mpr c9
              have H' := Aside0.mk H
              clear H
              have hcz11_0 : wr.cell? ⟨gb145, 0, none⟩ = some (.string a0_0) := (blk_cell BK145.out 0).trans rfl
              have hcz11_1 : wr.cell? ⟨gb145, 1, none⟩ = some (.slice A0_1 l0_1.length c0_1) := (blk_cell BK145.out 1).trans rfl
              have hcz11_2 : wr.cell? ⟨gb145, 2, none⟩ = some (.slice A0_2 l0_2.length c0_2) := (blk_cell BK145.out 2).trans rfl
              have hfz11_0 := blk_frozen BK145.out 0
              have hfz11_1 := blk_frozen BK145.out 1
              have hfz11_2 := blk_frozen BK145.out 2
              have p8 : 0 ≤ (x9_1 : Int) := of_decide_eq_true (by first | (with_reducible assumption) | assumption)
              have q8 : x9_1 < (a0_0.size : Int) := of_decide_eq_true (by first | (with_reducible assumption) | assumption)
              have hx8 := bt_at a0_0 x9_1
              replace p8 := eq_true p8
              replace q8 := eq_true q8
              go_wp2
              go_roundg k1
              case measure => have := HK1.out; omega
              case rel => exact ⟨(wrap64 (x9_1 + 1)), (by first | rfl | (simp; done) | (simp [*]; done)), H', ⟨by have := HK1.out; omega⟩, ⟨by (with_reducible repeat (first | refine blk_drewN ?_ _ | refine blk_drew ?_ | refine blk_alloc ?_ _)); exact BK145.out⟩, ⟨by repeat (first | (with_reducible first | exact HB.out | apply below_alloc | apply pw_below_drewN | apply below_drew1 | refine below_set ?_ GE145.out) | exact HB.out)⟩⟩
          · rw [if_neg c7] at H
            exact absurd H (by simp)
        · rw [if_neg c6] at H
          exact absurd H (by simp)
      · rw [if_neg c5] at H
        have c5b0 : decide (x9_1 < (a0_0.size : Int)) = false := decide_eq_false c5
        clear c5
        obtain rfl := Option.some.inj H
        go_wp2
        go_ret
        exact ⟨by first | rfl | (simp only [i64_w, i32_w]; rfl) | (simp only [i64_w, i32_w, wrap64_zero, Int.sub_zero, Int.add_zero, Int.mul_zero, Int.zero_mul]; rfl) | (simp [errW_none, errW_some] <;> rfl) | (simp [*, errW_none, errW_some] <;> rfl), by repeat (first | (with_reducible first | exact HB.out | apply below_alloc | apply pw_below_drewN | apply below_drew1 | refine below_set ?_ GE145.out) | exact HB.out)⟩

/-! ### impl_KeyOf: function 36 -/
def impl_KeyOf.f (k : Nat) (a0_0 : ByteArray) (l0_1 : List Int) (l0_2 : List Int) (a1 : Int) : Option (Int) := (impl_FontOk.f k a0_0 l0_1 l0_2).bind fun t147 => (if t147 = true then ((impl_key.f k a0_0 l0_1 l0_2 a1).bind fun t148 => (some t148)) else (some (-1)))
theorem impl_KeyOf.mono : ∀ a0 a1 a2 a3 k, LeO (impl_KeyOf.f k a0 a1 a2 a3) (impl_KeyOf.f (k + 1) a0 a1 a2 a3) := by
  intro a0 a1 a2 a3 k
  unfold impl_KeyOf.f
  repeat' first
      | (with_reducible exact impl_FontOk.mono _ _ _ _)
      | (with_reducible exact impl_key.mono _ _ _ _ _)
      | (with_reducible exact LeO.refl _)
      | (with_reducible exact LeO.none _)
      | (with_reducible refine LeO.ite ?_ ?_)
      | (with_reducible refine LeO.bind ?_ (fun _ => ?_))
      | exact impl_FontOk.mono _ _ _ _
      | exact impl_key.mono _ _ _ _ _
      | exact LeO.none _
      | refine LeO.ite ?_ ?_
      | refine LeO.bind ?_ (fun _ => ?_)
set_option maxHeartbeats 8000000 in
set_option maxRecDepth 100000 in
theorem impl_KeyOf.calls (k : Nat) (a0_0 : ByteArray) (A0_1 : Option Addr) (c0_1 : Nat) (l0_1 : List Int) (A0_2 : Option Addr) (c0_2 : Nat) (l0_2 : List Int) (a1 : Int) (r : Int) (w : World) (hr0_1 : Kd.C (Kd.int .i64) w A0_1 l0_1.length l0_1) (hc0_1 : l0_1.length ≤ c0_1) (hr0_2 : Kd.C (Kd.int .i64) w A0_2 l0_2.length l0_2) (hc0_2 : l0_2.length ≤ c0_2) (h : impl_KeyOf.f k a0_0 l0_1 l0_2 a1 = some r) :
    Calls Try.prog 36 #[.agg #[.string a0_0, .slice A0_1 l0_1.length c0_1, .slice A0_2 l0_2.length c0_2], .int .i64 a1] w fun e w' => e = .returned (.int .i64 r) ∧ Below w.heap.size w w' := by
  have hu25 := Try.underlying25
  have HR0_1 := Aside0.mk hr0_1
  have HC0_1 := Aside0.mk hc0_1
  clear hr0_1 hc0_1
  have HR0_2 := Aside0.mk hr0_2
  have HC0_2 := Aside0.mk hc0_2
  clear hr0_2 hc0_2
  have HB := Aside0.mk (Below.refl w.heap.size w)
  have H : ((impl_FontOk.f k a0_0 l0_1 l0_2).bind fun t147 => (if t147 = true then ((impl_key.f k a0_0 l0_1 l0_2 a1).bind fun t148 => (some t148)) else (some (-1)))) = some r := h
  clear h
  replace H := Option.bind_eq_some_iff.mp H
  obtain ⟨t147, A30, H⟩ := H
  replace H : (if t147 = true then ((impl_key.f k a0_0 l0_1 l0_2 a1).bind fun t148 => (some t148)) else (some (-1))) = some r := H
  have A3 := Aside0.mk A30
  clear A30
  by_cases c4 : t147 = true
  · subst c4
    have H1 : ((impl_key.f k a0_0 l0_1 l0_2 a1).bind fun t148 => (some t148)) = some r := by rw [if_pos rfl] at H; exact H
    clear H
    have H := H1
    clear H1
    replace H := Option.bind_eq_some_iff.mp H
    obtain ⟨t148, A50, H⟩ := H
    replace H : (some t148) = some r := H
    have A5 := Aside0.mk A50
    clear A50
    obtain rfl := Option.some.inj H
    go_enter Try.func36, Try.ntmps36
    go_wp2_with (first | ((with_reducible refine gate_dst (N := 2) rfl ?_); refine box_event ?hg (N := 2) ?hd (cs := #[.string a0_0, .slice A0_1 l0_1.length c0_1, .slice A0_2 l0_2.length c0_2]) (t := 25) ?hr ?_; (case hd => rfl); (case hg => rfl); (case hr => first | (go_simp; done) | (go_simp; rfl)); intro gb146 hg w6 hbox hb; have n0_ := Aside0.mk (below_step (by repeat (first | (with_reducible first | exact HB.out | apply below_alloc | apply pw_below_drewN | apply below_drew1) | exact HB.out)) hb); have n1_ := Aside0.mk (hbox); have n2_ := Aside0.mk ((by rw [hg]; exact (below_size (by repeat (first | (with_reducible first | exact HB.out | apply below_alloc | apply pw_below_drewN | apply below_drew1) | exact HB.out))) : w.heap.size ≤ gb146)); have n3_ := Aside0.mk ((by rw [hg]; exact (below_size (by repeat (first | (with_reducible first | exact HB.out | apply below_alloc | apply pw_below_drewN | apply below_drew1) | exact HB.out))) : w.heap.size ≤ gb146)); clear HB; have HB := n0_; have BK146 := n1_; have GW146 := n2_; have GE146 := n3_; clear n0_ n1_ n2_ n3_; clear hb hbox hg; have hcz7_0 : w6.cell? ⟨gb146, 0, none⟩ = some (.string a0_0) := (blk_cell BK146.out 0).trans rfl; have hcz7_1 : w6.cell? ⟨gb146, 1, none⟩ = some (.slice A0_1 l0_1.length c0_1) := (blk_cell BK146.out 1).trans rfl; have hcz7_2 : w6.cell? ⟨gb146, 2, none⟩ = some (.slice A0_2 l0_2.length c0_2) := (blk_cell BK146.out 2).trans rfl; have hfz7_0 := blk_frozen BK146.out 0; have hfz7_1 := blk_frozen BK146.out 1; have hfz7_2 := blk_frozen BK146.out 2) | ((with_reducible refine gate_callee (f := 31) rfl ?_); refine goesL_ (some 6) rfl rfl Try.func31 (by kernel_rfl) rfl #[.agg #[.string a0_0, .slice A0_1 l0_1.length c0_1, .slice A0_2 l0_2.length c0_2]] rfl (by (try simp only [List.map_toArray, List.map_cons, List.map_nil]); first | done | rfl | (simp only [List.length_drop, List.length_take]; rfl)) ?_; (with_reducible refine (impl_FontOk.calls k a0_0 _ _ l0_1 _ _ l0_2 true _ ?side1 ?side2 ?side3 ?side4 A3.out).mono ?_); (case side1 => repeat (first | exact (Kd.C_below HR0_1.out HB.out) | (with_reducible refine Kd.C_alloc ?_ _) | (with_reducible refine Kd.C_drewN ?_ _) | (with_reducible refine Kd.C_drew ?_))); (case side2 => exact HC0_1.out); (case side3 => repeat (first | exact (Kd.C_below HR0_2.out HB.out) | (with_reducible refine Kd.C_alloc ?_ _) | (with_reducible refine Kd.C_drewN ?_ _) | (with_reducible refine Kd.C_drew ?_))); (case side4 => exact HC0_2.out); rintro e w8 ⟨rfl, hb⟩; refine ⟨_, rfl, ?_⟩; have n0_ := Aside0.mk (blk_below (g := gb146) (o := .cells #[.string a0_0, .slice A0_1 l0_1.length c0_1, .slice A0_2 l0_2.length c0_2] 25 (0, 0)) (by (with_reducible repeat (first | refine blk_drewN ?_ _ | refine blk_drew ?_ | refine blk_alloc ?_ _)); exact BK146.out) hb); have n1_ := Aside0.mk (below_step (by repeat (first | (with_reducible first | exact HB.out | apply below_alloc | apply pw_below_drewN | apply below_drew1 | refine below_set ?_ GE146.out) | exact HB.out)) hb); clear BK146; clear HB; have BK146 := n0_; have HB := n1_; clear n0_ n1_; (try clear hb); (try clear hb2); (try clear hk); (try clear hi); have hcz9_0 : w8.cell? ⟨gb146, 0, none⟩ = some (.string a0_0) := (blk_cell BK146.out 0).trans rfl; have hcz9_1 : w8.cell? ⟨gb146, 1, none⟩ = some (.slice A0_1 l0_1.length c0_1) := (blk_cell BK146.out 1).trans rfl; have hcz9_2 : w8.cell? ⟨gb146, 2, none⟩ = some (.slice A0_2 l0_2.length c0_2) := (blk_cell BK146.out 2).trans rfl; have hfz9_0 := blk_frozen BK146.out 0; have hfz9_1 := blk_frozen BK146.out 1; have hfz9_2 := blk_frozen BK146.out 2) | ((with_reducible refine gate_callee (f := 86) rfl ?_); refine goesL_ (some 10) rfl rfl Try.func86 (by kernel_rfl) rfl #[.agg #[.string a0_0, .slice A0_1 l0_1.length c0_1, .slice A0_2 l0_2.length c0_2], .int .i64 a1] rfl (by (try simp only [List.map_toArray, List.map_cons, List.map_nil]); first | done | rfl | (simp only [List.length_drop, List.length_take]; rfl)) ?_; (with_reducible refine (impl_key.calls k a0_0 _ _ l0_1 _ _ l0_2 a1 t148 _ ?side1 ?side2 ?side3 ?side4 A5.out).mono ?_); (case side1 => repeat (first | exact (Kd.C_below HR0_1.out HB.out) | (with_reducible refine Kd.C_alloc ?_ _) | (with_reducible refine Kd.C_drewN ?_ _) | (with_reducible refine Kd.C_drew ?_))); (case side2 => exact HC0_1.out); (case side3 => repeat (first | exact (Kd.C_below HR0_2.out HB.out) | (with_reducible refine Kd.C_alloc ?_ _) | (with_reducible refine Kd.C_drewN ?_ _) | (with_reducible refine Kd.C_drew ?_))); (case side4 => exact HC0_2.out); rintro e w10 ⟨rfl, hb⟩; refine ⟨_, rfl, ?_⟩; have n0_ := Aside0.mk (blk_below (g := gb146) (o := .cells #[.string a0_0, .slice A0_1 l0_1.length c0_1, .slice A0_2 l0_2.length c0_2] 25 (0, 0)) (by (with_reducible repeat (first | refine blk_drewN ?_ _ | refine blk_drew ?_ | refine blk_alloc ?_ _)); exact BK146.out) hb); have n1_ := Aside0.mk (below_step (by repeat (first | (with_reducible first | exact HB.out | apply below_alloc | apply pw_below_drewN | apply below_drew1 | refine below_set ?_ GE146.out) | exact HB.out)) hb); clear BK146; clear HB; have BK146 := n0_; have HB := n1_; clear n0_ n1_; (try clear hb); (try clear hb2); (try clear hk); (try clear hi)))
    go_ret
    exact ⟨by first | rfl | (simp only [i64_w, i32_w]; rfl) | (simp only [i64_w, i32_w, wrap64_zero, Int.sub_zero, Int.add_zero, Int.mul_zero, Int.zero_mul]; rfl) | (simp [errW_none, errW_some] <;> rfl) | (simp [*, errW_none, errW_some] <;> rfl), by repeat (first | (with_reducible first | exact HB.out | apply below_alloc | apply pw_below_drewN | apply below_drew1 | refine below_set ?_ GE146.out) | exact HB.out)⟩
  · replace c4 := Bool.eq_false_iff.mpr c4
    subst c4
    have H1 : (some (-1)) = some r := by rw [if_neg (show ¬ (false = true) by decide)] at H; exact H
    clear H
    have H := H1
    clear H1
    obtain rfl := Option.some.inj H
    go_enter Try.func36, Try.ntmps36
    go_wp2_with (first | ((with_reducible refine gate_dst (N := 2) rfl ?_); refine box_event ?hg (N := 2) ?hd (cs := #[.string a0_0, .slice A0_1 l0_1.length c0_1, .slice A0_2 l0_2.length c0_2]) (t := 25) ?hr ?_; (case hd => rfl); (case hg => rfl); (case hr => first | (go_simp; done) | (go_simp; rfl)); intro gb146 hg w11 hbox hb; have n0_ := Aside0.mk (below_step (by repeat (first | (with_reducible first | exact HB.out | apply below_alloc | apply pw_below_drewN | apply below_drew1) | exact HB.out)) hb); have n1_ := Aside0.mk (hbox); have n2_ := Aside0.mk ((by rw [hg]; exact (below_size (by repeat (first | (with_reducible first | exact HB.out | apply below_alloc | apply pw_below_drewN | apply below_drew1) | exact HB.out))) : w.heap.size ≤ gb146)); have n3_ := Aside0.mk ((by rw [hg]; exact (below_size (by repeat (first | (with_reducible first | exact HB.out | apply below_alloc | apply pw_below_drewN | apply below_drew1) | exact HB.out))) : w.heap.size ≤ gb146)); clear HB; have HB := n0_; have BK146 := n1_; have GW146 := n2_; have GE146 := n3_; clear n0_ n1_ n2_ n3_; clear hb hbox hg; have hcz12_0 : w11.cell? ⟨gb146, 0, none⟩ = some (.string a0_0) := (blk_cell BK146.out 0).trans rfl; have hcz12_1 : w11.cell? ⟨gb146, 1, none⟩ = some (.slice A0_1 l0_1.length c0_1) := (blk_cell BK146.out 1).trans rfl; have hcz12_2 : w11.cell? ⟨gb146, 2, none⟩ = some (.slice A0_2 l0_2.length c0_2) := (blk_cell BK146.out 2).trans rfl; have hfz12_0 := blk_frozen BK146.out 0; have hfz12_1 := blk_frozen BK146.out 1; have hfz12_2 := blk_frozen BK146.out 2) | ((with_reducible refine gate_callee (f := 31) rfl ?_); refine goesL_ (some 6) rfl rfl Try.func31 (by kernel_rfl) rfl #[.agg #[.string a0_0, .slice A0_1 l0_1.length c0_1, .slice A0_2 l0_2.length c0_2]] rfl (by (try simp only [List.map_toArray, List.map_cons, List.map_nil]); first | done | rfl | (simp only [List.length_drop, List.length_take]; rfl)) ?_; (with_reducible refine (impl_FontOk.calls k a0_0 _ _ l0_1 _ _ l0_2 false _ ?side1 ?side2 ?side3 ?side4 A3.out).mono ?_); (case side1 => repeat (first | exact (Kd.C_below HR0_1.out HB.out) | (with_reducible refine Kd.C_alloc ?_ _) | (with_reducible refine Kd.C_drewN ?_ _) | (with_reducible refine Kd.C_drew ?_))); (case side2 => exact HC0_1.out); (case side3 => repeat (first | exact (Kd.C_below HR0_2.out HB.out) | (with_reducible refine Kd.C_alloc ?_ _) | (with_reducible refine Kd.C_drewN ?_ _) | (with_reducible refine Kd.C_drew ?_))); (case side4 => exact HC0_2.out); rintro e w13 ⟨rfl, hb⟩; refine ⟨_, rfl, ?_⟩; have n0_ := Aside0.mk (blk_below (g := gb146) (o := .cells #[.string a0_0, .slice A0_1 l0_1.length c0_1, .slice A0_2 l0_2.length c0_2] 25 (0, 0)) (by (with_reducible repeat (first | refine blk_drewN ?_ _ | refine blk_drew ?_ | refine blk_alloc ?_ _)); exact BK146.out) hb); have n1_ := Aside0.mk (below_step (by repeat (first | (with_reducible first | exact HB.out | apply below_alloc | apply pw_below_drewN | apply below_drew1 | refine below_set ?_ GE146.out) | exact HB.out)) hb); clear BK146; clear HB; have BK146 := n0_; have HB := n1_; clear n0_ n1_; (try clear hb); (try clear hb2); (try clear hk); (try clear hi)))
    go_ret
    exact ⟨by first | rfl | (simp only [i64_w, i32_w]; rfl) | (simp only [i64_w, i32_w, wrap64_zero, Int.sub_zero, Int.add_zero, Int.mul_zero, Int.zero_mul]; rfl) | (simp [errW_none, errW_some] <;> rfl) | (simp [*, errW_none, errW_some] <;> rfl), by repeat (first | (with_reducible first | exact HB.out | apply below_alloc | apply pw_below_drewN | apply below_drew1 | refine below_set ?_ GE146.out) | exact HB.out)⟩

end Go.Proofs.Ytilbngklgjjblaa.Q
