/- Contracts of Go functions over this translation. Conditions: those that each theorem names. -/
import Derived.Test.YtilbngklgjjblaaQ0
import Derived.Test.YtilbngklgjjblaaQ7
namespace Go.Proofs.Ytilbngklgjjblaa.Q
open Go.RowKit Go.Proofs.YtilbngklgjjblaaW.PrintWords Go.Proofs.YtilbngklgjjblaaW.PrintLast Go.Proofs.YtilbngklgjjblaaW.PrintMore
attribute [local go_sem] max2_int min2_int max_two min_two max_three min_three max_four min_four
set_option linter.unusedVariables false
set_option linter.unusedSimpArgs false

/-- How many elements of a row are as a function says. -/
def cntRow (q : Int → S30 → Bool) (i : Int) : List S30 → Int → Int
  | [], n => n
  | x :: r, n => cntRow q i r (if q i x = true then wrap64 (n + 1) else n)
/-- How many elements of all rows. -/
def cntAll (q : Int → S30 → Bool) : Int → List (List S30) → Int → Int
  | _, [], n => n
  | i, ch :: r, n => cntAll q (i + 1) r (cntRow q i ch n)
theorem at_rows {w : World} {A : Option Addr} {n : Nat} {xs : List (List S30)} (h : Kd.C (Kd.slice 30 k30) w A n xs) (i : Int) (h0 : 0 ≤ i) (h1 : i < n) : ∃ ad A0 c0, A = some ad ∧ w.cell? (ad.add i.toNat) = some (.slice A0 (xs.getD i.toNat []).length c0) ∧ (xs.getD i.toNat []).length ≤ c0 ∧ k30.C w A0 (xs.getD i.toNat []).length (xs.getD i.toNat []) := by
 obtain ⟨ad, c, e, _, hK, hc0⟩ := Kd.C_get h ([] : List S30) i h0 h1
 have hc : ∀ j u, c[j]? = some u → w.cell? (ad.add (i.toNat * 1 + j)) = some u := hc0
 obtain ⟨A0, c0, rfl, l0, g0⟩ := hK
 exact ⟨ad, A0, c0, e, by have hq := hc 0 _ rfl; rwa [Nat.mul_one, Nat.add_zero] at hq, l0, g0⟩
set_option maxHeartbeats 4000000 in
set_option maxRecDepth 100000 in
theorem impl_counted.calls (q : Int → S30 → Bool) (g : Nat) (lb : Array Value) (k : Nat) (a0_0 : ByteArray) (A0_1 : Option Addr) (c0_1 : Nat) (l0_1 : List Int) (A0_2 : Option Addr) (c0_2 : Nat) (l0_2 : List Int) (A1 : Option Addr) (c1 : Nat) (l1 : List (List S30)) (b : Bool) (w : World)
    (eg : ∀ args w, (callFunc g args).run Try.prog w = .ok (.enter g args) w)
    (hr0_1 : Kd.C (Kd.int .i64) w A0_1 l0_1.length l0_1) (hc0_1 : l0_1.length ≤ c0_1) (hr0_2 : Kd.C (Kd.int .i64) w A0_2 l0_2.length l0_2) (hc0_2 : l0_2.length ≤ c0_2) (hr1 : Kd.C (Kd.slice 30 k30) w A1 l1.length l1) (hc1 : l1.length ≤ c1)
    (h : impl_MagazineOk.f k a0_0 l0_1 l0_2 l1 = some b)
    (hf : b = true → ∀ W (i : Int) ch x, ch ∈ l1 → x ∈ ch → Below w.heap.size w W → Calls Try.prog g (#[.int .i64 i, .agg #[.int .i64 x.f0, .int .i64 x.f1]] ++ lb) W fun e W' => e = .returned (.bool (q i x)) ∧ Below W.heap.size W W') :
    Calls Try.prog 88 #[.agg #[.string a0_0, .slice A0_1 l0_1.length c0_1, .slice A0_2 l0_2.length c0_2], .slice A1 l1.length c1, .func (.func g) #[] lb] w fun e w' => e = .returned (.int .i64 (if b = true then cntAll q 0 l1 0 else -1)) ∧ Below w.heap.size w w' := by
 have hu25 := Try.underlying25
 have hu30 := Try.underlying30
 have hlen : l1.length ≤ 9223372036854775807 := hr1.2.1
 have HR1 := M_ hr0_1
 have HR2 := M_ hr0_2
 have HR3 := M_ hr1
 have HC1 := M_ hc0_1
 have HC2 := M_ hc0_2
 have HC3 := M_ hc1
 have HF := M_ hf
 have HH := M_ h
 have HB := M_ (below_alloc (Below.refl w.heap.size w) (.cells #[.string a0_0, .slice A0_1 l0_1.length c0_1, .slice A0_2 l0_2.length c0_2] 25))
 clear hr0_1 hc0_1 hr0_2 hc0_2 hr1 hc1 hf h
 cases b with
 | false =>
  go_enter Try.func88, Try.ntmps88
  go_wp2_with (go_at_call 44; refine (impl_MagazineOk.calls k a0_0 A0_1 c0_1 l0_1 A0_2 c0_2 l0_2 A1 c1 l1 false _ (Kd.C_below HR1.out HB.out) HC1.out (Kd.C_below HR2.out HB.out) HC2.out (Kd.C_below HR3.out HB.out) HC3.out HH.out).mono ?_; rintro e w' ⟨rfl, hb1⟩; have HB2 := M_ (HB.out.trans (hb1.mono HB.out.size)); clear hb1)
  go_ret
  exact ⟨rfl, HB2.out⟩
 | true =>
  rw [if_pos (rfl : true = true)]
  go_enter Try.func88, Try.ntmps88
  go_wp2_with (go_at_call 44; refine (impl_MagazineOk.calls k a0_0 A0_1 c0_1 l0_1 A0_2 c0_2 l0_2 A1 c1 l1 true _ (Kd.C_below HR1.out HB.out) HC1.out (Kd.C_below HR2.out HB.out) HC2.out (Kd.C_below HR3.out HB.out) HC3.out HH.out).mono ?_; rintro e w' ⟨rfl, hb1⟩; have HB2 := M_ (HB.out.trans (hb1.mono HB.out.size)); clear hb1)
  go_loopg [7, 8, 9, 11, 18] l1.length (fun gg s7 s8 s9 s11 s18 wx => ∃ (i n : Int), 0 ≤ i ∧ i + gg = l1.length ∧ s7 = .int .i64 n ∧ s18 = .int .i64 i ∧ Aside0 (cntAll q 0 l1 0 = cntAll q i (l1.drop i.toNat) n) ∧ Aside0 (Below w.heap.size w wx))
  case atStart => exact ⟨0, 0, by omega, by omega, rfl, rfl, ⟨by simp⟩, ⟨HB2.out⟩⟩
  case round =>
   obtain ⟨i, n, hi0, hig, rfl, rfl, HL, HBX⟩ := hrel
   cases gk with
   | zero =>
    have hje : i = (l1.length : Int) := by omega
    subst hje
    have HE : cntAll q 0 l1 0 = n := by
     rw [HL.out, Int.toNat_natCast, List.drop_eq_nil_of_le (Nat.le_refl _), cntAll]
    have HE' := M_ HE
    clear HE hi0 hig
    have c14b0 : decide ((l1.length : Int) < (l1.length : Int)) = false := by simp
    go_wp2_with fail
    go_ret
    exact ⟨by rw [HE'.out]; rfl, HBX.out⟩
   | succ gk =>
    have hlt : i < (l1.length : Int) := by omega
    have c14b0 : decide (i < (l1.length : Int)) = true := dt_ hlt
    obtain ⟨ad, Ar, cr, e1, hx0, hlr, hrr⟩ := at_rows HR3.out i hi0 hlt
    cases e1
    replace hx0 := (HBX.out.cell (World.block_lt_of_cell? w _ hx0)).trans hx0
    have hrow : l1.getD i.toNat [] = l1[i.toNat]'(by omega) := by simp [List.getD_eq_getElem?_getD, show i.toNat < l1.length by omega]
    have hstep : cntAll q i (l1.drop i.toNat) n = cntAll q (i + 1) (l1.drop (i.toNat + 1)) (cntRow q i (l1.getD i.toNat []) n) := by
     rw [List.drop_eq_getElem_cons (show i.toNat < l1.length by omega), cntAll, hrow]
    have hmem : l1.getD i.toNat [] ∈ l1 := by rw [hrow]; exact List.getElem_mem _
    generalize l1.getD i.toNat [] = ch at hx0 hlr hrr hstep hmem
    have hchl : ch.length ≤ 9223372036854775807 := hrr.2.1
    have HRR := M_ hrr
    have HST := M_ hstep
    have HME := M_ hmem
    have HIG := M_ hig
    have p18 : (0 ≤ i) = True := eq_true hi0
    have q18 : (i < (l1.length : Int)) = True := eq_true hlt
    clear hrow hstep hmem hrr hig hi0 hlt hlr
    go_wp2_with fail
    go_loopg [7, 11, 25] ch.length (fun g2 s7 s11 s25 wy => ∃ (j n2 : Int), 0 ≤ j ∧ j + g2 = ch.length ∧ s7 = .int .i64 n2 ∧ s25 = .int .i64 j ∧ Aside0 (cntRow q i ch n = cntRow q i (ch.drop j.toNat) n2) ∧ Aside0 (Below w.heap.size w wy))
    case atStart => exact ⟨0, n, by omega, by omega, rfl, rfl, ⟨by simp⟩, ⟨HBX.out⟩⟩
    case round =>
     obtain ⟨j, n2, hj0, hjg, rfl, rfl, HL2, HBY⟩ := hrel
     cases gk with
     | zero =>
      have hje : j = (ch.length : Int) := by omega
      subst hje
      have HE : cntRow q i ch n = n2 := by
       rw [HL2.out, Int.toNat_natCast, List.drop_eq_nil_of_le (Nat.le_refl _), cntRow]
      have HE' := M_ HE
      clear HE hj0 hjg
      have c14b1 : decide ((ch.length : Int) < (ch.length : Int)) = false := by simp
      go_wp2_with fail
      go_roundg gk
      case measure => omega
      case rel =>
       have hig := HIG.out
       have hi0 := of_eq_true p18
       have hw : wrap64 (i + 1) = i + 1 := by unfold wrap64; omega
       have ht : (i + 1).toNat = i.toNat + 1 := by omega
       exact ⟨i + 1, n2, by omega, by omega, rfl, by rw [hw], ⟨by rw [HL.out, HST.out, HE'.out, ht]⟩, ⟨HBY.out⟩⟩
     | succ g2 =>
      have hlt : j < (ch.length : Int) := by omega
      have c14b1 : decide (j < (ch.length : Int)) = true := dt_ hlt
      obtain ⟨ad2, e2, hy0, hy1⟩ := at_T30 HRR.out j hj0 hlt
      cases e2
      replace hy0 := (HBY.out.cell (World.block_lt_of_cell? w _ hy0)).trans hy0
      replace hy1 := (HBY.out.cell (World.block_lt_of_cell? w _ hy1)).trans hy1
      have hel : rd_T30 ch j = ch[j.toNat]'(by omega) := by simp [rd_T30, List.getD_eq_getElem?_getD, show j.toNat < ch.length by omega]
      have hmem2 : rd_T30 ch j ∈ ch := by rw [hel]; exact List.getElem_mem _
      have hcall := fun W hW => HF.out (by trivial) W i ch (rd_T30 ch j) HME.out hmem2 hW
      have hstep2 : cntRow q i (ch.drop j.toNat) n2 = cntRow q i (ch.drop (j.toNat + 1)) (if q i (rd_T30 ch j) = true then wrap64 (n2 + 1) else n2) := by
       rw [List.drop_eq_getElem_cons (show j.toNat < ch.length by omega), cntRow, hel]
      have HJ := M_ hjg
      have p19 : (0 ≤ j) = True := eq_true hj0
      have q19 : (j < (ch.length : Int)) = True := eq_true hlt
      clear hel hmem2 hjg hj0 hlt
      generalize rd_T30 ch j = x at hy0 hy1 hcall hstep2
      have HCA := M_ hcall
      clear hcall
      cases hq : q i x with
      | true =>
       rw [hq, if_pos rfl] at hstep2
       have HS2 := M_ hstep2
       have HQ := M_ hq
       clear hstep2 hq
       go_wp2_with (go_at_fn g; refine (HCA.out _ (below_alloc HBY.out _)).mono ?_; rintro e w' ⟨rfl, hb1⟩; rw [HQ.out]; have HB3 := M_ ((below_alloc HBY.out _).trans (hb1.mono (below_alloc HBY.out _).size)); clear hb1)
       go_roundg g2
       case measure => omega
       case rel =>
        have hjg := HJ.out
        have hj0 := of_eq_true p19
        have hw : wrap64 (j + 1) = j + 1 := by unfold wrap64; omega
        have ht : (j + 1).toNat = j.toNat + 1 := by omega
        exact ⟨j + 1, wrap64 (n2 + 1), by omega, by omega, rfl, by rw [hw], ⟨by rw [HL2.out, HS2.out, ht]⟩, ⟨HB3.out⟩⟩
      | false =>
       rw [hq, if_neg (by decide)] at hstep2
       have HS2 := M_ hstep2
       have HQ := M_ hq
       clear hstep2 hq
       go_wp2_with (go_at_fn g; refine (HCA.out _ (below_alloc HBY.out _)).mono ?_; rintro e w' ⟨rfl, hb1⟩; rw [HQ.out]; have HB3 := M_ ((below_alloc HBY.out _).trans (hb1.mono (below_alloc HBY.out _).size)); clear hb1)
       go_roundg g2
       case measure => omega
       case rel =>
        have hjg := HJ.out
        have hj0 := of_eq_true p19
        have hw : wrap64 (j + 1) = j + 1 := by unfold wrap64; omega
        have ht : (j + 1).toNat = j.toNat + 1 := by omega
        exact ⟨j + 1, n2, by omega, by omega, rfl, by rw [hw], ⟨by rw [HL2.out, HS2.out, ht]⟩, ⟨HB3.out⟩⟩

-- NOT PRINTED: function 89 (impl_CountStrays_1)

def impl_CountStrays.f (k : Nat) (a0_0 : ByteArray) (l0_1 l0_2 : List Int) (l1 : List (List S30)) : Option Int := (impl_MagazineOk.f k a0_0 l0_1 l0_2 l1).bind fun t => some (if t = true then cntAll (fun i x => x.f0 != i) 0 l1 0 else -1)
theorem impl_CountStrays.mono : ∀ a0 a1 a2 a3 k, LeO (impl_CountStrays.f k a0 a1 a2 a3) (impl_CountStrays.f (k + 1) a0 a1 a2 a3) := by
 intro a0 a1 a2 a3 k
 unfold impl_CountStrays.f
 exact LeO.bind (impl_MagazineOk.mono _ _ _ _ _) (fun _ => LeO.refl _)
theorem impl_CountStrays_1.calls (i : Int) (x : S30) (w : World) : Calls Try.prog 89 #[.int .i64 i, .agg #[.int .i64 x.f0, .int .i64 x.f1]] w fun e w' => e = .returned (.bool (x.f0 != i)) ∧ Below w.heap.size w w' := by
 have hu30 := Try.underlying30
 have HB := M_ (Below.refl w.heap.size w)
 go_enter Try.func89, Try.ntmps89
 go_wp2_with fail
 go_ret
 exact ⟨rfl, by first | exact HB.out | exact below_alloc HB.out _⟩
set_option maxHeartbeats 2000000 in
theorem impl_CountStrays.calls (k : Nat) (a0_0 : ByteArray) (A0_1 : Option Addr) (c0_1 : Nat) (l0_1 : List Int) (A0_2 : Option Addr) (c0_2 : Nat) (l0_2 : List Int) (A1 : Option Addr) (c1 : Nat) (l1 : List (List S30)) (r : Int) (w : World)
    (hr0_1 : Kd.C (Kd.int .i64) w A0_1 l0_1.length l0_1) (hc0_1 : l0_1.length ≤ c0_1) (hr0_2 : Kd.C (Kd.int .i64) w A0_2 l0_2.length l0_2) (hc0_2 : l0_2.length ≤ c0_2) (hr1 : Kd.C (Kd.slice 30 k30) w A1 l1.length l1) (hc1 : l1.length ≤ c1) (h : impl_CountStrays.f k a0_0 l0_1 l0_2 l1 = some r) :
    Calls Try.prog 47 #[.agg #[.string a0_0, .slice A0_1 l0_1.length c0_1, .slice A0_2 l0_2.length c0_2], .slice A1 l1.length c1] w fun e w' => e = .returned (.int .i64 r) ∧ Below w.heap.size w w' := by
 unfold impl_CountStrays.f at h
 obtain ⟨b, hb, h⟩ := Option.bind_eq_some_iff.1 h
 obtain rfl := Option.some.inj h
 clear h
 have hu25 := Try.underlying25
 have eg : ∀ args w, (callFunc 89 args).run Try.prog w = .ok (.enter 89 args) w := enters_of Try.func89 (by kernel_rfl) rfl
 have HB := M_ (below_alloc (Below.refl w.heap.size w) (.cells #[.string a0_0, .slice A0_1 l0_1.length c0_1, .slice A0_2 l0_2.length c0_2] 25))
 have hc := impl_counted.calls (fun i x => x.f0 != i) 89 #[] k a0_0 A0_1 c0_1 l0_1 A0_2 c0_2 l0_2 A1 c1 l1 b (w.alloc (.cells #[.string a0_0, .slice A0_1 l0_1.length c0_1, .slice A0_2 l0_2.length c0_2] 25)) eg
  (Kd.C_alloc hr0_1 _) hc0_1 (Kd.C_alloc hr0_2 _) hc0_2 (Kd.C_alloc hr1 _) hc1 hb (fun _ W i ch x _ _ _ => impl_CountStrays_1.calls i x W)
 generalize (if b = true then cntAll (fun i x => x.f0 != i) 0 l1 0 else -1) = r at hc ⊢
 have HC := M_ hc
 clear hc hr0_1 hr0_2 hr1 hc0_1 hc0_2 hc1 hb eg
 go_enter Try.func47, Try.ntmps47
 go_wp2_with (go_at_call 88; refine HC.out.mono ?_; rintro e w' ⟨rfl, hb1⟩; have HB2 := M_ (HB.out.trans (hb1.mono HB.out.size)); clear hb1)
 go_ret
 exact ⟨rfl, HB2.out⟩

-- NOT PRINTED: function 90 (impl_CountWorn_1)

def impl_CountWorn.f (k : Nat) (a0_0 : ByteArray) (l0_1 l0_2 : List Int) (l1 : List (List S30)) : Option Int := (impl_MagazineOk.f k a0_0 l0_1 l0_2 l1).bind fun t => if t = true then (if (l1.all fun ch => ch.all fun x => decide (0 ≤ x.f0) && decide (x.f0 < (l0_2.length : Int))) = true then some (cntAll (fun _ x => x.f1 != rd l0_2 x.f0) 0 l1 0) else none) else some (-1)
theorem impl_CountWorn.mono : ∀ a0 a1 a2 a3 k, LeO (impl_CountWorn.f k a0 a1 a2 a3) (impl_CountWorn.f (k + 1) a0 a1 a2 a3) := by
 intro a0 a1 a2 a3 k
 unfold impl_CountWorn.f
 exact LeO.bind (impl_MagazineOk.mono _ _ _ _ _) (fun _ => LeO.refl _)
set_option maxHeartbeats 2000000 in
theorem impl_CountWorn_1.calls (i : Int) (x : S30) (q : Nat) (a0_0 : ByteArray) (A0_1 : Option Addr) (n0_1 c0_1 : Nat) (A0_2 : Option Addr) (c0_2 : Nat) (l0_2 : List Int) (w : World) (hr0_2 : Kd.C (Kd.int .i64) w A0_2 l0_2.length l0_2) (hx0 : w.cell? ⟨q, 0, none⟩ = some (.string a0_0)) (hx1 : w.cell? ⟨q, 1, none⟩ = some (.slice A0_1 n0_1 c0_1)) (hx2 : w.cell? ⟨q, 2, none⟩ = some (.slice A0_2 l0_2.length c0_2)) (h0 : 0 ≤ x.f0) (h1 : x.f0 < (l0_2.length : Int)) :
    Calls Try.prog 90 #[.int .i64 i, .agg #[.int .i64 x.f0, .int .i64 x.f1], .pointer (some ⟨q, 0, none⟩)] w fun e w' => e = .returned (.bool (x.f1 != rd l0_2 x.f0)) ∧ Below w.heap.size w w' := by
 have hu25 := Try.underlying25
 have hu30 := Try.underlying30
 have HB := M_ (Below.refl w.heap.size w)
 have hlen : l0_2.length ≤ 9223372036854775807 := hr0_2.2.1
 obtain ⟨ad, e1, hx⟩ := Kd.at_int hr0_2 x.f0 h0 h1
 cases e1
 have p18 : (0 ≤ x.f0) = True := eq_true h0
 have q18 : (x.f0 < (l0_2.length : Int)) = True := eq_true h1
 have hb := below_alloc (Below.refl w.heap.size w) (.cells #[.int .i64 x.f0, .int .i64 x.f1] 30)
 have hy := (hb.cell (World.block_lt_of_cell? w _ hx)).trans hx
 have hy2 := (hb.cell (World.block_lt_of_cell? w _ hx2)).trans hx2
 have HB1 := M_ hb
 clear hr0_2 h0 h1 hx hx0 hx1 hx2 hb
 go_enter Try.func90, Try.ntmps90
 go_wp2
 repeat (go_quiet (fail); try go_wp2)
 all_goals go_ret
 all_goals exact ⟨rfl, by repeat (first | exact HB1.out | exact HB.out | apply pw_below_drewN | apply below_drew1)⟩
set_option maxHeartbeats 2000000 in
theorem impl_CountWorn.calls (k : Nat) (a0_0 : ByteArray) (A0_1 : Option Addr) (c0_1 : Nat) (l0_1 : List Int) (A0_2 : Option Addr) (c0_2 : Nat) (l0_2 : List Int) (A1 : Option Addr) (c1 : Nat) (l1 : List (List S30)) (r : Int) (w : World)
    (hr0_1 : Kd.C (Kd.int .i64) w A0_1 l0_1.length l0_1) (hc0_1 : l0_1.length ≤ c0_1) (hr0_2 : Kd.C (Kd.int .i64) w A0_2 l0_2.length l0_2) (hc0_2 : l0_2.length ≤ c0_2) (hr1 : Kd.C (Kd.slice 30 k30) w A1 l1.length l1) (hc1 : l1.length ≤ c1) (h : impl_CountWorn.f k a0_0 l0_1 l0_2 l1 = some r) :
    Calls Try.prog 49 #[.agg #[.string a0_0, .slice A0_1 l0_1.length c0_1, .slice A0_2 l0_2.length c0_2], .slice A1 l1.length c1] w fun e w' => e = .returned (.int .i64 r) ∧ Below w.heap.size w w' := by
 unfold impl_CountWorn.f at h
 obtain ⟨b, hb, h⟩ := Option.bind_eq_some_iff.1 h
 have hu25 := Try.underlying25
 have eg : ∀ args w, (callFunc 90 args).run Try.prog w = .ok (.enter 90 args) w := enters_of Try.func90 (by kernel_rfl) rfl
 have HB := M_ (below_alloc (Below.refl w.heap.size w) (.cells #[.string a0_0, .slice A0_1 l0_1.length c0_1, .slice A0_2 l0_2.length c0_2] 25))
 have hr : (if b = true then cntAll (fun _ x => x.f1 != rd l0_2 x.f0) 0 l1 0 else -1) = r := by
  cases b with
  | true =>
   rw [if_pos rfl] at h ⊢
   by_cases ha : (l1.all fun ch => ch.all fun x => decide (0 ≤ x.f0) && decide (x.f0 < (l0_2.length : Int))) = true
   ·rw [if_pos ha] at h; exact Option.some.inj h
   ·rw [if_neg ha] at h; cases h
  | false => rw [if_neg (by decide)] at h ⊢; exact Option.some.inj h
 have hall : b = true → ∀ ch x, ch ∈ l1 → x ∈ ch → 0 ≤ x.f0 ∧ x.f0 < (l0_2.length : Int) := by
  intro hbt ch x h1 h2
  rw [if_pos hbt] at h
  by_cases ha : (l1.all fun ch => ch.all fun x => decide (0 ≤ x.f0) && decide (x.f0 < (l0_2.length : Int))) = true
  ·have h3 := List.all_eq_true.1 (List.all_eq_true.1 ha ch h1) x h2
   rw [Bool.and_eq_true, decide_eq_true_eq, decide_eq_true_eq] at h3
   exact h3
  ·rw [if_neg ha] at h; cases h
 have hs : w.heap.size < (w.alloc (.cells #[.string a0_0, .slice A0_1 l0_1.length c0_1, .slice A0_2 l0_2.length c0_2] 25)).heap.size := by simp
 have hc := impl_counted.calls (fun _ x => x.f1 != rd l0_2 x.f0) 90 #[.pointer (some ⟨w.heap.size, 0, none⟩)] k a0_0 A0_1 c0_1 l0_1 A0_2 c0_2 l0_2 A1 c1 l1 b (w.alloc (.cells #[.string a0_0, .slice A0_1 l0_1.length c0_1, .slice A0_2 l0_2.length c0_2] 25)) eg
  (Kd.C_alloc hr0_1 _) hc0_1 (Kd.C_alloc hr0_2 _) hc0_2 (Kd.C_alloc hr1 _) hc1 hb (fun hbt W i ch x h1 h2 hW => impl_CountWorn_1.calls i x w.heap.size a0_0 A0_1 l0_1.length c0_1 A0_2 c0_2 l0_2 W (Kd.C_below (Kd.C_alloc hr0_2 _) hW) ((hW.cell (p := ⟨w.heap.size, 0, none⟩) hs).trans (by simp)) ((hW.cell (p := ⟨w.heap.size, 1, none⟩) hs).trans (by simp)) ((hW.cell (p := ⟨w.heap.size, 2, none⟩) hs).trans (by simp)) (hall hbt ch x h1 h2).1 (hall hbt ch x h1 h2).2)
 rw [hr] at hc
 have HC := M_ hc
 clear hc hr0_1 hr0_2 hr1 hc0_1 hc0_2 hc1 hb eg hall hr h hs
 go_enter Try.func49, Try.ntmps49
 go_wp2_with (go_at_call 88; refine HC.out.mono ?_; rintro e w' ⟨rfl, hb1⟩; have HB2 := M_ (HB.out.trans (hb1.mono HB.out.size)); clear hb1)
 go_ret
 exact ⟨rfl, HB2.out⟩

end Go.Proofs.Ytilbngklgjjblaa.Q
