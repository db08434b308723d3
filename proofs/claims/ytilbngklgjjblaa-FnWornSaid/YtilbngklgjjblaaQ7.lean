/- Contracts of Go functions over this translation. Conditions: those that each theorem names. -/
import Derived.Test.YtilbngklgjjblaaQ0
import Derived.Test.YtilbngklgjjblaaQ6
namespace Go.Proofs.Ytilbngklgjjblaa.Q
open Go.RowKit Go.Proofs.YtilbngklgjjblaaW.PrintWords Go.Proofs.YtilbngklgjjblaaW.PrintLast Go.Proofs.YtilbngklgjjblaaW.PrintMore
attribute [local go_sem] max2_int min2_int max_two min_two max_three min_three max_four min_four
set_option linter.unusedVariables false
set_option linter.unusedSimpArgs false

/-- How many elements of a row are as a function says. -/
def cntRow (q : Int → S30 → Bool) (i : Int) : List S30 → Int → Int
  | [], n => n
  | x :: r, n => cntRow q i r (if q i x = true then wrap64 (n + 1) else n)
/-- How many elements of all rows. -/
def cntAll (q : Int → S30 → Bool) : Int → List (List S30) → Int → Int
  | _, [], n => n
  | i, ch :: r, n => cntAll q (i + 1) r (cntRow q i ch n)
theorem at_rows {w : World} {A : Option Addr} {n : Nat} {xs : List (List S30)} (h : Kd.C (Kd.slice 30 k30) w A n xs) (i : Int) (h0 : 0 ≤ i) (h1 : i < n) : ∃ ad A0 c0, A = some ad ∧ w.cell? (ad.add i.toNat) = some (.slice A0 (xs.getD i.toNat []).length c0) ∧ (xs.getD i.toNat []).length ≤ c0 ∧ k30.C w A0 (xs.getD i.toNat []).length (xs.getD i.toNat []) := by
 obtain ⟨ad, c, e, _, hK, hc0⟩ := Kd.C_get h ([] : List S30) i h0 h1
 have hc : ∀ j u, c[j]? = some u → w.cell? (ad.add (i.toNat * 1 + j)) = some u := hc0
 obtain ⟨A0, c0, rfl, l0, g0⟩ := hK
 exact ⟨ad, A0, c0, e, by have hq := hc 0 _ rfl; rwa [Nat.mul_one, Nat.add_zero] at hq, l0, g0⟩
set_option maxHeartbeats 4000000 in
set_option maxRecDepth 100000 in
theorem impl_counted.calls (q : Int → S30 → Bool) (g : Nat) (lb : Array Value) (k : Nat) (a0_0 : ByteArray) (A0_1 : Option Addr) (c0_1 : Nat) (l0_1 : List Int) (A0_2 : Option Addr) (c0_2 : Nat) (l0_2 : List Int) (A1 : Option Addr) (c1 : Nat) (l1 : List (List S30)) (b : Bool) (w : World)
    (eg : ∀ args w, (callFunc g args).run Try.prog w = .ok (.enter g args) w)
    (hr0_1 : Kd.C (Kd.int .i64) w A0_1 l0_1.length l0_1) (hc0_1 : l0_1.length ≤ c0_1) (hr0_2 : Kd.C (Kd.int .i64) w A0_2 l0_2.length l0_2) (hc0_2 : l0_2.length ≤ c0_2) (hr1 : Kd.C (Kd.slice 30 k30) w A1 l1.length l1) (hc1 : l1.length ≤ c1)
    (h : impl_MagazineOk.f k a0_0 l0_1 l0_2 l1 = some b)
    (hf : b = true → ∀ W (i : Int) ch x, ch ∈ l1 → x ∈ ch → Below w.heap.size w W → Calls Try.prog g (#[.int .i64 i, .agg #[.int .i64 x.f0, .int .i64 x.f1]] ++ lb) W fun e W' => e = .returned (.bool (q i x)) ∧ Below W.heap.size W W') :
    Calls Try.prog 88 #[.agg #[.string a0_0, .slice A0_1 l0_1.length c0_1, .slice A0_2 l0_2.length c0_2], .slice A1 l1.length c1, .func (.func g) #[] lb] w fun e w' => e = .returned (.int .i64 (if b = true then cntAll q 0 l1 0 else -1)) ∧ Below w.heap.size w w' := by
 have hu25 := Try.underlying25
 have hu30 := Try.underlying30
 have hlen : l1.length ≤ 9223372036854775807 := hr1.2.1
 have HR1 := M_ hr0_1
 have HR2 := M_ hr0_2
 have HR3 := M_ hr1
 have HC1 := M_ hc0_1
 have HC2 := M_ hc0_2
 have HC3 := M_ hc1
 have HF := M_ hf
 have HH := M_ h
 have HB := M_ (below_alloc (Below.refl w.heap.size w) (.cells #[.string a0_0, .slice A0_1 l0_1.length c0_1, .slice A0_2 l0_2.length c0_2] 25))
 clear hr0_1 hc0_1 hr0_2 hc0_2 hr1 hc1 hf h
 cases b with
 | false =>
  go_enter Try.func88, Try.ntmps88
  go_wp2_with (go_at_call 44; refine (impl_MagazineOk.calls k a0_0 A0_1 c0_1 l0_1 A0_2 c0_2 l0_2 A1 c1 l1 false _ (Kd.C_below HR1.out HB.out) HC1.out (Kd.C_below HR2.out HB.out) HC2.out (Kd.C_below HR3.out HB.out) HC3.out HH.out).mono ?_; rintro e w' ⟨rfl, hb1⟩; have HB2 := M_ (HB.out.trans (hb1.mono HB.out.size)); clear hb1)
  go_ret
  exact ⟨rfl, HB2.out⟩
 | true =>
  rw [if_pos (rfl : true = true)]
  go_enter Try.func88, Try.ntmps88
  go_wp2_with (go_at_call 44; refine (impl_MagazineOk.calls k a0_0 A0_1 c0_1 l0_1 A0_2 c0_2 l0_2 A1 c1 l1 true _ (Kd.C_below HR1.out HB.out) HC1.out (Kd.C_below HR2.out HB.out) HC2.out (Kd.C_below HR3.out HB.out) HC3.out HH.out).mono ?_; rintro e w' ⟨rfl, hb1⟩; have HB2 := M_ (HB.out.trans (hb1.mono HB.out.size)); clear hb1)
  go_loopg [7, 8, 9, 11, 18] l1.length (fun gg s7 s8 s9 s11 s18 wx => ∃ (i n : Int), 0 ≤ i ∧ i + gg = l1.length ∧ s7 = .int .i64 n ∧ s18 = .int .i64 i ∧ Aside0 (cntAll q 0 l1 0 = cntAll q i (l1.drop i.toNat) n) ∧ Aside0 (Below w.heap.size w wx))
  case atStart => exact ⟨0, 0, by omega, by omega, rfl, rfl, ⟨by simp⟩, ⟨HB2.out⟩⟩
  case round =>
   obtain ⟨i, n, hi0, hig, rfl, rfl, HL, HBX⟩ := hrel
   cases gk with
   | zero =>
    have hje : i = (l1.length : Int) := by omega
    subst hje
    have HE : cntAll q 0 l1 0 = n := by
     rw [HL.out, Int.toNat_natCast, List.drop_eq_nil_of_le (Nat.le_refl _), cntAll]
    have HE' := M_ HE
    clear HE hi0 hig
    have c14b0 : decide ((l1.length : Int) < (l1.length : Int)) = false := by simp
    go_wp2_with fail
    go_ret
    exact ⟨by rw [HE'.out]; rfl, HBX.out⟩
   | succ gk =>
    have hlt : i < (l1.length : Int) := by omega
    have c14b0 : decide (i < (l1.length : Int)) = true := dt_ hlt
    obtain ⟨ad, Ar, cr, e1, hx0, hlr, hrr⟩ := at_rows HR3.out i hi0 hlt
    cases e1
    replace hx0 := (HBX.out.cell (World.block_lt_of_cell? w _ hx0)).trans hx0
    have hrow : l1.getD i.toNat [] = l1[i.toNat]'(by omega) := by simp [List.getD_eq_getElem?_getD, show i.toNat < l1.length by omega]
    have hstep : cntAll q i (l1.drop i.toNat) n = cntAll q (i + 1) (l1.drop (i.toNat + 1)) (cntRow q i (l1.getD i.toNat []) n) := by
     rw [List.drop_eq_getElem_cons (show i.toNat < l1.length by omega), cntAll, hrow]
    have hmem : l1.getD i.toNat [] ∈ l1 := by rw [hrow]; exact List.getElem_mem _
    generalize l1.getD i.toNat [] = ch at hx0 hlr hrr hstep hmem
    have hchl : ch.length ≤ 9223372036854775807 := hrr.2.1
    have HRR := M_ hrr
    have HST := M_ hstep
    have HME := M_ hmem
    have HIG := M_ hig
    have p18 : (0 ≤ i) = True := eq_true hi0
    have q18 : (i < (l1.length : Int)) = True := eq_true hlt
    clear hrow hstep hmem hrr hig hi0 hlt hlr
    go_wp2_with fail
    go_loopg [7, 11, 25] ch.length (fun g2 s7 s11 s25 wy => ∃ (j n2 : Int), 0 ≤ j ∧ j + g2 = ch.length ∧ s7 = .int .i64 n2 ∧ s25 = .int .i64 j ∧ Aside0 (cntRow q i ch n = cntRow q i (ch.drop j.toNat) n2) ∧ Aside0 (Below w.heap.size w wy))
    case atStart => exact ⟨0, n, by omega, by omega, rfl, rfl, ⟨by simp⟩, ⟨HBX.out⟩⟩
    case round =>
     obtain ⟨j, n2, hj0, hjg, rfl, rfl, HL2, HBY⟩ := hrel
     cases gk with
     | zero =>
      have hje : j = (ch.length : Int) := by omega
      subst hje
      have HE : cntRow q i ch n = n2 := by
       rw [HL2.out, Int.toNat_natCast, List.drop_eq_nil_of_le (Nat.le_refl _), cntRow]
      have HE' := M_ HE
      clear HE hj0 hjg
      have c14b1 : decide ((ch.length : Int) < (ch.length : Int)) = false := by simp
      go_wp2_with fail
      go_roundg gk
      case measure => omega
      case rel =>
       have hig := HIG.out
       have hi0 := of_eq_true p18
       have hw : wrap64 (i + 1) = i + 1 := by unfold wrap64; omega
       have ht : (i + 1).toNat = i.toNat + 1 := by omega
       exact ⟨i + 1, n2, by omega, by omega, rfl, by rw [hw], ⟨by rw [HL.out, HST.out, HE'.out, ht]⟩, ⟨HBY.out⟩⟩
     | succ g2 =>
      have hlt : j < (ch.length : Int) := by omega
      have c14b1 : decide (j < (ch.length : Int)) = true := dt_ hlt
      obtain ⟨ad2, e2, hy0, hy1⟩ := at_T30 HRR.out j hj0 hlt
      cases e2
      replace hy0 := (HBY.out.cell (World.block_lt_of_cell? w _ hy0)).trans hy0
      replace hy1 := (HBY.out.cell (World.block_lt_of_cell? w _ hy1)).trans hy1
      have hel : rd_T30 ch j = ch[j.toNat]'(by omega) := by simp [rd_T30, List.getD_eq_getElem?_getD, show j.toNat < ch.length by omega]
      have hmem2 : rd_T30 ch j ∈ ch := by rw [hel]; exact List.getElem_mem _
      have hcall := fun W hW => HF.out (by trivial) W i ch (rd_T30 ch j) HME.out hmem2 hW
      have hstep2 : cntRow q i (ch.drop j.toNat) n2 = cntRow q i (ch.drop (j.toNat + 1)) (if q i (rd_T30 ch j) = true then wrap64 (n2 + 1) else n2) := by
       rw [List.drop_eq_getElem_cons (show j.toNat < ch.length by omega), cntRow, hel]
      have HJ := M_ hjg
      have p19 : (0 ≤ j) = True := eq_true hj0
      have q19 : (j < (ch.length : Int)) = True := eq_true hlt
      clear hel hmem2 hjg hj0 hlt
      generalize rd_T30 ch j = x at hy0 hy1 hcall hstep2
      have HCA := M_ hcall
      clear hcall
      cases hq : q i x with
      | true =>
       rw [hq, if_pos rfl] at hstep2
       have HS2 := M_ hstep2
       have HQ := M_ hq
       clear hstep2 hq
       go_wp2_with (go_at_fn g; refine (HCA.out _ (below_alloc HBY.out _)).mono ?_; rintro e w' ⟨rfl, hb1⟩; rw [HQ.out]; have HB3 := M_ ((below_alloc HBY.out _).trans (hb1.mono (below_alloc HBY.out _).size)); clear hb1)
       go_roundg g2
       case measure => omega
       case rel =>
        have hjg := HJ.out
        have hj0 := of_eq_true p19
        have hw : wrap64 (j + 1) = j + 1 := by unfold wrap64; omega
        have ht : (j + 1).toNat = j.toNat + 1 := by omega
        exact ⟨j + 1, wrap64 (n2 + 1), by omega, by omega, rfl, by rw [hw], ⟨by rw [HL2.out, HS2.out, ht]⟩, ⟨HB3.out⟩⟩
      | false =>
       rw [hq, if_neg (by decide)] at hstep2
       have HS2 := M_ hstep2
       have HQ := M_ hq
       clear hstep2 hq
       go_wp2_with (go_at_fn g; refine (HCA.out _ (below_alloc HBY.out _)).mono ?_; rintro e w' ⟨rfl, hb1⟩; rw [HQ.out]; have HB3 := M_ ((below_alloc HBY.out _).trans (hb1.mono (below_alloc HBY.out _).size)); clear hb1)
       go_roundg g2
       case measure => omega
       case rel =>
        have hjg := HJ.out
        have hj0 := of_eq_true p19
        have hw : wrap64 (j + 1) = j + 1 := by unfold wrap64; omega
        have ht : (j + 1).toNat = j.toNat + 1 := by omega
        exact ⟨j + 1, n2, by omega, by omega, rfl, by rw [hw], ⟨by rw [HL2.out, HS2.out, ht]⟩, ⟨HB3.out⟩⟩

-- NOT PRINTED: function 89 (impl_CountStrays_1)

def impl_CountStrays.f (k : Nat) (a0_0 : ByteArray) (l0_1 l0_2 : List Int) (l1 : List (List S30)) : Option Int := (impl_MagazineOk.f k a0_0 l0_1 l0_2 l1).bind fun t => some (if t = true then cntAll (fun i x => x.f0 != i) 0 l1 0 else -1)
theorem impl_CountStrays.mono : ∀ a0 a1 a2 a3 k, LeO (impl_CountStrays.f k a0 a1 a2 a3) (impl_CountStrays.f (k + 1) a0 a1 a2 a3) := by
 intro a0 a1 a2 a3 k
 unfold impl_CountStrays.f
 exact LeO.bind (impl_MagazineOk.mono _ _ _ _ _) (fun _ => LeO.refl _)
theorem impl_CountStrays_1.calls (i : Int) (x : S30) (w : World) : Calls Try.prog 89 #[.int .i64 i, .agg #[.int .i64 x.f0, .int .i64 x.f1]] w fun e w' => e = .returned (.bool (x.f0 != i)) ∧ Below w.heap.size w w' := by
 have hu30 := Try.underlying30
 have HB := M_ (Below.refl w.heap.size w)
 go_enter Try.func89, Try.ntmps89
 go_wp2_with fail
 go_ret
 exact ⟨rfl, by first | exact HB.out | exact below_alloc HB.out _⟩
set_option maxHeartbeats 2000000 in
theorem impl_CountStrays.calls (k : Nat) (a0_0 : ByteArray) (A0_1 : Option Addr) (c0_1 : Nat) (l0_1 : List Int) (A0_2 : Option Addr) (c0_2 : Nat) (l0_2 : List Int) (A1 : Option Addr) (c1 : Nat) (l1 : List (List S30)) (r : Int) (w : World)
    (hr0_1 : Kd.C (Kd.int .i64) w A0_1 l0_1.length l0_1) (hc0_1 : l0_1.length ≤ c0_1) (hr0_2 : Kd.C (Kd.int .i64) w A0_2 l0_2.length l0_2) (hc0_2 : l0_2.length ≤ c0_2) (hr1 : Kd.C (Kd.slice 30 k30) w A1 l1.length l1) (hc1 : l1.length ≤ c1) (h : impl_CountStrays.f k a0_0 l0_1 l0_2 l1 = some r) :
    Calls Try.prog 47 #[.agg #[.string a0_0, .slice A0_1 l0_1.length c0_1, .slice A0_2 l0_2.length c0_2], .slice A1 l1.length c1] w fun e w' => e = .returned (.int .i64 r) ∧ Below w.heap.size w w' := by
 unfold impl_CountStrays.f at h
 obtain ⟨b, hb, h⟩ := Option.bind_eq_some_iff.1 h
 obtain rfl := Option.some.inj h
 clear h
 have hu25 := Try.underlying25
 have eg : ∀ args w, (callFunc 89 args).run Try.prog w = .ok (.enter 89 args) w := enters_of Try.func89 (by kernel_rfl) rfl
 have HB := M_ (below_alloc (Below.refl w.heap.size w) (.cells #[.string a0_0, .slice A0_1 l0_1.length c0_1, .slice A0_2 l0_2.length c0_2] 25))
 have hc := impl_counted.calls (fun i x => x.f0 != i) 89 #[] k a0_0 A0_1 c0_1 l0_1 A0_2 c0_2 l0_2 A1 c1 l1 b (w.alloc (.cells #[.string a0_0, .slice A0_1 l0_1.length c0_1, .slice A0_2 l0_2.length c0_2] 25)) eg
  (Kd.C_alloc hr0_1 _) hc0_1 (Kd.C_alloc hr0_2 _) hc0_2 (Kd.C_alloc hr1 _) hc1 hb (fun _ W i ch x _ _ _ => impl_CountStrays_1.calls i x W)
 generalize (if b = true then cntAll (fun i x => x.f0 != i) 0 l1 0 else -1) = r at hc ⊢
 have HC := M_ hc
 clear hc hr0_1 hr0_2 hr1 hc0_1 hc0_2 hc1 hb eg
 go_enter Try.func47, Try.ntmps47
 go_wp2_with (go_at_call 88; refine HC.out.mono ?_; rintro e w' ⟨rfl, hb1⟩; have HB2 := M_ (HB.out.trans (hb1.mono HB.out.size)); clear hb1)
 go_ret
 exact ⟨rfl, HB2.out⟩

-- NOT PRINTED: function 90 (impl_CountWorn_1)

def impl_CountWorn.f (k : Nat) (a0_0 : ByteArray) (l0_1 l0_2 : List Int) (l1 : List (List S30)) : Option Int := (impl_MagazineOk.f k a0_0 l0_1 l0_2 l1).bind fun t => if t = true then (if (l1.all fun ch => ch.all fun x => decide (0 ≤ x.f0) && decide (x.f0 < (l0_2.length : Int))) = true then some (cntAll (fun _ x => x.f1 != rd l0_2 x.f0) 0 l1 0) else none) else some (-1)
theorem impl_CountWorn.mono : ∀ a0 a1 a2 a3 k, LeO (impl_CountWorn.f k a0 a1 a2 a3) (impl_CountWorn.f (k + 1) a0 a1 a2 a3) := by
 intro a0 a1 a2 a3 k
 unfold impl_CountWorn.f
 exact LeO.bind (impl_MagazineOk.mono _ _ _ _ _) (fun _ => LeO.refl _)
set_option maxHeartbeats 2000000 in
theorem impl_CountWorn_1.calls (i : Int) (x : S30) (q : Nat) (a0_0 : ByteArray) (A0_1 : Option Addr) (n0_1 c0_1 : Nat) (A0_2 : Option Addr) (c0_2 : Nat) (l0_2 : List Int) (w : World) (hr0_2 : Kd.C (Kd.int .i64) w A0_2 l0_2.length l0_2) (hx0 : w.cell? ⟨q, 0, none⟩ = some (.string a0_0)) (hx1 : w.cell? ⟨q, 1, none⟩ = some (.slice A0_1 n0_1 c0_1)) (hx2 : w.cell? ⟨q, 2, none⟩ = some (.slice A0_2 l0_2.length c0_2)) (h0 : 0 ≤ x.f0) (h1 : x.f0 < (l0_2.length : Int)) :
    Calls Try.prog 90 #[.int .i64 i, .agg #[.int .i64 x.f0, .int .i64 x.f1], .pointer (some ⟨q, 0, none⟩)] w fun e w' => e = .returned (.bool (x.f1 != rd l0_2 x.f0)) ∧ Below w.heap.size w w' := by
 have hu25 := Try.underlying25
 have hu30 := Try.underlying30
 have HB := M_ (Below.refl w.heap.size w)
 have hlen : l0_2.length ≤ 9223372036854775807 := hr0_2.2.1
 obtain ⟨ad, e1, hx⟩ := Kd.at_int hr0_2 x.f0 h0 h1
 cases e1
 have p18 : (0 ≤ x.f0) = True := eq_true h0
 have q18 : (x.f0 < (l0_2.length : Int)) = True := eq_true h1
 have hb := below_alloc (Below.refl w.heap.size w) (.cells #[.int .i64 x.f0, .int .i64 x.f1] 30)
 have hy := (hb.cell (World.block_lt_of_cell? w _ hx)).trans hx
 have hy2 := (hb.cell (World.block_lt_of_cell? w _ hx2)).trans hx2
 have HB1 := M_ hb
 clear hr0_2 h0 h1 hx hx0 hx1 hx2 hb
 go_enter Try.func90, Try.ntmps90
 go_wp2
 repeat (go_quiet (fail); try go_wp2)
 all_goals go_ret
 all_goals exact ⟨rfl, by repeat (first | exact HB1.out | exact HB.out | apply pw_below_drewN | apply below_drew1)⟩
set_option maxHeartbeats 2000000 in
theorem impl_CountWorn.calls (k : Nat) (a0_0 : ByteArray) (A0_1 : Option Addr) (c0_1 : Nat) (l0_1 : List Int) (A0_2 : Option Addr) (c0_2 : Nat) (l0_2 : List Int) (A1 : Option Addr) (c1 : Nat) (l1 : List (List S30)) (r : Int) (w : World)
    (hr0_1 : Kd.C (Kd.int .i64) w A0_1 l0_1.length l0_1) (hc0_1 : l0_1.length ≤ c0_1) (hr0_2 : Kd.C (Kd.int .i64) w A0_2 l0_2.length l0_2) (hc0_2 : l0_2.length ≤ c0_2) (hr1 : Kd.C (Kd.slice 30 k30) w A1 l1.length l1) (hc1 : l1.length ≤ c1) (h : impl_CountWorn.f k a0_0 l0_1 l0_2 l1 = some r) :
    Calls Try.prog 49 #[.agg #[.string a0_0, .slice A0_1 l0_1.length c0_1, .slice A0_2 l0_2.length c0_2], .slice A1 l1.length c1] w fun e w' => e = .returned (.int .i64 r) ∧ Below w.heap.size w w' := by
 unfold impl_CountWorn.f at h
 obtain ⟨b, hb, h⟩ := Option.bind_eq_some_iff.1 h
 have hu25 := Try.underlying25
 have eg : ∀ args w, (callFunc 90 args).run Try.prog w = .ok (.enter 90 args) w := enters_of Try.func90 (by kernel_rfl) rfl
 have HB := M_ (below_alloc (Below.refl w.heap.size w) (.cells #[.string a0_0, .slice A0_1 l0_1.length c0_1, .slice A0_2 l0_2.length c0_2] 25))
 have hr : (if b = true then cntAll (fun _ x => x.f1 != rd l0_2 x.f0) 0 l1 0 else -1) = r := by
  cases b with
  | true =>
   rw [if_pos rfl] at h ⊢
   by_cases ha : (l1.all fun ch => ch.all fun x => decide (0 ≤ x.f0) && decide (x.f0 < (l0_2.length : Int))) = true
   ·rw [if_pos ha] at h; exact Option.some.inj h
   ·rw [if_neg ha] at h; cases h
  | false => rw [if_neg (by decide)] at h ⊢; exact Option.some.inj h
 have hall : b = true → ∀ ch x, ch ∈ l1 → x ∈ ch → 0 ≤ x.f0 ∧ x.f0 < (l0_2.length : Int) := by
  intro hbt ch x h1 h2
  rw [if_pos hbt] at h
  by_cases ha : (l1.all fun ch => ch.all fun x => decide (0 ≤ x.f0) && decide (x.f0 < (l0_2.length : Int))) = true
  ·have h3 := List.all_eq_true.1 (List.all_eq_true.1 ha ch h1) x h2
   rw [Bool.and_eq_true, decide_eq_true_eq, decide_eq_true_eq] at h3
   exact h3
  ·rw [if_neg ha] at h; cases h
 have hs : w.heap.size < (w.alloc (.cells #[.string a0_0, .slice A0_1 l0_1.length c0_1, .slice A0_2 l0_2.length c0_2] 25)).heap.size := by simp
 have hc := impl_counted.calls (fun _ x => x.f1 != rd l0_2 x.f0) 90 #[.pointer (some ⟨w.heap.size, 0, none⟩)] k a0_0 A0_1 c0_1 l0_1 A0_2 c0_2 l0_2 A1 c1 l1 b (w.alloc (.cells #[.string a0_0, .slice A0_1 l0_1.length c0_1, .slice A0_2 l0_2.length c0_2] 25)) eg
  (Kd.C_alloc hr0_1 _) hc0_1 (Kd.C_alloc hr0_2 _) hc0_2 (Kd.C_alloc hr1 _) hc1 hb (fun hbt W i ch x h1 h2 hW => impl_CountWorn_1.calls i x w.heap.size a0_0 A0_1 l0_1.length c0_1 A0_2 c0_2 l0_2 W (Kd.C_below (Kd.C_alloc hr0_2 _) hW) ((hW.cell (p := ⟨w.heap.size, 0, none⟩) hs).trans (by simp)) ((hW.cell (p := ⟨w.heap.size, 1, none⟩) hs).trans (by simp)) ((hW.cell (p := ⟨w.heap.size, 2, none⟩) hs).trans (by simp)) (hall hbt ch x h1 h2).1 (hall hbt ch x h1 h2).2)
 rw [hr] at hc
 have HC := M_ hc
 clear hc hr0_1 hr0_2 hr1 hc0_1 hc0_2 hc1 hb eg hall hr h hs
 go_enter Try.func49, Try.ntmps49
 go_wp2_with (go_at_call 88; refine HC.out.mono ?_; rintro e w' ⟨rfl, hb1⟩; have HB2 := M_ (HB.out.trans (hb1.mono HB.out.size)); clear hb1)
 go_ret
 exact ⟨rfl, HB2.out⟩

/-- A state of type 99 at block g of W; what its slices lead to came in by w0. -/
def IsS99 (w0 W : World) (g : Nat) (f0 : List Int) (f1 : Int) (f2 : Int) : Prop := ∃ A0 c0, W.heap[g]? = some (.cells #[.slice A0 f0.length c0, .int .i64 f1, .int .i64 f2] 99 (0, 0)) ∧ w0.heap.size ≤ g ∧ Kd.C (Kd.int .u8) w0 A0 f0.length f0
theorem IsS99.grown {w0 W : World} {g : Nat} {f0 : List Int} {f1 : Int} {f2 : Int} {W1 : World} {row : Option Nat} (h : IsS99 w0 W g f0 f1 f2) (hw : W.grownBy W1 row) (hne : some g ≠ row) : IsS99 w0 W1 g f0 f1 f2 := by
 obtain ⟨A0, c0, hb, hg, hr0⟩ := h
 exact ⟨A0, c0, blk_grown hb hw hne, hg, hr0⟩
theorem IsS99.own_neN {w0 W : World} {g : Nat} {f0 : List Int} {f1 : Int} {f2 : Int} {α : Type} {d : Kd α} {e : Nat} {base : Nat} {ok : Nat → Prop} {v : Value} {xs : List α} (h : IsS99 w0 W g f0 f1 f2) (ho : Kd.N d e W base ok v xs) (ht : e ≠ 99) : some g ≠ v.ownBlock := by
 obtain ⟨A0, c0, hb, hg, hr0⟩ := h
 exact Kd.N_ne ho hb ht
theorem IsS99.fresh {w0 W : World} {g : Nat} {f0 : List Int} {f1 : Int} {f2 : Int} (h : IsS99 w0 W g f0 f1 f2) : ∀ k, W.heap.size ≤ k → k ≠ g := by
 obtain ⟨A0, c0, hb, hg, hr0⟩ := h
 exact Kd.freshB hb
theorem IsS99.kept {w0 W : World} {g : Nat} {f0 : List Int} {f1 : Int} {f2 : Int} {W1 : World} {S : Nat → Prop} (h : IsS99 w0 W g f0 f1 f2) (hk : Kept W W1 S) (hne : ¬ S g) : IsS99 w0 W1 g f0 f1 f2 := by
 obtain ⟨A0, c0, hb, hg, hr0⟩ := h
 exact ⟨A0, c0, blk_kept hb hk hne, hg, hr0⟩
theorem IsS99.below {w0 W : World} {g : Nat} {f0 : List Int} {f1 : Int} {f2 : Int} {W1 : World} (h : IsS99 w0 W g f0 f1 f2) (hw : Below W.heap.size W W1) : IsS99 w0 W1 g f0 f1 f2 := h.grown (grown_of_below hw none) (by simp)
theorem IsS99.alloc {w0 W : World} {g : Nat} {f0 : List Int} {f1 : Int} {f2 : Int} (h : IsS99 w0 W g f0 f1 f2) (o : Obj) : IsS99 w0 (W.alloc o) g f0 f1 f2 := h.below (below_alloc (Below.refl _ _) o)
theorem IsS99.drewN {w0 W : World} {g : Nat} {f0 : List Int} {f1 : Int} {f2 : Int} (h : IsS99 w0 W g f0 f1 f2) (m : Nat) : IsS99 w0 (W.drewN m) g f0 f1 f2 := h
theorem IsS99.drew {w0 W : World} {g : Nat} {f0 : List Int} {f1 : Int} {f2 : Int} (h : IsS99 w0 W g f0 f1 f2) : IsS99 w0 W.drew g f0 f1 f2 := h
theorem IsS99.at_ {w0 W : World} {g : Nat} {f0 : List Int} {f1 : Int} {f2 : Int} {w' : World} {m : Nat} (hq : W.drewN m = w') (h : IsS99 w0 W g f0 f1 f2) : IsS99 w0 w' g f0 f1 f2 := by subst hq; exact IsS99.drewN h m
theorem IsS99.apart {w0 W : World} {g : Nat} {f0 : List Int} {f1 : Int} {f2 : Int} {α : Type} {d : Kd α} {e : Nat} {base : Nat} {ok : Nat → Prop} {v : Value} {xs : List α} (h : IsS99 w0 W g f0 f1 f2) (ho : d.R e W base ok v xs) (ht : ∀ q, q ∈ e :: d.E → q ≠ 99) : d.R e W base (fun k => ok k ∧ k ≠ g) v xs := by
 obtain ⟨A0, c0, hb, hg, hr0⟩ := h
 exact Kd.R_types ho hb ht
theorem IsS99.own_ne {w0 W : World} {g : Nat} {f0 : List Int} {f1 : Int} {f2 : Int} {α : Type} {d : Kd α} {e : Nat} {base : Nat} {ok : Nat → Prop} {v : Value} {xs : List α} (h : IsS99 w0 W g f0 f1 f2) (ho : d.R e W base ok v xs) (ht : e ≠ 99) : some g ≠ v.ownBlock := by
 obtain ⟨A0, c0, hb, hg, hr0⟩ := h
 exact Kd.R_ne ho hb ht
theorem IsS99.apartQ {w0 W : World} {g : Nat} {f0 : List Int} {f1 : Int} {f2 : Int} {α : Type} {d : Kd α} {e : Nat} {base : Nat} {ok : Nat → Prop} {v : Value} {xs : List α} (h : IsS99 w0 W g f0 f1 f2) (ho : d.Q e W base ok v xs) (ht : ∀ q, q ∈ e :: d.E → q ≠ 99) : d.Q e W base (fun k => ok k ∧ k ≠ g) v xs := by
 obtain ⟨A0, c0, hb, hg, hr0⟩ := h
 exact Kd.Q_types ho hb ht
theorem IsS99.own_neQ {w0 W : World} {g : Nat} {f0 : List Int} {f1 : Int} {f2 : Int} {α : Type} {d : Kd α} {e : Nat} {base : Nat} {ok : Nat → Prop} {v : Value} {xs : List α} (h : IsS99 w0 W g f0 f1 f2) (ho : d.Q e W base ok v xs) (ht : e ≠ 99) : some g ≠ v.ownBlock := by
 obtain ⟨A0, c0, hb, hg, hr0⟩ := h
 exact Kd.Q_ne ho hb ht
theorem IsS99.apartS {w0 W : World} {g : Nat} {f0 : List Int} {f1 : Int} {f2 : Int} {α : Type} {d : Kd α} {e : Nat} {base : Nat} {ok : Nat → Prop} {v : Value} {xs : List α} (h : IsS99 w0 W g f0 f1 f2) (ho : d.S e W base ok v xs) (ht : ∀ q, q ∈ e :: d.E → q ≠ 99) : d.S e W base (fun k => ok k ∧ k ≠ g) v xs := by
 obtain ⟨A0, c0, hb, hg, hr0⟩ := h
 exact Kd.S_types ho hb ht
theorem IsS99.own_neS {w0 W : World} {g : Nat} {f0 : List Int} {f1 : Int} {f2 : Int} {α : Type} {d : Kd α} {e : Nat} {base : Nat} {ok : Nat → Prop} {v : Value} {xs : List α} (h : IsS99 w0 W g f0 f1 f2) (ho : d.S e W base ok v xs) (ht : e ≠ 99) : some g ≠ v.ownBlock := by
 obtain ⟨A0, c0, hb, hg, hr0⟩ := h
 exact Kd.S_ne ho hb ht
theorem IsS99.lt {w0 W : World} {g : Nat} {f0 : List Int} {f1 : Int} {f2 : Int} (h : IsS99 w0 W g f0 f1 f2) : g < W.heap.size := by
 obtain ⟨A0, c0, hb, hg, hr0⟩ := h
 exact blk_lt hb
theorem IsS99.ge {w0 W : World} {g : Nat} {f0 : List Int} {f1 : Int} {f2 : Int} (h : IsS99 w0 W g f0 f1 f2) : w0.heap.size ≤ g := by
 obtain ⟨A0, c0, hb, hg, hr0⟩ := h
 exact hg
theorem IsS99.ne_blk {w0 W : World} {g : Nat} {f0 : List Int} {f1 : Int} {f2 : Int} {a : Nat} {cs : Array Value} {t : TypeId} {fr : Nat × Nat} (h : IsS99 w0 W g f0 f1 f2) (hb2 : W.heap[a]? = some (.cells cs t fr)) (ht : t ≠ 99) : g ≠ a := by
 obtain ⟨A0, c0, hb, hg, hr0⟩ := h
 rintro rfl
 rw [hb] at hb2
 injection hb2 with hb2
 injection hb2 with _ ht2
 exact ht ht2.symm
theorem IsS99.far {w0 W : World} {g : Nat} {f0 : List Int} {f1 : Int} {f2 : Int} {p : Addr} (h : IsS99 w0 W g f0 f1 f2) (hne : g ≠ p.block) (u : Value) : IsS99 w0 (W.setCell p u) g f0 f1 f2 := by
 obtain ⟨A0, c0, hb, hg, hr0⟩ := h
 exact ⟨A0, c0, blk_far hb hne u, hg, hr0⟩
theorem cellS99_0 {W : World} {g : Nat} {A0 : Option Addr} {c0 : Nat} {f0 : List Int} {f1 : Int} {f2 : Int} (h : W.heap[g]? = some (.cells #[.slice A0 f0.length c0, .int .i64 f1, .int .i64 f2] 99 (0, 0))) : W.cell? ⟨g, 0, none⟩ = some (.slice A0 f0.length c0) := (blk_cell h 0).trans rfl
theorem cellS99_1 {W : World} {g : Nat} {A0 : Option Addr} {c0 : Nat} {f0 : List Int} {f1 : Int} {f2 : Int} (h : W.heap[g]? = some (.cells #[.slice A0 f0.length c0, .int .i64 f1, .int .i64 f2] 99 (0, 0))) : W.cell? ⟨g, 1, none⟩ = some (.int .i64 f1) := (blk_cell h 1).trans rfl
theorem IsS99.set_1 {w0 W : World} {g : Nat} {f0 : List Int} {f1 : Int} {f2 : Int} (h : IsS99 w0 W g f0 f1 f2) (x : Int) : IsS99 w0 (W.setCell ⟨g, 1, none⟩ (.int .i64 x)) g f0 x f2 := by
 obtain ⟨A0, c0, hb, hg, hr0⟩ := h
 exact ⟨A0, c0, by simpa using blk_set hb 1 (.int .i64 x), hg, hr0⟩
theorem cellS99_2 {W : World} {g : Nat} {A0 : Option Addr} {c0 : Nat} {f0 : List Int} {f1 : Int} {f2 : Int} (h : W.heap[g]? = some (.cells #[.slice A0 f0.length c0, .int .i64 f1, .int .i64 f2] 99 (0, 0))) : W.cell? ⟨g, 2, none⟩ = some (.int .i64 f2) := (blk_cell h 2).trans rfl
theorem IsS99.set_2 {w0 W : World} {g : Nat} {f0 : List Int} {f1 : Int} {f2 : Int} (h : IsS99 w0 W g f0 f1 f2) (x : Int) : IsS99 w0 (W.setCell ⟨g, 2, none⟩ (.int .i64 x)) g f0 f1 x := by
 obtain ⟨A0, c0, hb, hg, hr0⟩ := h
 exact ⟨A0, c0, by simpa using blk_set hb 2 (.int .i64 x), hg, hr0⟩
theorem IsS99.new (w0 W : World) (A0 : Option Addr) (c0 : Nat) (f0 : List Int) (f1 : Int) (f2 : Int) (hB : Below w0.heap.size w0 W) (hr0 : Kd.C (Kd.int .u8) w0 A0 f0.length f0) : IsS99 w0 (W.alloc (.cells #[.slice A0 f0.length c0, .int .i64 f1, .int .i64 f2] 99)) W.heap.size f0 f1 f2 := ⟨A0, c0, by simpa using heap_alloc_new W _, hB.size, hr0⟩

def spec_l01New.l0 : Nat → List Int → Int → Int → Option (List Int × Int × Int)
  | 0, _, _, _ => none
  | k + 1, x0, x3, x4 => if x4 < (x0.length : Int) then (if x4 < 4000 then (if 0 ≤ x4 then (spec_l01New.l0 k x0 (Go.bits .and .i64 (wrap64 ((wrap64 ((wrap64 (x3 * 1103)) + (wrap64 (rd x0 x4)))) + 7)) 1073741823) (wrap64 (x4 + 1))) else (none)) else (some (x0, 0, x3))) else (some (x0, 0, x3))
def spec_l01New.f (k : Nat) (l0 : List Int) : Option (List Int × Int × Int) := spec_l01New.l0 k l0 (wrap64 (3230 + (l0.length : Int))) 0
theorem spec_l01New.mono_l : ∀ k, (∀ y0 y1 y2, LeO (spec_l01New.l0 k y0 y1 y2) (spec_l01New.l0 (k + 1) y0 y1 y2))
  | 0 => fun _ _ _ r h => by simp [spec_l01New.l0] at h
  | k + 1 => by
    have ih0 := spec_l01New.mono_l k
    · intro y0 y1 y2
      unfold spec_l01New.l0
      repeat' first | (with_reducible first | exact ih0 _ _ _ | exact LeO.refl _ | exact LeO.none _ | refine LeO.ite ?_ ?_ | refine LeO.bind ?_ (fun _ => ?_)) | exact ih0 _ _ _ | exact LeO.none _ | refine LeO.ite ?_ ?_ | refine LeO.bind ?_ (fun _ => ?_)
theorem spec_l01New.mono : ∀ a0 k, LeO (spec_l01New.f k a0) (spec_l01New.f (k + 1) a0) := by
 intro a0 k
 have ih0 := spec_l01New.mono_l k
 unfold spec_l01New.f
 repeat' first | (with_reducible first | exact ih0 _ _ _ | exact LeO.refl _ | exact LeO.none _ | refine LeO.ite ?_ ?_ | refine LeO.bind ?_ (fun _ => ?_)) | exact ih0 _ _ _ | exact LeO.none _ | refine LeO.ite ?_ ?_ | refine LeO.bind ?_ (fun _ => ?_)
set_option maxHeartbeats 8000000 in
set_option maxRecDepth 100000 in
theorem spec_l01New.calls (k : Nat) (A0 : Option Addr) (c0 : Nat) (l0 : List Int) (r1 : List Int) (r2 : Int) (r3 : Int) (w0 w : World) (hB : Below w0.heap.size w0 w) (hr0 : Kd.C (Kd.int .u8) w0 A0 l0.length l0) (hc0 : l0.length ≤ c0) (h : spec_l01New.f k l0 = some (r1, r2, r3)) :
    Calls Try.prog 71 #[.slice A0 l0.length c0] w fun e w' => ∃ g_ : Nat, e = .returned (.pointer (some ⟨g_, 0, none⟩)) ∧ IsS99 w0 w' g_ r1 r2 r3 ∧ Below w0.heap.size w0 w' ∧ Below w.heap.size w w' := by
 have hu99 := Try.underlying99
 have HR0 := M_ hr0
 have HC0 := M_ hc0
 clear hr0 hc0
 have HBW := M_ (Below.refl w.heap.size w)
 have HW0 := M_ hB.size
 have HB := M_ hB
 clear hB
 have H : (spec_l01New.l0 k l0 (wrap64 (3230 + (l0.length : Int))) 0) = some (r1, r2, r3) := h
 clear h
 have H' := M_ H
 clear H
 go_enter Try.func71, Try.ntmps71
 go_wp2
 go_loopg [3, 4] k (fun kq v3 v4 w' => ∃ (x3_1 : Int) (x4_1 : Int), v3 = .int .i64 x3_1 ∧ v4 = .int .i64 x4_1 ∧ Aside0 (spec_l01New.l0 kq l0 x3_1 x4_1 = some (r1, r2, r3)) ∧ Aside0 (kq ≤ k) ∧ Aside0 (Below w.heap.size w w') ∧ Aside0 (Below w0.heap.size w0 w'))
 case atStart => exact ⟨(wrap64 (3230 + (l0.length : Int))), (0), (by first | rfl | (simp; done) | (simp [*]; done)), (by first | rfl | (simp; done) | (simp [*]; done)), H', ⟨Nat.le_refl _⟩, ⟨bw0_ HBW.out⟩, ⟨bw0_ HB.out⟩⟩
 case round =>
  clear H'
  obtain ⟨x3_1, x4_1, rfl, rfl, HA, HK1, HBW, HB⟩ := hrel
  cases gk with
  | zero => exact absurd HA.out (by simp [spec_l01New.l0])
  | succ k1 =>
   have H := HA.out
   clear HA
   simp only [spec_l01New.l0] at H
   by_cases c2 : x4_1 < (l0.length : Int)
   ·rw [if_pos c2] at H
    have c2b0 := dt_ c2
    clear c2
    by_cases c3 : x4_1 < 4000
    ·rw [if_pos c3] at H
     have c3b0 := dt_ c3
     clear c3
     by_cases c4 : 0 ≤ x4_1
     ·rw [if_pos c4] at H
      have c4b0 := dt_ c4
      clear c4
      have H' := M_ H
      clear H
      have p153 : 0 ≤ (x4_1 : Int) := od_ as_
      have q153 : x4_1 < (l0.length : Int) := od_ as_
      obtain ⟨ad153, e153, hx153_0⟩ := Kd.at_int HR0.out x4_1 p153 q153
      cases e153
      replace hx153_0 := pw_cell_below HB.out hx153_0
      replace p153 := eq_true p153
      replace q153 := eq_true q153
      go_wp2
      go_roundg k1
      case measure => have := HK1.out; omega
      case rel => exact ⟨(Go.bits .and .i64 (wrap64 ((wrap64 ((wrap64 (x3_1 * 1103)) + (wrap64 (rd l0 x4_1)))) + 7)) 1073741823), (wrap64 (x4_1 + 1)), (by first | rfl | (simp; done) | (simp [*]; done)), (by first | rfl | (simp; done) | (simp [*]; done)), H', ⟨by have := HK1.out; omega⟩, ⟨bw0_ HBW.out⟩, ⟨bw0_ HB.out⟩⟩
     ·rw [if_neg c4] at H
      exact absurd H (by simp)
    ·rw [if_neg c3] at H
     have c3b0 := decide_eq_false c3
     clear c3
     simp only [Option.some.injEq, Prod.mk.injEq] at H
     obtain ⟨rfl, rfl, rfl⟩ := H
     go_wp2_with (first | ((with_reducible refine gate_dst (N := 31) rfl ?_); refine be_ 31 #[.slice A0 l0.length c0, .int .i64 0, .int .i64 x3_1] 99 ?_; intro gb154 hg w5 hbox hb; have z_ := t4_ (bS_ HBW.out hb) (bS_ (bw0_ HB.out) hb) hbox (gv_ hg (bw0_ HBW.out) : w.heap.size ≤ gb154); clear HB HBW; obtain ⟨HBW, HB, BK154, GW154⟩ := z_; have GE154 := M_ (Nat.le_trans HW0.out GW154.out); clear hb hbox hg))
     go_ret
     exact ⟨_, rfl, (show IsS99 w0 _ gb154 l0 0 x3_1 from ⟨_, _, by refine bk_ ?_; exact BK154.out, GE154.out, HR0.out⟩), bw1_ HB.out GE154.out, bw1_ HBW.out GW154.out⟩
   ·rw [if_neg c2] at H
    have c2b0 := decide_eq_false c2
    clear c2
    simp only [Option.some.injEq, Prod.mk.injEq] at H
    obtain ⟨rfl, rfl, rfl⟩ := H
    go_wp2_with (first | ((with_reducible refine gate_dst (N := 31) rfl ?_); refine be_ 31 #[.slice A0 l0.length c0, .int .i64 0, .int .i64 x3_1] 99 ?_; intro gb155 hg w6 hbox hb; have z_ := t4_ (bS_ HBW.out hb) (bS_ (bw0_ HB.out) hb) hbox (gv_ hg (bw0_ HBW.out) : w.heap.size ≤ gb155); clear HB HBW; obtain ⟨HBW, HB, BK155, GW155⟩ := z_; have GE155 := M_ (Nat.le_trans HW0.out GW155.out); clear hb hbox hg))
    go_ret
    exact ⟨_, rfl, (show IsS99 w0 _ gb155 l0 0 x3_1 from ⟨_, _, by refine bk_ ?_; exact BK155.out, GE155.out, HR0.out⟩), bw1_ HB.out GE155.out, bw1_ HBW.out GW155.out⟩

def spec_l01Byte.f (s0_0 : List Int) (s0_1 : Int) (s0_2 : Int) : Option (Int × Int × Int) := if s0_1 < (s0_0.length : Int) then (if 0 ≤ s0_1 then (some (Go.bits .and .i64 (wrap64 ((Go.bits .and .i64 (Go.bits .xor .i64 ((wrap64 ((wrap64 (s0_2 * 6364136223846793005)) + 1442695040888963407)) / 8589934592) ((wrap64 ((wrap64 (s0_2 * 6364136223846793005)) + 1442695040888963407)) / 35184372088832)) 255) + (wrap64 (rd s0_0 s0_1)))) 255, wrap64 (s0_1 + 1), wrap64 ((wrap64 (s0_2 * 6364136223846793005)) + 1442695040888963407))) else (none)) else (some (Go.bits .and .i64 (Go.bits .xor .i64 ((wrap64 ((wrap64 (s0_2 * 6364136223846793005)) + 1442695040888963407)) / 8589934592) ((wrap64 ((wrap64 (s0_2 * 6364136223846793005)) + 1442695040888963407)) / 35184372088832)) 255, s0_1, wrap64 ((wrap64 (s0_2 * 6364136223846793005)) + 1442695040888963407)))
set_option maxHeartbeats 8000000 in
set_option maxRecDepth 100000 in
theorem spec_l01Byte.calls (g : Nat) (s0_0 : List Int) (s0_1 : Int) (s0_2 : Int) (r1 : Int) (r2 : Int) (r3 : Int) (w0 w : World) (hI : IsS99 w0 w g s0_0 s0_1 s0_2) (hB : Below w0.heap.size w0 w) (h : spec_l01Byte.f s0_0 s0_1 s0_2 = some (r1, r2, r3)) :
    Calls Try.prog 101 #[.pointer (some ⟨g, 0, none⟩)] w fun e w' => e = .returned (.int .i64 r1) ∧ IsS99 w0 w' g s0_0 r2 r3 ∧ Below w0.heap.size w0 w' ∧ KeepBut w w' g none := by
 have HI0 := M_ hI
 have HK := M_ (KeepBut.refl w g none)
 have HL := M_ hB.size
 clear hI
 have HW0 := M_ hB.size
 have HB := M_ hB
 clear hB
 have H : (if s0_1 < (s0_0.length : Int) then (if 0 ≤ s0_1 then (some (Go.bits .and .i64 (wrap64 ((Go.bits .and .i64 (Go.bits .xor .i64 ((wrap64 ((wrap64 (s0_2 * 6364136223846793005)) + 1442695040888963407)) / 8589934592) ((wrap64 ((wrap64 (s0_2 * 6364136223846793005)) + 1442695040888963407)) / 35184372088832)) 255) + (wrap64 (rd s0_0 s0_1)))) 255, wrap64 (s0_1 + 1), wrap64 ((wrap64 (s0_2 * 6364136223846793005)) + 1442695040888963407))) else (none)) else (some (Go.bits .and .i64 (Go.bits .xor .i64 ((wrap64 ((wrap64 (s0_2 * 6364136223846793005)) + 1442695040888963407)) / 8589934592) ((wrap64 ((wrap64 (s0_2 * 6364136223846793005)) + 1442695040888963407)) / 35184372088832)) 255, s0_1, wrap64 ((wrap64 (s0_2 * 6364136223846793005)) + 1442695040888963407)))) = some (r1, r2, r3) := h
 clear h
 by_cases c2 : s0_1 < (s0_0.length : Int)
 ·rw [if_pos c2] at H
  have c2b0 := dt_ c2
  clear c2
  by_cases c3 : 0 ≤ s0_1
  ·rw [if_pos c3] at H
   have c3b0 := dt_ c3
   clear c3
   simp only [Option.some.injEq, Prod.mk.injEq] at H
   obtain ⟨rfl, rfl, rfl⟩ := H
   obtain ⟨ASz4_0, cSz4_0, HGz4, hgz4, HSz4_0⟩ := HI0.out
   have hcz4_0 := cellS99_0 HGz4
   have hcz4_1 := cellS99_1 HGz4
   have hcz4_2 := cellS99_2 HGz4
   have hfz4_1 := fz_ HGz4 1
   have hfz4_2 := fz_ HGz4 2
   clear HGz4 hgz4
   have p156 : 0 ≤ (s0_1 : Int) := od_ as_
   have q156 : s0_1 < (s0_0.length : Int) := od_ as_
   obtain ⟨ad156, e156, hx156_0⟩ := Kd.at_int HSz4_0 s0_1 p156 q156
   cases e156
   have hn156_0 : ad156.block ≠ g := Nat.ne_of_lt (Nat.lt_of_lt_of_le (by have := World.block_lt_of_cell? _ _ hx156_0; first | rwa [add_block] at this | exact this) (IsS99.ge HI0.out))
   replace hx156_0 := pw_cell_below HB.out hx156_0
   replace hx156_0 := (cell_far (p := ⟨g, 2, none⟩) (by first | (rw [add_block]; exact hn156_0) | (show (Addr.add _ _).block ≠ _; rw [add_block]; exact hn156_0) | exact hn156_0) (.int .i64 (wrap64 ((wrap64 (s0_2 * 6364136223846793005)) + 1442695040888963407)))).trans hx156_0
   (try have hy156_0 := fun (n_ : Nat) => (show (((w.drewN n_).setCell ⟨g, 2, none⟩ (.int .i64 (wrap64 ((wrap64 (s0_2 * 6364136223846793005)) + 1442695040888963407))))).cell? _ = some _ from hx156_0))
   clear hn156_0
   replace p156 := eq_true p156
   replace q156 := eq_true q156
   go_enter Try.func101, Try.ntmps101
   go_wp2
   repeat (go_quiet (fail); try go_wp2)
   go_ret
   exact ⟨rb_, iz0_ HI0.out, bw1_ HB.out (IsS99.ge HI0.out), ki0_ HK.out⟩
  ·rw [if_neg c3] at H
   exact absurd H (by simp)
 ·rw [if_neg c2] at H
  have c2b0 := decide_eq_false c2
  clear c2
  simp only [Option.some.injEq, Prod.mk.injEq] at H
  obtain ⟨rfl, rfl, rfl⟩ := H
  obtain ⟨ASz5_0, cSz5_0, HGz5, hgz5, HSz5_0⟩ := HI0.out
  have hcz5_0 := cellS99_0 HGz5
  have hcz5_1 := cellS99_1 HGz5
  have hcz5_2 := cellS99_2 HGz5
  have hfz5_1 := fz_ HGz5 1
  have hfz5_2 := fz_ HGz5 2
  clear HGz5 hgz5
  go_enter Try.func101, Try.ntmps101
  go_wp2
  repeat (go_quiet (fail); try go_wp2)
  go_ret
  exact ⟨rb_, iz0_ HI0.out, bw1_ HB.out (IsS99.ge HI0.out), ki0_ HK.out⟩

def spec_l01Below.f (s0_0 : List Int) (s0_1 : Int) (s0_2 : Int) (a1 : Int) : Option (Int × Int × Int) := if a1 ≤ 0 then (some (0, s0_1, s0_2)) else (if a1 ≤ 256 then ((spec_l01Byte.f s0_0 s0_1 s0_2).bind fun bt157 => (if a1 = 0 then (none) else (some (Int.tmod bt157.1 a1, bt157.2.1, bt157.2.2)))) else ((spec_l01Byte.f s0_0 s0_1 s0_2).bind fun bt160 => ((spec_l01Byte.f s0_0 bt160.2.1 bt160.2.2).bind fun bt163 => ((spec_l01Byte.f s0_0 bt163.2.1 bt163.2.2).bind fun bt166 => ((spec_l01Byte.f s0_0 bt166.2.1 bt166.2.2).bind fun bt169 => (if a1 = 0 then (none) else (some (Int.tmod (wrap64 ((wrap64 ((wrap64 ((wrap64 (bt160.1 * 16777216)) + (wrap64 (bt163.1 * 65536)))) + (wrap64 (bt166.1 * 256)))) + bt169.1)) a1, bt169.2.1, bt169.2.2))))))))
set_option maxHeartbeats 8000000 in
set_option maxRecDepth 100000 in
theorem spec_l01Below.calls (g : Nat) (s0_0 : List Int) (s0_1 : Int) (s0_2 : Int) (a1 : Int) (r1 : Int) (r2 : Int) (r3 : Int) (w0 w : World) (hI : IsS99 w0 w g s0_0 s0_1 s0_2) (hB : Below w0.heap.size w0 w) (h : spec_l01Below.f s0_0 s0_1 s0_2 a1 = some (r1, r2, r3)) :
    Calls Try.prog 73 #[.pointer (some ⟨g, 0, none⟩), .int .i64 a1] w fun e w' => e = .returned (.int .i64 r1) ∧ IsS99 w0 w' g s0_0 r2 r3 ∧ Below w0.heap.size w0 w' ∧ KeepBut w w' g none := by
 have HI0 := M_ hI
 have HK := M_ (KeepBut.refl w g none)
 have HL := M_ hB.size
 clear hI
 have HW0 := M_ hB.size
 have HB := M_ hB
 clear hB
 have H : (if a1 ≤ 0 then (some (0, s0_1, s0_2)) else (if a1 ≤ 256 then ((spec_l01Byte.f s0_0 s0_1 s0_2).bind fun bt157 => (if a1 = 0 then (none) else (some (Int.tmod bt157.1 a1, bt157.2.1, bt157.2.2)))) else ((spec_l01Byte.f s0_0 s0_1 s0_2).bind fun bt160 => ((spec_l01Byte.f s0_0 bt160.2.1 bt160.2.2).bind fun bt163 => ((spec_l01Byte.f s0_0 bt163.2.1 bt163.2.2).bind fun bt166 => ((spec_l01Byte.f s0_0 bt166.2.1 bt166.2.2).bind fun bt169 => (if a1 = 0 then (none) else (some (Int.tmod (wrap64 ((wrap64 ((wrap64 ((wrap64 (bt160.1 * 16777216)) + (wrap64 (bt163.1 * 65536)))) + (wrap64 (bt166.1 * 256)))) + bt169.1)) a1, bt169.2.1, bt169.2.2))))))))) = some (r1, r2, r3) := h
 clear h
 by_cases c3 : a1 ≤ 0
 ·rw [if_pos c3] at H
  have c3b0 := dt_ c3
  clear c3
  simp only [Option.some.injEq, Prod.mk.injEq] at H
  obtain ⟨rfl, rfl, rfl⟩ := H
  go_enter Try.func73, Try.ntmps73
  go_wp2
  go_ret
  exact ⟨rb_, iz0_ HI0.out, bw1_ HB.out (IsS99.ge HI0.out), ki0_ HK.out⟩
 ·rw [if_neg c3] at H
  have c3b0 := decide_eq_false c3
  clear c3
  by_cases c4 : a1 ≤ 256
  ·rw [if_pos c4] at H
   have c4b0 := dt_ c4
   clear c4
   replace H := bs_ H
   obtain ⟨⟨t157, t158, t159⟩, A50, H⟩ := H
   dsimp only at H
   have A5 := M_ A50
   clear A50
   by_cases c6 : a1 = 0
   ·rw [if_pos c6] at H
    exact absurd H (by simp)
   ·rw [if_neg c6] at H
    have c6b0 : (a1 == 0) = false := beq_eq_false_iff_ne.mpr c6
    have c6b1 : (a1 != 0) = true := bne_iff_ne.mpr c6
    simp only [Option.some.injEq, Prod.mk.injEq] at H
    obtain ⟨rfl, rfl, rfl⟩ := H
    go_enter Try.func73, Try.ntmps73
    go_wp2_with (first | ((with_reducible refine gate_callee (f := 101) rfl ?_); refine gl_ (some 14) Try.func101 #[.pointer (some ⟨g, 0, none⟩)] ?_; (with_reducible refine (spec_l01Byte.calls g s0_0 s0_1 s0_2 t157 t158 t159 w0 _ ?side1 ?side2 A5.out).mono ?_); (case side1 => exact iz0_ HI0.out); (case side2 => exact bw1_ HB.out (IsS99.ge HI0.out)); rintro e w7 ⟨rfl, hi, hb, hk⟩; refine ⟨_, rfl, ?_⟩; have z_ := t3_ (kT_ (ki0_ HK.out) hk (.inl rfl)) hb hi; clear HI0 HB HK; obtain ⟨HK, HB, HI0⟩ := z_; (try clear hi hk hb)))
    go_ret
    exact ⟨rb_, iz0_ HI0.out, bw1_ HB.out (IsS99.ge HI0.out), ki0_ HK.out⟩
  ·rw [if_neg c4] at H
   have c4b0 := decide_eq_false c4
   clear c4
   replace H := bs_ H
   obtain ⟨⟨t160, t161, t162⟩, A80, H⟩ := H
   dsimp only at H
   have A8 := M_ A80
   clear A80
   replace H := bs_ H
   obtain ⟨⟨t163, t164, t165⟩, A90, H⟩ := H
   dsimp only at H
   have A9 := M_ A90
   clear A90
   replace H := bs_ H
   obtain ⟨⟨t166, t167, t168⟩, A100, H⟩ := H
   dsimp only at H
   have A10 := M_ A100
   clear A100
   replace H := bs_ H
   obtain ⟨⟨t169, t170, t171⟩, A110, H⟩ := H
   dsimp only at H
   have A11 := M_ A110
   clear A110
   by_cases c12 : a1 = 0
   ·rw [if_pos c12] at H
    exact absurd H (by simp)
   ·rw [if_neg c12] at H
    have c12b0 : (a1 == 0) = false := beq_eq_false_iff_ne.mpr c12
    have c12b1 : (a1 != 0) = true := bne_iff_ne.mpr c12
    simp only [Option.some.injEq, Prod.mk.injEq] at H
    obtain ⟨rfl, rfl, rfl⟩ := H
    go_enter Try.func73, Try.ntmps73
    go_wp2_with (first | ((with_reducible refine gate_callee (f := 101) rfl ?_); refine gl_ (some 18) Try.func101 #[.pointer (some ⟨g, 0, none⟩)] ?_; (with_reducible refine (spec_l01Byte.calls g s0_0 s0_1 s0_2 t160 t161 t162 w0 _ ?side1 ?side2 A8.out).mono ?_); (case side1 => exact iz0_ HI0.out); (case side2 => exact bw1_ HB.out (IsS99.ge HI0.out)); rintro e w13 ⟨rfl, hi, hb, hk⟩; refine ⟨_, rfl, ?_⟩; have z_ := t3_ (kT_ (ki0_ HK.out) hk (.inl rfl)) hb hi; clear HI0 HB HK; obtain ⟨HK, HB, HI0⟩ := z_; (try clear hi hk hb)) | ((with_reducible refine gate_callee (f := 101) rfl ?_); refine gl_ (some 20) Try.func101 #[.pointer (some ⟨g, 0, none⟩)] ?_; (with_reducible refine (spec_l01Byte.calls g s0_0 t161 t162 t163 t164 t165 w0 _ ?side1 ?side2 A9.out).mono ?_); (case side1 => exact iz0_ HI0.out); (case side2 => exact bw1_ HB.out (IsS99.ge HI0.out)); rintro e w14 ⟨rfl, hi, hb, hk⟩; refine ⟨_, rfl, ?_⟩; have z_ := t3_ (kT_ (ki0_ HK.out) hk (.inl rfl)) hb hi; clear HI0 HB HK; obtain ⟨HK, HB, HI0⟩ := z_; (try clear hi hk hb)) | ((with_reducible refine gate_callee (f := 101) rfl ?_); refine gl_ (some 22) Try.func101 #[.pointer (some ⟨g, 0, none⟩)] ?_; (with_reducible refine (spec_l01Byte.calls g s0_0 t164 t165 t166 t167 t168 w0 _ ?side1 ?side2 A10.out).mono ?_); (case side1 => exact iz0_ HI0.out); (case side2 => exact bw1_ HB.out (IsS99.ge HI0.out)); rintro e w15 ⟨rfl, hi, hb, hk⟩; refine ⟨_, rfl, ?_⟩; have z_ := t3_ (kT_ (ki0_ HK.out) hk (.inl rfl)) hb hi; clear HI0 HB HK; obtain ⟨HK, HB, HI0⟩ := z_; (try clear hi hk hb)) | ((with_reducible refine gate_callee (f := 101) rfl ?_); refine gl_ (some 24) Try.func101 #[.pointer (some ⟨g, 0, none⟩)] ?_; (with_reducible refine (spec_l01Byte.calls g s0_0 t167 t168 t169 t170 t171 w0 _ ?side1 ?side2 A11.out).mono ?_); (case side1 => exact iz0_ HI0.out); (case side2 => exact bw1_ HB.out (IsS99.ge HI0.out)); rintro e w16 ⟨rfl, hi, hb, hk⟩; refine ⟨_, rfl, ?_⟩; have z_ := t3_ (kT_ (ki0_ HK.out) hk (.inl rfl)) hb hi; clear HI0 HB HK; obtain ⟨HK, HB, HI0⟩ := z_; (try clear hi hk hb)))
    go_ret
    exact ⟨rb_, iz0_ HI0.out, bw1_ HB.out (IsS99.ge HI0.out), ki0_ HK.out⟩

def spec_l01Int.f (s0_0 : List Int) (s0_1 : Int) (s0_2 : Int) (l1 : List Int) : Option (Int × Int × Int) := (spec_l01Below.f s0_0 s0_1 s0_2 (l1.length : Int)).bind fun bt172 => (if 0 ≤ bt172.1 then (if bt172.1 < (l1.length : Int) then (some (rd l1 bt172.1, bt172.2.1, bt172.2.2)) else (none)) else (none))
set_option maxHeartbeats 8000000 in
set_option maxRecDepth 100000 in
theorem spec_l01Int.calls (g : Nat) (s0_0 : List Int) (s0_1 : Int) (s0_2 : Int) (A1 : Option Addr) (c1 : Nat) (l1 : List Int) (r1 : Int) (r2 : Int) (r3 : Int) (w0 w : World) (hI : IsS99 w0 w g s0_0 s0_1 s0_2) (hB : Below w0.heap.size w0 w) (hr1 : Kd.C (Kd.int .i64) w A1 l1.length l1) (hc1 : l1.length ≤ c1) (hf1 : ∀ ad, A1 = some ad → 0 < l1.length → ad.block ≠ g) (h : spec_l01Int.f s0_0 s0_1 s0_2 l1 = some (r1, r2, r3)) :
    Calls Try.prog 95 #[.pointer (some ⟨g, 0, none⟩), .slice A1 l1.length c1] w fun e w' => e = .returned (.int .i64 r1) ∧ IsS99 w0 w' g s0_0 r2 r3 ∧ Below w0.heap.size w0 w' ∧ KeepBut w w' g none := by
 have HR1 := M_ hr1
 have HC1 := M_ hc1
 clear hr1 hc1
 have HI0 := M_ hI
 have HK := M_ (KeepBut.refl w g none)
 have HL := M_ hB.size
 clear hI
 have HW0 := M_ hB.size
 have HB := M_ hB
 clear hB
 have H : ((spec_l01Below.f s0_0 s0_1 s0_2 (l1.length : Int)).bind fun bt172 => (if 0 ≤ bt172.1 then (if bt172.1 < (l1.length : Int) then (some (rd l1 bt172.1, bt172.2.1, bt172.2.2)) else (none)) else (none))) = some (r1, r2, r3) := h
 clear h
 replace H := bs_ H
 obtain ⟨⟨t172, t173, t174⟩, A30, H⟩ := H
 dsimp only at H
 have A3 := M_ A30
 clear A30
 by_cases c4 : 0 ≤ t172
 ·rw [if_pos c4] at H
  have c4b0 := dt_ c4
  clear c4
  by_cases c5 : t172 < (l1.length : Int)
  ·rw [if_pos c5] at H
   have c5b0 := dt_ c5
   clear c5
   simp only [Option.some.injEq, Prod.mk.injEq] at H
   obtain ⟨rfl, rfl, rfl⟩ := H
   go_enter Try.func95, Try.ntmps95
   go_wp2_with (first | ((with_reducible refine gate_callee (f := 73) rfl ?_); refine gl_ (some 9) Try.func73 #[.pointer (some ⟨g, 0, none⟩), .int .i64 (l1.length : Int)] ?_; (with_reducible refine (spec_l01Below.calls g s0_0 s0_1 s0_2 (l1.length : Int) t172 t173 t174 w0 _ ?side1 ?side2 A3.out).mono ?_); (case side1 => exact iz0_ HI0.out); (case side2 => exact bw1_ HB.out (IsS99.ge HI0.out)); rintro e w6 ⟨rfl, hi, hb, hk⟩; refine ⟨_, rfl, ?_⟩; have z_ := t3_ (kT_ (ki0_ HK.out) hk (.inl rfl)) hb hi; clear HI0 HB HK; obtain ⟨HK, HB, HI0⟩ := z_; (try clear hi hk hb); have p175 : 0 ≤ (t172 : Int) := od_ as_; have q175 : t172 < (l1.length : Int) := od_ as_; obtain ⟨ad175, e175, hx175_0⟩ := Kd.at_int HR1.out t172 p175 q175; cases e175; replace hx175_0 := keep_cell HK.out hx175_0 (by first | (rw [add_block]; exact hf1 _ rfl (by omega)) | exact hf1 _ rfl (by omega) | exact hf1 ad175 rfl (by omega)); replace p175 := eq_true p175; replace q175 := eq_true q175))
   go_ret
   exact ⟨rb_, iz0_ HI0.out, bw1_ HB.out (IsS99.ge HI0.out), ki0_ HK.out⟩
  ·rw [if_neg c5] at H
   exact absurd H (by simp)
 ·rw [if_neg c4] at H
  exact absurd H (by simp)

end Go.Proofs.Ytilbngklgjjblaa.Q
