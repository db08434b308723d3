/- Contracts of Go functions over this translation: each call returns what the Lean function of the same name gives, and writes into no memory that was there. Written by a program of this claim's author (mp.py) over the kit's print. Conditions: those that each theorem names. -/
import Derived.Test.YtnkpblbofjchaaaQ0
import Derived.Test.YtnkpblbofjchaaaQ1
namespace Go.Proofs.Ytnkpblbofjchaaa.Q
open Go.RowKit Go.Proofs.YtnkpblbofjchaaaW.PrintWords Go.Proofs.YtnkpblbofjchaaaW.PrintLast Go.Proofs.YtnkpblbofjchaaaW.PrintMore
attribute [local go_sem] max2_int min2_int max_two min_two max_three min_three max_four min_four   -- for this text's walks alone
set_option linter.unusedVariables false
set_option linter.unusedSimpArgs false

/-! ### slices_Concat_int_int: function 78 -/
/-- slices.Concat: all elements, one row behind the other, in memory of its own. -/
def slices_Concat_int_int.f (l0 : List (List Int)) : Option (List Int) := if l0.flatten.length * 8 ≤ 140737488355328 then some l0.flatten else none
theorem at_rowsI {w : World} {A : Option Addr} {n : Nat} {xs : List (List Int)} (h : Kd.C (Kd.slice 3 (Kd.int .i64)) w A n xs) (i : Int) (h0 : 0 ≤ i) (h1 : i < n) : ∃ ad A0 c0, A = some ad ∧ w.cell? (ad.add i.toNat) = some (.slice A0 (xs.getD i.toNat []).length c0) ∧ (xs.getD i.toNat []).length ≤ c0 ∧ (Kd.int .i64).C w A0 (xs.getD i.toNat []).length (xs.getD i.toNat []) := by
  obtain ⟨ad, c, e, _, hK, hc0⟩ := Kd.C_get h ([] : List Int) i h0 h1
  have hc : ∀ j u, c[j]? = some u → w.cell? (ad.add (i.toNat * 1 + j)) = some u := hc0
  obtain ⟨A0, c0, rfl, l0, g0⟩ := hK
  exact ⟨ad, A0, c0, e, by have hq := hc 0 _ rfl; rwa [Nat.mul_one, Nat.add_zero] at hq, l0, g0⟩
theorem flat_next (l : List (List Int)) (i : Nat) (hi : i < l.length) : (l.take (i + 1)).flatten = (l.take i).flatten ++ l.getD i [] := by
  rw [List.take_succ_eq_append_getElem hi, List.flatten_append]
  simp [List.getD_eq_getElem?_getD, hi]
theorem flat_le (l : List (List Int)) (i : Nat) : (l.take i).flatten.length ≤ l.flatten.length := by
  have h : l.flatten = (l.take i).flatten ++ (l.drop i).flatten := by rw [← List.flatten_append, List.take_append_drop]
  rw [h, List.length_append]
  omega
set_option maxHeartbeats 4000000 in
set_option maxRecDepth 100000 in
theorem slices_Concat_int_int.calls (A0 : Option Addr) (c0 : Nat) (l0 : List (List Int)) (r : List Int) (w : World) (hr0 : Kd.C (Kd.slice 3 (Kd.int .i64)) w A0 l0.length l0) (hc0 : l0.length ≤ c0) (h : slices_Concat_int_int.f l0 = some r) :
    Calls Try.prog 78 #[.slice A0 l0.length c0] w fun e w' => ∃ v0_ : Value, e = .returned (v0_) ∧ Kd.R (Kd.int .i64) 3 w' w.heap.size (fun _ => True) v0_ r ∧ Below w.heap.size w w' := by
  unfold slices_Concat_int_int.f at h
  by_cases hlim : l0.flatten.length * 8 ≤ 140737488355328
  case neg => rw [if_neg hlim] at h; exact absurd h (by simp)
  rw [if_pos hlim] at h
  obtain rfl := Option.some.inj h
  clear h
  have hlen : l0.length ≤ 9223372036854775807 := hr0.2.1
  have HR0 := Aside0.mk hr0
  have HC0 := Aside0.mk hc0
  obtain ⟨T, hT⟩ : ∃ T : Nat, T = l0.flatten.length := ⟨_, rfl⟩
  rw [← hT] at hlim
  have hT0 : T ≤ 17592186044416 := by omega
  have LIM := Aside0.mk hlim
  have HT := Aside0.mk hT
  have HB := Aside0.mk (Below.refl w.heap.size w)
  clear hr0 hc0 hlim hT
  go_enter Try.func78, Try.ntmps78
  go_wp2_with fail
  go_loopg [3, 5, 11] l0.length (fun gg s3 s5 s11 wx => ∃ (i : Int) (sm : Nat), 0 ≤ i ∧ i + gg = l0.length ∧ s3 = .int .i64 (sm : Int) ∧ s11 = .int .i64 i ∧ Aside0 (sm = (l0.take i.toNat).flatten.length) ∧ Aside0 (Below w.heap.size w wx))
  case atStart => exact ⟨0, 0, by omega, by omega, rfl, rfl, ⟨by simp⟩, ⟨HB.out⟩⟩
  case round =>
    obtain ⟨i, sm, hi0, hig, rfl, rfl, HSM, HBX⟩ := hrel
    cases gk with
    | zero =>
      have hje : i = (l0.length : Int) := by omega
      subst hje
      have c14b0 : decide ((l0.length : Int) < (l0.length : Int)) = false := by simp
      have hfull : sm = T := by rw [HSM.out, Int.toNat_natCast, List.take_length, HT.out]
      subst hfull
      clear hi0 hig
      go_wp2_with (go_at_call 99; refine (slices_Grow_int_int.calls (sm : Int) _ (by omega) (by have := LIM.out; rw [Int.toNat_natCast]; exact this)).mono ?_; rintro e w' ⟨v1, rfl, ho, hb⟩; have HO := Aside0.mk (Kd.R_lower ho HBX.out.size); have HB2 := Aside0.mk (HBX.out.trans (hb.mono HBX.out.size)); clear ho hb)
      go_loopg [6, 8, 27] l0.length (fun gg s6 s8 s27 wx => ∃ (i : Int) (acc : List Int), 0 ≤ i ∧ i + gg = l0.length ∧ s27 = .int .i64 i ∧ Aside0 (acc = (l0.take i.toNat).flatten) ∧ Aside0 (Kd.R (Kd.int .i64) 3 wx w.heap.size (fun _ => True) s6 acc) ∧ Aside0 (Below w.heap.size w wx))
      case atStart => exact ⟨0, [], by omega, by omega, rfl, ⟨by simp⟩, ⟨HO.out⟩, ⟨HB2.out⟩⟩
      case round =>
        obtain ⟨i, acc, hi0, hig, rfl, HA, HO, HBY⟩ := hrel
        cases gk with
        | zero =>
          have hje : i = (l0.length : Int) := by omega
          subst hje
          have c14b1 : decide ((l0.length : Int) < (l0.length : Int)) = false := by simp
          have he : acc = l0.flatten := by rw [HA.out, Int.toNat_natCast, List.take_length]
          have HE := Aside0.mk he
          clear hi0 hig he
          go_wp2_with fail
          go_ret
          exact ⟨_, rfl, by rw [← HE.out]; exact HO.out, HBY.out⟩
        | succ g =>
          have hlt : i < (l0.length : Int) := by omega
          have c14b1 : decide (i < (l0.length : Int)) = true := decide_eq_true hlt
          obtain ⟨ad, Ar, cr, e1, hx0, hlr, hrr⟩ := at_rowsI HR0.out i hi0 hlt
          cases e1
          replace hx0 := (HBY.out.cell (World.block_lt_of_cell? w _ hx0)).trans hx0
          have hnext := flat_next l0 i.toNat (by omega)
          have hle := flat_le l0 (i.toNat + 1)
          rw [hnext, List.length_append, ← HT.out] at hle
          generalize l0.getD i.toNat [] = row at hx0 hlr hrr hnext hle
          have hrl : row.length ≤ 9223372036854775807 := hrr.2.1
          have HRR := Aside0.mk hrr
          have HN := Aside0.mk hnext
          have HLE := Aside0.mk hle
          have HIG := Aside0.mk hig
          have p18 : (0 ≤ i) = True := eq_true hi0
          have q18 : (i < (l0.length : Int)) = True := eq_true hlt
          clear hrr hnext hle hig hi0 hlt hlr
          obtain ⟨Ao, co, eo⟩ := Kd.R_slice HO.out
          subst eo
          go_wp2_with ((with_reducible refine gate_builtin (b := .append) (xs := #[.tmp 31, .tmp 32]) rfl ?_); at_builtin; refine Kd.R_append_rows (Kd.int .i64) (w0 := w) w.heap.size rfl (.tmp 31) (.tmp 32) 28 3 (.int .i64 0) 8 rfl Try.underlying28 info3 rfl (by decide) (by omega) _ acc row _ _ _ (fun _ => True) (fun _ => False) rfl rfl ?aO ?aR (fun _ _ h => h) (fun _ h => h.elim) ?aF ?aB ?aS ?aL ?_; (case aR => repeat (first | exact (Kd.C_below HRR.out HBY.out) | (with_reducible refine Kd.C_alloc ?_ _) | (with_reducible refine Kd.C_drewN ?_ _) | (with_reducible refine Kd.C_drew ?_))); (case aB => exact (by repeat (first | exact HBY.out | apply below_alloc | apply pw_below_drewN | apply below_drew1))); (case aF => exact (fun _ _ => trivial)); (case aO => exact (by (with_reducible repeat (first | apply Kd.R_alloc | apply Kd.R_drewN | apply Kd.R_drew)); exact HO.out)); (case aS => exact (below_size (by repeat (first | exact HBY.out | apply below_alloc | apply pw_below_drewN | apply below_drew1)))); (case aL => have h1 := LIM.out; have h2 := HLE.out; have h3 := congrArg List.length HA.out; omega); intro v2 w23 ho hb hg hat; have HO2 := Aside0.mk ho; have HB3 := Aside0.mk hb; clear ho hb hg hat)
          go_roundg g
          case measure => omega
          case rel =>
            have hig := HIG.out
            have hi0 := of_eq_true p18
            have hw : wrap64 (i + 1) = i + 1 := by unfold wrap64; omega
            have ht : (i + 1).toNat = i.toNat + 1 := by omega
            exact ⟨i + 1, acc ++ row, by omega, by omega, by rw [hw], ⟨by rw [ht, HN.out, HA.out]⟩, ⟨HO2.out⟩, ⟨HB3.out⟩⟩
    | succ g =>
      have hlt : i < (l0.length : Int) := by omega
      have c14b0 : decide (i < (l0.length : Int)) = true := decide_eq_true hlt
      obtain ⟨ad, Ar, cr, e1, hx0, hlr, hrr⟩ := at_rowsI HR0.out i hi0 hlt
      cases e1
      replace hx0 := (HBX.out.cell (World.block_lt_of_cell? w _ hx0)).trans hx0
      have hnext := congrArg List.length (flat_next l0 i.toNat (by omega))
      rw [List.length_append] at hnext
      have hle := flat_le l0 (i.toNat + 1)
      rw [hnext, ← HSM.out, ← HT.out] at hle
      rw [← HSM.out] at hnext
      generalize l0.getD i.toNat [] = row at hx0 hlr hrr hnext hle
      have hw : wrap64 ((sm : Int) + (row.length : Int)) = ((sm + row.length : Nat) : Int) := by unfold wrap64; omega
      have hneg : decide (((sm + row.length : Nat) : Int) < 0) = false := by simp; omega
      have HN := Aside0.mk hnext
      have HIG := Aside0.mk hig
      have p18 : (0 ≤ i) = True := eq_true hi0
      have q18 : (i < (l0.length : Int)) = True := eq_true hlt
      clear hrr hnext hle hig hi0 hlt hlr
      go_wp2_with fail
      go_roundg g
      case measure => omega
      case rel =>
        have hig := HIG.out
        have hi0 := of_eq_true p18
        have hw2 : wrap64 (i + 1) = i + 1 := by unfold wrap64; omega
        have ht : (i + 1).toNat = i.toNat + 1 := by omega
        exact ⟨i + 1, sm + row.length, by omega, by omega, by first | rfl | rw [hw], by rw [hw2], ⟨by rw [ht, HN.out]⟩, ⟨HBX.out⟩⟩

end Go.Proofs.Ytnkpblbofjchaaa.Q
