/- The order of a bar is made of the same sets and sorts all, and so does their order by size. No conditions beyond those of the statement's reading. -/
import Derived.Test.YthdgkjnhjihkpaaP0
import Derived.Test.YthdgkjnhjihkpaaPBar
import Derived.Test.YthdgkjnhjihkpaaPDraw
import Derived.Test.YthdgkjnhjihkpaaPDrawA
import Derived.Test.YthdgkjnhjihkpaaPDrawT
import Derived.Test.YthdgkjnhjihkpaaPDup
import Derived.Test.YthdgkjnhjihkpaaPIntsL
import Derived.Test.YthdgkjnhjihkpaaPOrd
import Derived.Test.YthdgkjnhjihkpaaPOrdE
import Derived.Test.YthdgkjnhjihkpaaPSorted
import Derived.Test.YthdgkjnhjihkpaaPSorts
import Derived.Test.YthdgkjnhjihkpaaQ1
import Derived.Test.YthdgkjnhjihkpaaQ3
import Derived.Test.YthdgkjnhjihkpaaQ8
import Derived.Test.YthdgkjnhjihkpaaQ9
namespace Go.Proofs.Ythdgkjnhjihkpaa.Pure
open Go.RowKit Go.Proofs.Ythdgkjnhjihkpaa.Q Go.Proofs.YthdgkjnhjihkpaaW.PrintWords Go.Proofs.YthdgkjnhjihkpaaW.PrintLast Go.Proofs.YthdgkjnhjihkpaaW.PrintMore
set_option linter.unusedVariables false
set_option linter.unusedSimpArgs false
theorem swap_ok (l r : List Int) (i1 h1 : Int) (c1 : Cur l i1) (hr : r.length ≤ 42) :
    ∃ q, (if (r.length : Int) > 1 then ((spec_l01Once.f l i1 h1 3).bind fun bt265 => (if bt265.1 = true then ((spec_l01Below.f l bt265.2.1 bt265.2.2 (wrap64 ((r.length : Int) - 1))).bind fun bt268 => (if 0 ≤ bt268.1 then (if bt268.1 < (r.length : Int) then (if 0 ≤ (wrap64 (bt268.1 + 1)) then (if (wrap64 (bt268.1 + 1)) < (r.length : Int) then (some ((r.set (bt268.1 : Int).toNat (rd r (wrap64 (bt268.1 + 1)))).set ((wrap64 (bt268.1 + 1)) : Int).toNat (rd r bt268.1))) else (none)) else (none)) else (none)) else (none))) else (some r))) else (some r)) = some q ∧ q.length ≤ 42 := by
  by_cases hl : (r.length : Int) > 1
  · obtain ⟨x, i2, h2, e2, _, _, c2⟩ := below_ok l i1 h1 3 c1 (by omega) (by omega)
    obtain ⟨n, hn2, hn3⟩ : ∃ n : Int, wrap64 ((r.length : Int) - 1) = n ∧ n = (r.length : Int) - 1 := ⟨_, rfl, wrap_id _ (by omega) (by omega)⟩
    obtain ⟨y, i3, h3, e3, y0, y1, c3⟩ := below_ok l i2 h2 n c2 (by omega) (by omega)
    have ho : spec_l01Once.f l i1 h1 3 = some (x == 0, i2, h2) := by unfold spec_l01Once.f; rw [e2]; rfl
    have hw : wrap64 (y + 1) = y + 1 := wrap_id _ (by omega) (by omega)
    rw [if_pos hl, ho, Option.bind_some]
    by_cases hx : (x == 0) = true
    · show ∃ q, (if (x == 0) = true then ((spec_l01Below.f l i2 h2 (wrap64 ((r.length : Int) - 1))).bind _) else some r) = some q ∧ _
      rw [if_pos hx, hn2, e3, Option.bind_some]
      show ∃ q, (if 0 ≤ y then (if y < (r.length : Int) then (if 0 ≤ wrap64 (y + 1) then (if wrap64 (y + 1) < (r.length : Int) then some ((r.set y.toNat (rd r (wrap64 (y + 1)))).set (wrap64 (y + 1)).toNat (rd r y)) else none) else none) else none) else none) = some q ∧ _
      rw [hw, if_pos y0, if_pos (by omega), if_pos (by omega), if_pos (by omega)]
      exact ⟨_, rfl, by rw [List.length_set, List.length_set]; exact hr⟩
    · show ∃ q, (if (x == 0) = true then ((spec_l01Below.f l i2 h2 (wrap64 ((r.length : Int) - 1))).bind _) else some r) = some q ∧ _
      rw [if_neg hx]
      exact ⟨r, rfl, hr⟩
  · rw [if_neg hl]
    exact ⟨r, rfl, hr⟩
theorem drawOrder_ok (l : List Int) (hl : l.length ≤ 1099511627776) : ∃ r, Ev (fun k => spec_DrawOrderBar.f k l) r ∧ r.length ≤ 42 := by
  obtain ⟨h, ⟨K, hn⟩⟩ := new_ok l hl
  obtain ⟨r, i1, h1, ⟨K1, hr⟩, q1, c1⟩ := anyBar_ok l 0 h ⟨by omega, by omega, hl⟩
  obtain ⟨q, hq, hq2⟩ := swap_ok l r i1 h1 c1 q1
  refine ⟨q, ?_, hq2⟩
  refine Ev.bind (f := fun _ t => some t) (g := fun k => spec_DrawSortsAll.f k l) ?_ (Ev.now _)
  refine Ev.bind (f := fun k (bt256 : List Int × Int × Int) => (spec_l1Any.f k bt256.1 bt256.2.1 bt256.2.2).bind fun bt260 => (if (bt260.1.length : Int) > 1 then ((spec_l01Once.f bt256.1 bt260.2.1 bt260.2.2 3).bind fun bt265 => (if bt265.1 = true then ((spec_l01Below.f bt256.1 bt265.2.1 bt265.2.2 (wrap64 ((bt260.1.length : Int) - 1))).bind fun bt268 => (if 0 ≤ bt268.1 then (if bt268.1 < (bt260.1.length : Int) then (if 0 ≤ (wrap64 (bt268.1 + 1)) then (if (wrap64 (bt268.1 + 1)) < (bt260.1.length : Int) then (some ((bt260.1.set (bt268.1 : Int).toNat (rd bt260.1 (wrap64 (bt268.1 + 1)))).set ((wrap64 (bt268.1 + 1)) : Int).toNat (rd bt260.1 bt268.1))) else (none)) else (none)) else (none)) else (none))) else (some bt260.1))) else (some bt260.1))) ⟨K, hn⟩ ?_
  refine Ev.bind (f := fun _ (bt260 : List Int × Int × Int) => (if (bt260.1.length : Int) > 1 then ((spec_l01Once.f l bt260.2.1 bt260.2.2 3).bind fun bt265 => (if bt265.1 = true then ((spec_l01Below.f l bt265.2.1 bt265.2.2 (wrap64 ((bt260.1.length : Int) - 1))).bind fun bt268 => (if 0 ≤ bt268.1 then (if bt268.1 < (bt260.1.length : Int) then (if 0 ≤ (wrap64 (bt268.1 + 1)) then (if (wrap64 (bt268.1 + 1)) < (bt260.1.length : Int) then (some ((bt260.1.set (bt268.1 : Int).toNat (rd bt260.1 (wrap64 (bt268.1 + 1)))).set ((wrap64 (bt268.1 + 1)) : Int).toNat (rd bt260.1 bt268.1))) else (none)) else (none)) else (none)) else (none))) else (some bt260.1))) else (some bt260.1))) ⟨K1, hr⟩ ?_
  exact ev_const (fun _ => hq)
theorem dup_of (l : List Int) (h : ∀ j (hj : j < l.length), l[j] ∉ l.take j) : ∀ d i, i + d = l.length → dupFrom l i (l.drop i) = false := by
  intro d
  induction d with
  | zero => intro i hi; rw [List.drop_eq_nil_of_le (by omega), dupFrom]
  | succ d ih =>
    intro i hi
    have hi' : i < l.length := by omega
    rw [List.drop_eq_getElem_cons hi', dupFrom, ih (i + 1) (by omega), decide_eq_false (h i hi')]
    rfl
theorem nodup_of (l : List Int) (h : dupFrom l 0 l = false) : l.Nodup := by
  rw [List.nodup_iff_pairwise_ne, List.pairwise_iff_getElem]
  intro i j hi hj hij
  exact no_two l h i j hi hj (by omega)
theorem sorted_end (l : List Int) (hl : l.length ≤ 42) (hno : ∀ j (hj : j < l.length), l[j] ∉ l.take j) : Ev (fun k => laws_FnSorted.l0 k l l (l.length : Int) (l.length : Int)) true := by
  obtain ⟨K1, f1⟩ := spec_IsBar_ev l (by omega)
  by_cases hb : isBar l = true
  · have hd := dup_of l hno l.length 0 (by omega)
    rw [List.drop_zero] at hd
    obtain ⟨o, ho, he⟩ := order_some l hb hd
    obtain ⟨K2, f2⟩ := impl_OrderBar_ev l (by omega)
    rw [he] at f2
    have hp := ordI_perm _ _ _ _ ho
    rw [List.nil_append] at hp
    have hol := hp.length_eq
    have hnd := nodup_of l hd
    have hs := ordI_sorts _ _ _ _ ho hnd List.Pairwise.nil (fun a ha => absurd ha (by simp))
    have hbo := bar_perm o l hp hb
    have hs1 := sorts_of o hbo hs
    have hpi := insAll_perm l []
    rw [List.append_nil] at hpi
    have hbi := bar_perm _ l hpi hb
    have hs2 := sorts_of _ hbi (asc_part _ hbi (insAll_strict l hnd))
    obtain ⟨K3, f3⟩ := ordered_ev o (by omega)
    obtain ⟨K4, f4⟩ := ordered_ev l (by omega)
    obtain ⟨K5, f5⟩ := ints_ev (insAll o []) (insAll l []) (by rw [(insAll_perm o []).length_eq, List.append_nil]; omega)
    rw [decide_eq_true (insAll_same o l hp)] at f5
    obtain ⟨K6, f6⟩ := impl_SortsAll_ev o (by omega)
    rw [hs1] at f6
    obtain ⟨K7, f7⟩ := impl_SortsAll_ev (insAll l []) (by rw [hpi.length_eq]; omega)
    rw [hs2] at f7
    refine ⟨K1 + K2 + K3 + K4 + K5 + K6 + K7 + 1, fun k hk => ?_⟩
    obtain ⟨k, rfl⟩ : ∃ m, k = m + 1 := ⟨k - 1, by omega⟩
    simp only [laws_FnSorted.l0, f1 k (by omega), hb, f2 k (by omega), f3 k (by omega), f4 k (by omega), f5 k (by omega), f6 k (by omega), f7 k (by omega), Option.bind_some, if_true]
    rw [if_neg (by omega)]
  · refine ⟨K1 + 1, fun k hk => ?_⟩
    obtain ⟨k, rfl⟩ : ∃ m, k = m + 1 := ⟨k - 1, by omega⟩
    simp only [laws_FnSorted.l0, f1 k (by omega), if_neg hb, isBar_eq, Option.bind_some]
    rw [if_neg (by omega), show isBar l = false by simpa using hb]
    rfl
theorem sorted_loop (l : List Int) (hl : l.length ≤ 42) : ∀ d i, i + d = l.length → (∀ j (hj : j < l.length), j < i → l[j] ∉ l.take j) → Ev (fun k => laws_FnSorted.l0 k l l (l.length : Int) (i : Int)) true := by
  intro d
  induction d with
  | zero =>
    intro i hi hno
    obtain rfl : i = l.length := by omega
    exact sorted_end l hl (fun j hj => hno j hj hj)
  | succ d ih =>
    intro i hi hno
    have hi' : i < l.length := by omega
    obtain ⟨K1, f1⟩ := lcount_ev (l.take i) l[i] (by rw [List.length_take]; omega)
    by_cases hm : l[i] ∈ l.take i
    · have hc : ((l.take i).count l[i] : Int) > 0 := by
        have := List.count_pos_iff.2 hm
        omega
      refine ⟨K1 + 1, fun k hk => ?_⟩
      obtain ⟨k, rfl⟩ : ∃ m, k = m + 1 := ⟨k - 1, by omega⟩
      simp only [laws_FnSorted.l0, rd_nat l i hi', Int.toNat_natCast, f1 k (by omega), Option.bind_some, if_pos hc]
      rw [if_pos (by omega), if_pos (by omega), if_pos (by omega), if_pos (by omega)]
    · have hc : ¬ ((l.take i).count l[i] : Int) > 0 := by
        have := List.count_eq_zero.2 hm
        omega
      obtain ⟨K2, f2⟩ := ih (i + 1) (by omega) (fun j hj hji => by
        by_cases e : j = i
        · subst e; exact hm
        · exact hno j hj (by omega))
      refine ⟨K1 + K2 + 1, fun k hk => ?_⟩
      obtain ⟨k, rfl⟩ : ∃ m, k = m + 1 := ⟨k - 1, by omega⟩
      simp only [laws_FnSorted.l0, rd_nat l i hi', Int.toNat_natCast, f1 k (by omega), Option.bind_some, if_neg hc, w1 i (show i ≤ 4611686018427387904 by omega)]
      rw [if_pos (by omega), if_pos (by omega), if_pos (by omega), if_pos (by omega)]
      exact f2 k (by omega)
theorem FnSorted : laws_FnSorted.Pure := by
  intro l hm hm2 hw
  by_cases hlen : (l.length : Int) > 1048576
  · exact ⟨0, by simp only [laws_FnSorted.f, if_pos hlen]⟩
  obtain ⟨r, ⟨K1, h1⟩, hr⟩ := drawOrder_ok l (by omega)
  obtain ⟨K2, h2⟩ := sorted_loop r hr r.length 0 (by omega) (fun j _ h => absurd h (Nat.not_lt_zero j))
  refine ⟨K1 + K2, ?_⟩
  simp only [laws_FnSorted.f, if_neg hlen, h1 (K1 + K2) (by omega), Option.bind_some]
  exact h2 (K1 + K2) (by omega)
end Go.Proofs.Ythdgkjnhjihkpaa.Pure
