/- A broken rail catches some matrices at its place and changes nothing for the others. No conditions beyond those of the statement's reading. -/
import Derived.Test.YthdgkjnhjihkpaaP0
import Derived.Test.YthdgkjnhjihkpaaPBar
import Derived.Test.YthdgkjnhjihkpaaPBreak
import Derived.Test.YthdgkjnhjihkpaaPDraw
import Derived.Test.YthdgkjnhjihkpaaPDrawA
import Derived.Test.YthdgkjnhjihkpaaPFallOf
import Derived.Test.YthdgkjnhjihkpaaPLoss
import Derived.Test.YthdgkjnhjihkpaaPTeeth
import Derived.Test.YthdgkjnhjihkpaaQ1
import Derived.Test.YthdgkjnhjihkpaaQ2
import Derived.Test.YthdgkjnhjihkpaaQ7
import Derived.Test.YthdgkjnhjihkpaaQ8
namespace Go.Proofs.Ythdgkjnhjihkpaa.Pure
open Go.RowKit Go.Proofs.Ythdgkjnhjihkpaa.Q Go.Proofs.YthdgkjnhjihkpaaW.PrintWords Go.Proofs.YthdgkjnhjihkpaaW.PrintLast Go.Proofs.YthdgkjnhjihkpaaW.PrintMore
set_option linter.unusedVariables false
set_option linter.unusedSimpArgs false
theorem more_all : ∀ t : Nat, t < 7 → ∀ s : Nat, s < 128 → Go.bits .and .i64 (shr .i64 (s : Int) (t : Int)) 1 ≠ 1 → (0 ≤ Go.bits .or .i64 (s : Int) (shl .i64 1 (t : Int)) ∧ Go.bits .or .i64 (s : Int) (shl .i64 1 (t : Int)) ≤ 127) ∧ popc (Go.bits .or .i64 (s : Int) (shl .i64 1 (t : Int))).toNat = popc s + 1 := by decide +kernel
theorem part_and_b : ∀ s : Nat, s < 128 → ∀ t : Nat, t < 128 → partB (s : Int) (t : Int) = (s &&& t == s) := by decide +kernel
theorem or_nat : ∀ t : Nat, t < 7 → ∀ s : Nat, s < 128 → Go.bits .or .i64 (s : Int) (shl .i64 1 (t : Int)) = ((s ||| 2 ^ t : Nat) : Int) ∧ s ||| 2 ^ t < 128 := by decide +kernel
theorem and_or_keep (x s u : Nat) (h : x &&& s = x) : x &&& (s ||| u) = x := by
  apply Nat.eq_of_testBit_eq
  intro i
  have := congrArg (fun n => n.testBit i) h
  simp only [Nat.testBit_and, Nat.testBit_or] at this ⊢
  cases hx : x.testBit i <;> cases hs : s.testBit i <;> simp_all
theorem part_more_all (t : Nat) (ht : t < 7) (s : Nat) (hs : s < 128) (x : Nat) (hx : x < 128) (h : partB (x : Int) (s : Int) = true) : partB (x : Int) (Go.bits .or .i64 (s : Int) (shl .i64 1 (t : Int))) = true := by
  obtain ⟨e, e2⟩ := or_nat t ht s hs
  rw [part_and_b x hx s hs, beq_iff_eq] at h
  rw [e, part_and_b x hx _ e2, beq_iff_eq]
  exact and_or_keep x s _ h
/-- The first place at which a list with one place changed answers. -/
theorem findIdx_set {α : Type} (p : α → Bool) (v : α) : ∀ (l : List α) (n : Nat) (hn : n < l.length), (p l[n] = true → p v = true) →
    ((l.set n v).findIdx p = l.findIdx p ∨ ((l.set n v).findIdx p = n ∧ n ≤ l.findIdx p))
  | [], n, hn, _ => absurd hn (Nat.not_lt_zero _)
  | a :: r, 0, hn, h => by
    rw [List.set_cons_zero, List.findIdx_cons, List.findIdx_cons]
    simp only [List.getElem_cons_zero] at h
    cases hv : p v with
    | true => right; simp
    | false =>
      have : p a = false := by
        cases ha : p a with
        | true => rw [h ha] at hv; cases hv
        | false => rfl
      left; rw [this]
  | a :: r, n + 1, hn, h => by
    have ih := findIdx_set p v r n (by simpa using hn) (by simpa using h)
    rw [List.set_cons_succ, List.findIdx_cons, List.findIdx_cons]
    cases ha : p a with
    | true => left; rfl
    | false =>
      simp only [cond_false]
      omega
theorem drawBreak_ok (l : List Int) (hl : l.length ≤ 1099511627776) : ∃ r p t, Ev (fun k => spec_DrawBreakRail.f k l) (r, p, t) ∧ r.length ≤ 42 := by
  obtain ⟨h, ⟨K, hn⟩⟩ := new_ok l hl
  obtain ⟨r, i1, h1, ⟨K1, hr⟩, q1, c1⟩ := anyBar_ok l 0 h ⟨by omega, by omega, hl⟩
  obtain ⟨n, hn2, hn3⟩ : ∃ n : Int, wrap64 ((r.length : Int) + 2) = n ∧ n = (r.length : Int) + 2 := ⟨_, rfl, wrap_id _ (by omega) (by omega)⟩
  obtain ⟨x, i2, h2, f2, _, _, c2⟩ := below_ok l i1 h1 n c1 (by omega) (by omega)
  obtain ⟨y, i3, h3, f3, _, _⟩ := int_ok l i2 h2 [0, 1, 2, 3, 4, 5, 6, 7, (-1)] c2 (by decide) (by decide)
  refine ⟨r, wrap64 (x - 1), y, ?_, q1⟩
  refine Ev.bind (f := fun k (bt : List Int × Int × Int) => (spec_l1Any.f k bt.1 bt.2.1 bt.2.2).bind fun bt260 => (spec_l01Below.f bt.1 bt260.2.1 bt260.2.2 (wrap64 ((bt260.1.length : Int) + 2))).bind fun bt265 => (spec_l01Int.f bt.1 bt265.2.1 bt265.2.2 [0, 1, 2, 3, 4, 5, 6, 7, (-1)]).bind fun bt271 => some (bt260.1, wrap64 (bt265.1 - 1), bt271.1)) ⟨K, hn⟩ ?_
  refine Ev.bind (f := fun k (bt260 : List Int × Int × Int) => (spec_l01Below.f l bt260.2.1 bt260.2.2 (wrap64 ((bt260.1.length : Int) + 2))).bind fun bt265 => (spec_l01Int.f l bt265.2.1 bt265.2.2 [0, 1, 2, 3, 4, 5, 6, 7, (-1)]).bind fun bt271 => some (bt260.1, wrap64 (bt265.1 - 1), bt271.1)) ⟨K1, hr⟩ ?_
  refine ev_const (fun k => ?_)
  show (spec_l01Below.f l i1 h1 (wrap64 ((r.length : Int) + 2))).bind _ = _
  rw [hn2, f2, Option.bind_some]
  show (spec_l01Int.f l i2 h2 _).bind _ = _
  rw [f3, Option.bind_some]
theorem broken_loop (l : List Int) (p : Nat) (t : Int) (hb : isBar l = true) (hp : p < l.length) (ht0 : 0 ≤ t) (ht6 : t ≤ 6) (hbit : ¬ Go.bits .and .i64 (shr .i64 l[p] t) 1 = 1)
    (b : List Int) (eb : b = l.set p (Go.bits .or .i64 l[p] (shl .i64 1 t))) (hbb : isBar b = true) :
    ∀ d i : Nat, i + d = 128 → Ev (fun k => laws_FnBroken.l0 k l (p : Int) b (i : Int)) true := by
  obtain ⟨b1, b2, b3⟩ := (isBar_iff l).1 hb
  have hlp := b3 l[p] (List.getElem_mem hp)
  have hm := more_all t.toNat (by omega) l[p].toNat (by omega)
  rw [Int.toNat_of_nonneg hlp.1, Int.toNat_of_nonneg ht0] at hm
  obtain ⟨hm1, hm2⟩ := hm hbit
  have hbl : b.length = l.length := by rw [eb, List.length_set]
  intro d
  induction d with
  | zero =>
    intro i hi
    obtain rfl : i = 128 := by omega
    refine ev_step1 (fun k => ?_)
    have e1 : rd b (p : Int) = Go.bits .or .i64 l[p] (shl .i64 1 t) := by
      rw [rd_nat b p (by omega)]; simp [eb]
    simp only [laws_FnBroken.l0, impl_CountTeeth_eq, Option.bind_some, e1, rd_nat l p hp, countT]
    rw [if_neg (by omega), if_pos (by omega), if_pos (by omega), if_pos (by omega), if_pos ((isSetB_iff _).2 hm1), if_pos ((isSetB_iff _).2 hlp), hm2]
    have := popc_le l[p].toNat
    rw [wrap_id _ (by omega) (by omega)]
    simp
  | succ d ih =>
    intro i hi
    have h := ih (i + 1) (by omega)
    have hi7 : isSetB (i : Int) = true := (isSetB_iff _).2 ⟨by omega, by omega⟩
    obtain ⟨K1, f1⟩ := impl_FallOf_ev l (i : Int) (by omega)
    obtain ⟨K2, f2⟩ := impl_FallOf_ev b (i : Int) (by omega)
    rw [fallOf, if_pos hb, if_pos hi7] at f1
    rw [fallOf, if_pos hbb, if_pos hi7] at f2
    have hmono := findIdx_set (partB (i : Int)) (Go.bits .or .i64 l[p] (shl .i64 1 t)) l p hp (fun hx => by
      have h := part_more_all t.toNat (by omega) l[p].toNat (by omega) i (by omega)
      rw [Int.toNat_of_nonneg hlp.1, Int.toNat_of_nonneg ht0] at h
      exact h hx)
    rw [← eb] at hmono
    obtain ⟨K3, h⟩ := h
    refine ⟨K1 + K2 + K3 + 1, fun k hk => ?_⟩
    obtain ⟨k, rfl⟩ : ∃ m, k = m + 1 := ⟨k - 1, by omega⟩
    simp only [laws_FnBroken.l0, f1 k (by omega), f2 k (by omega), Option.bind_some, w1 i (show i ≤ 4611686018427387904 by omega), fallN]
    rw [if_pos (by omega)]
    rcases hmono with hm3 | ⟨hm3, hm4⟩
    · rw [if_pos (by rw [hm3])]; exact h k (by omega)
    · by_cases e : (((b.findIdx (partB (i : Int)) : Nat) : Int)) = ((l.findIdx (partB (i : Int)) : Nat) : Int)
      · rw [if_pos e]; exact h k (by omega)
      · rw [if_neg e, if_pos (by rw [hm3]), if_neg (by omega)]; exact h k (by omega)
theorem FnBroken : laws_FnBroken.Pure := by
  intro l hm hm2 hw
  by_cases hlen : (l.length : Int) > 1048576
  · exact ⟨0, by simp only [laws_FnBroken.f, if_pos hlen]⟩
  obtain ⟨r, p, t, ⟨K1, h1⟩, hr⟩ := drawBreak_ok l (by omega)
  obtain ⟨K2, h2⟩ := spec_IsBar_ev r (by omega)
  by_cases hok : (breakRail r p t).2 = true
  · -- the rail was broken
    have hok' := hok
    unfold breakRail at hok'
    by_cases hb : isBar r = true
    · rw [if_pos hb] at hok'
      by_cases p0 : p < 0
      · rw [if_pos p0] at hok'; cases hok'
      · rw [if_neg p0] at hok'
        by_cases p1 : p ≥ (r.length : Int)
        · rw [if_pos p1] at hok'; cases hok'
        · rw [if_neg p1] at hok'
          by_cases t0 : t < 0
          · rw [if_pos t0] at hok'; cases hok'
          · rw [if_neg t0] at hok'
            by_cases t6 : t > 6
            · rw [if_pos t6] at hok'; cases hok'
            · rw [if_neg t6] at hok'
              by_cases hbit : Go.bits .and .i64 (shr .i64 (rd r p) t) 1 = 1
              · rw [if_pos hbit] at hok'; cases hok'
              · obtain ⟨n, rfl⟩ : ∃ n : Nat, p = n := ⟨p.toNat, by omega⟩
                have hn : n < r.length := by omega
                rw [rd_nat r n hn] at hbit
                obtain ⟨b1, b2, b3⟩ := (isBar_iff r).1 hb
                have hlp := b3 r[n] (List.getElem_mem hn)
                have hm := more_all t.toNat (by omega) r[n].toNat (by omega)
                rw [Int.toNat_of_nonneg hlp.1, Int.toNat_of_nonneg (by omega)] at hm
                have hm1 := (hm hbit).1
                have ebr : breakRail r (n : Int) t = (r.set n (Go.bits .or .i64 r[n] (shl .i64 1 t)), true) := by
                  unfold breakRail
                  rw [if_pos hb, if_neg p0, if_neg p1, if_neg t0, if_neg t6, rd_nat r n hn, if_neg hbit, Int.toNat_natCast]
                have hbb : isBar (r.set n (Go.bits .or .i64 r[n] (shl .i64 1 t))) = true := by
                  rw [isBar_iff, List.length_set]
                  refine ⟨b1, b2, fun s hs => ?_⟩
                  rcases List.mem_or_eq_of_mem_set hs with hs | hs
                  · exact b3 s hs
                  · rw [hs]; exact hm1
                obtain ⟨K3, h3⟩ := broken_loop r n t hb hn (by omega) (by omega) hbit _ rfl hbb 128 0 rfl
                generalize hK : K1 + K2 + K3 = K
                have g1 := fun j => h1 (K + j) (by omega)
                have g3 := fun j => h3 (K + j) (by omega)
                refine ⟨K + 9, ?_⟩
                simp only [laws_FnBroken.f, if_neg hlen, g1, Option.bind_some, impl_BreakRail_eq, ebr, if_true, List.length_set, isBar_eq, hbb, Bool.not_true]
                simp only [laws_FnBroken.j0, Bool.false_eq_true, if_false]
                exact g3 8
    · rw [if_neg hb] at hok'; cases hok'
  · have hok2 : (breakRail r p t).2 = false := by simpa using hok
    generalize hK : K1 + K2 = K
    have g1 := fun j => h1 (K + j) (by omega)
    have g2 := fun j => h2 (K + j) (by omega)
    refine ⟨K + 9, ?_⟩
    simp only [laws_FnBroken.f, if_neg hlen, g1, g2, Option.bind_some, impl_BreakRail_eq, hok2, Bool.false_eq_true, if_false]
    by_cases hb : isBar r = true
    · rw [if_pos hb]
      by_cases p0 : p < 0
      · rw [if_pos p0]
      · rw [if_neg p0]
        by_cases p1 : p ≥ (r.length : Int)
        · rw [if_pos p1]
        · rw [if_neg p1]
          by_cases t0 : t < 0
          · rw [if_pos t0]
          · rw [if_neg t0]
            by_cases t6 : t > 6
            · rw [if_pos t6]
            · rw [if_neg t6, if_pos (by omega), if_pos (by omega), if_pos (by omega)]
              unfold breakRail at hok2
              rw [if_pos hb, if_neg p0, if_neg p1, if_neg t0, if_neg t6] at hok2
              by_cases hbit : Go.bits .and .i64 (shr .i64 (rd r p) t) 1 = 1
              · rw [hbit]; rfl
              · rw [if_neg hbit] at hok2; cases hok2
    · rw [if_neg hb]
end Go.Proofs.Ythdgkjnhjihkpaa.Pure
