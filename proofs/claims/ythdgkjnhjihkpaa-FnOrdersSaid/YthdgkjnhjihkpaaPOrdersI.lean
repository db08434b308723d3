/- Orders of a chart: what the program's table gives. Conditions: those that each lemma names. -/
import Derived.Test.YthdgkjnhjihkpaaP0
import Derived.Test.YthdgkjnhjihkpaaPBar
import Derived.Test.YthdgkjnhjihkpaaPDup
import Derived.Test.YthdgkjnhjihkpaaPOrders
import Derived.Test.YthdgkjnhjihkpaaPTab
import Derived.Test.YthdgkjnhjihkpaaQ1
import Derived.Test.YthdgkjnhjihkpaaQ2
namespace Go.Proofs.Ythdgkjnhjihkpaa.Q
open Go.RowKit Go.Proofs.YthdgkjnhjihkpaaW.PrintWords Go.Proofs.YthdgkjnhjihkpaaW.PrintLast Go.Proofs.YthdgkjnhjihkpaaW.PrintMore
set_option linter.unusedVariables false
set_option linter.unusedSimpArgs false
/-- The sum over the table from place q on, each place's ways times the orders of what is left. -/
def pot (f g : Nat → Int) (full : Nat) : Nat → Nat → Int
  | _, 0 => 0
  | q, c + 1 => f q * g (full - q) + pot f g full (q + 1) c
theorem pot_out (f g : Nat → Int) (full t : Nat) (x : Int) : ∀ c q, t < q → pot (upd f t x) g full q c = pot f g full q c
  | 0, q, _ => rfl
  | c + 1, q, h => by rw [pot, pot, upd_ne _ _ _ _ (by omega), pot_out f g full t x c (q + 1) (by omega)]
theorem pot_in (f g : Nat → Int) (full t : Nat) (x : Int) : ∀ c q, q ≤ t → t < q + c → pot (upd f t x) g full q c = pot f g full q c + (x - f t) * g (full - t)
  | 0, q, h1, h2 => absurd h2 (by omega)
  | c + 1, q, h1, h2 => by
    rw [pot, pot]
    by_cases e : q = t
    · subst e
      rw [upd_at, pot_out f g full q x c (q + 1) (by omega), Int.sub_mul]
      omega
    · rw [upd_ne _ _ _ _ e, pot_in f g full t x c (q + 1) (by omega) (by omega)]
      omega
theorem pot_zero (f g : Nat → Int) (full : Nat) : ∀ c q, (∀ m, q ≤ m → f m = 0) → pot f g full q c = 0
  | 0, q, _ => rfl
  | c + 1, q, h => by rw [pot, h q (Nat.le_refl _), pot_zero f g full c (q + 1) (fun m hm => h m (by omega))]; simp
/-- A row's plain sum. -/
def psum (al : Nat → Bool) (h : Nat → Int) : Nat → Nat → Int
  | _, 0 => 0
  | j, c + 1 => (if al j = true then h j else 0) + psum al h (j + 1) c
theorem wrap_ex (x : Int) : ∃ z : Int, wrap64 x = x + 18446744073709551616 * z := by
  refine ⟨-((x + 9223372036854775808) / 18446744073709551616), ?_⟩
  unfold wrap64
  omega
theorem wrap_eq_of (x y z : Int) (hx : wrap64 x = x) (hy : wrap64 y = y) (h : x = y + 18446744073709551616 * z) : x = y := by
  unfold wrap64 at hx hy
  omega
theorem wrap_wrap (x : Int) : wrap64 (wrap64 x) = wrap64 x := by unfold wrap64; omega
theorem rs_psum (al : Nat → Bool) (h : Nat → Int) : ∀ c j (x : Int), ∃ z : Int, rs al h x j c = x + psum al h j c + 18446744073709551616 * z
  | 0, j, x => ⟨0, by simp [rs, psum]⟩
  | c + 1, j, x => by
    rw [rs, psum]
    by_cases e : al j = true
    · obtain ⟨z1, h1⟩ := wrap_ex (x + h j)
      obtain ⟨z2, h2⟩ := rs_psum al h c (j + 1) (wrap64 (x + h j))
      refine ⟨z1 + z2, ?_⟩
      rw [if_pos e, if_pos e, h2, h1]
      omega
    · obtain ⟨z2, h2⟩ := rs_psum al h c (j + 1) x
      refine ⟨z2, ?_⟩
      rw [if_neg e, if_neg e, h2]
      omega
theorem rs_wrapped (al : Nat → Bool) (h : Nat → Int) : ∀ c j (x : Int), wrap64 x = x → wrap64 (rs al h x j c) = rs al h x j c
  | 0, j, x, e => e
  | c + 1, j, x, e => by
    rw [rs]
    refine rs_wrapped al h c (j + 1) _ ?_
    split
    · exact wrap_wrap _
    · exact e
theorem gO_wrapped (l : List Int) (m : Nat) : wrap64 (gO l m) = gO l m := by
  by_cases h : m = 0
  · subst h; rw [gO_zero]; exact wrap_id 1 (by omega) (by omega)
  · rw [gO_pos l m (by omega)]
    exact rs_wrapped _ _ _ _ _ (wrap_id 0 (by omega) (by omega))
/-- May tooth j go once the teeth m are gone? -/
def alI (l : List Int) (m j : Nat) : Bool := !m.testBit j && ff l (fun i => !m.testBit i) j 0 l.length
theorem alI_eq (l : List Int) (m j : Nat) (hm : m < 2 ^ l.length) (hj : j < l.length) : alI l m j = alS l (2 ^ l.length - 1 - m) j := by
  rw [alI, alS, comp_bit _ m j hm hj, ff_congr l (fun i => !m.testBit i) (2 ^ l.length - 1 - m).testBit j l.length 0 (fun i _ h2 => (comp_bit _ m i hm (by omega)).symm)]
theorem psum_congr (al al' : Nat → Bool) (h h' : Nat → Int) : ∀ c j, (∀ m, j ≤ m → m < j + c → al m = al' m ∧ h m = h' m) → psum al h j c = psum al' h' j c
  | 0, j, _ => rfl
  | c + 1, j, e => by rw [psum, psum, (e j (Nat.le_refl _) (by omega)).1, (e j (Nat.le_refl _) (by omega)).2, psum_congr al al' h h' c (j + 1) (fun m h1 h2 => e m (by omega) (by omega))]
/-- The program's innermost loop, once the answer is no. -/
theorem impl_l2_no (l : List Int) (x3 : List Int) (m j : Nat) (s LEN : Int) (hn : l.length ≤ 8) (V : Int) (hend : Ev (fun k => impl_CountOrders.l1 k l x3 (m : Int) LEN (m : Int) l (l.length : Int) (wrap64 ((j : Int) + 1))) V) :
    ∀ c i, i + c = l.length → Ev (fun k => impl_CountOrders.l2 k l x3 (m : Int) (j : Int) s false LEN (m : Int) l (l.length : Int) (j : Int) l (l.length : Int) (i : Int)) V
  | 0, i, hi => by
    refine Ev.step (fun k => ?_) hend
    simp only [impl_CountOrders.l2]
    rw [if_neg (by omega), if_neg (by decide)]
  | c + 1, i, hi => by
    have ih := impl_l2_no l x3 m j s LEN hn V hend c (i + 1) (by omega)
    refine Ev.step (fun k => ?_) ih
    simp only [impl_CountOrders.l2]
    rw [if_pos (by omega), if_pos (by omega), if_pos (by omega), if_neg (by decide), w1 i (by omega)]
theorem impl_l2_ev (l : List Int) (f : Nat → Int) (full m j : Nat) (hfull : full < 256) (hmf : m ≤ full) (hj : j < l.length) (hn : l.length ≤ 8) (hb : m.testBit j = false) (ht : m + 2 ^ j ≤ full) (V : Int)
    (hyes : ∀ LEN : Int, LEN = (full : Int) + 1 → Ev (fun k => impl_CountOrders.l1 k l (arrT full (upd f (m + 2 ^ j) (wrap64 (f (m + 2 ^ j) + f m)))) (m : Int) LEN (m : Int) l (l.length : Int) ((j + 1 : Nat) : Int)) V ∨ ff l (fun i => !m.testBit i) j 0 l.length = false)
    (hno : ∀ LEN : Int, LEN = (full : Int) + 1 → Ev (fun k => impl_CountOrders.l1 k l (arrT full f) (m : Int) LEN (m : Int) l (l.length : Int) ((j + 1 : Nat) : Int)) V ∨ ff l (fun i => !m.testBit i) j 0 l.length = true) (LEN : Int) (hLEN : LEN = (full : Int) + 1) :
    Ev (fun k => impl_CountOrders.l2 k l (arrT full f) (m : Int) (j : Int) (rd l (j : Int)) true LEN (m : Int) l (l.length : Int) (j : Int) l (l.length : Int) 0) V := by
  have hp2 : 0 < 2 ^ j := Nat.pow_pos (by decide)
  have hm8 : m < 256 := by omega
  have hj8 : j < 8 := by omega
  have hj62 : j ≤ 4611686018427387904 := by omega
  have main : ∀ c i, i + c = l.length → ff l (fun i => !m.testBit i) j i c = ff l (fun i => !m.testBit i) j 0 l.length → Ev (fun k => impl_CountOrders.l2 k l (arrT full f) (m : Int) (j : Int) (rd l (j : Int)) true LEN (m : Int) l (l.length : Int) (j : Int) l (l.length : Int) (i : Int)) V := by
    intro c
    induction c with
    | zero =>
      intro i hi hf
      rw [ff] at hf
      have hy := (hyes LEN hLEN).resolve_right (by rw [← hf]; decide)
      refine Ev.step (fun k => ?_) hy
      simp only [impl_CountOrders.l2, or_all m hm8 j hj8 hb, arrT_len, w1 j hj62]
      rw [if_neg (by omega), if_pos trivial, if_pos (by omega), if_pos (by omega), if_pos (by omega), if_pos (by omega), if_pos (by omega), arrT_rd _ _ (m + 2 ^ j) (by omega), arrT_rd _ _ m (by omega), Int.toNat_natCast, arrT_set]
    | succ c ih =>
      intro i hi hf
      rw [ff] at hf
      have hi62 : i ≤ 4611686018427387904 := by omega
      by_cases e : i = j
      · rw [if_pos e] at hf
        refine Ev.step (fun k => ?_) (ih (i + 1) (by omega) hf)
        simp only [impl_CountOrders.l2]
        rw [if_pos (by omega), if_pos (by omega), if_pos (by omega), if_pos trivial, if_pos (by omega), w1 i hi62]
      · rw [if_neg e] at hf
        have hbit := bit_iff m i (by omega) (by omega)
        by_cases hbi : m.testBit i = true
        · rw [if_neg (by simp [hbi])] at hf
          refine Ev.step (fun k => ?_) (ih (i + 1) (by omega) hf)
          simp only [impl_CountOrders.l2]
          rw [if_pos (by omega), if_pos (by omega), if_pos (by omega), if_pos trivial, if_neg (by omega), if_pos (hbit.2 hbi), w1 i hi62]
        · rw [if_pos (by simp [hbi])] at hf
          by_cases hp : partB (l.getD i 0) (l.getD j 0) = true
          · rw [if_pos hp] at hf
            have hn2 := (hno LEN hLEN).resolve_right (by rw [← hf]; decide)
            rw [← w1 j hj62] at hn2
            refine Ev.step (fun k => ?_) (impl_l2_no l (arrT full f) m j (rd l (j : Int)) LEN hn V hn2 c (i + 1) (by omega))
            simp only [impl_CountOrders.l2]
            rw [if_pos (by omega), if_pos (by omega), if_pos (by omega), if_pos trivial, if_neg (by omega), if_neg (fun h => hbi (hbit.1 h)), impl_part_eq, Option.bind_some, rd_getD, rd_getD, hp, w1 i hi62]
            rfl
          · rw [if_neg hp] at hf
            refine Ev.step (fun k => ?_) (ih (i + 1) (by omega) hf)
            simp only [impl_CountOrders.l2]
            rw [if_pos (by omega), if_pos (by omega), if_pos (by omega), if_pos trivial, if_neg (by omega), if_neg (fun h => hbi (hbit.1 h)), impl_part_eq, Option.bind_some, rd_getD, rd_getD, show partB (l.getD i 0) (l.getD j 0) = false from by simpa using hp, w1 i hi62]
            rfl
  exact main l.length 0 (by omega) rfl
/-- One place's row. -/
theorem impl_row (l : List Int) (h1 : 1 ≤ l.length) (hn : l.length ≤ 8) (m : Nat) (hm : m < 2 ^ l.length - 1) (V : Int)
    (hend : ∀ f : Nat → Int, (∀ q, wrap64 (f q) = f q) → (∃ z : Int, pot f (gO l) (2 ^ l.length - 1) (m + 1) (2 ^ l.length - 1 - m) = gO l (2 ^ l.length - 1) + 18446744073709551616 * z) → Ev (fun k => impl_CountOrders.l0 k l (arrT (2 ^ l.length - 1) f) (((2 ^ l.length - 1 : Nat) : Int) + 1) ((m + 1 : Nat) : Int)) V) :
    ∀ c j (f : Nat → Int), j + c = l.length → (∀ q, wrap64 (f q) = f q) →
      (∃ z : Int, pot f (gO l) (2 ^ l.length - 1) (m + 1) (2 ^ l.length - 1 - m) + f m * psum (alI l m) (fun j => gO l (2 ^ l.length - 1 - m - 2 ^ j)) j c = gO l (2 ^ l.length - 1) + 18446744073709551616 * z) →
      Ev (fun k => impl_CountOrders.l1 k l (arrT (2 ^ l.length - 1) f) (m : Int) (((2 ^ l.length - 1 : Nat) : Int) + 1) (m : Int) l (l.length : Int) (j : Int)) V
  | 0, j, f, hj, hw, hz => by
    have hle := pow_le_256 l.length hn
    rw [psum, Int.mul_zero, Int.add_zero] at hz
    refine Ev.step (fun k => ?_) (hend f hw hz)
    simp only [impl_CountOrders.l1]
    rw [if_neg (by omega), w1 m (by omega)]
  | c + 1, j, f, hj, hw, hz => by
    have hle := pow_le_256 l.length hn
    have hbit := bit_iff m j (by omega) (by omega)
    obtain ⟨z, hz⟩ := hz
    rw [psum] at hz
    by_cases hb : m.testBit j = true
    · have ha : alI l m j = false := by rw [alI, hb]; rfl
      rw [ha, if_neg (by decide), Int.zero_add] at hz
      refine Ev.step (fun k => ?_) (impl_row l h1 hn m hm V hend c (j + 1) f (by omega) hw ⟨z, hz⟩)
      simp only [impl_CountOrders.l1]
      rw [if_pos (by omega), if_pos (by omega), if_pos (by omega), if_pos (hbit.2 hb), w1 j (by omega)]
    · have hb' : m.testBit j = false := by simpa using hb
      have ht := lt_all l.length (by omega) m (by omega) j (by omega) hb'
      have hp : 0 < 2 ^ j := Nat.pow_pos (by decide)
      have ha : alI l m j = ff l (fun i => !m.testBit i) j 0 l.length := by rw [alI, hb']; rfl
      rw [ha] at hz
      have h2 := impl_l2_ev l f (2 ^ l.length - 1) m j (by omega) (by omega) (by omega) hn hb' (by omega) V
        (fun LEN hL => by
          by_cases hf : ff l (fun i => !m.testBit i) j 0 l.length = true
          · left
            subst hL
            rw [if_pos hf, Int.mul_add] at hz
            obtain ⟨z1, hz1⟩ := wrap_ex (f (m + 2 ^ j) + f m)
            refine impl_row l h1 hn m hm V hend c (j + 1) _ (by omega) (fun q => ?_) ⟨z + z1 * gO l (2 ^ l.length - 1 - m - 2 ^ j), ?_⟩
            · simp only [upd]; split
              · exact wrap_wrap _
              · exact hw q
            · rw [upd_ne _ _ _ _ (by omega), pot_in f (gO l) (2 ^ l.length - 1) (m + 2 ^ j) _ _ _ (by omega) (by omega), hz1, show 2 ^ l.length - 1 - (m + 2 ^ j) = 2 ^ l.length - 1 - m - 2 ^ j by omega, show f (m + 2 ^ j) + f m + 18446744073709551616 * z1 - f (m + 2 ^ j) = f m + 18446744073709551616 * z1 by omega, Int.add_mul, Int.mul_add, Int.mul_assoc]
              omega
          · right; simpa using hf)
        (fun LEN hL => by
          by_cases hf : ff l (fun i => !m.testBit i) j 0 l.length = true
          · right; exact hf
          · left
            subst hL
            rw [if_neg hf, Int.zero_add] at hz
            exact impl_row l h1 hn m hm V hend c (j + 1) f (by omega) hw ⟨z, hz⟩) _ rfl
      refine Ev.step (fun k => ?_) h2
      simp only [impl_CountOrders.l1]
      rw [if_pos (by omega), if_pos (by omega), if_pos (by omega), if_neg (fun h => hb (hbit.1 h))]
theorem impl_last (l : List Int) (h1 : 1 ≤ l.length) (hn : l.length ≤ 8) (f : Nat → Int) : ∀ c j, j + c = l.length →
    Ev (fun k => impl_CountOrders.l1 k l (arrT (2 ^ l.length - 1) f) ((2 ^ l.length - 1 : Nat) : Int) (((2 ^ l.length - 1 : Nat) : Int) + 1) ((2 ^ l.length - 1 : Nat) : Int) l (l.length : Int) (j : Int)) (f (2 ^ l.length - 1))
  | 0, j, hj => by
    have hle := pow_le_256 l.length hn
    have hpos := Nat.pow_pos (n := l.length) (show 0 < 2 by decide)
    have h0 : Ev (fun k => impl_CountOrders.l0 k l (arrT (2 ^ l.length - 1) f) (((2 ^ l.length - 1 : Nat) : Int) + 1) ((2 ^ l.length - 1 + 1 : Nat) : Int)) (f (2 ^ l.length - 1)) := by
      refine ev_step1 (fun k => ?_)
      have e : wrap64 (((2 ^ l.length - 1 : Nat) : Int) + 1 - 1) = ((2 ^ l.length - 1 : Nat) : Int) := by rw [wrap_id _ (by omega) (by omega)]; omega
      simp only [impl_CountOrders.l0, arrT_len, e]
      rw [if_neg (by omega), if_pos (by omega), if_pos (by omega), arrT_rd _ _ _ (Nat.le_refl _)]
    refine Ev.step (fun k => ?_) h0
    simp only [impl_CountOrders.l1]
    rw [if_neg (by omega), w1 _ (by omega)]
  | c + 1, j, hj => by
    have hle := pow_le_256 l.length hn
    have hbit := bit_iff (2 ^ l.length - 1) j (by omega) (by omega)
    refine Ev.step (fun k => ?_) (impl_last l h1 hn f c (j + 1) (by omega))
    simp only [impl_CountOrders.l1]
    rw [if_pos (by omega), if_pos (by omega), if_pos (by omega), if_pos (hbit.2 (full_all l.length (by omega) j (by omega))), w1 j (by omega)]
theorem impl_outer (l : List Int) (h1 : 1 ≤ l.length) (hn : l.length ≤ 8) : ∀ d m (f : Nat → Int), m + d = 2 ^ l.length - 1 → (∀ q, wrap64 (f q) = f q) →
    (∃ z : Int, pot f (gO l) (2 ^ l.length - 1) m (d + 1) = gO l (2 ^ l.length - 1) + 18446744073709551616 * z) →
    Ev (fun k => impl_CountOrders.l0 k l (arrT (2 ^ l.length - 1) f) (((2 ^ l.length - 1 : Nat) : Int) + 1) (m : Int)) (gO l (2 ^ l.length - 1))
  | 0, m, f, hd, hw, hz => by
    obtain ⟨z, hz⟩ := hz
    obtain rfl : m = 2 ^ l.length - 1 := by omega
    have e : f (2 ^ l.length - 1) = gO l (2 ^ l.length - 1) := by
      rw [pot, pot, Nat.sub_self, gO_zero, Int.mul_one, Int.add_zero] at hz
      exact wrap_eq_of _ _ z (hw _) (gO_wrapped l _) hz
    rw [← e]
    refine Ev.step (fun k => ?_) (impl_last l h1 hn f l.length 0 (by omega))
    simp only [impl_CountOrders.l0]
    rw [if_pos (by omega)]
    rfl
  | d + 1, m, f, hd, hw, hz => by
    obtain ⟨z, hz⟩ := hz
    have hrow := impl_row l h1 hn m (by omega) (gO l (2 ^ l.length - 1)) (fun f' hw' hz' => impl_outer l h1 hn d (m + 1) f' (by omega) hw' (by
      rw [show 2 ^ l.length - 1 - m = d + 1 by omega] at hz'
      exact hz')) l.length 0 f (by omega) hw (by
        rw [pot, gO_pos l (2 ^ l.length - 1 - m) (by omega)] at hz
        obtain ⟨z2, hz2⟩ := rs_psum (alS l (2 ^ l.length - 1 - m)) (fun j => gO l (2 ^ l.length - 1 - m - 2 ^ j)) l.length 0 0
        rw [psum_congr (alI l m) (alS l (2 ^ l.length - 1 - m)) _ _ l.length 0 (fun j _ hj => ⟨alI_eq l m j (by omega) (by omega), rfl⟩), show 2 ^ l.length - 1 - m = d + 1 by omega] at *
        rw [hz2, Int.mul_add, Int.mul_add, Int.mul_zero, Int.mul_left_comm] at hz
        exact ⟨z - f m * z2, by rw [Int.mul_sub]; omega⟩)
    refine Ev.step (fun k => ?_) hrow
    simp only [impl_CountOrders.l0]
    rw [if_pos (by omega)]
    rfl
theorem impl_CountOrders_ev (l : List Int) (hl : l.length ≤ 1099511627776) : Ev (fun k => impl_CountOrders.f k l) (countO l) := by
  unfold countO
  by_cases hb : isBar l = true
  · by_cases h8 : l.length ≤ 8
    · have ht := impl_twice_ev l hl
      refine Ev.congr (f := fun k => (impl_twice.f k l).bind fun t => impl_CountOrders.j0 k l t) (fun k => by simp only [impl_CountOrders.f, isBar_eq, Option.bind_some, if_pos hb]; rw [if_neg (by omega)]) (Ev.bind (f := fun k t => impl_CountOrders.j0 k l t) ht ?_)
      by_cases hd : dupFrom l 0 l = true
      · rw [hd, if_neg (by simp)]
        exact ev_step1 (fun k => by simp only [impl_CountOrders.j0, if_true])
      · have hd' : dupFrom l 0 l = false := by simpa using hd
        rw [hd', if_pos ⟨by simp [hb], h8⟩]
        obtain ⟨h1, _, _⟩ := (isBar_iff l).1 hb
        have hle := pow_le_256 l.length h8
        have hpos := Nat.pow_pos (n := l.length) (show 0 < 2 by decide)
        have h := impl_outer l h1 h8 (2 ^ l.length - 1) 0 (upd (fun _ => 0) 0 1) (by omega) (fun q => by simp only [upd]; split <;> exact wrap_id _ (by omega) (by omega)) ⟨0, by
          rw [pot, upd_at, pot_zero (upd (fun _ => 0) 0 1) (gO l) _ _ (0 + 1) (fun m hm => upd_ne (fun _ => 0) 0 m 1 (by omega))]
          simp⟩
        refine Ev.step (fun k => ?_) h
        have e : List.replicate (2 ^ l.length) (0 : Int) = arrT (2 ^ l.length - 1) (fun _ => 0) := by rw [← arrT_rep, show 2 ^ l.length - 1 + 1 = 2 ^ l.length by omega]
        simp only [impl_CountOrders.j0, Bool.false_eq_true, if_false, shl_all l.length (by omega), Int.toNat_natCast, e, Option.bind_some, arrT_len]
        rw [if_pos (by omega), if_pos (by omega), if_pos (by omega), show (0 : Int).toNat = 0 from rfl, arrT_set]
        rfl
    · rw [if_neg (fun h => h8 h.2)]
      refine ev_step1 (fun k => ?_)
      simp only [impl_CountOrders.f, isBar_eq, Option.bind_some, if_pos hb]
      rw [if_pos (by omega)]
      simp only [impl_CountOrders.j0, if_true]
  · rw [if_neg (fun h => hb (by simp at h; exact h.1.1))]
    refine ev_step1 (fun k => ?_)
    simp only [impl_CountOrders.f, isBar_eq, Option.bind_some, if_neg hb, impl_CountOrders.j0, if_true]
end Go.Proofs.Ythdgkjnhjihkpaa.Q
