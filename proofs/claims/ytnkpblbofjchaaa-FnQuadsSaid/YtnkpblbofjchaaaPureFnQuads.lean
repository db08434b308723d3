/- Blank letters are added until none of them has room. No conditions beyond those of the statement's reading. -/
import Derived.Test.YtnkpblbofjchaaaP0
import Derived.Test.YtnkpblbofjchaaaPDraw
import Derived.Test.YtnkpblbofjchaaaPDrawL
import Derived.Test.YtnkpblbofjchaaaPFitting
import Derived.Test.YtnkpblbofjchaaaPIntsL
import Derived.Test.YtnkpblbofjchaaaPLine
import Derived.Test.YtnkpblbofjchaaaPMeasure
import Derived.Test.YtnkpblbofjchaaaPQuads
import Derived.Test.YtnkpblbofjchaaaPSpreadL
import Derived.Test.YtnkpblbofjchaaaPTurn
import Derived.Test.YtnkpblbofjchaaaQ10
import Derived.Test.YtnkpblbofjchaaaQ11
import Derived.Test.YtnkpblbofjchaaaQ3
import Derived.Test.YtnkpblbofjchaaaQ4
import Derived.Test.YtnkpblbofjchaaaQ5
import Derived.Test.YtnkpblbofjchaaaQ7
import Derived.Test.YtnkpblbofjchaaaQ8
import Derived.Test.YtnkpblbofjchaaaQ9
namespace Go.Proofs.Ytnkpblbofjchaaa.Pure
open Go.RowKit Go.Proofs.Ytnkpblbofjchaaa.Q Go.Proofs.YtnkpblbofjchaaaW.PrintWords Go.Proofs.YtnkpblbofjchaaaW.PrintLast Go.Proofs.YtnkpblbofjchaaaW.PrintMore
set_option linter.unusedVariables false
set_option linter.unusedSimpArgs false
theorem blanks_end_ok (c acc : List Int) (i h : Int) (hc : Cur c i) (ha : acc.length ≤ 8) : ∃ r i' h', Ev (fun k => spec_l3Blanks.j1 k acc c i h) (r, i', h') ∧ r.length ≤ 20 := by
  obtain ⟨x, i1, h1, e1, r1, s1, c1⟩ := below_ok c i h 12 hc (by omega) (by omega)
  obtain ⟨y, i2, h2, e2, _, c2⟩ := int_ok c i1 h1 [0, 1, 60, 61, (-3)] c1 (by decide) (by decide)
  obtain ⟨z, i3, h3, e3, r3, s3, c3⟩ := below_ok c i1 h1 2 c1 (by omega) (by omega)
  by_cases k0 : x = 0
  · refine ⟨acc ++ [y], i2, h2, ev_step1 (fun k => ?_), by simp; omega⟩
    simp only [spec_l3Blanks.j1, e1, e2, Option.bind_some]
    rw [if_pos k0, if_pos (by omega)]
  by_cases k1 : x = 1
  · refine ⟨[], i1, h1, ev_step1 (fun k => ?_), by simp⟩
    simp only [spec_l3Blanks.j1, e1, Option.bind_some]
    rw [if_neg k0, if_pos k1]
  by_cases k2 : x = 2
  · refine ⟨[9, 8, 7, 6, 5, 4, 3, 2, 1].drop z.toNat, i3, h3, ev_step1 (fun k => ?_), by rw [List.length_drop]; simp; omega⟩
    simp only [spec_l3Blanks.j1, e1, e3, Option.bind_some]
    rw [if_neg k0, if_neg k1, if_pos k2, if_pos r3, if_pos (by simp; omega)]
  · refine ⟨acc, i1, h1, ev_step1 (fun k => ?_), by omega⟩
    simp only [spec_l3Blanks.j1, e1, Option.bind_some]
    rw [if_neg k0, if_neg k1, if_neg k2]
theorem blanks_loop_ok (c : List Int) : ∀ d (acc : List Int) (x i h : Int), acc.length + d = 8 → Cur c i → ∃ r i' h', Ev (fun k => spec_l3Blanks.l0 k acc x c i h) (r, i', h') ∧ r.length ≤ 20 := by
  intro d
  induction d with
  | zero =>
    intro acc x i h hd hc
    obtain ⟨r, i', h', hr, hr2⟩ := blanks_end_ok c acc i h hc (by omega)
    exact ⟨r, i', h', Ev.step (fun k => by simp only [spec_l3Blanks.l0]; rw [if_neg (by omega)]) hr, hr2⟩
  | succ d ih =>
    intro acc x i h hd hc
    by_cases hx : x > 0
    · obtain ⟨y, i1, h1, e1, _, _, c1⟩ := below_ok c i h 12 hc (by omega) (by omega)
      obtain ⟨r, i', h', hr, hr2⟩ := ih (acc ++ [x]) (wrap64 (wrap64 (x - 1) - y)) i1 h1 (by rw [List.length_append, List.length_singleton]; omega) c1
      refine ⟨r, i', h', Ev.step (fun k => ?_) hr, hr2⟩
      simp only [spec_l3Blanks.l0, e1, Option.bind_some]
      rw [if_pos (by omega), if_pos hx, if_pos (by omega)]
    · obtain ⟨r, i', h', hr, hr2⟩ := blanks_end_ok c acc i h hc (by omega)
      exact ⟨r, i', h', Ev.step (fun k => by simp only [spec_l3Blanks.l0]; rw [if_pos (by omega), if_neg hx]) hr, hr2⟩
theorem blanks_ok (c : List Int) (i h : Int) (hc : Cur c i) : ∃ r i' h', Ev (fun k => spec_l3Blanks.f k c i h) (r, i', h') ∧ r.length ≤ 20 := by
  obtain ⟨x, i1, h1, e1, _, _, c1⟩ := below_ok c i h 30 hc (by omega) (by omega)
  obtain ⟨r, i', h', hr, hr2⟩ := blanks_loop_ok c 8 [] (wrap64 (1 + x)) i1 h1 rfl c1
  exact ⟨r, i', h', ev_eq hr (fun k => by simp only [spec_l3Blanks.f, e1, Option.bind_some]), hr2⟩
theorem drawQuad_ok (l : List Int) (hl : l.length ≤ 1099511627776) : ∃ m0 m1 m2 r q, Ev (fun k => spec_DrawQuadLine.f k l) (m0, m1, m2, r, q) ∧ r.length ≤ 200 ∧ q.length ≤ 20 := by
  obtain ⟨h, K, hn⟩ := new_ok l hl
  obtain ⟨m0, m1, m2, i1, h1, e1, c1⟩ := any_ok l 0 h ⟨by omega, by omega, hl⟩
  obtain ⟨r, i2, h2, ⟨K2, hr⟩, hr2, c2⟩ := row_ok l i1 h1 m0 m1 m2 c1
  have hj : ∀ (t : Bool) i h, (t = true → 0 < r.length) → Cur l i → ∃ r' q, Ev (fun k => spec_DrawQuadLine.j0 k r t l i h m0 m1 m2) (m0, m1, m2, r', q) ∧ r'.length ≤ 200 ∧ q.length ≤ 20 := by
    intro t i h ht hc
    cases t with
    | true =>
      obtain ⟨x, i3, h3, e3, r3, s3, c3⟩ := below_ok l i h (r.length : Int) hc (by have := ht rfl; omega) (by omega)
      obtain ⟨q, i4, h4, hq, hq2⟩ := blanks_ok l i3 h3 c3
      refine ⟨r.take x.toNat, q, Ev.step (f := fun k => (spec_l3Blanks.f k l i3 h3).bind fun bt => some (m0, m1, m2, r.take x.toNat, bt.1)) (fun k => ?_) (Ev.bind (f := fun k bt => some (m0, m1, m2, r.take x.toNat, bt.1)) hq (Ev.now _)), by rw [List.length_take]; omega, hq2⟩
      simp only [spec_DrawQuadLine.j0, if_true, e3, Option.bind_some]
      rw [if_pos r3, if_pos (by omega)]
    | false =>
      obtain ⟨q, i4, h4, hq, hq2⟩ := blanks_ok l i h hc
      refine ⟨r, q, Ev.step (f := fun k => (spec_l3Blanks.f k l i h).bind fun bt => some (m0, m1, m2, r, bt.1)) (fun k => ?_) (Ev.bind (f := fun k bt => some (m0, m1, m2, r, bt.1)) hq (Ev.now _)), hr2, hq2⟩
      simp only [spec_DrawQuadLine.j0, Bool.false_eq_true, if_false]
  by_cases hp : (r.length : Int) > 0
  · obtain ⟨x, i3, h3, e3, r3, s3, c3⟩ := below_ok l i2 h2 8 c2 (by omega) (by omega)
    obtain ⟨r', q, ⟨K3, hq⟩, q1, q2⟩ := hj (!(x == 0)) i3 h3 (fun _ => by omega) c3
    refine ⟨m0, m1, m2, r', q, ⟨K + K2 + K3, fun k hk => ?_⟩, q1, q2⟩
    simp only [spec_DrawQuadLine.f, hn k (by omega), e1, hr k (by omega), spec_l01Once.f, e3, Option.bind_some]
    rw [if_pos hp]
    exact hq k (by omega)
  · obtain ⟨r', q, ⟨K3, hq⟩, q1, q2⟩ := hj false i2 h2 (fun h => by cases h) c2
    refine ⟨m0, m1, m2, r', q, ⟨K + K2 + K3, fun k hk => ?_⟩, q1, q2⟩
    simp only [spec_DrawQuadLine.f, hn k (by omega), e1, hr k (by omega), Option.bind_some]
    rw [if_neg hp]
    exact hq k (by omega)
def occN (x : Int) : List Int → Nat
  | [] => 0
  | w :: r => (if w = x then 1 else 0) + occN x r
theorem occN_le (x : Int) (l : List Int) : occN x l ≤ l.length := by
  induction l with
  | nil => exact Nat.le_refl _
  | cons w r ih => simp only [occN, List.length_cons]; split <;> omega
theorem occN_pos (x : Int) : ∀ l : List Int, x ∈ l → 0 < occN x l
  | [], h => absurd h (by simp)
  | w :: r, h => by
    rw [occN]
    rcases List.mem_cons.1 h with e | e
    · rw [if_pos e.symm]; omega
    · have := occN_pos x r e; omega
theorem count_evG (l : List Int) (y : Int) (hl : l.length ≤ 1000) : Ev (fun k => laws_count.f k l y) (occN y l : Int) := by
  have main : ∀ d i (x : Int), l.length - i = d → i ≤ l.length → x + ((occN y (l.drop i) : Nat) : Int) ≤ 1000 → 0 ≤ x → Ev (fun k => laws_count.l0 k y x l (l.length : Int) (i : Int)) (x + (occN y (l.drop i) : Nat)) := by
    intro d
    induction d with
    | zero =>
      intro i x hd hi hx h0
      refine ev_step1 (fun k => ?_)
      simp only [laws_count.l0]
      rw [if_neg (by omega), List.drop_eq_nil_of_le (by omega)]
      simp [occN]
    | succ d ih =>
      intro i x hd hi hx h0
      have hi' : i < l.length := by omega
      rw [List.drop_eq_getElem_cons hi', occN] at hx ⊢
      by_cases e : l[i] = y
      · rw [if_pos e] at hx ⊢
        have h := ih (i + 1) (x + 1) (by omega) (by omega) (by omega) (by omega)
        rw [show x + ((1 + occN y (l.drop (i + 1)) : Nat) : Int) = x + 1 + (occN y (l.drop (i + 1)) : Nat) by omega]
        refine Ev.step (fun k => ?_) h
        simp only [laws_count.l0]
        rw [if_pos (by omega), if_pos (by omega), if_pos (by omega), rd_nat l i hi', if_pos e, w1 i (by omega), wrap_id (x + 1) (by omega) (by omega)]
      · rw [if_neg e, Nat.zero_add] at hx ⊢
        have h := ih (i + 1) x (by omega) (by omega) (by omega) (by omega)
        refine Ev.step (fun k => ?_) h
        simp only [laws_count.l0]
        rw [if_pos (by omega), if_pos (by omega), if_pos (by omega), rd_nat l i hi', if_neg e, w1 i (by omega)]
  have hb := occN_le y l
  have h := main l.length 0 0 rfl (by omega) (by rw [List.drop_zero]; omega) (by omega)
  rw [List.drop_zero, Int.zero_add] at h
  exact h
theorem fits_iff (a b : Int) (l : List Int) : fitsV a b l = true ↔ lineOk l = true ∧ lettersN l + bandsN l * b ≤ a := by simp [fitsV]
theorem fits_take (a b : Int) (hb : 0 ≤ b) (l : List Int) (i : Nat) (h : fitsV a b l = true) : fitsV a b (l.take i) = true := by
  rw [fits_iff] at h ⊢
  obtain ⟨h1, h2⟩ := h
  obtain ⟨k1, k2⟩ := (lineOk_iff l).1 h1
  have e := List.take_append_drop i l
  have e1 : lettersN l = lettersN (l.take i) + lettersN (l.drop i) := by rw [← lettersN_append, e]
  have e2 : bandsN l = bandsN (l.take i) + bandsN (l.drop i) := by rw [← bandsN_append, e]
  have r := lettersN_range (l.drop i) (fun w hw => k2 w (List.mem_of_mem_drop hw))
  refine ⟨(lineOk_iff _).2 ⟨by rw [List.length_take]; omega, fun w hw => k2 w (List.mem_of_mem_take hw)⟩, ?_⟩
  have hm : (0 : Int) ≤ (bandsN (l.drop i) : Int) * b := Int.mul_nonneg (by omega) hb
  rw [e1, e2, show ((bandsN (l.take i) + bandsN (l.drop i) : Nat) : Int) = (bandsN (l.take i) : Int) + bandsN (l.drop i) by omega, Int.add_mul] at h2
  omega
theorem cntF_full (fit : List Int → Bool) (m : List Int) (hf : ∀ i, fit (m.take i) = true) : ∀ d i, i + d = m.length → cntF fit [] m i d = (m.length : Int)
  | 0, i, hi => by rw [cntF]; omega
  | d + 1, i, hi => by rw [cntF, List.nil_append, if_pos (hf _)]; exact cntF_full fit m hf d (i + 1) (by omega)
theorem fits_perm (a b : Int) (M : List Int) (w : Int) : fitsV a b (M ++ [w, w]) = fitsV a b ([w] ++ M ++ [w]) := by
  have h1 : lineOk (M ++ [w, w]) = lineOk ([w] ++ M ++ [w]) := by
    rw [Bool.eq_iff_iff, lineOk_iff, lineOk_iff]
    simp only [List.length_append, List.length_cons, List.length_nil, List.mem_append, List.mem_cons, List.not_mem_nil, or_false]
    constructor
    · rintro ⟨h1, h2⟩
      exact ⟨by omega, fun x hx => h2 x (by rcases hx with (h | h) | h <;> simp [h])⟩
    · rintro ⟨h1, h2⟩
      exact ⟨by omega, fun x hx => h2 x (by rcases hx with h | h | h <;> simp [h])⟩
  have h2 : lettersN (M ++ [w, w]) = lettersN ([w] ++ M ++ [w]) := by
    rw [lettersN_append, lettersN_append, lettersN_append]; simp only [lettersN]; omega
  have h3 : bandsN (M ++ [w, w]) = bandsN ([w] ++ M ++ [w]) := by
    rw [bandsN_append, bandsN_append, bandsN_append]; simp only [bandsN]; omega
  unfold fitsV
  rw [h1, h2, h3]
theorem quads_l2 (a b c : Int) (out mid Q : List Int) (hm : measureOk a b c = true) (hQ : Q.length ≤ 8) (hw : ∀ w ∈ Q, 1 ≤ w ∧ w ≤ 60) (hf : fitsV a b out = true) (hf2 : fitsV a b mid = true) (h1 : ∀ w ∈ Q, fitsV a b (out ++ [w]) = false) (h2 : ∀ w ∈ Q, fitsV a b ([w] ++ mid ++ [w]) = false) : ∀ d i, i + d = Q.length → Ev (fun k => laws_FnQuads.l2 k out mid Q (Q.length : Int) (i : Int) a b c) true := by
  have lo := fits_len a b out hf
  have lm := fits_len a b mid hf2
  intro d
  induction d with
  | zero =>
    intro i hi
    exact ev_step1 (fun k => by simp only [laws_FnQuads.l2]; rw [if_neg (by omega)])
  | succ d ih =>
    intro i hi
    have hi' : i < Q.length := by omega
    have hq := hw _ (List.getElem_mem hi')
    have hp := h2 _ (List.getElem_mem hi')
    rw [← fits_perm] at hp
    have k1 : lineOk [Q[i]] = true := (lineOk_iff _).2 ⟨by simp, by intro w hw2; rw [List.mem_singleton.1 hw2]; omega⟩
    have k2 : lineOk [Q[i], Q[i]] = true := (lineOk_iff _).2 ⟨by simp, by intro w hw2; (have e2 : w = Q[i] := by simpa using hw2); rw [e2]; omega⟩
    have c1 : countFitting a b c out [Q[i]] = 0 := by
      unfold countFitting
      rw [if_pos ⟨hm, hf, k1⟩]
      show cntF _ _ _ 0 1 = 0
      rw [cntF, show [Q[i]].take (0 + 1) = [Q[i]] from rfl, h1 _ (List.getElem_mem hi')]
      rfl
    have c2 : countFitting a b c mid [Q[i], Q[i]] ≠ 2 := by
      unfold countFitting
      rw [if_pos ⟨hm, hf2, k2⟩]
      show cntF _ _ _ 0 2 ≠ 2
      rw [cntF]
      split
      · rw [cntF, show [Q[i], Q[i]].take (0 + 1 + 1) = [Q[i], Q[i]] from rfl, hp]
        simp
      · simp
    obtain ⟨K1, f1⟩ := impl_CountFitting_ev a b c out [Q[i]] (by omega)
    obtain ⟨K2, f2⟩ := impl_CountFitting_ev a b c mid [Q[i], Q[i]] (by omega)
    obtain ⟨K3, f3⟩ := ih (i + 1) (by omega)
    refine ⟨K1 + K2 + K3 + 1, fun k hk => ?_⟩
    obtain ⟨k, rfl⟩ : ∃ z, k = z + 1 := ⟨k - 1, by omega⟩
    replace f1 : impl_CountFitting.f k a b c out [Q[i]] = some (countFitting a b c out [Q[i]]) := f1 k (by omega)
    replace f2 : impl_CountFitting.f k a b c mid [Q[i], Q[i]] = some (countFitting a b c mid [Q[i], Q[i]]) := f2 k (by omega)
    simp only [laws_FnQuads.l2]
    rw [if_pos (by omega), if_pos (by omega), if_pos (by omega), rd_nat Q i hi', f1, Option.bind_some, if_pos c1, f2, Option.bind_some, if_neg c2, w1 i (by omega)]
    exact f3 k (by omega)
theorem quads_l1 (a b c : Int) (out l p Q : List Int) (hQ : Q.length ≤ 8) (hp : ∀ w ∈ p, w ∈ Q) (hlen : (p.reverse ++ l ++ p).length ≤ 1000) (h : Ev (fun k => laws_FnQuads.l2 k out (p.reverse ++ l ++ p) Q (Q.length : Int) 0 a b c) true) : ∀ d i, i + d = p.length → Ev (fun k => laws_FnQuads.l1 k Q out (p.reverse ++ l ++ p) (p.length : Int) (i : Int) a b c) true := by
  have hml : (p.reverse ++ l ++ p).length = p.length + l.length + p.length := by simp; omega
  intro d
  induction d with
  | zero =>
    intro i hi
    refine Ev.step (fun k => ?_) h
    simp only [laws_FnQuads.l1]
    rw [if_neg (by omega)]
  | succ d ih =>
    intro i hi
    have hi' : i < (p.reverse ++ l ++ p).length := by omega
    have hr : i < p.reverse.length := by rw [List.length_reverse]; omega
    have e1 : (p.reverse ++ l ++ p)[i] = p.reverse[i] := by
      have h0 : p.reverse ++ l ++ p = p.reverse ++ (l ++ p) := by simp
      simp only [h0]
      rw [List.getElem_append_left hr]
    have hj : (p.reverse ++ l ++ p).length - 1 - i < (p.reverse ++ l ++ p).length := by omega
    have e2 : (p.reverse ++ l ++ p)[(p.reverse ++ l ++ p).length - 1 - i] = p.reverse[i] := by
      have h3 := List.getElem_reverse (l := p.reverse ++ l ++ p) (i := i) (by rw [List.length_reverse]; exact hi')
      rw [← h3]
      have h4 : (p.reverse ++ l ++ p).reverse = p.reverse ++ (l.reverse ++ p) := by simp
      simp only [h4]
      rw [List.getElem_append_left hr]
    have ew : wrap64 (wrap64 (((p.reverse ++ l ++ p).length : Int) - 1) - (i : Int)) = (((p.reverse ++ l ++ p).length - 1 - i : Nat) : Int) := by
      rw [wrap_id (((p.reverse ++ l ++ p).length : Int) - 1) (by omega) (by omega), wrap_id _ (by omega) (by omega)]; omega
    have hmem : p.reverse[i] ∈ Q := hp _ (List.mem_reverse.1 (List.getElem_mem hr))
    have hpos := occN_pos _ Q hmem
    obtain ⟨K1, f1⟩ := count_evG Q p.reverse[i] (by omega)
    obtain ⟨K2, f2⟩ := ih (i + 1) (by omega)
    refine ⟨K1 + K2 + 1, fun k hk => ?_⟩
    obtain ⟨k, rfl⟩ : ∃ z, k = z + 1 := ⟨k - 1, by omega⟩
    replace f1 : laws_count.f k Q p.reverse[i] = some (occN p.reverse[i] Q : Int) := f1 k (by omega)
    simp only [laws_FnQuads.l1]
    rw [ew, if_pos (by omega), if_pos (by omega), if_pos (by omega), if_pos (by omega), if_pos (by omega), rd_nat _ i hi', rd_nat _ _ hj, e1, e2, if_pos rfl, f1, Option.bind_some, if_neg (by omega), w1 i (by omega)]
    exact f2 k (by omega)
theorem quads_l0 (a b c n : Int) (out mid p Q : List Int) (hQ : Q.length ≤ 8) (hpl : p.length ≤ 1000) (hp : ∀ w ∈ p, w ∈ Q) (h : Ev (fun k => laws_FnQuads.l1 k Q out mid n 0 a b c) true) : ∀ d i, i + d = p.length → Ev (fun k => laws_FnQuads.l0 k Q out mid n p (p.length : Int) (i : Int) a b c) true := by
  intro d
  induction d with
  | zero =>
    intro i hi
    refine Ev.step (fun k => ?_) h
    simp only [laws_FnQuads.l0]
    rw [if_neg (by omega)]
  | succ d ih =>
    intro i hi
    have hi' : i < p.length := by omega
    have hpos := occN_pos _ Q (hp _ (List.getElem_mem hi'))
    obtain ⟨K1, f1⟩ := count_evG Q p[i] (by omega)
    obtain ⟨K2, f2⟩ := ih (i + 1) (by omega)
    refine ⟨K1 + K2 + 1, fun k hk => ?_⟩
    obtain ⟨k, rfl⟩ : ∃ z, k = z + 1 := ⟨k - 1, by omega⟩
    replace f1 : laws_count.f k Q p[i] = some (occN p[i] Q : Int) := f1 k (by omega)
    simp only [laws_FnQuads.l0]
    rw [if_pos (by omega), if_pos (by omega), if_pos (by omega), rd_nat p i hi', f1, Option.bind_some, if_neg (by omega), w1 i (by omega)]
    exact f2 k (by omega)
theorem quadLine_f (k : Nat) (a b c : Int) (l Q : List Int) : impl_QuadLine.f k a b c l Q = filF (addQ false) k a b c l Q := by
  have e : addQ false = (fun L x => L ++ [x]) := by funext L x; simp [addQ]
  unfold impl_QuadLine.f
  rw [e]
theorem centerLine_f (k : Nat) (a b c : Int) (l Q : List Int) : impl_CenterLine.f k a b c l Q = filF (addQ true) k a b c l Q := by
  have e : addQ true = (fun L x => [x] ++ L ++ [x]) := by funext L x; simp [addQ]
  unfold impl_CenterLine.f
  rw [e]
theorem quads_w (n p l : Nat) (e : n = p + l + p) (h : n ≤ 1000) : wrap64 ((n : Int) - (l : Int)) = 2 * (p : Int) ∧ Int.tdiv (2 * (p : Int)) 2 = (p : Int) ∧ wrap64 (p : Int) = (p : Int) ∧ wrap64 ((p : Int) + (l : Int)) = ((p + l : Nat) : Int) ∧ (Int.tmod (2 * (p : Int)) 2 == 1) = false := by
  refine ⟨by rw [wrap_id _ (by omega) (by omega)]; omega, by rw [Int.tdiv_eq_ediv_of_nonneg (by omega)]; omega, wrap_id _ (by omega) (by omega), by rw [wrap_id _ (by omega) (by omega)]; omega, ?_⟩
  rw [Int.tmod_eq_emod_of_nonneg (by omega), show 2 * (p : Int) % 2 = 0 by omega]
  rfl
theorem quads_fin (K : Nat) (a b c : Int) (s l p p2 Q : List Int) (hlen : ¬ (s.length : Int) > 1048576) (hL : p2.length + l.length + p2.length ≤ 1000)
    (g1 : spec_DrawQuadLine.f (K + 2) s = some (a, b, c, l, Q)) (g2 : impl_QuadLine.f (K + 2) a b c l Q = some (l ++ p, true)) (g3 : spec_QuadLine.f (K + 2) a b c l Q = some (l ++ p, true)) (g4 : impl_CenterLine.f (K + 2) a b c l Q = some (p2.reverse ++ l ++ p2, true))
    (g5 : impl_CountFitting.f (K + 1) a b c [] (l ++ p) = some ((l ++ p).length : Int)) (g6 : impl_CountFitting.f (K + 1) a b c [] (p2.reverse ++ l ++ p2) = some ((p2.reverse ++ l ++ p2).length : Int)) (g7 : laws_ints.f (K + 1) l l = some true)
    (g8 : laws_FnQuads.l0 K Q (l ++ p) (p2.reverse ++ l ++ p2) (p2.length : Int) p (p.length : Int) 0 a b c = some true) : laws_FnQuads.f (K + 2) s = some true := by
  have en : (p2.reverse ++ l ++ p2).length = p2.length + l.length + p2.length := by rw [List.length_append, List.length_append, List.length_reverse]
  have eo : (l ++ p).length = l.length + p.length := List.length_append
  obtain ⟨w1', w2', w3', w4', w5'⟩ := quads_w (p2.reverse ++ l ++ p2).length p2.length l.length en (by rw [en]; exact hL)
  have d1 : ¬ ((l ++ p).length : Int) < (l.length : Int) := by rw [eo]; omega
  have d2 : ¬ ((p2.reverse ++ l ++ p2).length : Int) < (l.length : Int) := by rw [en]; omega
  have d3 : 0 ≤ (l.length : Int) := by omega
  have d4 : (l.length : Int) ≤ ((l ++ p).length : Int) := by rw [eo]; omega
  have d5 : 0 ≤ (p2.length : Int) := by omega
  have d6 : (p2.length : Int) ≤ ((p2.length + l.length : Nat) : Int) := by omega
  have d7 : ((p2.length + l.length : Nat) : Int) ≤ ((p2.reverse ++ l ++ p2).length : Int) := by rw [en]; omega
  have x1 : (l ++ p).take l.length = l := List.take_left' rfl
  have x2 : ((p2.reverse ++ l ++ p2).take (p2.length + l.length)).drop p2.length = l := by
    rw [List.take_left' (by rw [List.length_append, List.length_reverse]), List.drop_left' (by rw [List.length_reverse])]
  have x3 : (l ++ p).drop l.length = p := List.drop_left' rfl
  clear en eo
  generalize l ++ p = u at *
  generalize p2.reverse ++ l ++ p2 = v at *
  have c1 : laws_FnQuads.j1 (K + 1) l Q u v (p2.length : Int) false a b c = some true := by
    rw [laws_FnQuads.j1, if_neg Bool.false_ne_true, if_pos d3, if_pos d4, Option.bind_some, Int.toNat_natCast, x3]
    exact g8
  have c0 : laws_FnQuads.j0 (K + 2) l Q u v false a b c = some true := by
    rw [laws_FnQuads.j0, if_neg Bool.false_ne_true, if_pos d3, if_pos d4, Int.toNat_natCast, x1, g7, Option.bind_some, if_pos rfl, w1', w2', w3', w4', if_pos d5, if_pos d6, if_pos d7, Int.toNat_natCast, Int.toNat_natCast, x2, g7, Option.bind_some, if_pos rfl, g5, Option.bind_some, if_pos rfl, g6, Option.bind_some, bne_self_eq_false]
    exact c1
  simp only [laws_FnQuads.f, if_neg hlen, g1, g2, g3, g4, Option.bind_some, if_true, w1', w5']
  rw [if_neg d1, if_neg d2]
  exact c0
theorem FnQuads : laws_FnQuads.Pure := by
  intro s hm hm2 hw
  by_cases hlen : (s.length : Int) > 1048576
  · exact ⟨0, by simp only [laws_FnQuads.f, if_pos hlen]⟩
  obtain ⟨a, b, c, l, Q, ⟨K1, h1⟩, hl, hQ⟩ := drawQuad_ok s (by omega)
  obtain ⟨r, ⟨K2, h2⟩, ⟨K3, h3⟩, hr⟩ := fill_ev a b c false l Q (by omega) (by omega)
  obtain ⟨r', ⟨K4, h4⟩, _, hr'⟩ := fill_ev a b c true l Q (by omega) (by omega)
  rcases hr with ⟨e, hno⟩ | ⟨hmo, hfl, hqb, p, e, hp1, hp2, hp3⟩
  · rcases hr' with ⟨e', _⟩ | ⟨q1, q2, q3, _⟩
    · subst e; subst e'
      refine ⟨K1 + K2 + K3 + K4, ?_⟩
      generalize hK : K1 + K2 + K3 + K4 = K
      have g1 : spec_DrawQuadLine.f K s = some (a, b, c, l, Q) := h1 _ (by omega)
      have g2 : impl_QuadLine.f K a b c l Q = some ([], false) := by rw [quadLine_f]; exact h2 _ (by omega)
      have g3 : spec_QuadLine.f K a b c l Q = some ([], false) := by unfold spec_QuadLine.f; exact h3 _ (by omega)
      have g4 : impl_CenterLine.f K a b c l Q = some ([], false) := by rw [centerLine_f]; exact h4 _ (by omega)
      simp only [laws_FnQuads.f, if_neg hlen, g1, g2, g3, g4, Option.bind_some, Bool.false_eq_true, if_false]
      rfl
    · exact absurd ⟨q1, q2, q3⟩ hno
  · rcases hr' with ⟨_, hno⟩ | ⟨_, _, _, p2, e', hq1, hq2, hq3⟩
    · exact absurd ⟨hmo, hfl, hqb⟩ hno
    have eo : padQ false l p = l ++ p := by simp [padQ]
    have em : padQ true l p2 = p2.reverse ++ l ++ p2 := by simp [padQ]
    rw [eo] at e hp2 hp3
    rw [em] at e' hq2 hq3
    subst e; subst e'
    obtain ⟨m1, m2, m3, m4, m5, m6⟩ := (measureOk_iff a b c).1 hmo
    have hqb2 := hqb
    unfold quadsB at hqb2
    simp only [Bool.and_eq_true, decide_eq_true_eq] at hqb2
    have hQ8 : Q.length ≤ 8 := hqb2.1.1.2
    have hQw := (between_iff Q 1 60).1 hqb2.1.2
    have lo := fits_len a b _ hp2
    have lm := fits_len a b _ hq2
    have lo2 : (l ++ p).length = l.length + p.length := List.length_append
    have lm2 : (p2.reverse ++ l ++ p2).length = p2.length + l.length + p2.length := by simp; omega
    have f0 : fitsV a b [] = true := by have := fits_take a b (by omega) l 0 hfl; simpa using this
    have cfull : ∀ M : List Int, fitsV a b M = true → countFitting a b c [] M = (M.length : Int) := by
      intro M hM
      unfold countFitting
      rw [if_pos ⟨hmo, f0, ((fits_iff a b M).1 hM).1⟩]
      exact cntF_full _ M (fun i => fits_take a b (by omega) M i hM) M.length 0 (by omega)
    obtain ⟨K5, h5⟩ := impl_CountFitting_ev a b c [] (l ++ p) (by simp)
    obtain ⟨K6, h6⟩ := impl_CountFitting_ev a b c [] (p2.reverse ++ l ++ p2) (by simp)
    rw [cfull _ hp2] at h5
    rw [cfull _ hq2] at h6
    obtain ⟨K7, h7⟩ := ints_ev l l (by omega)
    rw [decide_eq_true rfl] at h7
    have t2 := quads_l2 a b c (l ++ p) (p2.reverse ++ l ++ p2) Q hmo hQ8 hQw hp2 hq2 (fun w hw => by have := hp3 w hw; simpa [addQ] using this) (fun w hw => by have := hq3 w hw; rw [addQ, if_pos rfl] at this; exact this) Q.length 0 (by omega)
    have t1 := quads_l1 a b c (l ++ p) l p2 Q hQ8 hq1 (by omega) t2 p2.length 0 (by omega)
    obtain ⟨K8, h8⟩ := quads_l0 a b c (p2.length : Int) (l ++ p) (p2.reverse ++ l ++ p2) p Q hQ8 (by omega) hp1 t1 p.length 0 (by omega)
    refine ⟨K1 + K2 + K3 + K4 + K5 + K6 + K7 + K8 + 2, ?_⟩
    generalize hK : K1 + K2 + K3 + K4 + K5 + K6 + K7 + K8 = K
    have g1 : spec_DrawQuadLine.f (K + 2) s = some (a, b, c, l, Q) := h1 _ (by omega)
    have g2 : impl_QuadLine.f (K + 2) a b c l Q = some (l ++ p, true) := by rw [quadLine_f]; exact h2 _ (by omega)
    have g3 : spec_QuadLine.f (K + 2) a b c l Q = some (l ++ p, true) := by unfold spec_QuadLine.f; exact h3 _ (by omega)
    have g4 : impl_CenterLine.f (K + 2) a b c l Q = some (p2.reverse ++ l ++ p2, true) := by rw [centerLine_f]; exact h4 _ (by omega)
    have g5 : impl_CountFitting.f (K + 1) a b c [] (l ++ p) = some ((l ++ p).length : Int) := h5 _ (by omega)
    have g6 : impl_CountFitting.f (K + 1) a b c [] (p2.reverse ++ l ++ p2) = some ((p2.reverse ++ l ++ p2).length : Int) := h6 _ (by omega)
    have g7 : laws_ints.f (K + 1) l l = some true := h7 _ (by omega)
    have g8 : laws_FnQuads.l0 K Q (l ++ p) (p2.reverse ++ l ++ p2) (p2.length : Int) p (p.length : Int) 0 a b c = some true := h8 K (by omega)
    exact quads_fin K a b c s l p p2 Q hlen (by omega) g1 g2 g3 g4 g5 g6 g7 g8
end Go.Proofs.Ytnkpblbofjchaaa.Pure
