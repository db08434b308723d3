/- The ways to break a text: what the program's table and the reference's give. Conditions: those that each lemma names. -/
import Derived.Test.YtnkpblbofjchaaaP0
import Derived.Test.YtnkpblbofjchaaaPKind
import Derived.Test.YtnkpblbofjchaaaPMeasure
import Derived.Test.YtnkpblbofjchaaaQ25
import Derived.Test.YtnkpblbofjchaaaQ28
import Derived.Test.YtnkpblbofjchaaaQ47
import Derived.Test.YtnkpblbofjchaaaQ48
import Derived.Test.YtnkpblbofjchaaaQ49
import Derived.Test.YtnkpblbofjchaaaQ50
import Derived.Test.YtnkpblbofjchaaaQ51
namespace Go.Proofs.Ytnkpblbofjchaaa.Q
open Go.RowKit Go.Proofs.YtnkpblbofjchaaaW.PrintWords Go.Proofs.YtnkpblbofjchaaaW.PrintLast Go.Proofs.YtnkpblbofjchaaaW.PrintMore
set_option linter.unusedVariables false
set_option linter.unusedSimpArgs false
/-- A table of n + 1 places. -/
def arrT (n : Nat) (f : Nat → Int) : List Int := (List.range (n + 1)).map f
def upd (f : Nat → Int) (i : Nat) (v : Int) : Nat → Int := fun j => if j = i then v else f j
theorem arrT_length (n : Nat) (f : Nat → Int) : (arrT n f).length = n + 1 := by simp [arrT]
theorem arrT_len (n : Nat) (f : Nat → Int) : ((arrT n f).length : Int) = (n : Int) + 1 := by rw [arrT_length]; omega
theorem arrT_rd (n : Nat) (f : Nat → Int) (i : Nat) (h : i ≤ n) : rd (arrT n f) (i : Int) = f i := by
  rw [rd_nat _ i (by rw [arrT_length]; omega)]
  simp [arrT]
theorem arrT_set (n : Nat) (f : Nat → Int) (i : Nat) (v : Int) : (arrT n f).set i v = arrT n (upd f i v) := by
  apply List.ext_getElem
  · simp [arrT]
  · intro j h1 h2
    simp only [arrT, List.getElem_set, List.getElem_map, List.getElem_range, upd]
    by_cases e : i = j
    · rw [if_pos e, if_pos e.symm]
    · rw [if_neg e, if_neg (fun h => e h.symm)]
theorem arrT_rep (n : Nat) : List.replicate (n + 1) (0 : Int) = arrT n (fun _ => 0) := by
  apply List.ext_getElem
  · simp [arrT]
  · intro j h1 h2; simp [arrT]
theorem upd_same (f : Nat → Int) (i : Nat) (v w : Int) : upd (upd f i v) i w = upd f i w := by
  funext j; simp only [upd]; split <;> rfl
theorem upd_ne (f : Nat → Int) (i j : Nat) (v : Int) (h : j ≠ i) : upd f i v j = f j := by simp [upd, h]
theorem upd_at (f : Nat → Int) (i : Nat) (v : Int) : upd f i v i = v := by simp [upd]
theorem upd_id (f : Nat → Int) (i : Nat) (v : Int) (h : f i = v) : upd f i v = f := by
  funext j; simp only [upd]; split
  · subst j; exact h.symm
  · rfl
theorem upd_comm (f : Nat → Int) (i j : Nat) (v w : Int) (h : i ≠ j) : upd (upd f i v) j w = upd (upd f j w) i v := by
  funext m; simp only [upd]; repeat' split
  all_goals first | rfl | omega
/-- One place's ways: from those behind it. -/
def rs (g : Nat → Bool) (f : Nat → Int) : Int → Nat → Nat → Int
  | x, _, 0 => x
  | x, j, c + 1 => rs g f (if g j = true then wrap64 (x + f j) else x) (j + 1) c
theorem rs_last (g : Nat → Bool) (f : Nat → Int) : ∀ (c : Nat) (x : Int) (j : Nat), rs g f x j (c + 1) = if g (j + c) = true then wrap64 (rs g f x j c + f (j + c)) else rs g f x j c
  | 0, x, j => by simp [rs]
  | c + 1, x, j => by
    rw [rs, rs_last g f c _ (j + 1), show j + 1 + c = j + (c + 1) by omega]
    rfl
theorem rs_add (g : Nat → Bool) (f : Nat → Int) (d : Int) : ∀ (c : Nat) (x : Int) (j : Nat), c ≠ 0 ∨ True → wrap64 (rs g f x j c + d) = rs g f (wrap64 (x + d)) j c
  | 0, x, j, _ => rfl
  | c + 1, x, j, _ => by
    rw [rs, rs, rs_add g f d c _ (j + 1) (Or.inr trivial)]
    congr 1
    by_cases h : g j = true
    · rw [if_pos h, if_pos h]; unfold wrap64; omega
    · rw [if_neg h, if_neg h]
theorem rs_congr (g g' : Nat → Bool) (f f' : Nat → Int) : ∀ (c : Nat) (x : Int) (j : Nat), (∀ m, j ≤ m → m < j + c → g m = g' m ∧ f m = f' m) → rs g f x j c = rs g' f' x j c
  | 0, x, j, _ => rfl
  | c + 1, x, j, h => by
    rw [rs, rs, (h j (by omega) (by omega)).1, (h j (by omega) (by omega)).2]
    exact rs_congr g g' f f' c _ (j + 1) (fun m h1 h2 => h m (by omega) (by omega))
/-- The table once its last c places are done. -/
def tab (G : Nat → Nat → Bool) (n : Nat) : Nat → (Nat → Int)
  | 0 => upd (fun _ => 0) n 1
  | c + 1 => upd (tab G n c) (n - 1 - c) (rs (G (n - 1 - c)) (tab G n c) 0 (n - c) (c + 1))
theorem tab_zero (G : Nat → Nat → Bool) (n : Nat) : ∀ c j, c ≤ n → j < n - c → tab G n c j = 0
  | 0, j, _, h => by rw [tab, upd_ne _ _ _ _ (by omega)]
  | c + 1, j, h0, h => by rw [tab, upd_ne _ _ _ _ (by omega)]; exact tab_zero G n c j (by omega) (by omega)
theorem tab_last (G : Nat → Nat → Bool) (n : Nat) : ∀ c, c ≤ n → tab G n c n = 1
  | 0, _ => by rw [tab, upd_at]
  | c + 1, h => by rw [tab, upd_ne _ _ _ _ (by omega)]; exact tab_last G n c (by omega)
/-- May a line go from word i to word j? -/
def goes (a b c : Int) (l : List Int) (i j : Nat) : Bool := if kindV a b c (cutW l i j) = 2 then true else if kindV a b c (cutW l i j) = 1 then decide (j = l.length) else false
theorem spec_l4Goes_ev (a b c : Int) (l : List Int) (hm : measureOk a b c = true) (ht : textOk l = true) (i s : Nat) (h1 : 1 ≤ s) (h2 : i + s ≤ l.length) :
    Ev (fun k => spec_l4Goes.f k a b c l (i : Int) (s : Int)) (goes a b c l i (i + s)) := by
  obtain ⟨t1, t2, _⟩ := (textOk_iff l).1 ht
  obtain ⟨g1, g2, g3⟩ := text_words ht (i : Int) ((i : Int) + s) (by omega) (by omega) (by omega)
  obtain ⟨K, hk⟩ := spec_l4Kind_ev a b c (cutW l (i : Int) ((i : Int) + s)) hm g1 g2 g3
  refine ⟨K, fun k hkk => ?_⟩
  have e : wrap64 ((i : Int) + s) = (i : Int) + s := wrap_id _ (by omega) (by omega)
  have hk' : spec_l4Kind.f k a b c ((l.take ((i : Int) + s).toNat).drop (i : Int).toNat) = some (kindV a b c (cutW l (i : Int) ((i : Int) + s))) := hk k hkk
  simp only [spec_l4Goes.f, e]
  rw [if_pos (by omega), if_pos (by omega), if_pos (by omega), hk', Option.bind_some]
  have e2 : cutW l (i : Int) ((i + s : Nat) : Int) = cutW l (i : Int) ((i : Int) + s) := by congr 1; 
  simp only [goes, e2]
  generalize kindV a b c (cutW l (i : Int) ((i : Int) + s)) = K
  have hb : ((i : Int) + s == (l.length : Int)) = decide (i + s = l.length) := by
    by_cases h : i + s = l.length
    · rw [decide_eq_true h]; simp; omega
    · rw [decide_eq_false h]; simp; omega
  by_cases h2 : K = 2
  · rw [if_pos h2, if_pos h2]
  · rw [if_neg h2, if_neg h2]
    by_cases h1 : K = 1
    · rw [if_pos h1, if_pos h1, hb]
    · rw [if_neg h1, if_neg h1]
/-- The reference's table. -/
theorem spec_ways_inner (a b c : Int) (l : List Int) (hm : measureOk a b c = true) (ht : textOk l = true) (V : List Int) (f : Nat → Int) (i : Nat) (hi : i < l.length) :
    ∀ (cnt : Nat) (x : Int) (s : Nat), 1 ≤ s → i + s + cnt = l.length + 1 → Ev (fun k => spec_l4Ways.l0 k l (arrT l.length (upd f i (rs (goes a b c l i) f x (i + s) cnt))) ((i : Int) - 1) a b c) V →
      Ev (fun k => spec_l4Ways.l1 k l (arrT l.length (upd f i x)) (i : Int) (s : Int) a b c) V
  | 0, x, s, hs, hc, hend => by
    obtain ⟨t1, t2, _⟩ := (textOk_iff l).1 ht
    refine Ev.step (fun k => ?_) hend
    have e : wrap64 ((i : Int) + s) = (i : Int) + s := wrap_id _ (by omega) (by omega)
    have e1 : wrap64 ((i : Int) - 1) = (i : Int) - 1 := wrap_id _ (by omega) (by omega)
    simp only [spec_l4Ways.l1, e, e1]
    rw [if_neg (by omega)]
    rfl
  | cnt + 1, x, s, hs, hc, hend => by
    obtain ⟨t1, t2, _⟩ := (textOk_iff l).1 ht
    have e : wrap64 ((i : Int) + s) = ((i + s : Nat) : Int) := by rw [wrap_id _ (by omega) (by omega)]; omega
    have hg := spec_l4Goes_ev a b c l hm ht i s hs (by omega)
    have ih := spec_ways_inner a b c l hm ht V f i hi cnt (if goes a b c l i (i + s) = true then wrap64 (x + f (i + s)) else x) (s + 1) (by omega) (by omega) hend
    refine Ev.step (f := fun k => (spec_l4Goes.f k a b c l (i : Int) (s : Int)).bind fun t => if t = true then spec_l4Ways.l1 k l (arrT l.length (upd f i (wrap64 (x + f (i + s))))) (i : Int) ((s + 1 : Nat) : Int) a b c else spec_l4Ways.l1 k l (arrT l.length (upd f i x)) (i : Int) ((s + 1 : Nat) : Int) a b c) (fun k => ?_)
      (Ev.bind (f := fun k t => if t = true then spec_l4Ways.l1 k l (arrT l.length (upd f i (wrap64 (x + f (i + s))))) (i : Int) ((s + 1 : Nat) : Int) a b c else spec_l4Ways.l1 k l (arrT l.length (upd f i x)) (i : Int) ((s + 1 : Nat) : Int) a b c) hg ?_)
    · simp only [spec_l4Ways.l1, e, arrT_len]
      rw [if_pos (by omega), if_pos (by omega), if_pos (by omega), if_pos (by omega), if_pos (by omega), w1 s (by omega), arrT_rd _ _ i (by omega), arrT_rd _ _ (i + s) (by omega), upd_at, upd_ne _ _ _ _ (by omega), Int.toNat_natCast, arrT_set, upd_same]
    · by_cases h : goes a b c l i (i + s) = true
      · simp only [if_pos h] at ih ⊢; exact ih
      · simp only [if_neg h] at ih ⊢; exact ih
theorem spec_ways_outer (a b c : Int) (l : List Int) (hm : measureOk a b c = true) (ht : textOk l = true) :
    ∀ (m d : Nat), d + m = l.length → Ev (fun k => spec_l4Ways.l0 k l (arrT l.length (tab (goes a b c l) l.length d)) ((m : Int) - 1) a b c) (arrT l.length (tab (goes a b c l) l.length l.length))
  | 0, d, h => by
    refine ev_step1 (fun k => ?_)
    simp only [spec_l4Ways.l0]
    rw [if_neg (by omega), show d = l.length by omega]
  | m + 1, d, h => by
    have ih := spec_ways_outer a b c l hm ht m (d + 1) (by omega)
    rw [tab, show l.length - 1 - d = m by omega, show l.length - d = m + 1 by omega] at ih
    have hin := spec_ways_inner a b c l hm ht _ (tab (goes a b c l) l.length d) m (by omega) (d + 1) 0 1 (by omega) (by omega) ih
    rw [upd_id _ m 0 (tab_zero _ _ d m (by omega) (by omega))] at hin
    refine Ev.step (fun k => ?_) hin
    simp only [spec_l4Ways.l0]
    rw [if_pos (by omega), show ((m + 1 : Nat) : Int) - 1 = (m : Int) by omega]
    rfl
theorem spec_l4Ways_ev (a b c : Int) (l : List Int) (hm : measureOk a b c = true) (ht : textOk l = true) : Ev (fun k => spec_l4Ways.f k a b c l) (arrT l.length (tab (goes a b c l) l.length l.length)) := by
  obtain ⟨t1, t2, _⟩ := (textOk_iff l).1 ht
  have h := spec_ways_outer a b c l hm ht l.length 0 (by omega)
  refine ev_eq h (fun k => ?_)
  have e1 : wrap64 ((l.length : Int) + 1) = ((l.length + 1 : Nat) : Int) := w1 _ (by omega)
  have e2 : wrap64 ((l.length : Int) - 1) = (l.length : Int) - 1 := wrap_id _ (by omega) (by omega)
  simp only [spec_l4Ways.f, e1, e2, Int.toNat_natCast, arrT_rep, Option.bind_some, arrT_len, arrT_set, tab]
  rw [if_pos (by omega), if_pos (by omega), if_pos (by omega), if_pos (by omega)]
/-- The program's table. -/
theorem impl_ways_inner (a b c : Int) (l : List Int) (hm : measureOk a b c = true) (ht : textOk l = true) (V : List Int) (f : Nat → Int) (i : Nat) (hi : i < l.length) :
    ∀ (cnt : Nat) (x : Int) (j : Nat), i < j → j + cnt = l.length → Ev (fun k => impl_ways.l0 k l (arrT l.length (upd f i (rs (goes a b c l i) f x j cnt))) ((i : Int) - 1) a b c) V →
      Ev (fun k => impl_ways.l1 k l (arrT l.length (upd f i x)) (i : Int) (j : Int) a b c) V
  | 0, x, j, hs, hc, hend => by
    obtain ⟨t1, t2, _⟩ := (textOk_iff l).1 ht
    refine Ev.step (fun k => ?_) hend
    have e1 : wrap64 ((i : Int) - 1) = (i : Int) - 1 := wrap_id _ (by omega) (by omega)
    simp only [impl_ways.l1, e1]
    rw [if_neg (by omega)]
    rfl
  | cnt + 1, x, j, hs, hc, hend => by
    obtain ⟨t1, t2, _⟩ := (textOk_iff l).1 ht
    obtain ⟨g1, g2, g3⟩ := text_words ht (i : Int) (j : Int) (by omega) (by omega) (by omega)
    have hg := impl_kindOf_ev a b c (cutW l (i : Int) (j : Int)) hm g1 g2 g3
    have ih := impl_ways_inner a b c l hm ht V f i hi cnt (if goes a b c l i j = true then wrap64 (x + f j) else x) (j + 1) (by omega) (by omega) hend
    have hgo : goes a b c l i j = decide (kindV a b c (cutW l (i : Int) (j : Int)) = 2) := by
      simp only [goes]
      rw [decide_eq_false (show ¬ (j = l.length) by omega), ite_self]
      by_cases h : kindV a b c (cutW l (i : Int) (j : Int)) = 2
      · rw [if_pos h, decide_eq_true h]
      · rw [if_neg h, decide_eq_false h]
    refine Ev.step (f := fun k => (impl_kindOf.f k a b c (cutW l (i : Int) (j : Int))).bind fun t => if t = 2 then impl_ways.l1 k l (arrT l.length (upd f i (wrap64 (x + f j)))) (i : Int) ((j + 1 : Nat) : Int) a b c else impl_ways.l1 k l (arrT l.length (upd f i x)) (i : Int) ((j + 1 : Nat) : Int) a b c) (fun k => ?_)
      (Ev.bind (f := fun k t => if t = 2 then impl_ways.l1 k l (arrT l.length (upd f i (wrap64 (x + f j)))) (i : Int) ((j + 1 : Nat) : Int) a b c else impl_ways.l1 k l (arrT l.length (upd f i x)) (i : Int) ((j + 1 : Nat) : Int) a b c) hg ?_)
    · simp only [impl_ways.l1, arrT_len, cutW]
      rw [if_pos (by omega), if_pos (by omega), if_pos (by omega), if_pos (by omega), if_pos (by omega), if_pos (by omega), if_pos (by omega), w1 j (by omega), arrT_rd _ _ i (by omega), arrT_rd _ _ j (by omega), upd_at, upd_ne _ _ _ _ (by omega), Int.toNat_natCast, arrT_set, upd_same]
    · rw [hgo] at ih
      by_cases h : kindV a b c (cutW l (i : Int) (j : Int)) = 2
      · simp only [if_pos h, decide_eq_true h, if_true] at ih ⊢; exact ih
      · simp only [if_neg h, decide_eq_false h, Bool.false_eq_true, if_false] at ih ⊢; exact ih
theorem goes_last (a b c : Int) (l : List Int) (i : Nat) : goes a b c l i l.length = decide (kindV a b c (l.drop i) > 0) := by
  have e : cutW l (i : Int) (l.length : Int) = l.drop i := by simp [cutW]
  have hk := kindV_cases a b c (l.drop i)
  simp only [goes, e]
  rcases hk with h | h | h <;> simp [h]
theorem upd_cong (f g : Nat → Int) (n i : Nat) (v w x : Int) (h : upd f n w = upd g n w) : upd (upd f i v) n w = upd (upd g i v) n w := by
  funext j
  have := congrFun h j
  simp only [upd] at this ⊢
  repeat' split
  all_goals first | rfl | simp_all
theorem impl_ways_outer (a b c : Int) (l : List Int) (hm : measureOk a b c = true) (ht : textOk l = true) :
    ∀ (m d : Nat) (f : Nat → Int), d + m = l.length → (∀ j, j < m → f j = 0) → upd f l.length 1 = tab (goes a b c l) l.length d → Ev (fun k => impl_ways.l0 k l (arrT l.length f) ((m : Int) - 1) a b c) (arrT l.length (tab (goes a b c l) l.length l.length))
  | 0, d, f, h, hz, hf => by
    refine ev_step1 (fun k => ?_)
    simp only [impl_ways.l0]
    rw [if_neg (by omega), if_pos (by omega), if_pos (by rw [arrT_len]; omega), Int.toNat_natCast, arrT_set, hf, show d = l.length by omega]
  | m + 1, d, f, h, hz, hf => by
    obtain ⟨t1, t2, t3⟩ := (textOk_iff l).1 ht
    have ih := impl_ways_outer a b c l hm ht m (d + 1) (upd f m (tab (goes a b c l) l.length (d + 1) m)) (by omega) (fun j hj => by rw [upd_ne _ _ _ _ (by omega)]; exact hz j (by omega)) (by
      rw [upd_comm _ _ _ _ _ (by omega), hf, tab, show l.length - 1 - d = m by omega, upd_at])
    have hval : tab (goes a b c l) l.length (d + 1) m = rs (goes a b c l m) f (if kindV a b c (l.drop m) > 0 then 1 else 0) (m + 1) d := by
      rw [tab, show l.length - 1 - d = m by omega, show l.length - d = m + 1 by omega, upd_at, rs_last, show m + 1 + d = l.length by omega, goes_last, tab_last _ _ d (by omega)]
      have hc : ∀ x, rs (goes a b c l m) (tab (goes a b c l) l.length d) x (m + 1) d = rs (goes a b c l m) f x (m + 1) d := fun x => by
        refine rs_congr _ _ _ _ d x (m + 1) (fun q h1 h2 => ⟨rfl, ?_⟩)
        rw [← hf, upd_ne _ _ _ _ (by omega)]
      rw [rs_add _ _ 1 d 0 (m + 1) (Or.inr trivial), hc, hc]
      by_cases hk : kindV a b c (l.drop m) > 0
      · rw [if_pos hk, decide_eq_true hk, if_pos rfl, wrap_id (0 + 1) (by omega) (by omega)]; rfl
      · rw [if_neg hk, decide_eq_false hk, if_neg (by decide)]
    rw [hval] at ih
    have hin := impl_ways_inner a b c l hm ht _ f m (by omega) d (if kindV a b c (l.drop m) > 0 then 1 else 0) (m + 1) (by omega) (by omega) ih
    have hj : Ev (fun k => impl_ways.j1 k l (arrT l.length (upd f m (if kindV a b c (l.drop m) > 0 then 1 else 0))) (m : Int) a b c) (arrT l.length (tab (goes a b c l) l.length l.length)) := by
      refine Ev.step (fun k => ?_) hin
      simp only [impl_ways.j1]
      rw [w1 m (by omega)]
    have hkind := impl_kindOf_ev a b c (l.drop m) hm (by rw [List.length_drop]; omega) (by rw [List.length_drop]; omega) (fun w hw => by have := t3 w (List.mem_of_mem_drop hw); omega)
    refine Ev.step (f := fun k => (impl_kindOf.f k a b c (l.drop m)).bind fun t => if t > 0 then impl_ways.j1 k l (arrT l.length (upd f m 1)) (m : Int) a b c else impl_ways.j1 k l (arrT l.length f) (m : Int) a b c) (fun k => ?_)
      (Ev.bind (f := fun k t => if t > 0 then impl_ways.j1 k l (arrT l.length (upd f m 1)) (m : Int) a b c else impl_ways.j1 k l (arrT l.length f) (m : Int) a b c) hkind ?_)
    · simp only [impl_ways.l0, show ((m + 1 : Nat) : Int) - 1 = (m : Int) by omega, Int.toNat_natCast, arrT_len, arrT_set]
      rw [if_pos (by omega), if_pos (by omega), if_pos (by omega), if_pos (by omega)]
    · by_cases hk : kindV a b c (l.drop m) > 0
      · simp only [if_pos hk] at hj ⊢; exact hj
      · simp only [if_neg hk] at hj ⊢
        rw [upd_id _ m 0 (hz m (by omega))] at hj
        exact hj
theorem impl_ways_ev (a b c : Int) (l : List Int) (hm : measureOk a b c = true) (ht : textOk l = true) : Ev (fun k => impl_ways.f k a b c l) (arrT l.length (tab (goes a b c l) l.length l.length)) := by
  obtain ⟨t1, t2, _⟩ := (textOk_iff l).1 ht
  have h := impl_ways_outer a b c l hm ht l.length 0 (fun _ => 0) (by omega) (fun _ _ => rfl) rfl
  refine ev_eq h (fun k => ?_)
  have e1 : wrap64 ((l.length : Int) + 1) = ((l.length + 1 : Nat) : Int) := w1 _ (by omega)
  have e2 : wrap64 ((l.length : Int) - 1) = (l.length : Int) - 1 := wrap_id _ (by omega) (by omega)
  simp only [impl_ways.f, e1, e2, Int.toNat_natCast, arrT_rep]
  rw [if_pos (by omega), if_pos (by omega)]
/-- CountBreakings. -/
def countBr (a b c : Int) (l : List Int) : Int := if (measureOk a b c && textOk l) = true then tab (goes a b c l) l.length l.length 0 else -1
theorem impl_CountBreakings_ev (a b c : Int) (l : List Int) : Ev (fun k => impl_CountBreakings.f k a b c l) (countBr a b c l) := by
  unfold countBr
  by_cases hb : (measureOk a b c && textOk l) = true
  · obtain ⟨hm, ht⟩ : measureOk a b c = true ∧ textOk l = true := by simpa using hb
    obtain ⟨K, h⟩ := impl_ways_ev a b c l hm ht
    rw [if_pos hb]
    refine ⟨K, fun k hk => ?_⟩
    simp only [impl_CountBreakings.f, impl_both_eq, Option.bind_some, if_pos hb, h k hk]
    rw [if_pos (by rw [arrT_len]; omega)]
    exact congrArg some (arrT_rd _ _ 0 (by omega))
  · rw [if_neg hb]; exact ev_const (fun k => by simp only [impl_CountBreakings.f, impl_both_eq, Option.bind_some, if_neg hb])
theorem spec_CountBreakings_ev (a b c : Int) (l : List Int) (hl : l.length ≤ 1099511627776) : Ev (fun k => spec_CountBreakings.f k a b c l) (countBr a b c l) := by
  obtain ⟨K0, h0⟩ := spec_l4Ok_ev a b c l hl
  unfold countBr
  by_cases hb : (measureOk a b c && textOk l) = true
  · obtain ⟨hm, ht⟩ : measureOk a b c = true ∧ textOk l = true := by simpa using hb
    obtain ⟨K, h⟩ := spec_l4Ways_ev a b c l hm ht
    rw [if_pos hb]
    refine ⟨K + K0, fun k hk => ?_⟩
    simp only [spec_CountBreakings.f, h0 k (by omega), Option.bind_some, if_pos hb, h k (by omega)]
    rw [if_pos (by rw [arrT_len]; omega)]
    exact congrArg some (arrT_rd _ _ 0 (by omega))
  · rw [if_neg hb]
    exact ⟨K0, fun k hk => by simp only [spec_CountBreakings.f, h0 k hk, Option.bind_some, if_neg hb]⟩
end Go.Proofs.Ytnkpblbofjchaaa.Q
