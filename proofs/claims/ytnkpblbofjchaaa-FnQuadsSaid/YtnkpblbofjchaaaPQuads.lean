/- Blank letters: whether a list is one of such, and the lines that are filled with them. Conditions: those that each lemma names. -/
import Derived.Test.YtnkpblbofjchaaaP0
import Derived.Test.YtnkpblbofjchaaaPLine
import Derived.Test.YtnkpblbofjchaaaPMeasure
import Derived.Test.YtnkpblbofjchaaaPPlaces
import Derived.Test.YtnkpblbofjchaaaPSpreadL
import Derived.Test.YtnkpblbofjchaaaQ1
import Derived.Test.YtnkpblbofjchaaaQ4
import Derived.Test.YtnkpblbofjchaaaQ5
import Derived.Test.YtnkpblbofjchaaaQ6
namespace Go.Proofs.Ytnkpblbofjchaaa.Q
open Go.RowKit Go.Proofs.YtnkpblbofjchaaaW.PrintWords Go.Proofs.YtnkpblbofjchaaaW.PrintLast Go.Proofs.YtnkpblbofjchaaaW.PrintMore
set_option linter.unusedVariables false
set_option linter.unusedSimpArgs false
/-- Each number is less than the one before it. -/
def descF : List Int → Bool
  | [] => true
  | [_] => true
  | x :: y :: r => decide (y < x) && descF (y :: r)
def quadsB (l : List Int) : Bool := decide (1 ≤ l.length) && decide (l.length ≤ 8) && between l 1 60 && descF l
theorem quads_impl_loop (l : List Int) (h1 : 1 ≤ l.length) (hl : l.length ≤ 8) : ∀ d i, i + d + 1 = l.length → Ev (fun k => impl_quadsOk.l0 k l ((l.length - 1 : Nat) : Int) (i : Int)) (descF (l.drop i)) := by
  intro d
  induction d with
  | zero =>
    intro i hi
    rw [List.drop_eq_getElem_cons (show i < l.length by omega), List.drop_eq_nil_of_le (by omega), descF]
    exact ev_step1 (fun k => by simp only [impl_quadsOk.l0]; rw [if_neg (by omega)])
  | succ d ih =>
    intro i hi
    have hw := w1 i (by omega)
    have h := ih (i + 1) (by omega)
    rw [List.drop_eq_getElem_cons (show i < l.length by omega)]
    rw [List.drop_eq_getElem_cons (show i + 1 < l.length by omega)] at h ⊢
    rw [descF]
    by_cases e : l[i + 1] < l[i]
    · rw [decide_eq_true e, Bool.true_and]
      refine Ev.step (fun k => ?_) h
      simp only [impl_quadsOk.l0, hw]
      rw [if_pos (by omega), if_pos (by omega), if_pos (by omega), if_pos (by omega), if_pos (by omega), rd_nat l i (by omega), rd_nat l (i + 1) (by omega), if_neg (by omega)]
    · rw [decide_eq_false e, Bool.false_and]
      refine ev_step1 (fun k => ?_)
      simp only [impl_quadsOk.l0, hw]
      rw [if_pos (by omega), if_pos (by omega), if_pos (by omega), if_pos (by omega), if_pos (by omega), rd_nat l i (by omega), rd_nat l (i + 1) (by omega), if_pos (by omega)]
theorem impl_quadsOk_ev (l : List Int) : Ev (fun k => impl_quadsOk.f k l) (quadsB l) := by
  unfold quadsB
  by_cases h1 : 1 ≤ l.length
  case neg =>
    rw [decide_eq_false h1]
    refine ev_step1 (fun k => ?_)
    simp only [impl_quadsOk.f, impl_quadsOk.j0]
    rw [if_pos (by omega), if_true]; rfl
  by_cases h2 : l.length ≤ 8
  case neg =>
    rw [decide_eq_true h1, decide_eq_false h2]
    refine ev_step1 (fun k => ?_)
    simp only [impl_quadsOk.f, impl_quadsOk.j0]
    rw [if_neg (by omega), if_pos (by omega), if_true]; rfl
  rw [decide_eq_true h1, decide_eq_true h2, Bool.true_and, Bool.true_and]
  by_cases h3 : between l 1 60 = true
  case neg =>
    rw [show between l 1 60 = false by simpa using h3, Bool.false_and]
    refine ev_step1 (fun k => ?_)
    simp only [impl_quadsOk.f, impl_between.f, Option.bind_some, show between l 1 60 = false by simpa using h3, Bool.not_false, impl_quadsOk.j0]
    rw [if_neg (by omega), if_neg (by omega), if_true]
  rw [h3, Bool.true_and]
  have h := quads_impl_loop l h1 h2 (l.length - 1) 0 (by omega)
  rw [List.drop_zero] at h
  refine Ev.step (fun k => ?_) h
  simp only [impl_quadsOk.f, impl_between.f, Option.bind_some, h3, Bool.not_true, impl_quadsOk.j0, Bool.false_eq_true, if_false]
  rw [if_neg (by omega), if_neg (by omega), if_pos (by omega)]
  rfl
theorem between_cons (x : Int) (r : List Int) (a b : Int) : between (x :: r) a b = ((decide (a ≤ x) && decide (x ≤ b)) && between r a b) := rfl
theorem quads_spec_loop (l : List Int) (hl : l.length ≤ 1099511627776) : ∀ d i, i + d = l.length → Ev (fun k => spec_l3Quads.l0 k l l (l.length : Int) (i : Int)) ((between (l.drop i) 1 60 && descF (l.drop (i - 1))) && (decide (1 ≤ l.length) && decide (l.length ≤ 8))) := by
  intro d
  induction d with
  | zero =>
    intro i hi
    have e1 : descF (l.drop (i - 1)) = true := by
      by_cases h0 : l.length = 0
      · rw [List.drop_eq_nil_of_le (by omega)]; rfl
      · rw [List.drop_eq_getElem_cons (show i - 1 < l.length by omega), List.drop_eq_nil_of_le (by omega)]; rfl
    rw [List.drop_eq_nil_of_le (by omega), e1]
    refine ev_step1 (fun k => ?_)
    simp only [spec_l3Quads.l0]
    rw [if_neg (by omega), l1InB_eq]
    simp only [Option.bind_some, between, List.all_nil, Bool.true_and]
    rw [show decide (1 ≤ (l.length : Int)) = decide (1 ≤ l.length) from decide_eq_decide.2 (by omega), show decide ((l.length : Int) ≤ 8) = decide (l.length ≤ 8) from decide_eq_decide.2 (by omega)]
  | succ d ih =>
    intro i hi
    have hi' : i < l.length := by omega
    have h := ih (i + 1) (by omega)
    rw [Nat.add_sub_cancel] at h
    rw [List.drop_eq_getElem_cons hi', between_cons]
    by_cases hb : (decide (1 ≤ l[i]) && decide (l[i] ≤ 60)) = true
    case neg =>
      rw [show (decide (1 ≤ l[i]) && decide (l[i] ≤ 60)) = false by simpa using hb]
      refine ev_step1 (fun k => ?_)
      simp only [spec_l3Quads.l0]
      rw [if_pos (by omega), if_pos (by omega), if_pos (by omega), rd_nat l i hi', l1InB_eq, Option.bind_some, if_neg hb]
      simp
    rw [hb, Bool.true_and]
    by_cases h0 : i = 0
    · subst h0
      refine Ev.step (fun k => ?_) h
      simp only [spec_l3Quads.l0]
      rw [if_pos (by omega), if_pos (by omega), if_pos (by omega), rd_nat l 0 hi', l1InB_eq, Option.bind_some, if_pos hb, if_neg (by omega), w1 0 (by omega)]
    · have e2 : wrap64 ((i : Int) - 1) = ((i - 1 : Nat) : Int) := by rw [wrap_id _ (by omega) (by omega)]; omega
      have ed : descF (l.drop (i - 1)) = (decide (l[i] < l[i - 1]) && descF (l.drop i)) := by
        rw [List.drop_eq_getElem_cons (show i - 1 < l.length by omega), show i - 1 + 1 = i by omega, List.drop_eq_getElem_cons hi', descF]
      rw [ed]
      by_cases e : l[i] < l[i - 1]
      · rw [decide_eq_true e, Bool.true_and]
        refine Ev.step (fun k => ?_) h
        simp only [spec_l3Quads.l0, e2]
        rw [if_pos (by omega), if_pos (by omega), if_pos (by omega), rd_nat l i hi', l1InB_eq, Option.bind_some, if_pos hb, if_pos (by omega), if_pos (by omega), if_pos (by omega), rd_nat l (i - 1) (by omega), if_neg (by omega), w1 i (by omega)]
      · rw [decide_eq_false e, Bool.false_and, Bool.and_false, Bool.false_and]
        refine ev_step1 (fun k => ?_)
        simp only [spec_l3Quads.l0, e2]
        rw [if_pos (by omega), if_pos (by omega), if_pos (by omega), rd_nat l i hi', l1InB_eq, Option.bind_some, if_pos hb, if_pos (by omega), if_pos (by omega), if_pos (by omega), rd_nat l (i - 1) (by omega), if_pos (by omega)]
theorem spec_l3Quads_ev (l : List Int) (hl : l.length ≤ 1099511627776) : Ev (fun k => spec_l3Quads.f k l) (quadsB l) := by
  have h := quads_spec_loop l hl l.length 0 (by omega)
  rw [List.drop_zero] at h
  have e : quadsB l = ((between l 1 60 && descF l) && (decide (1 ≤ l.length) && decide (l.length ≤ 8))) := by
    unfold quadsB
    cases decide (1 ≤ l.length) <;> cases decide (l.length ≤ 8) <;> cases between l 1 60 <;> cases descF l <;> rfl
  rw [e]
  exact h
def addQ (both : Bool) (L : List Int) (x : Int) : List Int := if both = true then [x] ++ L ++ [x] else L ++ [x]
theorem addQ_len (both : Bool) (L : List Int) (x : Int) : L.length + 1 ≤ (addQ both L x).length ∧ (addQ both L x).length ≤ L.length + 2 := by
  unfold addQ
  split <;> simp
/-- A line with blank letters behind it, and before it, too. -/
def padQ (both : Bool) (l p : List Int) : List Int := if both = true then p.reverse ++ l ++ p else l ++ p
theorem padQ_add (both : Bool) (l p : List Int) (x : Int) : addQ both (padQ both l p) x = padQ both l (p ++ [x]) := by
  unfold addQ padQ
  cases both <;> simp
theorem fits_len (a b : Int) (L : List Int) (h : fitsV a b L = true) : L.length ≤ 120 := by
  have h1 : lineOk L = true ∧ lettersN L + bandsN L * b ≤ a := by simpa [fitsV] using h
  exact ((lineOk_iff L).1 h1.1).1
theorem fits_all (a b c : Int) (hm : measureOk a b c = true) (both : Bool) (out : List Int) (ho : out.length ≤ 1000) : ∀ Q : List Int, ∃ K, ∀ k, K ≤ k → ∀ x ∈ Q, impl_fits.f k a b c (addQ both out x) = some (fitsV a b (addQ both out x))
  | [] => ⟨0, fun _ _ _ h => absurd h (by simp)⟩
  | x :: r => by
    obtain ⟨K1, f1⟩ := fits_all a b c hm both out ho r
    obtain ⟨K2, f2⟩ := impl_fits_ev a b c (addQ both out x) (by have := addQ_len both out x; omega) hm
    refine ⟨K1 + K2, fun k hk y hy => ?_⟩
    rcases List.mem_cons.1 hy with rfl | h
    · exact f2 k (by omega)
    · exact f1 k (by omega) y h
theorem spec_blank_row (a b c : Int) (hm : measureOk a b c = true) (both : Bool) (Q out : List Int) (hQ : Q.length ≤ 1000) (ho : out.length ≤ 1000) (n : Nat) (hn : n ≤ Q.length) (hno : ∀ j (h : j < Q.length), j < n → fitsV a b (addQ both out Q[j]) = false) (r : List Int)
    (hr : Ev (fun k => spec_l3Blank.l1 k Q both out false Q (Q.length : Int) (n : Int) a b c) r) : ∀ d i, i + d = n → Ev (fun k => spec_l3Blank.l1 k Q both out false Q (Q.length : Int) (i : Int) a b c) r := by
  intro d
  induction d with
  | zero => intro i hi; obtain rfl : i = n := by omega
            exact hr
  | succ d ih =>
    intro i hi
    have hi' : i < Q.length := by omega
    have h := ih (i + 1) (by omega)
    have hf := hno i hi' (by omega)
    cases both with
    | true =>
      obtain ⟨K, f⟩ := fits_ev a b c ([Q[i]] ++ (out ++ [Q[i]])) (by simp; omega) hm
      rw [show fitsV a b ([Q[i]] ++ (out ++ [Q[i]])) = false from by rw [← hf]; simp [addQ]] at f
      obtain ⟨K2, f2⟩ := h
      refine ⟨K + K2 + 1, fun k hk => ?_⟩
      obtain ⟨k, rfl⟩ : ∃ z, k = z + 1 := ⟨k - 1, by omega⟩
      replace f : spec_l3Fits.f k a b c ([Q[i]] ++ (out ++ [Q[i]])) = some false := f k (by omega)
      simp only [spec_l3Blank.l1]
      rw [if_pos (by omega), if_pos (by omega), if_pos (by omega), Option.bind_some, if_pos (by simp only [List.length_nil]; omega), Option.bind_some, List.nil_append, if_pos (by omega), Option.bind_some, if_pos (by trivial), Option.bind_some, if_pos (by simp only [List.length_append, List.length_cons, List.length_nil]; omega), Option.bind_some, rd_nat Q i hi', f, Option.bind_some, if_neg (by decide), w1 i (by omega)]
      exact f2 k (by omega)
    | false =>
      obtain ⟨K, f⟩ := fits_ev a b c (out ++ [Q[i]]) (by simp; omega) hm
      rw [show fitsV a b (out ++ [Q[i]]) = false from by rw [← hf]; simp [addQ]] at f
      obtain ⟨K2, f2⟩ := h
      refine ⟨K + K2 + 1, fun k hk => ?_⟩
      obtain ⟨k, rfl⟩ : ∃ z, k = z + 1 := ⟨k - 1, by omega⟩
      replace f : spec_l3Fits.f k a b c (out ++ [Q[i]]) = some false := f k (by omega)
      simp only [spec_l3Blank.l1]
      rw [if_pos (by omega), if_pos (by omega), if_pos (by omega), Option.bind_some, if_pos (by simp only [List.length_nil]; omega), Option.bind_some, List.nil_append, if_pos (by omega), Option.bind_some, if_neg (by decide), rd_nat Q i hi', f, Option.bind_some, if_neg (by decide), w1 i (by omega)]
      exact f2 k (by omega)
theorem spec_blank_hit (a b c : Int) (hm : measureOk a b c = true) (both : Bool) (Q out : List Int) (hQ : Q.length ≤ 1000) (ho : out.length ≤ 1000) (i : Nat) (hi' : i < Q.length) (hf : fitsV a b (addQ both out Q[i]) = true) (r : List Int)
    (hr : Ev (fun k => spec_l3Blank.l0 k Q both (addQ both out Q[i]) true a b c) r) : Ev (fun k => spec_l3Blank.l1 k Q both out false Q (Q.length : Int) (i : Int) a b c) r := by
  cases both with
  | true =>
    have e : addQ true out Q[i] = [Q[i]] ++ (out ++ [Q[i]]) := by simp [addQ]
    rw [e] at hf hr
    obtain ⟨K, f⟩ := fits_ev a b c ([Q[i]] ++ (out ++ [Q[i]])) (by simp; omega) hm
    rw [hf] at f
    obtain ⟨K2, f2⟩ := hr
    refine ⟨K + K2 + 1, fun k hk => ?_⟩
    obtain ⟨k, rfl⟩ : ∃ z, k = z + 1 := ⟨k - 1, by omega⟩
    replace f : spec_l3Fits.f k a b c ([Q[i]] ++ (out ++ [Q[i]])) = some true := f k (by omega)
    simp only [spec_l3Blank.l1]
    rw [if_pos (by omega), if_pos (by omega), if_pos (by omega), Option.bind_some, if_pos (by simp only [List.length_nil]; omega), Option.bind_some, List.nil_append, if_pos (by omega), Option.bind_some, if_pos (by trivial), Option.bind_some, if_pos (by simp only [List.length_append, List.length_cons, List.length_nil]; omega), Option.bind_some, rd_nat Q i hi', f, Option.bind_some, if_pos rfl]
    exact f2 k (by omega)
  | false =>
    have e : addQ false out Q[i] = out ++ [Q[i]] := by simp [addQ]
    rw [e] at hf hr
    obtain ⟨K, f⟩ := fits_ev a b c (out ++ [Q[i]]) (by simp; omega) hm
    rw [hf] at f
    obtain ⟨K2, f2⟩ := hr
    refine ⟨K + K2 + 1, fun k hk => ?_⟩
    obtain ⟨k, rfl⟩ : ∃ z, k = z + 1 := ⟨k - 1, by omega⟩
    replace f : spec_l3Fits.f k a b c (out ++ [Q[i]]) = some true := f k (by omega)
    simp only [spec_l3Blank.l1]
    rw [if_pos (by omega), if_pos (by omega), if_pos (by omega), Option.bind_some, if_pos (by simp only [List.length_nil]; omega), Option.bind_some, List.nil_append, if_pos (by omega), Option.bind_some, if_neg (by decide), rd_nat Q i hi', f, Option.bind_some, if_pos rfl]
    exact f2 k (by omega)
/-- Both fill a line alike, until no blank letter has room. -/
theorem blank_ev (a b c : Int) (hm : measureOk a b c = true) (both : Bool) (Q l : List Int) (hQ : Q.length ≤ 1000) : ∀ n (p : List Int), (∀ x ∈ p, x ∈ Q) → fitsV a b (padQ both l p) = true → 120 - (padQ both l p).length ≤ n →
    ∃ p', (∀ x ∈ p', x ∈ Q) ∧ fitsV a b (padQ both l p') = true ∧ (∀ x ∈ Q, fitsV a b (addQ both (padQ both l p') x) = false) ∧
      (∃ K, ∀ k j, K ≤ k → K ≤ j → filL (fun L => impl_fits.f k a b c L) (addQ both) Q j (padQ both l p) = some (padQ both l p')) ∧ Ev (fun k => spec_l3Blank.l0 k Q both (padQ both l p) true a b c) (padQ both l p') := by
  intro n
  induction n with
  | zero =>
    intro p hp hf hn
    have hlen := fits_len a b _ hf
    have hno : ∀ x ∈ Q, fitsV a b (addQ both (padQ both l p) x) = false := by
      intro x hx
      cases e : fitsV a b (addQ both (padQ both l p) x) with
      | false => rfl
      | true => have h1 := fits_len a b _ e; have h2 := addQ_len both (padQ both l p) x; omega
    obtain ⟨K, f⟩ := fits_all a b c hm both (padQ both l p) (by omega) Q
    refine ⟨p, hp, hf, hno, ⟨K + 1, fun k j hk hj => ?_⟩, ?_⟩
    · obtain ⟨j, rfl⟩ : ∃ z, j = z + 1 := ⟨j - 1, by omega⟩
      have h1 : (Q.all fun x => (impl_fits.f k a b c (addQ both (padQ both l p) x)).isSome) = true := List.all_eq_true.2 (fun x hx => by rw [f k (by omega) x hx]; rfl)
      have h2 : Q.findIdx (fun x => impl_fits.f k a b c (addQ both (padQ both l p) x) == some true) = Q.length := by
        rw [findIdx_alike Q _ (fun _ => false) (fun x hx => by rw [f k (by omega) x hx, hno x hx]; rfl)]
        exact List.findIdx_eq_length.2 (fun x _ => rfl)
      rw [filL, if_pos ⟨by omega, h1⟩, h2, if_neg (by omega)]
    · refine Ev.step (f := fun k => spec_l3Blank.l1 k Q both (padQ both l p) false Q (Q.length : Int) 0 a b c) (fun k => by simp only [spec_l3Blank.l0, if_true]) ?_
      refine spec_blank_row a b c hm both Q _ hQ (by omega) Q.length (Nat.le_refl _) (fun j h _ => hno _ (List.getElem_mem h)) _ ?_ Q.length 0 (by omega)
      refine Ev.step (f := fun k => spec_l3Blank.l0 k Q both (padQ both l p) false a b c) (fun k => by simp only [spec_l3Blank.l1]; rw [if_neg (by omega)]) ?_
      exact ev_step1 (fun k => by simp only [spec_l3Blank.l0, Bool.false_eq_true, if_false])
  | succ n ih =>
    intro p hp hf hn
    have hlen := fits_len a b _ hf
    obtain ⟨K, f⟩ := fits_all a b c hm both (padQ both l p) (by omega) Q
    by_cases hq : Q.findIdx (fun x => fitsV a b (addQ both (padQ both l p) x)) < Q.length
    · have hhit := List.findIdx_getElem (w := hq)
      have hno : ∀ j (h : j < Q.length), j < Q.findIdx (fun x => fitsV a b (addQ both (padQ both l p) x)) → fitsV a b (addQ both (padQ both l p) Q[j]) = false := fun j h hj => by simpa using List.not_of_lt_findIdx (p := fun x => fitsV a b (addQ both (padQ both l p) x)) (xs := Q) hj
      have hidx : ∀ k, K ≤ k → Q.findIdx (fun x => impl_fits.f k a b c (addQ both (padQ both l p) x) == some true) = Q.findIdx (fun x => fitsV a b (addQ both (padQ both l p) x)) := fun k hk => findIdx_alike Q _ _ (fun x hx => by rw [f k hk x hx]; cases fitsV a b (addQ both (padQ both l p) x) <;> rfl)
      generalize Q.findIdx (fun x => fitsV a b (addQ both (padQ both l p) x)) = q at hq hhit hno hidx
      have hpad := padQ_add both l p Q[q]
      have hal := addQ_len both (padQ both l p) Q[q]
      have hhit' : fitsV a b (padQ both l (p ++ [Q[q]])) = true := by rw [← hpad]; exact hhit
      rw [hpad] at hal
      obtain ⟨p', h1, h2, h3, ⟨K4, h4⟩, h5⟩ := ih (p ++ [Q[q]]) (fun x hx => by
        rcases List.mem_append.1 hx with h | h
        · exact hp x h
        · rw [List.mem_singleton.1 h]; exact List.getElem_mem hq) hhit' (by omega)
      refine ⟨p', h1, h2, h3, ⟨K + K4 + 1, fun k j hk hj => ?_⟩, ?_⟩
      · obtain ⟨j, rfl⟩ : ∃ z, j = z + 1 := ⟨j - 1, by omega⟩
        have h6 : (Q.all fun x => (impl_fits.f k a b c (addQ both (padQ both l p) x)).isSome) = true := List.all_eq_true.2 (fun x hx => by rw [f k (by omega) x hx]; rfl)
        rw [filL, if_pos ⟨by omega, h6⟩, hidx k (by omega), if_pos hq, show Q.getD q 0 = Q[q] from by simp [List.getD_eq_getElem?_getD, hq], hpad]
        exact h4 k j (by omega) (by omega)
      · refine Ev.step (f := fun k => spec_l3Blank.l1 k Q both (padQ both l p) false Q (Q.length : Int) 0 a b c) (fun k => by simp only [spec_l3Blank.l0, if_true]) ?_
        refine spec_blank_row a b c hm both Q _ hQ (by omega) q (by omega) hno _ ?_ q 0 (by omega)
        exact spec_blank_hit a b c hm both Q _ hQ (by omega) q hq hhit _ (by rw [hpad]; exact h5)
    · have hno : ∀ x ∈ Q, fitsV a b (addQ both (padQ both l p) x) = false := by
        intro x hx
        obtain ⟨j, hj, rfl⟩ := List.getElem_of_mem hx
        simpa using List.not_of_lt_findIdx (p := fun x => fitsV a b (addQ both (padQ both l p) x)) (xs := Q) (i := j) (by omega)
      refine ⟨p, hp, hf, hno, ⟨K + 1, fun k j hk hj => ?_⟩, ?_⟩
      · obtain ⟨j, rfl⟩ : ∃ z, j = z + 1 := ⟨j - 1, by omega⟩
        have h1 : (Q.all fun x => (impl_fits.f k a b c (addQ both (padQ both l p) x)).isSome) = true := List.all_eq_true.2 (fun x hx => by rw [f k (by omega) x hx]; rfl)
        have h2 : Q.findIdx (fun x => impl_fits.f k a b c (addQ both (padQ both l p) x) == some true) = Q.length := by
          rw [findIdx_alike Q _ (fun _ => false) (fun x hx => by rw [f k (by omega) x hx, hno x hx]; rfl)]
          exact List.findIdx_eq_length.2 (fun x _ => rfl)
        rw [filL, if_pos ⟨by omega, h1⟩, h2, if_neg (by omega)]
      · refine Ev.step (f := fun k => spec_l3Blank.l1 k Q both (padQ both l p) false Q (Q.length : Int) 0 a b c) (fun k => by simp only [spec_l3Blank.l0, if_true]) ?_
        refine spec_blank_row a b c hm both Q _ hQ (by omega) Q.length (Nat.le_refl _) (fun j h _ => hno _ (List.getElem_mem h)) _ ?_ Q.length 0 (by omega)
        refine Ev.step (f := fun k => spec_l3Blank.l0 k Q both (padQ both l p) false a b c) (fun k => by simp only [spec_l3Blank.l1]; rw [if_neg (by omega)]) ?_
        exact ev_step1 (fun k => by simp only [spec_l3Blank.l0, Bool.false_eq_true, if_false])
theorem padQ_nil (both : Bool) (l : List Int) : padQ both l [] = l := by unfold padQ; cases both <;> simp
/-- What QuadLine and CenterLine give. -/
theorem fill_ev (a b c : Int) (both : Bool) (l Q : List Int) (hl : l.length ≤ 1099511627776) (hQ : Q.length ≤ 1099511627776) :
    ∃ r : List Int × Bool, Ev (fun k => filF (addQ both) k a b c l Q) r ∧
      Ev (fun k => (spec_MeasureOk.f a b c).bind fun t => if t = true then (spec_l3Fits.f k a b c l).bind fun t => if t = true then (spec_l3Quads.f k Q).bind fun t => if t = true then (spec_l3Blank.f k a b c l Q both).bind fun t => some (t, true) else some ([], false) else some ([], false) else some ([], false)) r ∧
      ((r = ([], false) ∧ ¬ (measureOk a b c = true ∧ fitsV a b l = true ∧ quadsB Q = true)) ∨ (measureOk a b c = true ∧ fitsV a b l = true ∧ quadsB Q = true ∧ ∃ p, r = (padQ both l p, true) ∧ (∀ x ∈ p, x ∈ Q) ∧ fitsV a b (padQ both l p) = true ∧ ∀ x ∈ Q, fitsV a b (addQ both (padQ both l p) x) = false)) := by
  by_cases hm : measureOk a b c = true
  case neg =>
    have hs : (spreadLine a b c l).2.2 = false := by rw [spreadLine, if_neg hm]
    obtain ⟨K, f⟩ := impl_SpreadLine_ev a b c l hl
    refine ⟨([], false), ⟨K, fun k hk => ?_⟩, ev_const (fun k => ?_), Or.inl ⟨rfl, fun h => hm h.1⟩⟩
    · replace f : impl_SpreadLine.f k a b c l = some (spreadLine a b c l) := f k hk
      simp only [filF, impl_fits.f, f, Option.bind_some, hs, Bool.false_eq_true, if_false]
    · rw [spec_MeasureOk_eq, Option.bind_some, if_neg hm]
  obtain ⟨K1, f1⟩ := impl_fits_ev a b c l hl hm
  obtain ⟨K2, f2⟩ := fits_ev a b c l hl hm
  replace f1 : ∀ k, K1 ≤ k → impl_fits.f k a b c l = some (fitsV a b l) := f1
  replace f2 : ∀ k, K2 ≤ k → spec_l3Fits.f k a b c l = some (fitsV a b l) := f2
  by_cases hf : fitsV a b l = true
  case neg =>
    refine ⟨([], false), ⟨K1, fun k hk => ?_⟩, ⟨K2, fun k hk => ?_⟩, Or.inl ⟨rfl, fun h => hf h.2.1⟩⟩
    · simp only [filF, f1 k hk, Option.bind_some, if_neg hf]
    · simp only [spec_MeasureOk_eq, Option.bind_some, if_pos hm, f2 k hk, if_neg hf]
  obtain ⟨K3, f3⟩ := impl_quadsOk_ev Q
  obtain ⟨K4, f4⟩ := spec_l3Quads_ev Q hQ
  replace f3 : ∀ k, K3 ≤ k → impl_quadsOk.f k Q = some (quadsB Q) := f3
  replace f4 : ∀ k, K4 ≤ k → spec_l3Quads.f k Q = some (quadsB Q) := f4
  by_cases hq : quadsB Q = true
  case neg =>
    refine ⟨([], false), ⟨K1 + K3, fun k hk => ?_⟩, ⟨K2 + K4, fun k hk => ?_⟩, Or.inl ⟨rfl, fun h => hq h.2.2⟩⟩
    · simp only [filF, f1 k (by omega), Option.bind_some, if_pos hf, f3 k (by omega), if_neg hq]
    · simp only [spec_MeasureOk_eq, Option.bind_some, if_pos hm, f2 k (by omega), if_pos hf, f4 k (by omega), if_neg hq]
  have hQ8 : Q.length ≤ 8 := by
    have h := hq
    unfold quadsB at h
    simp only [Bool.and_eq_true, decide_eq_true_eq] at h
    exact h.1.1.2
  have hl120 := fits_len a b l hf
  obtain ⟨p, h1, h2, h3, ⟨K5, h4⟩, ⟨K6, h5⟩⟩ := blank_ev a b c hm both Q l (by omega) 120 [] (by simp) (by rw [padQ_nil]; exact hf) (by omega)
  rw [padQ_nil] at h4 h5
  refine ⟨(padQ both l p, true), ⟨K1 + K3 + K5, fun k hk => ?_⟩, ⟨K2 + K4 + K6, fun k hk => ?_⟩, Or.inr ⟨hm, hf, hq, p, rfl, h1, h2, h3⟩⟩
  · simp only [filF, f1 k (by omega), Option.bind_some, if_pos hf, f3 k (by omega), if_pos hq, h4 k k (by omega) (by omega)]
  · replace h5 : spec_l3Blank.l0 k Q both l true a b c = some (padQ both l p) := h5 k (by omega)
    simp only [spec_MeasureOk_eq, Option.bind_some, if_pos hm, f2 k (by omega), if_pos hf, f4 k (by omega), if_pos hq, spec_l3Blank.f]
    rw [if_pos (by simp only [List.length_nil]; omega), List.nil_append, h5, Option.bind_some]
end Go.Proofs.Ytnkpblbofjchaaa.Q
