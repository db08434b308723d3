/- The plain laws that the proof of one statement needs. Conditions: those that each lemma names. -/
import Derived.Test.YtilbngklgjjblaaQ0
import Derived.Test.YtilbngklgjjblaaQ1
import Derived.Test.YtilbngklgjjblaaQ10
import Derived.Test.YtilbngklgjjblaaQ11
import Derived.Test.YtilbngklgjjblaaQ12
import Derived.Test.YtilbngklgjjblaaQ2
import Derived.Test.YtilbngklgjjblaaQ3
import Derived.Test.YtilbngklgjjblaaQ4
import Derived.Test.YtilbngklgjjblaaQ5
import Derived.Test.YtilbngklgjjblaaQ6
import Derived.Test.YtilbngklgjjblaaQ7
import Derived.Test.YtilbngklgjjblaaQ8
import Derived.Test.YtilbngklgjjblaaQ9
namespace Go.Proofs.Ytilbngklgjjblaa.Q
open Go.RowKit Go.Proofs.YtilbngklgjjblaaW.PrintWords Go.Proofs.YtilbngklgjjblaaW.PrintLast Go.Proofs.YtilbngklgjjblaaW.PrintMore
set_option linter.unusedVariables false
set_option linter.unusedSimpArgs false
theorem w1 (i : Nat) (h : i ≤ 4611686018427387904) : wrap64 ((i : Int) + 1) = ((i + 1 : Nat) : Int) := by unfold wrap64; omega
theorem wrap_id (x : Int) (h1 : -9223372036854775808 ≤ x) (h2 : x ≤ 9223372036854775807) : wrap64 x = x := by unfold wrap64; omega
theorem rd_nat (l : List Int) (i : Nat) (h : i < l.length) : rd l (i : Int) = l[i] := by simp [rd, List.getD_eq_getElem?_getD, h]
/-- A loop that counts up to n: from its end downwards. -/
theorem ev_down {σ β : Type} (L : Nat → σ → Int → Option β) (n : Nat) (I : Nat → σ → Prop) (G : Nat → σ → β)
    (hend : ∀ s, I n s → Ev (fun k => L k s (n : Int)) (G n s))
    (hstep : ∀ i s, i < n → I i s → (∀ s', I (i + 1) s' → Ev (fun k => L k s' ((i + 1 : Nat) : Int)) (G (i + 1) s')) → Ev (fun k => L k s (i : Int)) (G i s)) :
    ∀ i s, i ≤ n → I i s → Ev (fun k => L k s (i : Int)) (G i s) := by
  have key : ∀ d i s, n - i = d → i ≤ n → I i s → Ev (fun k => L k s (i : Int)) (G i s) := by
    intro d
    induction d with
    | zero => intro i s hd hi hI; obtain rfl : i = n := by omega
              exact hend s hI
    | succ d ih => intro i s hd hi hI; exact hstep i s (by omega) hI (fun s' hI' => ih (i + 1) s' (by omega) (by omega) hI')
  exact fun i s hi hI => key _ i s rfl hi hI
/-- The same without a state. -/
theorem ev_down0 {β : Type} (L : Nat → Int → Option β) (n : Nat) (G : Nat → β)
    (hend : Ev (fun k => L k (n : Int)) (G n))
    (hstep : ∀ i, i < n → Ev (fun k => L k ((i + 1 : Nat) : Int)) (G (i + 1)) → Ev (fun k => L k (i : Int)) (G i)) :
    ∀ i, i ≤ n → Ev (fun k => L k (i : Int)) (G i) :=
  fun i hi => ev_down (σ := Unit) (fun k _ j => L k j) n (fun _ _ => True) (fun j _ => G j) (fun _ _ => hend) (fun j _ hj _ h => hstep j hj (h () trivial)) i () hi trivial
theorem ev_eq {α : Type} {g f : Nat → Option α} {r : α} (k : Ev f r) (h : ∀ k, g k = f k) : Ev g r := Ev.congr h k
theorem ev_const {α : Type} {g : Nat → Option α} {r : α} (h : ∀ k, g k = some r) : Ev g r := ⟨0, fun k _ => h k⟩
theorem ev_step1 {α : Type} {g : Nat → Option α} {r : α} (h : ∀ k, g (k + 1) = some r) : Ev g r := Ev.step h (Ev.now r)
def isSetB (s : Int) : Bool := decide (0 ≤ s) && decide (s ≤ 127)
theorem l1In_eq (a b c : Int) : spec_l1In.f a b c = some (decide (b ≤ a) && decide (a ≤ c)) := by
  unfold spec_l1In.f
  by_cases h : a ≥ b
  · rw [if_pos h]; simp [show b ≤ a from h]
  · rw [if_neg h]; simp [show ¬ b ≤ a from h]
theorem l1Set_eq (s : Int) : spec_l1Set.f s = some (isSetB s) := by
  unfold spec_l1Set.f
  rw [l1In_eq]; rfl
theorem isSet_eq (s : Int) : impl_isSet.f s = some (isSetB s) := by
  unfold impl_isSet.f isSetB
  by_cases h : s ≥ 0
  · rw [if_pos h]; simp [show 0 ≤ s from h]
  · rw [if_neg h]; simp [show ¬ 0 ≤ s from h]
theorem isBar_eq (l : List Int) : impl_IsBar.f l = some (isBar l) := rfl
theorem spec_IsBar_ev (l : List Int) (hl : l.length ≤ 1099511627776) : Ev (fun k => spec_IsBar.f k l) (isBar l) := by
  have main : ∀ i, i ≤ l.length → Ev (fun k => spec_IsBar.l0 k l l (l.length : Int) (i : Int)) ((decide (1 ≤ l.length) && decide (l.length ≤ 40)) && (l.drop i).all isSetB) := by
    refine ev_down0 (fun k i => spec_IsBar.l0 k l l (l.length : Int) i) l.length (fun i => (decide (1 ≤ l.length) && decide (l.length ≤ 40)) && (l.drop i).all isSetB) ?_ ?_
    · refine ev_step1 (fun k => ?_)
      simp only [spec_IsBar.l0]
      rw [if_neg (by omega), l1In_eq]
      simp
      rw [show decide (1 ≤ (l.length : Int)) = decide (1 ≤ l.length) from decide_eq_decide.2 (by omega), show decide ((l.length : Int) ≤ 40) = decide (l.length ≤ 40) from decide_eq_decide.2 (by omega)]
    · intro i hi ih
      rw [List.drop_eq_getElem_cons hi, List.all_cons]
      cases e : isSetB l[i] with
      | true =>
        refine Ev.step (f := fun k => spec_IsBar.l0 k l l (l.length : Int) ((i + 1 : Nat) : Int)) (fun k => ?_) (by simpa using ih)
        simp only [spec_IsBar.l0]
        rw [if_pos (by omega), if_pos (by omega), if_pos (by omega), rd_nat l i hi, l1Set_eq, e, Option.bind_some, if_pos rfl, w1 i (by omega)]
      | false =>
        refine ev_step1 (fun k => ?_)
        simp only [spec_IsBar.l0]
        rw [if_pos (by omega), if_pos (by omega), if_pos (by omega), rd_nat l i hi, l1Set_eq, e, Option.bind_some, if_neg (by decide)]
        simp
  have h := main 0 (by omega)
  rw [List.drop_zero] at h
  exact h
def partB (s t : Int) : Bool := (Go.bits .andNot .i64 s t) == 0
theorem impl_part_eq (s t : Int) : impl_part.f s t = some (partB s t) := rfl
theorem spec_part_eq (s t : Int) : spec_l1Part.f s t = some (partB s t) := rfl
/-- The place, or the end, where a matrix falls. -/
def fallN (bar : List Int) (s : Int) : Nat := bar.findIdx (partB s)
def fallFrom (bar : List Int) (s : Int) (i : Nat) : Int := ((i + (bar.drop i).findIdx (partB s) : Nat) : Int)
theorem fallFrom_zero (bar : List Int) (s : Int) : fallFrom bar s 0 = (fallN bar s : Int) := by simp [fallFrom, fallN]
theorem fallFrom_hit (bar : List Int) (s : Int) (i : Nat) (h : i < bar.length) (e : partB s bar[i] = true) : fallFrom bar s i = (i : Int) := by
  unfold fallFrom
  rw [List.drop_eq_getElem_cons h, List.findIdx_cons, e]; rfl
theorem fallFrom_miss (bar : List Int) (s : Int) (i : Nat) (h : i < bar.length) (e : partB s bar[i] = false) : fallFrom bar s i = fallFrom bar s (i + 1) := by
  unfold fallFrom
  rw [List.drop_eq_getElem_cons h, List.findIdx_cons, e]
  simp; omega
theorem impl_fall_ev (bar : List Int) (s : Int) (hl : bar.length ≤ 1099511627776) : Ev (fun k => impl_fall.f k bar s) (fallN bar s : Int) := by
  have main : ∀ i, i ≤ bar.length → Ev (fun k => impl_fall.l0 k bar s bar (bar.length : Int) (i : Int)) (fallFrom bar s i) := by
    refine ev_down0 (fun k i => impl_fall.l0 k bar s bar (bar.length : Int) i) bar.length (fun i => fallFrom bar s i) ?_ ?_
    · refine ev_step1 (fun k => ?_)
      simp only [impl_fall.l0]
      rw [if_neg (by omega)]
      simp [fallFrom]
    · intro i hi ih
      cases e : partB s bar[i] with
      | true =>
        refine ev_step1 (fun k => ?_)
        simp only [impl_fall.l0]
        rw [if_pos (by omega), if_pos (by omega), if_pos (by omega), rd_nat bar i hi, impl_part_eq, e, Option.bind_some, if_pos rfl, fallFrom_hit bar s i hi e]
      | false =>
        rw [fallFrom_miss bar s i hi e]
        refine Ev.step (f := fun k => impl_fall.l0 k bar s bar (bar.length : Int) ((i + 1 : Nat) : Int)) (fun k => ?_) ih
        simp only [impl_fall.l0]
        rw [if_pos (by omega), if_pos (by omega), if_pos (by omega), rd_nat bar i hi, impl_part_eq, e, Option.bind_some, if_neg (by decide), w1 i (by omega)]
  have h := main 0 (by omega)
  rw [fallFrom_zero] at h
  exact h
theorem spec_fall_ev (bar : List Int) (s : Int) (hl : bar.length ≤ 1099511627776) : Ev (fun k => spec_l1Fall.f k bar s) (fallN bar s : Int) := by
  have main : ∀ i, i ≤ bar.length → Ev (fun k => spec_l1Fall.l0 k bar s bar (bar.length : Int) (i : Int)) (fallFrom bar s i) := by
    refine ev_down0 (fun k i => spec_l1Fall.l0 k bar s bar (bar.length : Int) i) bar.length (fun i => fallFrom bar s i) ?_ ?_
    · refine ev_step1 (fun k => ?_)
      simp only [spec_l1Fall.l0]
      rw [if_neg (by omega)]
      simp [fallFrom]
    · intro i hi ih
      cases e : partB s bar[i] with
      | true =>
        refine ev_step1 (fun k => ?_)
        simp only [spec_l1Fall.l0]
        rw [if_pos (by omega), if_pos (by omega), if_pos (by omega), rd_nat bar i hi, spec_part_eq, e, Option.bind_some, if_pos rfl, fallFrom_hit bar s i hi e]
      | false =>
        rw [fallFrom_miss bar s i hi e]
        refine Ev.step (f := fun k => spec_l1Fall.l0 k bar s bar (bar.length : Int) ((i + 1 : Nat) : Int)) (fun k => ?_) ih
        simp only [spec_l1Fall.l0]
        rw [if_pos (by omega), if_pos (by omega), if_pos (by omega), rd_nat bar i hi, spec_part_eq, e, Option.bind_some, if_neg (by decide), w1 i (by omega)]
  have h := main 0 (by omega)
  rw [fallFrom_zero] at h
  exact h
theorem toIntS_ev (l : List Int) (hl : l.length ≤ 1099511627776) : Ev (fun k => laws_toIntS.f k l) l := by
  have main : ∀ i (x3 : List Int), i ≤ l.length → (x3.length = l.length ∧ ∀ j (h : j < l.length), j < i → x3[j]? = some l[j]) → Ev (fun k => laws_toIntS.l0 k l x3 (i : Int)) l := by
    refine ev_down (fun k x3 i => laws_toIntS.l0 k l x3 i) l.length (fun i x3 => x3.length = l.length ∧ ∀ j (h : j < l.length), j < i → x3[j]? = some l[j]) (fun _ _ => l) ?_ ?_
    · intro x3 ⟨h1, h2⟩
      have : x3 = l := by
        apply List.ext_getElem h1
        intro j hj1 hj2
        have := h2 j hj2 hj2
        rw [List.getElem?_eq_getElem hj1] at this
        exact Option.some.inj this
      subst this
      exact ev_step1 (fun k => by simp only [laws_toIntS.l0]; rw [if_neg (by omega)])
    · intro i x3 hi ⟨h1, h2⟩ ih
      refine Ev.step (f := fun k => laws_toIntS.l0 k l (x3.set (i : Int).toNat (rd l i)) ((i + 1 : Nat) : Int)) (fun k => ?_) (ih _ ⟨by simpa using h1, ?_⟩)
      · simp only [laws_toIntS.l0]
        rw [if_pos (by omega), if_pos (by omega), if_pos (by omega), w1 i (by omega)]
      · intro j hj hji
        rw [rd_nat l i hi, Int.toNat_natCast, List.getElem?_set]
        by_cases e : i = j
        · subst e; simp [h1, hi]
        · rw [if_neg e]; exact h2 j hj (by omega)
  refine ev_eq (main 0 (List.replicate l.length 0) (by omega) ⟨by simp, fun j _ h => absurd h (Nat.not_lt_zero j)⟩) (fun k => ?_)
  unfold laws_toIntS.f
  rw [if_pos (by omega), if_pos (by omega)]
  simp
theorem drop_eq_iff (a b : List Int) (i : Nat) (ha : i < a.length) (hb : i < b.length) : (a.drop i = b.drop i) ↔ (a[i] = b[i] ∧ a.drop (i + 1) = b.drop (i + 1)) := by
  rw [List.drop_eq_getElem_cons ha, List.drop_eq_getElem_cons hb, List.cons.injEq]
theorem eqIntS_ev (a b : List Int) (hl : a.length ≤ 1099511627776) : Ev (fun k => laws_eqIntS.f k a b) (decide (a = b)) := by
  by_cases hn : a.length = b.length
  · have main : ∀ i, i ≤ a.length → Ev (fun k => laws_eqIntS.l0 k a b (i : Int)) (decide (a.drop i = b.drop i)) := by
      refine ev_down0 (fun k i => laws_eqIntS.l0 k a b i) a.length (fun i => decide (a.drop i = b.drop i)) ?_ ?_
      · refine ev_step1 (fun k => ?_)
        simp only [laws_eqIntS.l0]
        rw [if_neg (by omega)]
        simp [hn]
      · intro i hi ih
        have hb : i < b.length := by omega
        by_cases e : a[i] = b[i]
        · refine Ev.step (f := fun k => laws_eqIntS.l0 k a b ((i + 1 : Nat) : Int)) (fun k => ?_) ?_
          · simp only [laws_eqIntS.l0]
            rw [if_pos (by omega), if_pos (by omega), if_pos (by omega), rd_nat a i hi, rd_nat b i hb, if_pos e, w1 i (by omega)]
          · rw [show decide (a.drop i = b.drop i) = decide (a.drop (i + 1) = b.drop (i + 1)) from decide_eq_decide.2 ((drop_eq_iff a b i hi hb).trans ⟨fun h => h.2, fun h => ⟨e, h⟩⟩)]
            exact ih
        · refine ev_step1 (fun k => ?_)
          simp only [laws_eqIntS.l0]
          rw [if_pos (by omega), if_pos (by omega), if_pos (by omega), rd_nat a i hi, rd_nat b i hb, if_neg e, decide_eq_false (fun h => e ((drop_eq_iff a b i hi hb).1 h).1)]
    refine ev_eq (main 0 (by omega)) (fun k => ?_)
    unfold laws_eqIntS.f
    rw [if_pos (by omega)]
    simp
  · refine ev_const (fun k => ?_)
    unfold laws_eqIntS.f
    rw [if_neg (by omega)]
    have : a ≠ b := fun e => hn (by rw [e])
    simp [this]
/-- From place i on, each set falls at its own place. -/
def sortsFrom (bar : List Int) : Nat → List Int → Bool
  | _, [] => true
  | i, s :: rest => decide (fallN bar s = i) && sortsFrom bar (i + 1) rest
def sortsAll (bar : List Int) : Bool := isBar bar && sortsFrom bar 0 bar
theorem spec_SortsAll_ev (bar : List Int) (hl : bar.length ≤ 1099511627776) : Ev (fun k => spec_SortsAll.f k bar) (sortsAll bar) := by
  have main : ∀ i, i ≤ bar.length → Ev (fun k => spec_SortsAll.l0 k bar bar (bar.length : Int) (i : Int)) (isBar bar && sortsFrom bar i (bar.drop i)) := by
    refine ev_down0 (fun k i => spec_SortsAll.l0 k bar bar (bar.length : Int) i) bar.length (fun i => isBar bar && sortsFrom bar i (bar.drop i)) ?_ ?_
    · refine Ev.step (f := fun k => (spec_IsBar.f k bar).bind fun t => some t) (fun k => ?_) (Ev.bind (f := fun _ t => some t) (spec_IsBar_ev bar hl) ?_)
      · simp only [spec_SortsAll.l0]
        rw [if_neg (by omega)]
      · simp [sortsFrom]
        exact Ev.now _
    · intro i hi ih
      rw [List.drop_eq_getElem_cons hi, sortsFrom]
      by_cases e : fallN bar bar[i] = i
      · refine Ev.step (f := fun k => (spec_l1Fall.f k bar bar[i]).bind fun t => if t = (i : Int) then spec_SortsAll.l0 k bar bar (bar.length : Int) ((i + 1 : Nat) : Int) else some false) (fun k => ?_) (Ev.bind (f := fun k t => if t = (i : Int) then spec_SortsAll.l0 k bar bar (bar.length : Int) ((i + 1 : Nat) : Int) else some false) (spec_fall_ev bar bar[i] hl) ?_)
        · simp only [spec_SortsAll.l0]
          rw [if_pos (by omega), if_pos (by omega), if_pos (by omega), rd_nat bar i hi, w1 i (by omega)]
        · simp only [e, if_true, decide_true, Bool.true_and]
          exact ih
      · refine Ev.step (f := fun k => (spec_l1Fall.f k bar bar[i]).bind fun t => if t = (i : Int) then spec_SortsAll.l0 k bar bar (bar.length : Int) ((i + 1 : Nat) : Int) else some false) (fun k => ?_) (Ev.bind (f := fun k t => if t = (i : Int) then spec_SortsAll.l0 k bar bar (bar.length : Int) ((i + 1 : Nat) : Int) else some false) (spec_fall_ev bar bar[i] hl) ?_)
        · simp only [spec_SortsAll.l0]
          rw [if_pos (by omega), if_pos (by omega), if_pos (by omega), rd_nat bar i hi, w1 i (by omega)]
        · have e' : ¬ ((fallN bar bar[i] : Int) = (i : Int)) := by omega
          simp only [if_neg e', e, decide_false, Bool.false_and, Bool.and_false]
          exact Ev.now _
  have h := main 0 (by omega)
  rw [List.drop_zero] at h
  exact h
theorem impl_SortsAll_ev (bar : List Int) (hl : bar.length ≤ 1099511627776) : Ev (fun k => impl_SortsAll.f k bar) (sortsAll bar) := by
  have main : ∀ i, i ≤ bar.length → Ev (fun k => impl_SortsAll.l0 k bar bar (bar.length : Int) (i : Int)) (sortsFrom bar i (bar.drop i)) := by
    refine ev_down0 (fun k i => impl_SortsAll.l0 k bar bar (bar.length : Int) i) bar.length (fun i => sortsFrom bar i (bar.drop i)) ?_ ?_
    · refine ev_step1 (fun k => ?_)
      simp only [impl_SortsAll.l0]
      rw [if_neg (by omega)]
      simp [sortsFrom]
    · intro i hi ih
      rw [List.drop_eq_getElem_cons hi, sortsFrom]
      refine Ev.step (f := fun k => (impl_fall.f k bar bar[i]).bind fun t => if t = (i : Int) then impl_SortsAll.l0 k bar bar (bar.length : Int) ((i + 1 : Nat) : Int) else some false) (fun k => ?_) (Ev.bind (f := fun k t => if t = (i : Int) then impl_SortsAll.l0 k bar bar (bar.length : Int) ((i + 1 : Nat) : Int) else some false) (impl_fall_ev bar bar[i] hl) ?_)
      · simp only [impl_SortsAll.l0]
        rw [if_pos (by omega), if_pos (by omega), if_pos (by omega), rd_nat bar i hi, w1 i (by omega)]
      · by_cases e : fallN bar bar[i] = i
        · simp only [e, if_true, decide_true, Bool.true_and]
          exact ih
        · have e' : ¬ ((fallN bar bar[i] : Int) = (i : Int)) := by omega
          simp only [if_neg e', e, decide_false, Bool.false_and]
          exact Ev.now _
  have h := main 0 (by omega)
  rw [List.drop_zero] at h
  cases e : isBar bar with
  | true =>
    rw [show sortsAll bar = sortsFrom bar 0 bar from by simp [sortsAll, e]]
    exact ev_eq h (fun k => by simp only [impl_SortsAll.f, isBar_eq, e, Option.bind_some, if_true]; rfl)
  | false =>
    rw [show sortsAll bar = false from by simp [sortsAll, e]]
    exact ev_const (fun k => by simp [impl_SortsAll.f, isBar_eq, e])
theorem bt_get (a : ByteArray) (j : Nat) (hj : j < a.size) : ∃ y : UInt8, a.data.toList[j]? = some y ∧ bt a (j : Int) = (y.toNat : Int) := by
  refine ⟨a[j]'hj, Lib.data_getElem? a j hj, ?_⟩
  have h := bt_at a (j : Int) (by simpa using hj)
  rw [← h]; simp
theorem dsize (a : ByteArray) : a.data.toList.length = a.size := by rw [Lib.size_eq]
/-- Whether something is a font. -/
def fontB (a : ByteArray) (ws cs : List Int) : Bool := if 1 ≤ a.size ∧ a.size ≤ 40 ∧ ws.length = a.size ∧ cs.length = a.size then letA [] a.data.toList && between ws 1 60 && sortsAll cs else false
theorem fontB_len (a : ByteArray) (ws cs : List Int) (h : fontB a ws cs = true) : 1 ≤ a.size ∧ a.size ≤ 40 ∧ ws.length = a.size ∧ cs.length = a.size := by
  unfold fontB at h
  by_cases e : 1 ≤ a.size ∧ a.size ≤ 40 ∧ ws.length = a.size ∧ cs.length = a.size
  · exact e
  · rw [if_neg e] at h; cases h
theorem impl_FontOk_ev (a : ByteArray) (ws cs : List Int) (hl : cs.length ≤ 1099511627776) : Ev (fun k => impl_FontOk.f k a ws cs) (fontB a ws cs) := by
  unfold fontB
  by_cases c1 : 1 ≤ a.size
  · by_cases c2 : a.size ≤ 40
    · by_cases c3 : ws.length = a.size
      · by_cases c4 : cs.length = a.size
        · rw [if_pos ⟨c1, c2, c3, c4⟩]
          by_cases c5 : letA [] a.data.toList = true
          · by_cases c6 : between ws 1 60 = true
            · rw [c5, c6, Bool.true_and, Bool.true_and]
              refine ev_eq (impl_SortsAll_ev cs hl) (fun k => ?_)
              unfold impl_FontOk.f
              rw [if_pos c1, if_pos c2, if_pos c3, if_pos c4, if_pos c5, if_pos c6]
            · rw [show between ws 1 60 = false by simpa using c6, Bool.and_false, Bool.false_and]
              refine ev_const (fun k => ?_)
              unfold impl_FontOk.f
              rw [if_pos c1, if_pos c2, if_pos c3, if_pos c4, if_pos c5, if_neg c6]
          · rw [show letA [] a.data.toList = false by simpa using c5, Bool.false_and, Bool.false_and]
            refine ev_const (fun k => ?_)
            unfold impl_FontOk.f
            rw [if_pos c1, if_pos c2, if_pos c3, if_pos c4, if_neg c5]
        · rw [if_neg (fun h => c4 h.2.2.2)]
          refine ev_const (fun k => ?_)
          unfold impl_FontOk.f
          rw [if_pos c1, if_pos c2, if_pos c3, if_neg c4]
      · rw [if_neg (fun h => c3 h.2.2.1)]
        refine ev_const (fun k => ?_)
        unfold impl_FontOk.f
        rw [if_pos c1, if_pos c2, if_neg c3]
    · rw [if_neg (fun h => c2 h.2.1)]
      refine ev_const (fun k => ?_)
      unfold impl_FontOk.f
      rw [if_pos c1, if_neg c2]
  · rw [if_neg (fun h => c1 h.1)]
    refine ev_const (fun k => ?_)
    unfold impl_FontOk.f
    rw [if_neg c1]
theorem font_inner (a : ByteArray) (ws cs : List Int) (n : Int) (i : Nat) (hi : i < a.size) (hs : a.size ≤ 40) (x : UInt8) (hx : a.data.toList[i]? = some x) (hbx : bt a (i : Int) = (x.toNat : Int)) (R : Bool)
    (hR : Ev (fun k => spec_FontOk.l0 k n ((i + 1 : Nat) : Int) a ws cs) R) : ∀ d j, j + d = i → Ev (fun k => spec_FontOk.l1 k n (i : Int) (j : Int) a ws cs) (!((a.data.toList.take i).drop j).contains x && R) := by
  intro d
  induction d with
  | zero =>
    intro j hj
    obtain rfl : j = i := by omega
    rw [List.drop_eq_nil_of_le (by rw [List.length_take]; omega)]
    refine Ev.step (f := fun k => spec_FontOk.l0 k n ((j + 1 : Nat) : Int) a ws cs) (fun k => ?_) (by simpa using hR)
    simp only [spec_FontOk.l1]
    rw [if_neg (by omega), w1 j (by omega)]
  | succ d ih =>
    intro j hj
    have hja : j < a.size := by omega
    obtain ⟨y, hy, hby⟩ := bt_get a j hja
    have hlt : j < (a.data.toList.take i).length := by rw [List.length_take, dsize]; omega
    have hget : (a.data.toList.take i)[j] = y := by
      rw [List.getElem_take]
      obtain ⟨_, h2⟩ := List.getElem?_eq_some_iff.1 hy
      exact h2
    rw [List.drop_eq_getElem_cons hlt, hget, List.contains_cons]
    by_cases e : x = y
    · subst e
      refine ev_step1 (fun k => ?_)
      simp only [spec_FontOk.l1]
      rw [if_pos (by omega), if_pos (by omega), if_pos (by omega), if_pos (by omega), if_pos (by omega), if_pos (by rw [hbx, hby])]
      simp
    · have hne : ¬ bt a (i : Int) = bt a (j : Int) := by
        rw [hbx, hby]
        intro h
        exact e (UInt8.toNat_inj.1 (by omega))
      rw [show (x == y) = false by simpa using e, Bool.false_or]
      refine Ev.step (fun k => ?_) (ih (j + 1) (by omega))
      simp only [spec_FontOk.l1]
      rw [if_pos (by omega), if_pos (by omega), if_pos (by omega), if_pos (by omega), if_pos (by omega), if_neg hne, w1 j (by omega)]
theorem font_loop (a : ByteArray) (ws cs : List Int) (hs : a.size ≤ 40) (hw : ws.length = a.size) : ∀ d i, i + d = a.size → Ev (fun k => spec_FontOk.l0 k (a.size : Int) (i : Int) a ws cs) (letA (a.data.toList.take i) (a.data.toList.drop i) && between (ws.drop i) 1 60) := by
  intro d
  induction d with
  | zero =>
    intro i hi
    rw [List.drop_eq_nil_of_le (by rw [dsize]; omega), List.drop_eq_nil_of_le (by omega), letA]
    refine ev_step1 (fun k => ?_)
    simp only [spec_FontOk.l0]
    rw [if_neg (by omega)]
    rfl
  | succ d ih =>
    intro i hi
    have hia : i < a.size := by omega
    obtain ⟨x, hx, hbx⟩ := bt_get a i hia
    have h := ih (i + 1) (by omega)
    have hwi : i < ws.length := by omega
    rw [letA_step a i hia x hx, List.drop_eq_getElem_cons hwi, show between (ws[i] :: ws.drop (i + 1)) 1 60 = ((decide (1 ≤ ws[i]) && decide (ws[i] ≤ 60)) && between (ws.drop (i + 1)) 1 60) from rfl]
    by_cases d1 : (x.toNat : Int) < 33
    · rw [decide_eq_false (by omega), Bool.false_and, Bool.false_and, Bool.false_and, Bool.false_and]
      refine ⟨2, fun k hk => ?_⟩
      obtain ⟨k, rfl⟩ : ∃ m, k = m + 2 := ⟨k - 2, by omega⟩
      simp only [spec_FontOk.l0, spec_FontOk.j2, hbx, if_true]
      rw [if_pos (by omega), if_pos (by omega), if_pos (by omega), if_pos d1]
    · by_cases d2 : (x.toNat : Int) > 126
      · rw [decide_eq_false (show ¬ (x.toNat : Int) ≤ 126 by omega), Bool.and_false, Bool.false_and, Bool.false_and, Bool.false_and]
        refine ⟨2, fun k hk => ?_⟩
        obtain ⟨k, rfl⟩ : ∃ m, k = m + 2 := ⟨k - 2, by omega⟩
        simp only [spec_FontOk.l0, spec_FontOk.j2, hbx, if_true]
        rw [if_pos (by omega), if_pos (by omega), if_pos (by omega), if_neg d1, if_pos d2]
      · rw [decide_eq_true (show 33 ≤ (x.toNat : Int) by omega), decide_eq_true (show (x.toNat : Int) ≤ 126 by omega), Bool.true_and, Bool.true_and]
        have hinner := font_inner a ws cs (a.size : Int) i hia hs x hx hbx _ h i 0 (by omega)
        rw [List.drop_zero] at hinner
        by_cases d3 : (decide (1 ≤ ws[i]) && decide (ws[i] ≤ 60)) = true
        · rw [d3, Bool.true_and, Bool.and_assoc]
          obtain ⟨K, hK⟩ := hinner
          refine ⟨K + 2, fun k hk => ?_⟩
          obtain ⟨k, rfl⟩ : ∃ m, k = m + 2 := ⟨k - 2, by omega⟩
          simp only [spec_FontOk.l0, spec_FontOk.j2, hbx, l1In_eq, Option.bind_some, rd_nat ws i hwi]
          rw [if_pos (by omega), if_pos (by omega), if_pos (by omega), if_neg d1, if_neg d2, if_pos (by omega), d3, Bool.not_true, if_neg (by decide)]
          exact hK k (by omega)
        · rw [show (decide (1 ≤ ws[i]) && decide (ws[i] ≤ 60)) = false by simpa using d3, Bool.false_and, Bool.and_false]
          refine ⟨2, fun k hk => ?_⟩
          obtain ⟨k, rfl⟩ : ∃ m, k = m + 2 := ⟨k - 2, by omega⟩
          simp only [spec_FontOk.l0, spec_FontOk.j2, hbx, l1In_eq, Option.bind_some, rd_nat ws i hwi]
          rw [if_pos (by omega), if_pos (by omega), if_pos (by omega), if_neg d1, if_neg d2, if_pos (by omega), show (decide (1 ≤ ws[i]) && decide (ws[i] ≤ 60)) = false by simpa using d3, Bool.not_false, if_pos rfl]
theorem spec_FontOk_ev (a : ByteArray) (ws cs : List Int) (hl : cs.length ≤ 1099511627776) : Ev (fun k => spec_FontOk.f k a ws cs) (fontB a ws cs) := by
  unfold fontB
  have hno : ∀ k, spec_FontOk.j0 (k + 1) (a.size : Int) true a ws cs = some false := fun k => by simp only [spec_FontOk.j0, if_true]
  by_cases c12 : 1 ≤ a.size ∧ a.size ≤ 40
  · have hin : (decide ((1 : Int) ≤ (a.size : Int)) && decide ((a.size : Int) ≤ 40)) = true := by simp; omega
    by_cases c3 : ws.length = a.size
    · by_cases c4 : cs.length = a.size
      · rw [if_pos ⟨c12.1, c12.2, c3, c4⟩]
        obtain ⟨K1, h1⟩ := spec_SortsAll_ev cs hl
        cases hs : sortsAll cs with
        | true =>
          rw [hs] at h1
          have h := font_loop a ws cs c12.2 c3 a.size 0 (by omega)
          rw [List.take_zero, List.drop_zero, List.drop_zero] at h
          rw [Bool.and_true]
          obtain ⟨K2, h2⟩ := h
          refine ⟨K1 + K2 + 1, fun k hk => ?_⟩
          obtain ⟨k, rfl⟩ : ∃ m, k = m + 1 := ⟨k - 1, by omega⟩
          simp only [spec_FontOk.f, l1In_eq, Option.bind_some, h1 (k + 1) (by omega)]
          rw [hin, if_pos rfl, if_pos (by omega), if_pos (by omega), Bool.not_true]
          simp only [spec_FontOk.j0]
          rw [if_neg (by decide)]
          exact h2 k (by omega)
        | false =>
          rw [hs] at h1
          rw [Bool.and_false]
          refine ⟨K1 + 1, fun k hk => ?_⟩
          obtain ⟨k, rfl⟩ : ∃ m, k = m + 1 := ⟨k - 1, by omega⟩
          simp only [spec_FontOk.f, l1In_eq, Option.bind_some, h1 (k + 1) (by omega)]
          rw [hin, if_pos rfl, if_pos (by omega), if_pos (by omega), Bool.not_false, hno]
      · rw [if_neg (fun h => c4 h.2.2.2)]
        refine ev_step1 (fun k => ?_)
        simp only [spec_FontOk.f, l1In_eq, Option.bind_some]
        rw [hin, if_pos rfl, if_pos (by omega), if_neg (by omega), hno]
    · rw [if_neg (fun h => c3 h.2.2.1)]
      refine ev_step1 (fun k => ?_)
      simp only [spec_FontOk.f, l1In_eq, Option.bind_some]
      rw [hin, if_pos rfl, if_neg (by omega), hno]
  · rw [if_neg (fun h => c12 ⟨h.1, h.2.1⟩)]
    have hin : (decide ((1 : Int) ≤ (a.size : Int)) && decide ((a.size : Int) ≤ 40)) = false := by simp; omega
    refine ev_step1 (fun k => ?_)
    simp only [spec_FontOk.f, l1In_eq, Option.bind_some]
    rw [hin, if_neg (by decide), hno]
theorem szFont_ok (a : ByteArray) (ws cs : List Int) (h1 : a.size ≤ maxLen) (h2 : ws.length ≤ maxLen) (h3 : cs.length ≤ maxLen) : ∃ t, laws_szFont.f a ws cs 1048576 = some t ∧ (¬ t < 0 → t ≤ 1048576 ∧ a.size ≤ 1048576 ∧ ws.length ≤ 1048576 ∧ cs.length ≤ 1048576) := by
  unfold maxLen at h1 h2 h3
  have e1 : wrap64 (1048576 - (a.size : Int)) = 1048576 - (a.size : Int) := wrap_id _ (by omega) (by omega)
  unfold laws_szFont.f laws_szIntS.f
  rw [e1]
  by_cases c1 : (1048576 : Int) - (a.size : Int) < 0
  · rw [if_pos c1]
    exact ⟨-1, rfl, fun h => absurd (by omega) h⟩
  · rw [if_neg c1]
    have e2 : wrap64 (1048576 - (a.size : Int) - (ws.length : Int)) = 1048576 - (a.size : Int) - (ws.length : Int) := wrap_id _ (by omega) (by omega)
    rw [e2]
    by_cases c2 : (1048576 : Int) - (a.size : Int) - (ws.length : Int) < 0
    · rw [if_pos c2, Option.bind_some, if_pos (by omega)]
      exact ⟨-1, rfl, fun h => absurd (by omega) h⟩
    · rw [if_neg c2, Option.bind_some, if_neg c2]
      have e3 : wrap64 (1048576 - (a.size : Int) - (ws.length : Int) - (cs.length : Int)) = 1048576 - (a.size : Int) - (ws.length : Int) - (cs.length : Int) := wrap_id _ (by omega) (by omega)
      rw [e3]
      by_cases c3 : (1048576 : Int) - (a.size : Int) - (ws.length : Int) - (cs.length : Int) < 0
      · rw [if_pos c3, Option.bind_some, if_pos (by omega)]
        exact ⟨-1, rfl, fun h => absurd (by omega) h⟩
      · rw [if_neg c3, Option.bind_some, if_neg c3]
        exact ⟨_, rfl, fun _ => ⟨by omega, by omega, by omega, by omega⟩⟩
theorem toFont_ev (a : ByteArray) (ws cs : List Int) (h2 : ws.length ≤ 1099511627776) (h3 : cs.length ≤ 1099511627776) : Ev (fun k => laws_toFont.f k a ws cs) (a, ws, cs) := by
  obtain ⟨K1, f1⟩ := toIntS_ev ws h2
  obtain ⟨K2, f2⟩ := toIntS_ev cs h3
  refine ⟨K1 + K2, fun k hk => ?_⟩
  simp only [laws_toFont.f, f1 k (by omega), f2 k (by omega), Option.bind_some]
theorem eqFont_ev (a : ByteArray) (ws cs : List Int) (h2 : ws.length ≤ 1099511627776) (h3 : cs.length ≤ 1099511627776) : Ev (fun k => laws_eqFont.f k a ws cs a ws cs) true := by
  obtain ⟨K1, f1⟩ := eqIntS_ev ws ws h2
  obtain ⟨K2, f2⟩ := eqIntS_ev cs cs h3
  rw [decide_eq_true rfl] at f1 f2
  refine ⟨K1 + K2, fun k hk => ?_⟩
  simp only [laws_eqFont.f, f1 k (by omega), f2 k (by omega), Option.bind_some, if_true]
/-- Whether a matrix is one of a font that is one. -/
def matB (a : ByteArray) (cs : List Int) (kind teeth : Int) : Bool := decide (0 ≤ kind) && decide (kind < a.size) && isSetB teeth && partB teeth (rd cs kind)
theorem impl_ofFont_eq (a : ByteArray) (ws cs : List Int) (kind teeth : Int) (hc : cs.length = a.size) : impl_ofFont.f a ws cs kind teeth = some (matB a cs kind teeth) := by
  unfold impl_ofFont.f matB
  by_cases h1 : 0 ≤ kind
  · by_cases h2 : kind < (a.size : Int)
    · rw [if_pos h1, if_pos h2, isSet_eq, Option.bind_some, decide_eq_true h1, decide_eq_true h2, Bool.true_and, Bool.true_and]
      cases hs : isSetB teeth with
      | true => rw [if_pos rfl, if_pos h1, if_pos (by omega), impl_part_eq, Option.bind_some, Bool.true_and]
      | false => rw [if_neg (by decide), Bool.false_and]
    · rw [if_pos h1, if_neg h2, decide_eq_false h2]; simp
  · rw [if_neg h1, decide_eq_false h1]; simp
theorem spec_l2Matrix_eq (a : ByteArray) (ws cs : List Int) (kind teeth : Int) (hc : cs.length = a.size) (hs : a.size ≤ 40) : spec_l2Matrix.f a ws cs kind teeth = some (matB a cs kind teeth) := by
  unfold spec_l2Matrix.f matB
  have hw : wrap64 ((a.size : Int) - 1) = (a.size : Int) - 1 := wrap_id _ (by omega) (by omega)
  rw [hw, l1In_eq, Option.bind_some]
  by_cases h1 : 0 ≤ kind
  · by_cases h2 : kind < (a.size : Int)
    · rw [decide_eq_true h1, decide_eq_true h2, decide_eq_true (show kind ≤ (a.size : Int) - 1 by omega), Bool.true_and, Bool.true_and, if_pos rfl, l1Set_eq, Option.bind_some]
      cases hs : isSetB teeth with
      | true => rw [if_pos rfl, if_pos h1, if_pos (by omega), spec_part_eq, Option.bind_some, Bool.true_and]
      | false => rw [if_neg (by decide), Bool.false_and]
    · rw [decide_eq_true h1, decide_eq_false h2, decide_eq_false (show ¬ kind ≤ (a.size : Int) - 1 by omega)]; simp
  · rw [decide_eq_false h1]; simp
theorem matB_range (a : ByteArray) (cs : List Int) (kind teeth : Int) (h : matB a cs kind teeth = true) : 0 ≤ kind ∧ kind < a.size := by
  unfold matB at h
  simp only [Bool.and_eq_true, decide_eq_true_eq] at h
  exact ⟨h.1.1.1, h.1.1.2⟩
def conv (x : S48) : S30 := ⟨x.f0, x.f1⟩
theorem rd48_nat (l : List S48) (i : Nat) (h : i < l.length) : rd_T48 l (i : Int) = l[i] := by simp [rd_T48, List.getD_eq_getElem?_getD, h]
theorem rd30_nat (l : List S30) (i : Nat) (h : i < l.length) : rd_T30 l (i : Int) = l[i] := by simp [rd_T30, List.getD_eq_getElem?_getD, h]
theorem rdL9_nat (l : List (List S48)) (i : Nat) (h : i < l.length) : rd_L8 l (i : Int) = l[i] := by simp [rd_L8, List.getD_eq_getElem?_getD, h]
theorem rdL7_nat (l : List (List S30)) (i : Nat) (h : i < l.length) : rd_L6 l (i : Int) = l[i] := by simp [rd_L6, List.getD_eq_getElem?_getD, h]
theorem toMatrixS_ev (l : List S48) (hl : l.length ≤ 1099511627776) : Ev (fun k => laws_toMatrixS.f k l) (l.map conv) := by
  have main : ∀ i (x3 : List S30), i ≤ l.length → (x3.length = l.length ∧ ∀ j (h : j < l.length), j < i → x3[j]? = some (conv l[j])) → Ev (fun k => laws_toMatrixS.l0 k l x3 (i : Int)) (l.map conv) := by
    refine ev_down (fun k x3 i => laws_toMatrixS.l0 k l x3 i) l.length (fun i x3 => x3.length = l.length ∧ ∀ j (h : j < l.length), j < i → x3[j]? = some (conv l[j])) (fun _ _ => l.map conv) ?_ ?_
    · intro x3 ⟨h1, h2⟩
      have : x3 = l.map conv := by
        apply List.ext_getElem (by rw [h1, List.length_map])
        intro j hj1 hj2
        have := h2 j (by omega) (by omega)
        rw [List.getElem?_eq_getElem hj1] at this
        rw [List.getElem_map]
        exact Option.some.inj this
      subst this
      exact ev_step1 (fun k => by simp only [laws_toMatrixS.l0]; rw [if_neg (by omega)])
    · intro i x3 hi ⟨h1, h2⟩ ih
      refine Ev.step (f := fun k => laws_toMatrixS.l0 k l (x3.set (i : Int).toNat (conv l[i])) ((i + 1 : Nat) : Int)) (fun k => ?_) (ih (x3.set (i : Int).toNat (conv l[i])) ⟨by simpa using h1, ?_⟩)
      · simp only [laws_toMatrixS.l0, laws_toMatrix.f, Option.bind_some]
        rw [if_pos (by omega), if_pos (by omega), if_pos (by omega), rd48_nat l i hi, w1 i (by omega)]
        rfl
      · intro j hj hji
        rw [Int.toNat_natCast, List.getElem?_set]
        by_cases e : i = j
        · subst e; rw [if_pos rfl, if_pos (by omega)]
        · rw [if_neg e]; exact h2 j hj (by omega)
  have h := main 0 (List.replicate l.length z30) (by omega) ⟨by simp, fun j _ hj => absurd hj (Nat.not_lt_zero j)⟩
  refine ev_eq h (fun k => ?_)
  simp only [laws_toMatrixS.f]
  rw [if_pos (by omega), if_pos (by omega), Int.toNat_natCast]
  rfl
theorem toMatrixSS_ev (m : List (List S48)) (hl : m.length ≤ 1099511627776) (hr : ∀ r ∈ m, r.length ≤ 1099511627776) : Ev (fun k => laws_toMatrixSS.f k m) (m.map (List.map conv)) := by
  have main : ∀ i (x3 : List (List S30)), i ≤ m.length → (x3.length = m.length ∧ ∀ j (h : j < m.length), j < i → x3[j]? = some (m[j].map conv)) → Ev (fun k => laws_toMatrixSS.l0 k m x3 (i : Int)) (m.map (List.map conv)) := by
    refine ev_down (fun k x3 i => laws_toMatrixSS.l0 k m x3 i) m.length (fun i x3 => x3.length = m.length ∧ ∀ j (h : j < m.length), j < i → x3[j]? = some (m[j].map conv)) (fun _ _ => m.map (List.map conv)) ?_ ?_
    · intro x3 ⟨h1, h2⟩
      have : x3 = m.map (List.map conv) := by
        apply List.ext_getElem (by rw [h1, List.length_map])
        intro j hj1 hj2
        have := h2 j (by omega) (by omega)
        rw [List.getElem?_eq_getElem hj1] at this
        rw [List.getElem_map]
        exact Option.some.inj this
      subst this
      exact ev_step1 (fun k => by simp only [laws_toMatrixSS.l0]; rw [if_neg (by omega)])
    · intro i x3 hi ⟨h1, h2⟩ ih
      have hrow := toMatrixS_ev m[i] (hr m[i] (List.getElem_mem hi))
      refine Ev.step (f := fun k => (laws_toMatrixS.f k m[i]).bind fun t => if (i : Int) < (x3.length : Int) then laws_toMatrixSS.l0 k m (x3.set (i : Int).toNat t) ((i + 1 : Nat) : Int) else none) (fun k => ?_) (Ev.bind (f := fun k t => if (i : Int) < (x3.length : Int) then laws_toMatrixSS.l0 k m (x3.set (i : Int).toNat t) ((i + 1 : Nat) : Int) else none) hrow (ev_eq (ih (x3.set (i : Int).toNat (m[i].map conv)) ⟨by simpa using h1, ?_⟩) (fun k => by rw [if_pos (by omega)])))
      · simp only [laws_toMatrixSS.l0]
        rw [if_pos (by omega), if_pos (by omega), rdL9_nat m i hi, w1 i (by omega)]
      · intro j hj hji
        rw [Int.toNat_natCast, List.getElem?_set]
        by_cases e : i = j
        · subst e; rw [if_pos rfl, if_pos (by omega)]
        · rw [if_neg e]; exact h2 j hj (by omega)
  have h := main 0 (List.replicate m.length []) (by omega) ⟨by simp, fun j _ hj => absurd hj (Nat.not_lt_zero j)⟩
  refine ev_eq h (fun k => ?_)
  simp only [laws_toMatrixSS.f]
  rw [if_pos (by omega), if_pos (by omega), Int.toNat_natCast]
  rfl
theorem eqMatrixS_ev (l : List S30) (hl : l.length ≤ 1099511627776) : Ev (fun k => laws_eqMatrixS.f k l l) true := by
  have main : ∀ d i, i + d = l.length → Ev (fun k => laws_eqMatrixS.l0 k l l (i : Int)) true := by
    intro d
    induction d with
    | zero =>
      intro i hi
      exact ev_step1 (fun k => by simp only [laws_eqMatrixS.l0]; rw [if_neg (by omega)])
    | succ d ih =>
      intro i hi
      refine Ev.step (fun k => ?_) (ih (i + 1) (by omega))
      simp only [laws_eqMatrixS.l0, laws_eqMatrix.f, if_true, Option.bind_some]
      rw [if_pos (by omega), if_pos (by omega), if_pos (by omega), w1 i (by omega)]
  refine ev_eq (main l.length 0 (by omega)) (fun k => ?_)
  simp only [laws_eqMatrixS.f, if_true]
  rfl
theorem eqMatrixSS_ev (m : List (List S30)) (hl : m.length ≤ 1099511627776) (hr : ∀ r ∈ m, r.length ≤ 1099511627776) : Ev (fun k => laws_eqMatrixSS.f k m m) true := by
  have main : ∀ d i, i + d = m.length → Ev (fun k => laws_eqMatrixSS.l0 k m m (i : Int)) true := by
    intro d
    induction d with
    | zero =>
      intro i hi
      exact ev_step1 (fun k => by simp only [laws_eqMatrixSS.l0]; rw [if_neg (by omega)])
    | succ d ih =>
      intro i hi
      have hi' : i < m.length := by omega
      have hrow := eqMatrixS_ev m[i] (hr m[i] (List.getElem_mem hi'))
      refine Ev.step (f := fun k => (laws_eqMatrixS.f k m[i] m[i]).bind fun t => if t = true then laws_eqMatrixSS.l0 k m m ((i + 1 : Nat) : Int) else some false) (fun k => ?_) (Ev.bind (f := fun k t => if t = true then laws_eqMatrixSS.l0 k m m ((i + 1 : Nat) : Int) else some false) hrow (ev_eq (ih (i + 1) (by omega)) (fun k => by rw [if_pos rfl])))
      simp only [laws_eqMatrixSS.l0]
      rw [if_pos (by omega), if_pos (by omega), if_pos (by omega), rdL7_nat m i hi', w1 i (by omega)]
  refine ev_eq (main m.length 0 (by omega)) (fun k => ?_)
  simp only [laws_eqMatrixSS.f, if_true]
  rfl
theorem szMatrixS_ok (l : List S48) (a : Int) (ha : 0 ≤ a) (ha2 : a ≤ 1048576) (hl : l.length ≤ maxLen) : ∃ t, laws_szMatrixS.f l a = some t ∧ t ≤ 1048576 ∧ (¬ t < 0 → l.length ≤ 1048576) := by
  unfold maxLen at hl
  have e : wrap64 (a - (l.length : Int)) = a - (l.length : Int) := wrap_id _ (by omega) (by omega)
  unfold laws_szMatrixS.f
  rw [e]
  by_cases c : a - (l.length : Int) < 0
  · rw [if_pos c]; exact ⟨-1, rfl, by omega, fun h => absurd (by omega) h⟩
  · rw [if_neg c]; exact ⟨_, rfl, by omega, fun _ => by omega⟩
theorem szMatrixSS_ok (m : List (List S48)) (a : Int) (ha : 0 ≤ a) (ha2 : a ≤ 1048576) (hl : m.length ≤ maxLen) (hr : ∀ r ∈ m, r.length ≤ maxLen) : ∃ t, Ev (fun k => laws_szMatrixSS.f k m a) t ∧ (¬ t < 0 → m.length ≤ 1048576 ∧ ∀ r ∈ m, r.length ≤ 1048576) := by
  have hl' := hl
  unfold maxLen at hl'
  have e : wrap64 (a - (m.length : Int)) = a - (m.length : Int) := wrap_id _ (by omega) (by omega)
  by_cases c : a - (m.length : Int) < 0
  · refine ⟨-1, ev_const (fun k => ?_), fun h => absurd (by omega) h⟩
    simp only [laws_szMatrixSS.f, e]
    rw [if_pos c]
  · have main : ∀ d i (s : Int), i + d = m.length → 0 ≤ s → s ≤ 1048576 → ∃ t, Ev (fun k => laws_szMatrixSS.l0 k m s (i : Int)) t ∧ (¬ t < 0 → ∀ j (h : j < m.length), i ≤ j → m[j].length ≤ 1048576) := by
      intro d
      induction d with
      | zero =>
        intro i s hi h0 h1
        exact ⟨s, ev_step1 (fun k => by simp only [laws_szMatrixSS.l0]; rw [if_neg (by omega)]), fun _ j h hij => by omega⟩
      | succ d ih =>
        intro i s hi h0 h1
        have hi' : i < m.length := by omega
        obtain ⟨t, ht, ht1, ht2⟩ := szMatrixS_ok m[i] s h0 h1 (hr m[i] (List.getElem_mem hi'))
        by_cases hn : t < 0
        · refine ⟨-1, ev_step1 (fun k => ?_), fun h => absurd (by omega) h⟩
          simp only [laws_szMatrixSS.l0]
          rw [if_pos (by omega), if_pos (by omega), rdL9_nat m i hi', ht, Option.bind_some, if_pos hn]
        · obtain ⟨u, hu, hu2⟩ := ih (i + 1) t (by omega) (by omega) ht1
          refine ⟨u, Ev.step (fun k => ?_) hu, fun h j hj hij => ?_⟩
          · simp only [laws_szMatrixSS.l0]
            rw [if_pos (by omega), if_pos (by omega), rdL9_nat m i hi', ht, Option.bind_some, if_neg hn, w1 i (by omega)]
          · by_cases e : j = i
            · subst e; exact ht2 hn
            · exact hu2 h j hj (by omega)
    obtain ⟨t, ht, ht2⟩ := main m.length 0 (a - (m.length : Int)) (by omega) (by omega) (by omega)
    refine ⟨t, ev_eq ht (fun k => ?_), fun h => ⟨by omega, fun r hr => ?_⟩⟩
    · simp only [laws_szMatrixSS.f, e]
      rw [if_neg c]
      rfl
    · obtain ⟨j, hj, rfl⟩ := List.getElem_of_mem hr
      exact ht2 h j hj (Nat.zero_le _)
theorem all_same {α : Type} (p q : α → Bool) : ∀ l : List α, (∀ x ∈ l, p x = q x) → l.all p = l.all q
  | [], _ => rfl
  | a :: r, h => by rw [List.all_cons, List.all_cons, h a List.mem_cons_self, all_same p q r (fun x hx => h x (List.mem_cons_of_mem _ hx))]
theorem impl_allOf_eq (a : ByteArray) (ws cs : List Int) (l : List S30) (hc : cs.length = a.size) : impl_allOf.f a ws cs l = some (l.all fun x => matB a cs x.f0 x.f1) := by
  unfold impl_allOf.f
  rw [if_pos]
  · congr 1
    refine all_same _ _ l (fun x _ => ?_)
    rw [impl_ofFont_eq a ws cs x.f0 x.f1 hc]
    cases matB a cs x.f0 x.f1 <;> rfl
  · rw [List.all_eq_true]
    intro x _
    rw [impl_ofFont_eq a ws cs x.f0 x.f1 hc]; rfl
/-- Whether all channels hold matrices of a font that is one. -/
def chanB (a : ByteArray) (cs : List Int) (ch : List S30) : Bool := decide (ch.length ≤ 20) && ch.all fun x => matB a cs x.f0 x.f1
def magazineOk (a : ByteArray) (ws cs : List Int) (m : List (List S30)) : Bool := fontB a ws cs && decide (m.length = a.size) && m.all (chanB a cs)
theorem impl_mag_loop (a : ByteArray) (ws cs : List Int) (m : List (List S30)) (hc : cs.length = a.size) (hs : a.size ≤ 40) (hm : m.length = a.size) : ∀ d i, i + d = m.length → Ev (fun k => impl_MagazineOk.l0 k m (m.length : Int) (i : Int) a ws cs) ((m.drop i).all (chanB a cs)) := by
  intro d
  induction d with
  | zero =>
    intro i hi
    rw [List.drop_eq_nil_of_le (by omega)]
    exact ev_step1 (fun k => by simp only [impl_MagazineOk.l0]; rw [if_neg (by omega)]; rfl)
  | succ d ih =>
    intro i hi
    have hi' : i < m.length := by omega
    have h := ih (i + 1) (by omega)
    rw [List.drop_eq_getElem_cons hi', List.all_cons]
    unfold chanB at h ⊢
    by_cases c1 : m[i].length ≤ 20
    · rw [decide_eq_true c1, Bool.true_and]
      cases c2 : m[i].all fun x => matB a cs x.f0 x.f1 with
      | true =>
        rw [Bool.true_and]
        refine Ev.step (fun k => ?_) h
        simp only [impl_MagazineOk.l0]
        rw [if_pos (by omega), if_pos (by omega), if_pos (by omega), rdL7_nat m i hi', if_neg (by omega), impl_allOf_eq a ws cs m[i] hc, c2, Option.bind_some, if_pos rfl, w1 i (by omega)]
      | false =>
        rw [Bool.false_and]
        refine ev_step1 (fun k => ?_)
        simp only [impl_MagazineOk.l0]
        rw [if_pos (by omega), if_pos (by omega), if_pos (by omega), rdL7_nat m i hi', if_neg (by omega), impl_allOf_eq a ws cs m[i] hc, c2, Option.bind_some, if_neg (by decide)]
    · rw [decide_eq_false c1, Bool.false_and, Bool.false_and]
      refine ev_step1 (fun k => ?_)
      simp only [impl_MagazineOk.l0]
      rw [if_pos (by omega), if_pos (by omega), if_pos (by omega), rdL7_nat m i hi', if_pos (by omega)]
theorem spec_mag_inner (a : ByteArray) (ws cs : List Int) (m : List (List S30)) (hc : cs.length = a.size) (hs : a.size ≤ 40) (n : Int) (i : Nat) (hi : i ≤ 40) (ch : List S30) (hch : ch.length ≤ 20) (R : Bool)
    (hR : Ev (fun k => spec_MagazineOk.l0 k m n ((i + 1 : Nat) : Int) a ws cs) R) : ∀ d j, j + d = ch.length → Ev (fun k => spec_MagazineOk.l1 k m n (i : Int) ch (ch.length : Int) (j : Int) a ws cs) ((ch.drop j).all (fun x => matB a cs x.f0 x.f1) && R) := by
  intro d
  induction d with
  | zero =>
    intro j hj
    rw [List.drop_eq_nil_of_le (by omega)]
    refine Ev.step (f := fun k => spec_MagazineOk.l0 k m n ((i + 1 : Nat) : Int) a ws cs) (fun k => ?_) (by simpa using hR)
    simp only [spec_MagazineOk.l1]
    rw [if_neg (by omega), w1 i (by omega)]
  | succ d ih =>
    intro j hj
    have hj' : j < ch.length := by omega
    rw [List.drop_eq_getElem_cons hj', List.all_cons]
    cases c : matB a cs ch[j].f0 ch[j].f1 with
    | true =>
      rw [Bool.true_and]
      refine Ev.step (fun k => ?_) (ih (j + 1) (by omega))
      simp only [spec_MagazineOk.l1]
      rw [if_pos (by omega), if_pos (by omega), if_pos (by omega), rd30_nat ch j hj', spec_l2Matrix_eq a ws cs _ _ hc hs, c, Option.bind_some, if_pos rfl, w1 j (by omega)]
    | false =>
      rw [Bool.false_and, Bool.false_and]
      refine ev_step1 (fun k => ?_)
      simp only [spec_MagazineOk.l1]
      rw [if_pos (by omega), if_pos (by omega), if_pos (by omega), rd30_nat ch j hj', spec_l2Matrix_eq a ws cs _ _ hc hs, c, Option.bind_some, if_neg (by decide)]
theorem spec_mag_loop (a : ByteArray) (ws cs : List Int) (m : List (List S30)) (hc : cs.length = a.size) (hs : a.size ≤ 40) (hm : m.length = a.size) : ∀ d i, i + d = m.length → Ev (fun k => spec_MagazineOk.l0 k m (m.length : Int) (i : Int) a ws cs) ((m.drop i).all (chanB a cs)) := by
  intro d
  induction d with
  | zero =>
    intro i hi
    rw [List.drop_eq_nil_of_le (by omega)]
    exact ev_step1 (fun k => by simp only [spec_MagazineOk.l0]; rw [if_neg (by omega)]; rfl)
  | succ d ih =>
    intro i hi
    have hi' : i < m.length := by omega
    have h := ih (i + 1) (by omega)
    rw [List.drop_eq_getElem_cons hi', List.all_cons]
    unfold chanB at h ⊢
    by_cases c1 : m[i].length ≤ 20
    · rw [decide_eq_true c1, Bool.true_and]
      have hin := spec_mag_inner a ws cs m hc hs (m.length : Int) i (by omega) m[i] c1 _ h m[i].length 0 (by omega)
      rw [List.drop_zero] at hin
      refine Ev.step (fun k => ?_) hin
      simp only [spec_MagazineOk.l0]
      rw [if_pos (by omega), if_pos (by omega), if_pos (by omega), rdL7_nat m i hi', if_neg (by omega)]
      rfl
    · rw [decide_eq_false c1, Bool.false_and, Bool.false_and]
      refine ev_step1 (fun k => ?_)
      simp only [spec_MagazineOk.l0]
      rw [if_pos (by omega), if_pos (by omega), if_pos (by omega), rdL7_nat m i hi', if_pos (by omega)]
theorem impl_MagazineOk_ev (a : ByteArray) (ws cs : List Int) (m : List (List S30)) (hl : cs.length ≤ 1099511627776) : Ev (fun k => impl_MagazineOk.f k a ws cs m) (magazineOk a ws cs m) := by
  obtain ⟨K1, f1⟩ := impl_FontOk_ev a ws cs hl
  unfold magazineOk
  cases hf : fontB a ws cs with
  | true =>
    rw [hf] at f1
    obtain ⟨_, l2, _, l4⟩ := fontB_len a ws cs hf
    by_cases hm : m.length = a.size
    · obtain ⟨K2, f2⟩ := impl_mag_loop a ws cs m l4 l2 hm m.length 0 (by omega)
      rw [List.drop_zero] at f2
      rw [decide_eq_true hm, Bool.true_and, Bool.true_and]
      refine ⟨K1 + K2 + 1, fun k hk => ?_⟩
      obtain ⟨k, rfl⟩ : ∃ q, k = q + 1 := ⟨k - 1, by omega⟩
      simp only [impl_MagazineOk.f, f1 (k + 1) (by omega), Option.bind_some, if_true, impl_MagazineOk.j0]
      rw [if_neg (by simp; omega)]
      exact f2 k (by omega)
    · rw [decide_eq_false hm]
      refine ⟨K1 + 1, fun k hk => ?_⟩
      obtain ⟨k, rfl⟩ : ∃ q, k = q + 1 := ⟨k - 1, by omega⟩
      simp only [impl_MagazineOk.f, f1 (k + 1) (by omega), Option.bind_some, if_true, impl_MagazineOk.j0]
      rw [if_pos (by simp; omega)]
      rfl
  | false =>
    rw [hf] at f1
    refine ⟨K1 + 1, fun k hk => ?_⟩
    obtain ⟨k, rfl⟩ : ∃ q, k = q + 1 := ⟨k - 1, by omega⟩
    simp only [impl_MagazineOk.f, f1 (k + 1) (by omega), Option.bind_some, Bool.false_eq_true, if_false, impl_MagazineOk.j0, if_true, Bool.false_and]
theorem spec_MagazineOk_ev (a : ByteArray) (ws cs : List Int) (m : List (List S30)) (hl : cs.length ≤ 1099511627776) : Ev (fun k => spec_MagazineOk.f k a ws cs m) (magazineOk a ws cs m) := by
  obtain ⟨K1, f1⟩ := spec_FontOk_ev a ws cs hl
  unfold magazineOk
  cases hf : fontB a ws cs with
  | true =>
    rw [hf] at f1
    obtain ⟨_, l2, _, l4⟩ := fontB_len a ws cs hf
    by_cases hm : m.length = a.size
    · obtain ⟨K2, f2⟩ := spec_mag_loop a ws cs m l4 l2 hm m.length 0 (by omega)
      rw [List.drop_zero] at f2
      rw [decide_eq_true hm, Bool.true_and, Bool.true_and]
      refine ⟨K1 + K2 + 1, fun k hk => ?_⟩
      obtain ⟨k, rfl⟩ : ∃ q, k = q + 1 := ⟨k - 1, by omega⟩
      simp only [spec_MagazineOk.f, f1 (k + 1) (by omega), Option.bind_some, if_true, spec_MagazineOk.j0]
      rw [if_neg (by simp; omega)]
      exact f2 k (by omega)
    · rw [decide_eq_false hm]
      refine ⟨K1 + 1, fun k hk => ?_⟩
      obtain ⟨k, rfl⟩ : ∃ q, k = q + 1 := ⟨k - 1, by omega⟩
      simp only [spec_MagazineOk.f, f1 (k + 1) (by omega), Option.bind_some, if_true, spec_MagazineOk.j0]
      rw [if_pos (by simp; omega)]
      rfl
  | false =>
    rw [hf] at f1
    refine ⟨K1 + 1, fun k hk => ?_⟩
    obtain ⟨k, rfl⟩ : ∃ q, k = q + 1 := ⟨k - 1, by omega⟩
    simp only [spec_MagazineOk.f, f1 (k + 1) (by omega), Option.bind_some, Bool.false_eq_true, if_false, spec_MagazineOk.j0, if_true, Bool.false_and]
theorem mag_rows (a : ByteArray) (ws cs : List Int) (m : List (List S30)) (h : magazineOk a ws cs m = true) : m.length ≤ 40 ∧ cs.length = a.size ∧ ∀ ch ∈ m, ch.length ≤ 20 ∧ ∀ x ∈ ch, 0 ≤ x.f0 ∧ x.f0 < a.size := by
  unfold magazineOk at h
  rw [Bool.and_eq_true, Bool.and_eq_true, decide_eq_true_eq] at h
  obtain ⟨⟨h1, h2⟩, h3⟩ := h
  obtain ⟨_, l2, _, l4⟩ := fontB_len a ws cs h1
  refine ⟨by omega, l4, fun ch hc => ?_⟩
  have h4 := List.all_eq_true.1 h3 ch hc
  unfold chanB at h4
  rw [Bool.and_eq_true, decide_eq_true_eq] at h4
  exact ⟨h4.1, fun x hx => matB_range a cs _ _ (List.all_eq_true.1 h4.2 x hx)⟩
theorem mag_len (a : ByteArray) (ws cs : List Int) (m : List (List S30)) (h : magazineOk a ws cs m = true) : m.length = a.size := by
  unfold magazineOk at h
  rw [Bool.and_eq_true, Bool.and_eq_true, decide_eq_true_eq] at h
  exact h.1.2
def marks : Int → Nat → List Int
  | _, 0 => []
  | a, n + 1 => a :: marks (a + 1) n
theorem marks_length (n : Nat) : ∀ a, (marks a n).length = n := by
  induction n with
  | zero => intro a; rfl
  | succ n ih => intro a; simp [marks, ih]
theorem marks_get (n : Nat) : ∀ (a : Int) (i : Nat) (h : i < (marks a n).length), (marks a n)[i] = a + i := by
  induction n with
  | zero => intro a i h; simp [marks] at h
  | succ n ih =>
    intro a i h
    cases i with
    | zero => simp [marks]
    | succ i => simp only [marks, List.getElem_cons_succ]; rw [ih]; omega
theorem markIntS_ev (l : List Int) (a : Int) (ha : 0 ≤ a) (ha2 : a ≤ 1099511627776) (hl : l.length ≤ 1099511627776) : Ev (fun k => laws_markIntS.f k l a) (a + l.length, marks a l.length) := by
  have main : ∀ i (s : List Int × Int), i ≤ l.length → (s.1.length = l.length ∧ s.2 = a + i ∧ ∀ j, j < i → s.1[j]? = some (a + j)) → Ev (fun k => laws_markIntS.l0 k s.1 s.2 (i : Int)) (a + l.length, marks a l.length) := by
    refine ev_down (fun k (s : List Int × Int) i => laws_markIntS.l0 k s.1 s.2 i) l.length (fun i s => s.1.length = l.length ∧ s.2 = a + i ∧ ∀ j, j < i → s.1[j]? = some (a + j)) (fun _ _ => (a + l.length, marks a l.length)) ?_ ?_
    · rintro ⟨x0, x1⟩ ⟨h1, h2, h3⟩
      simp only at h1 h2 h3
      subst h2
      have : x0 = marks a l.length := by
        apply List.ext_getElem (by rw [h1, marks_length])
        intro j hj1 hj2
        have := h3 j (by omega)
        rw [List.getElem?_eq_getElem hj1] at this
        rw [marks_get]
        exact Option.some.inj this
      subst this
      exact ev_step1 (fun k => by simp only [laws_markIntS.l0]; rw [if_neg (by omega)])
    · rintro i ⟨x0, x1⟩ hi ⟨h1, h2, h3⟩ ih
      simp only at h1 h2 h3
      subst h2
      refine Ev.step (f := fun k => laws_markIntS.l0 k (x0.set (i : Int).toNat (a + i)) (a + (i + 1 : Nat)) ((i + 1 : Nat) : Int)) (fun k => ?_) (ih (x0.set (i : Int).toNat (a + i), a + (i + 1 : Nat)) ⟨by simpa using h1, rfl, ?_⟩)
      · simp only [laws_markIntS.l0]
        rw [if_pos (by omega), if_pos (by omega), w1 i (by omega), wrap_id (a + i + 1) (by omega) (by omega)]
        have : a + (i : Int) + 1 = a + ((i + 1 : Nat) : Int) := by omega
        rw [this]
      · intro j hji
        rw [Int.toNat_natCast, List.getElem?_set]
        by_cases e : i = j
        · subst e; simp [h1, hi]
        · rw [if_neg e]; exact h3 j (by omega)
  exact main 0 (l, a) (by omega) ⟨rfl, by simp, fun j h => absurd h (Nat.not_lt_zero j)⟩
def marks2 : Int → Nat → List S30
  | _, 0 => []
  | a, n + 1 => ⟨a, a + 1⟩ :: marks2 (a + 2) n
theorem marks2_length (n : Nat) : ∀ a, (marks2 a n).length = n := by
  induction n with
  | zero => intro a; rfl
  | succ n ih => intro a; simp [marks2, ih]
theorem marks2_get (n : Nat) : ∀ (a : Int) (i : Nat) (h : i < (marks2 a n).length), (marks2 a n)[i] = ⟨a + 2 * i, a + 2 * i + 1⟩ := by
  induction n with
  | zero => intro a i h; simp [marks2] at h
  | succ n ih =>
    intro a i h
    cases i with
    | zero => simp [marks2]
    | succ i =>
      simp only [marks2, List.getElem_cons_succ]
      rw [ih]
      rw [show a + 2 + 2 * (i : Int) = a + 2 * ((i + 1 : Nat) : Int) by omega]
def sumL : List Nat → Nat
  | [] => 0
  | n :: r => n + sumL r
def marksSS : Int → List Nat → List (List S30)
  | _, [] => []
  | a, n :: r => marks2 a n :: marksSS (a + 2 * n) r
theorem sumL_le (c : Nat) : ∀ l : List Nat, (∀ n ∈ l, n ≤ c) → sumL l ≤ l.length * c
  | [], _ => by simp [sumL]
  | n :: r, h => by
    have h1 := h n List.mem_cons_self
    have h2 := sumL_le c r (fun x hx => h x (List.mem_cons_of_mem _ hx))
    rw [sumL, List.length_cons, Nat.add_mul, Nat.one_mul]
    omega
theorem markMatrixS_ev (l : List S30) (a : Int) (ha : 0 ≤ a) (ha2 : a + 2 * l.length ≤ 1152921504606846976) : Ev (fun k => laws_markMatrixS.f k l a) (a + 2 * l.length, marks2 a l.length) := by
  have main : ∀ i (s : List S30 × Int), i ≤ l.length → (s.1.length = l.length ∧ s.2 = a + 2 * i ∧ ∀ j, j < i → s.1[j]? = some ⟨a + 2 * j, a + 2 * j + 1⟩) → Ev (fun k => laws_markMatrixS.l0 k s.1 s.2 (i : Int)) (a + 2 * l.length, marks2 a l.length) := by
    refine ev_down (fun k (s : List S30 × Int) i => laws_markMatrixS.l0 k s.1 s.2 i) l.length (fun i s => s.1.length = l.length ∧ s.2 = a + 2 * i ∧ ∀ j, j < i → s.1[j]? = some ⟨a + 2 * j, a + 2 * j + 1⟩) (fun _ _ => (a + 2 * l.length, marks2 a l.length)) ?_ ?_
    · rintro ⟨x0, x1⟩ ⟨h1, h2, h3⟩
      simp only at h1 h2 h3
      subst h2
      have : x0 = marks2 a l.length := by
        apply List.ext_getElem (by rw [h1, marks2_length])
        intro j hj1 hj2
        have := h3 j (by omega)
        rw [List.getElem?_eq_getElem hj1] at this
        rw [marks2_get]
        exact Option.some.inj this
      subst this
      exact ev_step1 (fun k => by simp only [laws_markMatrixS.l0]; rw [if_neg (by omega)])
    · rintro i ⟨x0, x1⟩ hi ⟨h1, h2, h3⟩ ih
      simp only at h1 h2 h3
      subst h2
      have e1 : wrap64 (a + 2 * (i : Int) + 1) = a + 2 * i + 1 := wrap_id _ (by omega) (by omega)
      have e2 : wrap64 (a + 2 * (i : Int) + 1 + 1) = a + 2 * ((i + 1 : Nat) : Int) := by rw [wrap_id _ (by omega) (by omega)]; omega
      refine Ev.step (f := fun k => laws_markMatrixS.l0 k (x0.set i ⟨a + 2 * i, a + 2 * i + 1⟩) (a + 2 * ((i + 1 : Nat) : Int)) ((i + 1 : Nat) : Int)) (fun k => ?_) (ih (x0.set i ⟨a + 2 * i, a + 2 * i + 1⟩, a + 2 * ((i + 1 : Nat) : Int)) ⟨by simpa using h1, rfl, ?_⟩)
      · simp only [laws_markMatrixS.l0]
        rw [if_pos (by omega), if_pos (by omega), Option.bind_some, Int.toNat_natCast, rd30_nat (x0.set i ⟨a + 2 * (i : Int), (rd_T30 x0 (i : Int)).f1⟩) i (by rw [List.length_set]; omega), List.getElem_set_self, List.set_set, w1 i (by omega), e1, e2]
      · intro j hji
        rw [List.getElem?_set]
        by_cases e : i = j
        · subst e; simp [h1, hi]
        · rw [if_neg e]; exact h3 j (by omega)
  exact main 0 (l, a) (by omega) ⟨rfl, by simp, fun j h => absurd h (Nat.not_lt_zero j)⟩
theorem heldMatrixS_ev (n : Nat) (a : Int) (ha : 0 ≤ a) (ha2 : a + 2 * n ≤ 1152921504606846976) : Ev (fun k => laws_heldMatrixS.f k (marks2 a n) a) (a + 2 * n) := by
  have hl := marks2_length n a
  have main : ∀ d i, i + d = n → Ev (fun k => laws_heldMatrixS.l0 k (marks2 a n) (a + 2 * (i : Int)) (i : Int)) (a + 2 * n) := by
    intro d
    induction d with
    | zero =>
      intro i hi
      obtain rfl : i = n := by omega
      exact ev_step1 (fun k => by simp only [laws_heldMatrixS.l0]; rw [if_neg (by omega)])
    | succ d ih =>
      intro i hi
      have e1 : wrap64 (a + 2 * (i : Int) + 1) = a + 2 * i + 1 := wrap_id _ (by omega) (by omega)
      have e2 : wrap64 (a + 2 * (i : Int) + 1 + 1) = a + 2 * ((i + 1 : Nat) : Int) := by rw [wrap_id _ (by omega) (by omega)]; omega
      refine Ev.step (fun k => ?_) (ih (i + 1) (by omega))
      simp only [laws_heldMatrixS.l0]
      rw [if_pos (by omega), if_pos (by omega), rd30_nat _ i (by omega), marks2_get, if_pos rfl, e1, if_pos rfl, e2, w1 i (by omega)]
  have h := main n 0 (by omega)
  simp only [Int.natCast_zero, Int.mul_zero, Int.add_zero] at h
  exact h
theorem at_mid {α : Type} (pre : List α) (x : α) (t : List α) (h : pre.length < (pre ++ x :: t).length) : (pre ++ x :: t)[pre.length] = x := by simp
theorem getD_mid {α : Type} (pre : List α) (x : α) (t : List α) (d : α) : (pre ++ x :: t).getD pre.length d = x := by simp [List.getD_eq_getElem?_getD]
theorem set_mid {α : Type} (pre : List α) (x y : α) (t : List α) : (pre ++ x :: t).set pre.length y = (pre ++ [y]) ++ t := by simp [List.set_append]
theorem marksSS_loop (rest : List (List S30)) : ∀ (pre : List (List S30)) (x : Int), 0 ≤ x → x + 2 * sumL (rest.map List.length) ≤ 1152921504606846976 → pre.length + rest.length ≤ 1099511627776 →
    Ev (fun k => laws_markMatrixSS.l0 k (pre ++ rest) x (pre.length : Int)) (x + 2 * sumL (rest.map List.length), pre ++ marksSS x (rest.map List.length)) := by
  induction rest with
  | nil =>
    intro pre x h0 h1 h2
    refine ev_step1 (fun k => ?_)
    simp only [laws_markMatrixSS.l0]
    rw [if_neg (by simp)]
    simp [sumL, marksSS]
  | cons r t ih =>
    intro pre x h0 h1 h2
    simp only [List.map_cons, sumL, List.length_cons] at h1 h2
    have hr := markMatrixS_ev r x h0 (by omega)
    have h := ih (pre ++ [marks2 x r.length]) (x + 2 * r.length) (by omega) (by omega) (by rw [List.length_append, List.length_singleton]; omega)
    rw [List.length_append, List.length_singleton] at h
    have e : (x + 2 * ((sumL ((r :: t).map List.length) : Nat) : Int), pre ++ marksSS x ((r :: t).map List.length)) = (x + 2 * (r.length : Int) + 2 * (sumL (t.map List.length) : Nat), (pre ++ [marks2 x r.length]) ++ marksSS (x + 2 * (r.length : Int)) (t.map List.length)) := by
      simp only [List.map_cons, sumL, marksSS, List.append_assoc, List.singleton_append, Prod.mk.injEq]
      exact ⟨by omega, trivial⟩
    rw [e]
    refine Ev.step (f := fun k => (laws_markMatrixS.f k r x).bind fun t' => laws_markMatrixSS.l0 k ((pre ++ [t'.2]) ++ t) t'.1 ((pre.length + 1 : Nat) : Int)) (fun k => ?_) (Ev.bind (f := fun k t' => laws_markMatrixSS.l0 k ((pre ++ [t'.2]) ++ t) t'.1 ((pre.length + 1 : Nat) : Int)) hr h)
    simp only [laws_markMatrixSS.l0]
    rw [if_pos (by rw [List.length_append, List.length_cons]; omega), if_pos (by omega), Int.toNat_natCast, getD_mid, w1 pre.length (by omega)]
    simp only [set_mid]
theorem markMatrixSS_ev (m : List (List S30)) (a : Int) (ha : 0 ≤ a) (ha2 : a + 2 * sumL (m.map List.length) ≤ 1152921504606846976) (hl : m.length ≤ 1099511627776) : Ev (fun k => laws_markMatrixSS.f k m a) (a + 2 * sumL (m.map List.length), marksSS a (m.map List.length)) := by
  have h := marksSS_loop m [] a ha ha2 (by simpa using hl)
  exact h
theorem heldSS_loop (rest : List Nat) : ∀ (pre : List (List S30)) (x : Int), 0 ≤ x → x + 2 * sumL rest ≤ 1152921504606846976 → pre.length + rest.length ≤ 1099511627776 →
    Ev (fun k => laws_heldMatrixSS.l0 k (pre ++ marksSS x rest) x (pre.length : Int)) (x + 2 * sumL rest) := by
  induction rest with
  | nil =>
    intro pre x h0 h1 h2
    refine ev_step1 (fun k => ?_)
    simp only [laws_heldMatrixSS.l0]
    rw [if_neg (by simp [marksSS])]
    simp [sumL]
  | cons r t ih =>
    intro pre x h0 h1 h2
    simp only [sumL, List.length_cons] at h1 h2
    have hr := heldMatrixS_ev r x h0 (by omega)
    have h := ih (pre ++ [marks2 x r]) (x + 2 * r) (by omega) (by omega) (by rw [List.length_append, List.length_singleton]; omega)
    rw [List.length_append, List.length_singleton, List.append_assoc, List.singleton_append] at h
    have e : x + 2 * ((sumL (r :: t) : Nat) : Int) = x + 2 * (r : Int) + 2 * (sumL t : Nat) := by simp only [sumL]; omega
    have em : marksSS x (r :: t) = marks2 x r :: marksSS (x + 2 * (r : Int)) t := rfl
    rw [e, em]
    refine Ev.step (f := fun k => (laws_heldMatrixS.f k (marks2 x r) x).bind fun t' => if t' < 0 then some (-1) else laws_heldMatrixSS.l0 k (pre ++ marks2 x r :: marksSS (x + 2 * (r : Int)) t) t' ((pre.length + 1 : Nat) : Int)) (fun k => ?_) (Ev.bind (f := fun k t' => if t' < 0 then some (-1) else laws_heldMatrixSS.l0 k (pre ++ marks2 x r :: marksSS (x + 2 * (r : Int)) t) t' ((pre.length + 1 : Nat) : Int)) hr (ev_eq h (fun k => by rw [if_neg (by omega)])))
    simp only [laws_heldMatrixSS.l0]
    have hlt : pre.length < (pre ++ marks2 x r :: marksSS (x + 2 * (r : Int)) t).length := by rw [List.length_append, List.length_cons]; omega
    rw [if_pos (by omega), if_pos (by omega), rdL7_nat _ _ hlt, at_mid, w1 pre.length (by omega)]
theorem heldMatrixSS_ev (l : List Nat) (a : Int) (ha : 0 ≤ a) (ha2 : a + 2 * sumL l ≤ 1152921504606846976) (hl : l.length ≤ 1099511627776) : Ev (fun k => laws_heldMatrixSS.f k (marksSS a l) a) (a + 2 * sumL l) := by
  have h := heldSS_loop l [] a ha ha2 (by simpa using hl)
  exact h
theorem markFont_ev (a : ByteArray) (ws cs : List Int) (x : Int) (hx : 0 ≤ x) (hx2 : x ≤ 1048576) (h2 : ws.length ≤ 1099511627776 - 1048576) (h3 : cs.length ≤ 1099511627776) : Ev (fun k => laws_markFont.f k a ws cs x) (x + ws.length + cs.length, marks x ws.length, marks (x + ws.length) cs.length) := by
  obtain ⟨K1, f1⟩ := markIntS_ev ws x hx (by omega) (by omega)
  obtain ⟨K2, f2⟩ := markIntS_ev cs (x + ws.length) (by omega) (by omega) (by omega)
  refine ⟨K1 + K2, fun k hk => ?_⟩
  replace f1 : laws_markIntS.f k ws x = _ := f1 k (by omega)
  replace f2 : laws_markIntS.f k cs (x + ws.length) = _ := f2 k (by omega)
  simp only [laws_markFont.f, f1, f2, Option.bind_some]
theorem mag_front (a : ByteArray) (ws cs : List Int) (m : List (List S48)) (h1 : a.size ≤ maxLen) (h2 : ws.length ≤ maxLen) (h3 : cs.length ≤ maxLen) (h4 : m.length ≤ maxLen) (h5 : ∀ r ∈ m, r.length ≤ maxLen) :
    ∃ t, laws_szFont.f a ws cs 1048576 = some t ∧ (t < 0 ∨ (¬ t < 0 ∧ ∃ u K, (∀ k, K ≤ k → laws_szMatrixSS.f k m t = some u) ∧ (u < 0 ∨ (¬ u < 0 ∧ a.size ≤ 1048576 ∧ ws.length ≤ 1048576 ∧ cs.length ≤ 1048576 ∧ m.length ≤ 1048576 ∧ (∀ r ∈ m, r.length ≤ 1048576) ∧ sumL ((m.map (List.map conv)).map List.length) ≤ 1099511627776)))) := by
  obtain ⟨t, ht, hlt⟩ := szFont_ok a ws cs h1 h2 h3
  refine ⟨t, ht, ?_⟩
  by_cases hneg : t < 0
  · exact Or.inl hneg
  obtain ⟨lt, l1, l2, l3⟩ := hlt hneg
  obtain ⟨u, ⟨K0, f0⟩, hu⟩ := szMatrixSS_ok m t (by omega) lt h4 h5
  refine Or.inr ⟨hneg, u, K0, f0, ?_⟩
  by_cases hneg2 : u < 0
  · exact Or.inl hneg2
  obtain ⟨l4, l5⟩ := hu hneg2
  refine Or.inr ⟨hneg2, l1, l2, l3, l4, l5, ?_⟩
  have h := sumL_le 1048576 ((m.map (List.map conv)).map List.length) (fun n hn => by
    obtain ⟨q, hq, rfl⟩ := List.mem_map.1 hn
    obtain ⟨r, hr, rfl⟩ := List.mem_map.1 hq
    rw [List.length_map]; exact l5 r hr)
  rw [List.length_map, List.length_map] at h
  have h6 : m.length * 1048576 ≤ 1048576 * 1048576 := Nat.mul_le_mul_right _ l4
  omega
theorem impl_copy_ev (m : List (List S30)) (hm : m.length ≤ 1000) (hr : ∀ r ∈ m, r.length ≤ 1000) : Ev (fun k => impl_copyMagazine.f k m) m := by
  have main : ∀ d i (acc : List (List S30)), i + d = m.length → acc.length = i → Ev (fun k => impl_copyMagazine.l0 k acc m (m.length : Int) (i : Int)) (acc ++ m.drop i) := by
    intro d
    induction d with
    | zero =>
      intro i acc hi ha
      rw [List.drop_eq_nil_of_le (by omega), List.append_nil]
      exact ev_step1 (fun k => by simp only [impl_copyMagazine.l0]; rw [if_neg (by omega)])
    | succ d ih =>
      intro i acc hi ha
      have hi' : i < m.length := by omega
      have h := ih (i + 1) (acc ++ [m[i]]) (by omega) (by rw [List.length_append, List.length_singleton]; omega)
      rw [List.append_assoc, List.singleton_append, ← List.drop_eq_getElem_cons hi'] at h
      have hrow := hr _ (List.getElem_mem hi')
      refine Ev.step (fun k => ?_) h
      simp only [impl_copyMagazine.l0]
      rw [if_pos (by omega), if_pos (by omega), if_pos (by omega), rdL7_nat m i hi', impl_Matrix_102.f, if_pos (by omega), Option.bind_some, if_pos (by omega), w1 i (by omega)]
  have h := main m.length 0 [] (by omega) rfl
  exact h
theorem spec_copy_ev (m : List (List S30)) (hm : m.length ≤ 1000) (hr : ∀ r ∈ m, r.length ≤ 1000) : Ev (fun k => spec_l2Copy.f k m) m := by
  have main : ∀ d i (acc : List (List S30)), i + d = m.length → acc.length = i → Ev (fun k => spec_l2Copy.l0 k acc m (m.length : Int) (i : Int)) (acc ++ m.drop i) := by
    intro d
    induction d with
    | zero =>
      intro i acc hi ha
      rw [List.drop_eq_nil_of_le (by omega), List.append_nil]
      exact ev_step1 (fun k => by simp only [spec_l2Copy.l0]; rw [if_neg (by omega)])
    | succ d ih =>
      intro i acc hi ha
      have hi' : i < m.length := by omega
      have h := ih (i + 1) (acc ++ [m[i]]) (by omega) (by rw [List.length_append, List.length_singleton]; omega)
      rw [List.append_assoc, List.singleton_append, ← List.drop_eq_getElem_cons hi'] at h
      have hrow := hr _ (List.getElem_mem hi')
      refine Ev.step (fun k => ?_) h
      simp only [spec_l2Copy.l0]
      rw [if_pos (by omega), if_pos (by omega), if_pos (by omega), rdL7_nat m i hi', Option.bind_some, if_pos (by simp only [List.length_nil]; omega), if_pos (by omega), List.nil_append, w1 i (by omega)]
  have h := main m.length 0 [] (by omega) rfl
  exact h
theorem mag_common (a : ByteArray) (ws cs : List Int) (m : List (List S48)) (l1 : a.size ≤ 1048576) (l2 : ws.length ≤ 1048576) (l3 : cs.length ≤ 1048576) (l4 : m.length ≤ 1048576) (l5 : ∀ r ∈ m, r.length ≤ 1048576) (l6 : sumL ((m.map (List.map conv)).map List.length) ≤ 1099511627776) :
    ∃ x l1' l2' y l3' K, ¬ y < 0 ∧ ∀ k, K ≤ k → laws_toFont.f k a ws cs = some (a, ws, cs) ∧ laws_toMatrixSS.f k m = some (m.map (List.map conv)) ∧ laws_eqFont.f k a ws cs a ws cs = some true ∧ laws_eqMatrixSS.f k (m.map (List.map conv)) (m.map (List.map conv)) = some true ∧
      laws_markFont.f k a ws cs 1 = some (x, l1', l2') ∧ laws_markMatrixSS.f k (m.map (List.map conv)) x = some (y, l3') := by
  have lm : (m.map (List.map conv)).length ≤ 1048576 := by rw [List.length_map]; omega
  obtain ⟨K1, f1⟩ := toFont_ev a ws cs (by omega) (by omega)
  obtain ⟨K2, f2⟩ := toMatrixSS_ev m (by omega) (fun r hr => by have := l5 r hr; omega)
  obtain ⟨K6, f6⟩ := eqFont_ev a ws cs (by omega) (by omega)
  obtain ⟨K7, f7⟩ := eqMatrixSS_ev (m.map (List.map conv)) (by omega) (fun r hr => by
    obtain ⟨q, hq, rfl⟩ := List.mem_map.1 hr
    have := l5 q hq
    rw [List.length_map]; omega)
  obtain ⟨K8, f8⟩ := markFont_ev a ws cs 1 (by omega) (by omega) (by omega) (by omega)
  obtain ⟨K9, f9⟩ := markMatrixSS_ev (m.map (List.map conv)) (1 + ws.length + cs.length) (by omega) (by omega) (by omega)
  exact ⟨_, _, _, _, _, K1 + K2 + K6 + K7 + K8 + K9, by omega, fun k hk => ⟨f1 k (by omega), f2 k (by omega), f6 k (by omega), f7 k (by omega), f8 k (by omega), f9 k (by omega)⟩⟩
theorem rows_common (o : List (List S30)) (h1 : o.length ≤ 10000) (h2 : ∀ r ∈ o, r.length ≤ 10000) :
    ∃ y l K, ¬ y < 0 ∧ ∀ k, K ≤ k → laws_eqMatrixSS.f k o o = some true ∧ laws_markMatrixSS.f k o 1 = some (y, l) ∧ laws_heldMatrixSS.f k l 1 = some y := by
  have hs := sumL_le 10000 (o.map List.length) (fun n hn => by
    obtain ⟨q, hq, rfl⟩ := List.mem_map.1 hn
    exact h2 q hq)
  rw [List.length_map] at hs
  have h6 : o.length * 10000 ≤ 10000 * 10000 := Nat.mul_le_mul_right _ h1
  obtain ⟨K1, f1⟩ := eqMatrixSS_ev o (by omega) (fun r hr => by have := h2 r hr; omega)
  obtain ⟨K2, f2⟩ := markMatrixSS_ev o 1 (by omega) (by omega) (by omega)
  obtain ⟨K3, f3⟩ := heldMatrixSS_ev (o.map List.length) 1 (by omega) (by omega) (by rw [List.length_map]; omega)
  exact ⟨_, _, K1 + K2 + K3, by omega, fun k hk => ⟨f1 k (by omega), f2 k (by omega), f3 k (by omega)⟩⟩
theorem mag_rows2 (a : ByteArray) (ws cs : List Int) (m : List (List S30)) (h : magazineOk a ws cs m = true) : m.length ≤ 40 ∧ m.length = a.size ∧ cs.length = a.size ∧ (∀ ch ∈ m, ch.length ≤ 20) := by
  obtain ⟨h1, h2, h3⟩ := mag_rows a ws cs m h
  exact ⟨h1, mag_len a ws cs m h, h2, fun ch hc => (h3 ch hc).1⟩
theorem rows_set (m : List (List S30)) (i : Nat) (r : List S30) (c : Nat) (h : ∀ ch ∈ m, ch.length ≤ c) (hr : r.length ≤ c) : ∀ ch ∈ m.set i r, ch.length ≤ c := by
  intro ch hc
  rcases List.mem_or_eq_of_mem_set hc with h1 | h1
  · exact h ch h1
  · rw [h1]; exact hr
/-- Whether there is one to be taken. -/
def takeP (a : ByteArray) (ws cs : List Int) (m : List (List S30)) (c : Int) : Prop :=
  magazineOk a ws cs m = true ∧ 0 ≤ c ∧ c < (m.length : Int) ∧ ¬ ((rd_L6 m c).length : Int) = 0
instance (a : ByteArray) (ws cs : List Int) (m : List (List S30)) (c : Int) : Decidable (takeP a ws cs m c) := by unfold takeP; infer_instance
def takeMatrix (a : ByteArray) (ws cs : List Int) (m : List (List S30)) (c : Int) : List (List S30) × Int × Int × Bool :=
  if takeP a ws cs m c then (m.set c.toNat ((rd_L6 m c).drop 1), (rd_T30 (rd_L6 m c) 0).f0, (rd_T30 (rd_L6 m c) 0).f1, true) else ([], 0, 0, false)
theorem impl_TakeMatrix_ev (a : ByteArray) (ws cs : List Int) (m : List (List S30)) (c : Int) (hl : cs.length ≤ 1099511627776) : Ev (fun k => impl_TakeMatrix.f k a ws cs m c) (takeMatrix a ws cs m c) := by
  obtain ⟨K, f⟩ := impl_MagazineOk_ev a ws cs m hl
  replace f : ∀ k, K ≤ k → impl_MagazineOk.f k a ws cs m = some (magazineOk a ws cs m) := f
  unfold takeMatrix
  by_cases h : takeP a ws cs m c
  · rw [if_pos h]
    obtain ⟨h1, h2, h3, h4⟩ := h
    obtain ⟨l1, l2, l3, l4⟩ := mag_rows2 a ws cs m h1
    obtain ⟨K3, f3⟩ := impl_copy_ev m (by omega) (fun r hr => by have := l4 r hr; omega)
    replace f3 : ∀ k, K3 ≤ k → impl_copyMagazine.f k m = some m := f3
    refine ⟨K + K3, fun k hk => ?_⟩
    simp only [impl_TakeMatrix.f, f k (by omega), Option.bind_some, if_pos h1, f3 k (by omega)]
    rw [if_neg (by omega), if_neg (by omega), if_pos h2, if_pos h3, if_neg h4, if_pos h3, if_pos (by omega), if_pos (by omega)]
  · rw [if_neg h]
    refine ⟨K, fun k hk => ?_⟩
    simp only [impl_TakeMatrix.f, f k (by omega), Option.bind_some]
    by_cases h1 : magazineOk a ws cs m = true
    case neg => rw [if_neg h1]
    rw [if_pos h1]
    by_cases h2 : c < 0
    · rw [if_pos h2]
    rw [if_neg h2]
    by_cases h3 : c ≥ (m.length : Int)
    · rw [if_pos h3]
    rw [if_neg h3, if_pos (by omega), if_pos (by omega)]
    by_cases h4 : ((rd_L6 m c).length : Int) = 0
    · rw [if_pos h4]
    exact absurd ⟨h1, by omega, by omega, h4⟩ h
theorem takeMatrix_rows (a : ByteArray) (ws cs : List Int) (m : List (List S30)) (c : Int) : (takeMatrix a ws cs m c).1.length ≤ 10000 ∧ ∀ r ∈ (takeMatrix a ws cs m c).1, r.length ≤ 10000 := by
  unfold takeMatrix
  by_cases h : takeP a ws cs m c
  case neg => rw [if_neg h]; simp
  rw [if_pos h]
  obtain ⟨h1, h2, h3, h4⟩ := h
  obtain ⟨l1, l2, l3, l4⟩ := mag_rows2 a ws cs m h1
  obtain ⟨j, rfl⟩ := Int.eq_ofNat_of_zero_le h2
  have hj : j < m.length := by omega
  have hr := l4 _ (List.getElem_mem hj)
  refine ⟨by rw [List.length_set]; omega, rows_set m _ _ 10000 (fun ch hc => by have := l4 ch hc; omega) ?_⟩
  rw [rdL7_nat m j hj, List.length_drop]; omega
theorem eqMatrix_same (x y : Int) : laws_eqMatrix.f x y x y = some true := by
  unfold laws_eqMatrix.f
  simp
theorem spec_TakeMatrix_ev (a : ByteArray) (ws cs : List Int) (m : List (List S30)) (c : Int) (hl : cs.length ≤ 1099511627776) : Ev (fun k => spec_TakeMatrix.f k a ws cs m c) (takeMatrix a ws cs m c) := by
  obtain ⟨K, f⟩ := spec_MagazineOk_ev a ws cs m hl
  replace f : ∀ k, K ≤ k → spec_MagazineOk.f k a ws cs m = some (magazineOk a ws cs m) := f
  by_cases h1 : magazineOk a ws cs m = true
  case neg =>
    have e : takeMatrix a ws cs m c = ([], 0, 0, false) := if_neg (fun q => h1 q.1)
    rw [e]
    refine ⟨K + 1, fun k hk => ?_⟩
    obtain ⟨k, rfl⟩ : ∃ z, k = z + 1 := ⟨k - 1, by omega⟩
    simp only [spec_TakeMatrix.f, f (k + 1) (by omega), Option.bind_some, if_neg h1, spec_TakeMatrix.j0, if_true]
  obtain ⟨l1, l2, l3, l4⟩ := mag_rows2 a ws cs m h1
  have ew := wrap_id ((m.length : Int) - 1) (by omega) (by omega)
  by_cases hb : (decide (0 ≤ c) && decide (c ≤ (m.length : Int) - 1)) = true
  case neg =>
    have e : takeMatrix a ws cs m c = ([], 0, 0, false) := if_neg (fun q => hb (by rw [Bool.and_eq_true, decide_eq_true_eq, decide_eq_true_eq]; have := q.2.1; have := q.2.2.1; omega))
    rw [e]
    have hb2 : (decide (0 ≤ c) && decide (c ≤ (m.length : Int) - 1)) = false := by simpa using hb
    refine ⟨K + 1, fun k hk => ?_⟩
    obtain ⟨k, rfl⟩ : ∃ z, k = z + 1 := ⟨k - 1, by omega⟩
    simp only [spec_TakeMatrix.f, f (k + 1) (by omega), Option.bind_some, if_pos h1, ew, l1In_eq, hb2, Bool.not_false, spec_TakeMatrix.j0, if_true]
  have hb2 := hb
  rw [Bool.and_eq_true, decide_eq_true_eq, decide_eq_true_eq] at hb2
  by_cases h4 : ((rd_L6 m c).length : Int) = 0
  · have e : takeMatrix a ws cs m c = ([], 0, 0, false) := if_neg (fun q => q.2.2.2 h4)
    rw [e]
    refine ⟨K + 1, fun k hk => ?_⟩
    obtain ⟨k, rfl⟩ : ∃ z, k = z + 1 := ⟨k - 1, by omega⟩
    simp only [spec_TakeMatrix.f, f (k + 1) (by omega), Option.bind_some, if_pos h1, ew, l1In_eq, hb, Bool.not_true, spec_TakeMatrix.j0, Bool.false_eq_true, if_false]
    rw [if_pos hb2.1, if_pos (by omega), if_pos h4]
  have e : takeMatrix a ws cs m c = (m.set c.toNat ((rd_L6 m c).drop 1), (rd_T30 (rd_L6 m c) 0).f0, (rd_T30 (rd_L6 m c) 0).f1, true) := if_pos ⟨h1, hb2.1, by omega, h4⟩
  rw [e]
  obtain ⟨K3, f3⟩ := spec_copy_ev m (by omega) (fun r hr => by have := l4 r hr; omega)
  replace f3 : ∀ k, K3 ≤ k → spec_l2Copy.f k m = some m := f3
  refine ⟨K + K3 + 1, fun k hk => ?_⟩
  obtain ⟨k, rfl⟩ : ∃ z, k = z + 1 := ⟨k - 1, by omega⟩
  simp only [spec_TakeMatrix.f, f (k + 1) (by omega), f3 k (by omega), Option.bind_some, if_pos h1, ew, l1In_eq, hb, Bool.not_true, spec_TakeMatrix.j0, Bool.false_eq_true, if_false]
  rw [if_pos hb2.1, if_pos (by omega), if_neg h4, if_pos (by omega), if_pos (by omega), if_pos (by omega)]
end Go.Proofs.Ytilbngklgjjblaa.Q
