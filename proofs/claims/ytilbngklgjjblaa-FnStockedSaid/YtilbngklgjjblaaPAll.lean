/- The plain laws that the proof of one statement needs. Conditions: those that each lemma names. -/
import Derived.Test.YtilbngklgjjblaaQ0
import Derived.Test.YtilbngklgjjblaaQ1
import Derived.Test.YtilbngklgjjblaaQ10
import Derived.Test.YtilbngklgjjblaaQ11
import Derived.Test.YtilbngklgjjblaaQ12
import Derived.Test.YtilbngklgjjblaaQ13
import Derived.Test.YtilbngklgjjblaaQ14
import Derived.Test.YtilbngklgjjblaaQ2
import Derived.Test.YtilbngklgjjblaaQ3
import Derived.Test.YtilbngklgjjblaaQ4
import Derived.Test.YtilbngklgjjblaaQ5
import Derived.Test.YtilbngklgjjblaaQ6
import Derived.Test.YtilbngklgjjblaaQ7
import Derived.Test.YtilbngklgjjblaaQ8
import Derived.Test.YtilbngklgjjblaaQ9
namespace Go.Proofs.Ytilbngklgjjblaa.Q
open Go.RowKit Go.Proofs.YtilbngklgjjblaaW.PrintWords Go.Proofs.YtilbngklgjjblaaW.PrintLast Go.Proofs.YtilbngklgjjblaaW.PrintMore
set_option linter.unusedVariables false
set_option linter.unusedSimpArgs false
theorem w1 (i : Nat) (h : i ≤ 4611686018427387904) : wrap64 ((i : Int) + 1) = ((i + 1 : Nat) : Int) := by unfold wrap64; omega
theorem wrap_id (x : Int) (h1 : -9223372036854775808 ≤ x) (h2 : x ≤ 9223372036854775807) : wrap64 x = x := by unfold wrap64; omega
theorem rd_nat (l : List Int) (i : Nat) (h : i < l.length) : rd l (i : Int) = l[i] := by simp [rd, List.getD_eq_getElem?_getD, h]
theorem rdOf_nat {α : Type} (d : α) (l : List α) (i : Nat) (h : i < l.length) : rdOf d l (i : Int) = l[i] := by simp [rdOf, List.getD_eq_getElem?_getD, h]
/-- A loop that counts up to n: from its end downwards. -/
theorem ev_down {σ β : Type} (L : Nat → σ → Int → Option β) (n : Nat) (I : Nat → σ → Prop) (G : Nat → σ → β)
    (hend : ∀ s, I n s → Ev (fun k => L k s (n : Int)) (G n s))
    (hstep : ∀ i s, i < n → I i s → (∀ s', I (i + 1) s' → Ev (fun k => L k s' ((i + 1 : Nat) : Int)) (G (i + 1) s')) → Ev (fun k => L k s (i : Int)) (G i s)) :
    ∀ i s, i ≤ n → I i s → Ev (fun k => L k s (i : Int)) (G i s) := by
  have key : ∀ d i s, n - i = d → i ≤ n → I i s → Ev (fun k => L k s (i : Int)) (G i s) := by
    intro d
    induction d with
    | zero => intro i s hd hi hI; obtain rfl : i = n := by omega
              exact hend s hI
    | succ d ih => intro i s hd hi hI; exact hstep i s (by omega) hI (fun s' hI' => ih (i + 1) s' (by omega) (by omega) hI')
  exact fun i s hi hI => key _ i s rfl hi hI
/-- The same without a state. -/
theorem ev_down0 {β : Type} (L : Nat → Int → Option β) (n : Nat) (G : Nat → β)
    (hend : Ev (fun k => L k (n : Int)) (G n))
    (hstep : ∀ i, i < n → Ev (fun k => L k ((i + 1 : Nat) : Int)) (G (i + 1)) → Ev (fun k => L k (i : Int)) (G i)) :
    ∀ i, i ≤ n → Ev (fun k => L k (i : Int)) (G i) :=
  fun i hi => ev_down (σ := Unit) (fun k _ j => L k j) n (fun _ _ => True) (fun j _ => G j) (fun _ _ => hend) (fun j _ hj _ h => hstep j hj (h () trivial)) i () hi trivial
theorem ev_eq {α : Type} {g f : Nat → Option α} {r : α} (k : Ev f r) (h : ∀ k, g k = f k) : Ev g r := Ev.congr h k
theorem ev_const {α : Type} {g : Nat → Option α} {r : α} (h : ∀ k, g k = some r) : Ev g r := ⟨0, fun k _ => h k⟩
theorem ev_step1 {α : Type} {g : Nat → Option α} {r : α} (h : ∀ k, g (k + 1) = some r) : Ev g r := Ev.step h (Ev.now r)
def isSetB (s : Int) : Bool := decide (0 ≤ s) && decide (s ≤ 127)
theorem isSetB_iff (s : Int) : isSetB s = true ↔ 0 ≤ s ∧ s ≤ 127 := by simp [isSetB]
theorem l1In_eq (a b c : Int) : spec_l1In.f a b c = some (decide (b ≤ a) && decide (a ≤ c)) := by
  unfold spec_l1In.f
  by_cases h : a ≥ b
  · rw [if_pos h]; simp [show b ≤ a from h]
  · rw [if_neg h]; simp [show ¬ b ≤ a from h]
theorem l1Set_eq (s : Int) : spec_l1Set.f s = some (isSetB s) := by
  unfold spec_l1Set.f
  rw [l1In_eq]; rfl
theorem isSet_eq (s : Int) : impl_isSet.f s = some (isSetB s) := by
  unfold impl_isSet.f isSetB
  by_cases h : s ≥ 0
  · rw [if_pos h]; simp [show 0 ≤ s from h]
  · rw [if_neg h]; simp [show ¬ 0 ≤ s from h]
theorem isBar_eq (l : List Int) : impl_IsBar.f l = some (isBar l) := rfl
theorem isBar_iff (l : List Int) : isBar l = true ↔ 1 ≤ l.length ∧ l.length ≤ 40 ∧ ∀ s ∈ l, 0 ≤ s ∧ s ≤ 127 := by
  simp [isBar, and_assoc]
theorem spec_IsBar_ev (l : List Int) (hl : l.length ≤ 1099511627776) : Ev (fun k => spec_IsBar.f k l) (isBar l) := by
  have main : ∀ i, i ≤ l.length → Ev (fun k => spec_IsBar.l0 k l l (l.length : Int) (i : Int)) ((decide (1 ≤ l.length) && decide (l.length ≤ 40)) && (l.drop i).all isSetB) := by
    refine ev_down0 (fun k i => spec_IsBar.l0 k l l (l.length : Int) i) l.length (fun i => (decide (1 ≤ l.length) && decide (l.length ≤ 40)) && (l.drop i).all isSetB) ?_ ?_
    · refine ev_step1 (fun k => ?_)
      simp only [spec_IsBar.l0]
      rw [if_neg (by omega), l1In_eq]
      simp
      rw [show decide (1 ≤ (l.length : Int)) = decide (1 ≤ l.length) from decide_eq_decide.2 (by omega), show decide ((l.length : Int) ≤ 40) = decide (l.length ≤ 40) from decide_eq_decide.2 (by omega)]
    · intro i hi ih
      rw [List.drop_eq_getElem_cons hi, List.all_cons]
      cases e : isSetB l[i] with
      | true =>
        refine Ev.step (f := fun k => spec_IsBar.l0 k l l (l.length : Int) ((i + 1 : Nat) : Int)) (fun k => ?_) (by simpa using ih)
        simp only [spec_IsBar.l0]
        rw [if_pos (by omega), if_pos (by omega), if_pos (by omega), rd_nat l i hi, l1Set_eq, e, Option.bind_some, if_pos rfl, w1 i (by omega)]
      | false =>
        refine ev_step1 (fun k => ?_)
        simp only [spec_IsBar.l0]
        rw [if_pos (by omega), if_pos (by omega), if_pos (by omega), rd_nat l i hi, l1Set_eq, e, Option.bind_some, if_neg (by decide)]
        simp
  have h := main 0 (by omega)
  rw [List.drop_zero] at h
  exact h
def partB (s t : Int) : Bool := (Go.bits .andNot .i64 s t) == 0
theorem impl_part_eq (s t : Int) : impl_part.f s t = some (partB s t) := rfl
theorem spec_part_eq (s t : Int) : spec_l1Part.f s t = some (partB s t) := rfl
/-- The place, or the end, where a matrix falls. -/
def fallN (bar : List Int) (s : Int) : Nat := bar.findIdx (partB s)
def fallFrom (bar : List Int) (s : Int) (i : Nat) : Int := ((i + (bar.drop i).findIdx (partB s) : Nat) : Int)
theorem fallFrom_zero (bar : List Int) (s : Int) : fallFrom bar s 0 = (fallN bar s : Int) := by simp [fallFrom, fallN]
theorem fallFrom_hit (bar : List Int) (s : Int) (i : Nat) (h : i < bar.length) (e : partB s bar[i] = true) : fallFrom bar s i = (i : Int) := by
  unfold fallFrom
  rw [List.drop_eq_getElem_cons h, List.findIdx_cons, e]; rfl
theorem fallFrom_miss (bar : List Int) (s : Int) (i : Nat) (h : i < bar.length) (e : partB s bar[i] = false) : fallFrom bar s i = fallFrom bar s (i + 1) := by
  unfold fallFrom
  rw [List.drop_eq_getElem_cons h, List.findIdx_cons, e]
  simp; omega
theorem impl_fall_ev (bar : List Int) (s : Int) (hl : bar.length ≤ 1099511627776) : Ev (fun k => impl_fall.f k bar s) (fallN bar s : Int) := by
  have main : ∀ i, i ≤ bar.length → Ev (fun k => impl_fall.l0 k bar s bar (bar.length : Int) (i : Int)) (fallFrom bar s i) := by
    refine ev_down0 (fun k i => impl_fall.l0 k bar s bar (bar.length : Int) i) bar.length (fun i => fallFrom bar s i) ?_ ?_
    · refine ev_step1 (fun k => ?_)
      simp only [impl_fall.l0]
      rw [if_neg (by omega)]
      simp [fallFrom]
    · intro i hi ih
      cases e : partB s bar[i] with
      | true =>
        refine ev_step1 (fun k => ?_)
        simp only [impl_fall.l0]
        rw [if_pos (by omega), if_pos (by omega), if_pos (by omega), rd_nat bar i hi, impl_part_eq, e, Option.bind_some, if_pos rfl, fallFrom_hit bar s i hi e]
      | false =>
        rw [fallFrom_miss bar s i hi e]
        refine Ev.step (f := fun k => impl_fall.l0 k bar s bar (bar.length : Int) ((i + 1 : Nat) : Int)) (fun k => ?_) ih
        simp only [impl_fall.l0]
        rw [if_pos (by omega), if_pos (by omega), if_pos (by omega), rd_nat bar i hi, impl_part_eq, e, Option.bind_some, if_neg (by decide), w1 i (by omega)]
  have h := main 0 (by omega)
  rw [fallFrom_zero] at h
  exact h
theorem spec_fall_ev (bar : List Int) (s : Int) (hl : bar.length ≤ 1099511627776) : Ev (fun k => spec_l1Fall.f k bar s) (fallN bar s : Int) := by
  have main : ∀ i, i ≤ bar.length → Ev (fun k => spec_l1Fall.l0 k bar s bar (bar.length : Int) (i : Int)) (fallFrom bar s i) := by
    refine ev_down0 (fun k i => spec_l1Fall.l0 k bar s bar (bar.length : Int) i) bar.length (fun i => fallFrom bar s i) ?_ ?_
    · refine ev_step1 (fun k => ?_)
      simp only [spec_l1Fall.l0]
      rw [if_neg (by omega)]
      simp [fallFrom]
    · intro i hi ih
      cases e : partB s bar[i] with
      | true =>
        refine ev_step1 (fun k => ?_)
        simp only [spec_l1Fall.l0]
        rw [if_pos (by omega), if_pos (by omega), if_pos (by omega), rd_nat bar i hi, spec_part_eq, e, Option.bind_some, if_pos rfl, fallFrom_hit bar s i hi e]
      | false =>
        rw [fallFrom_miss bar s i hi e]
        refine Ev.step (f := fun k => spec_l1Fall.l0 k bar s bar (bar.length : Int) ((i + 1 : Nat) : Int)) (fun k => ?_) ih
        simp only [spec_l1Fall.l0]
        rw [if_pos (by omega), if_pos (by omega), if_pos (by omega), rd_nat bar i hi, spec_part_eq, e, Option.bind_some, if_neg (by decide), w1 i (by omega)]
  have h := main 0 (by omega)
  rw [fallFrom_zero] at h
  exact h
/-- From place i on, each set falls at its own place. -/
def sortsFrom (bar : List Int) : Nat → List Int → Bool
  | _, [] => true
  | i, s :: rest => decide (fallN bar s = i) && sortsFrom bar (i + 1) rest
def sortsAll (bar : List Int) : Bool := isBar bar && sortsFrom bar 0 bar
theorem spec_SortsAll_ev (bar : List Int) (hl : bar.length ≤ 1099511627776) : Ev (fun k => spec_SortsAll.f k bar) (sortsAll bar) := by
  have main : ∀ i, i ≤ bar.length → Ev (fun k => spec_SortsAll.l0 k bar bar (bar.length : Int) (i : Int)) (isBar bar && sortsFrom bar i (bar.drop i)) := by
    refine ev_down0 (fun k i => spec_SortsAll.l0 k bar bar (bar.length : Int) i) bar.length (fun i => isBar bar && sortsFrom bar i (bar.drop i)) ?_ ?_
    · refine Ev.step (f := fun k => (spec_IsBar.f k bar).bind fun t => some t) (fun k => ?_) (Ev.bind (f := fun _ t => some t) (spec_IsBar_ev bar hl) ?_)
      · simp only [spec_SortsAll.l0]
        rw [if_neg (by omega)]
      · simp [sortsFrom]
        exact Ev.now _
    · intro i hi ih
      rw [List.drop_eq_getElem_cons hi, sortsFrom]
      by_cases e : fallN bar bar[i] = i
      · refine Ev.step (f := fun k => (spec_l1Fall.f k bar bar[i]).bind fun t => if t = (i : Int) then spec_SortsAll.l0 k bar bar (bar.length : Int) ((i + 1 : Nat) : Int) else some false) (fun k => ?_) (Ev.bind (f := fun k t => if t = (i : Int) then spec_SortsAll.l0 k bar bar (bar.length : Int) ((i + 1 : Nat) : Int) else some false) (spec_fall_ev bar bar[i] hl) ?_)
        · simp only [spec_SortsAll.l0]
          rw [if_pos (by omega), if_pos (by omega), if_pos (by omega), rd_nat bar i hi, w1 i (by omega)]
        · simp only [e, if_true, decide_true, Bool.true_and]
          exact ih
      · refine Ev.step (f := fun k => (spec_l1Fall.f k bar bar[i]).bind fun t => if t = (i : Int) then spec_SortsAll.l0 k bar bar (bar.length : Int) ((i + 1 : Nat) : Int) else some false) (fun k => ?_) (Ev.bind (f := fun k t => if t = (i : Int) then spec_SortsAll.l0 k bar bar (bar.length : Int) ((i + 1 : Nat) : Int) else some false) (spec_fall_ev bar bar[i] hl) ?_)
        · simp only [spec_SortsAll.l0]
          rw [if_pos (by omega), if_pos (by omega), if_pos (by omega), rd_nat bar i hi, w1 i (by omega)]
        · have e' : ¬ ((fallN bar bar[i] : Int) = (i : Int)) := by omega
          simp only [if_neg e', e, decide_false, Bool.false_and, Bool.and_false]
          exact Ev.now _
  have h := main 0 (by omega)
  rw [List.drop_zero] at h
  exact h
theorem impl_SortsAll_ev (bar : List Int) (hl : bar.length ≤ 1099511627776) : Ev (fun k => impl_SortsAll.f k bar) (sortsAll bar) := by
  have main : ∀ i, i ≤ bar.length → Ev (fun k => impl_SortsAll.l0 k bar bar (bar.length : Int) (i : Int)) (sortsFrom bar i (bar.drop i)) := by
    refine ev_down0 (fun k i => impl_SortsAll.l0 k bar bar (bar.length : Int) i) bar.length (fun i => sortsFrom bar i (bar.drop i)) ?_ ?_
    · refine ev_step1 (fun k => ?_)
      simp only [impl_SortsAll.l0]
      rw [if_neg (by omega)]
      simp [sortsFrom]
    · intro i hi ih
      rw [List.drop_eq_getElem_cons hi, sortsFrom]
      refine Ev.step (f := fun k => (impl_fall.f k bar bar[i]).bind fun t => if t = (i : Int) then impl_SortsAll.l0 k bar bar (bar.length : Int) ((i + 1 : Nat) : Int) else some false) (fun k => ?_) (Ev.bind (f := fun k t => if t = (i : Int) then impl_SortsAll.l0 k bar bar (bar.length : Int) ((i + 1 : Nat) : Int) else some false) (impl_fall_ev bar bar[i] hl) ?_)
      · simp only [impl_SortsAll.l0]
        rw [if_pos (by omega), if_pos (by omega), if_pos (by omega), rd_nat bar i hi, w1 i (by omega)]
      · by_cases e : fallN bar bar[i] = i
        · simp only [e, if_true, decide_true, Bool.true_and]
          exact ih
        · have e' : ¬ ((fallN bar bar[i] : Int) = (i : Int)) := by omega
          simp only [if_neg e', e, decide_false, Bool.false_and]
          exact Ev.now _
  have h := main 0 (by omega)
  rw [List.drop_zero] at h
  cases e : isBar bar with
  | true =>
    rw [show sortsAll bar = sortsFrom bar 0 bar from by simp [sortsAll, e]]
    exact ev_eq h (fun k => by simp only [impl_SortsAll.f, isBar_eq, e, Option.bind_some, if_true]; rfl)
  | false =>
    rw [show sortsAll bar = false from by simp [sortsAll, e]]
    exact ev_const (fun k => by simp [impl_SortsAll.f, isBar_eq, e])
theorem bt_get (a : ByteArray) (j : Nat) (hj : j < a.size) : ∃ y : UInt8, a.data.toList[j]? = some y ∧ bt a (j : Int) = (y.toNat : Int) := by
  refine ⟨a[j]'hj, Lib.data_getElem? a j hj, ?_⟩
  have h := bt_at a (j : Int) (by simpa using hj)
  rw [← h]; simp
theorem dsize (a : ByteArray) : a.data.toList.length = a.size := by rw [Lib.size_eq]
/-- Whether something is a font. -/
def fontB (a : ByteArray) (ws cs : List Int) : Bool := if 1 ≤ a.size ∧ a.size ≤ 40 ∧ ws.length = a.size ∧ cs.length = a.size then letA [] a.data.toList && between ws 1 60 && sortsAll cs else false
theorem fontB_len (a : ByteArray) (ws cs : List Int) (h : fontB a ws cs = true) : 1 ≤ a.size ∧ a.size ≤ 40 ∧ ws.length = a.size ∧ cs.length = a.size := by
  unfold fontB at h
  by_cases e : 1 ≤ a.size ∧ a.size ≤ 40 ∧ ws.length = a.size ∧ cs.length = a.size
  · exact e
  · rw [if_neg e] at h; cases h
theorem impl_FontOk_ev (a : ByteArray) (ws cs : List Int) (hl : cs.length ≤ 1099511627776) : Ev (fun k => impl_FontOk.f k a ws cs) (fontB a ws cs) := by
  unfold fontB
  by_cases c1 : 1 ≤ a.size
  · by_cases c2 : a.size ≤ 40
    · by_cases c3 : ws.length = a.size
      · by_cases c4 : cs.length = a.size
        · rw [if_pos ⟨c1, c2, c3, c4⟩]
          by_cases c5 : letA [] a.data.toList = true
          · by_cases c6 : between ws 1 60 = true
            · rw [c5, c6, Bool.true_and, Bool.true_and]
              refine ev_eq (impl_SortsAll_ev cs hl) (fun k => ?_)
              unfold impl_FontOk.f
              rw [if_pos c1, if_pos c2, if_pos c3, if_pos c4, if_pos c5, if_pos c6]
            · rw [show between ws 1 60 = false by simpa using c6, Bool.and_false, Bool.false_and]
              refine ev_const (fun k => ?_)
              unfold impl_FontOk.f
              rw [if_pos c1, if_pos c2, if_pos c3, if_pos c4, if_pos c5, if_neg c6]
          · rw [show letA [] a.data.toList = false by simpa using c5, Bool.false_and, Bool.false_and]
            refine ev_const (fun k => ?_)
            unfold impl_FontOk.f
            rw [if_pos c1, if_pos c2, if_pos c3, if_pos c4, if_neg c5]
        · rw [if_neg (fun h => c4 h.2.2.2)]
          refine ev_const (fun k => ?_)
          unfold impl_FontOk.f
          rw [if_pos c1, if_pos c2, if_pos c3, if_neg c4]
      · rw [if_neg (fun h => c3 h.2.2.1)]
        refine ev_const (fun k => ?_)
        unfold impl_FontOk.f
        rw [if_pos c1, if_pos c2, if_neg c3]
    · rw [if_neg (fun h => c2 h.2.1)]
      refine ev_const (fun k => ?_)
      unfold impl_FontOk.f
      rw [if_pos c1, if_neg c2]
  · rw [if_neg (fun h => c1 h.1)]
    refine ev_const (fun k => ?_)
    unfold impl_FontOk.f
    rw [if_neg c1]
theorem font_inner (a : ByteArray) (ws cs : List Int) (n : Int) (i : Nat) (hi : i < a.size) (hs : a.size ≤ 40) (x : UInt8) (hx : a.data.toList[i]? = some x) (hbx : bt a (i : Int) = (x.toNat : Int)) (R : Bool)
    (hR : Ev (fun k => spec_FontOk.l0 k n ((i + 1 : Nat) : Int) a ws cs) R) : ∀ d j, j + d = i → Ev (fun k => spec_FontOk.l1 k n (i : Int) (j : Int) a ws cs) (!((a.data.toList.take i).drop j).contains x && R) := by
  intro d
  induction d with
  | zero =>
    intro j hj
    obtain rfl : j = i := by omega
    rw [List.drop_eq_nil_of_le (by rw [List.length_take]; omega)]
    refine Ev.step (f := fun k => spec_FontOk.l0 k n ((j + 1 : Nat) : Int) a ws cs) (fun k => ?_) (by simpa using hR)
    simp only [spec_FontOk.l1]
    rw [if_neg (by omega), w1 j (by omega)]
  | succ d ih =>
    intro j hj
    have hja : j < a.size := by omega
    obtain ⟨y, hy, hby⟩ := bt_get a j hja
    have hlt : j < (a.data.toList.take i).length := by rw [List.length_take, dsize]; omega
    have hget : (a.data.toList.take i)[j] = y := by
      rw [List.getElem_take]
      obtain ⟨_, h2⟩ := List.getElem?_eq_some_iff.1 hy
      exact h2
    rw [List.drop_eq_getElem_cons hlt, hget, List.contains_cons]
    by_cases e : x = y
    · subst e
      refine ev_step1 (fun k => ?_)
      simp only [spec_FontOk.l1]
      rw [if_pos (by omega), if_pos (by omega), if_pos (by omega), if_pos (by omega), if_pos (by omega), if_pos (by rw [hbx, hby])]
      simp
    · have hne : ¬ bt a (i : Int) = bt a (j : Int) := by
        rw [hbx, hby]
        intro h
        exact e (UInt8.toNat_inj.1 (by omega))
      rw [show (x == y) = false by simpa using e, Bool.false_or]
      refine Ev.step (fun k => ?_) (ih (j + 1) (by omega))
      simp only [spec_FontOk.l1]
      rw [if_pos (by omega), if_pos (by omega), if_pos (by omega), if_pos (by omega), if_pos (by omega), if_neg hne, w1 j (by omega)]
theorem font_loop (a : ByteArray) (ws cs : List Int) (hs : a.size ≤ 40) (hw : ws.length = a.size) : ∀ d i, i + d = a.size → Ev (fun k => spec_FontOk.l0 k (a.size : Int) (i : Int) a ws cs) (letA (a.data.toList.take i) (a.data.toList.drop i) && between (ws.drop i) 1 60) := by
  intro d
  induction d with
  | zero =>
    intro i hi
    rw [List.drop_eq_nil_of_le (by rw [dsize]; omega), List.drop_eq_nil_of_le (by omega), letA]
    refine ev_step1 (fun k => ?_)
    simp only [spec_FontOk.l0]
    rw [if_neg (by omega)]
    rfl
  | succ d ih =>
    intro i hi
    have hia : i < a.size := by omega
    obtain ⟨x, hx, hbx⟩ := bt_get a i hia
    have h := ih (i + 1) (by omega)
    have hwi : i < ws.length := by omega
    rw [letA_step a i hia x hx, List.drop_eq_getElem_cons hwi, show between (ws[i] :: ws.drop (i + 1)) 1 60 = ((decide (1 ≤ ws[i]) && decide (ws[i] ≤ 60)) && between (ws.drop (i + 1)) 1 60) from rfl]
    by_cases d1 : (x.toNat : Int) < 33
    · rw [decide_eq_false (by omega), Bool.false_and, Bool.false_and, Bool.false_and, Bool.false_and]
      refine ⟨2, fun k hk => ?_⟩
      obtain ⟨k, rfl⟩ : ∃ m, k = m + 2 := ⟨k - 2, by omega⟩
      simp only [spec_FontOk.l0, spec_FontOk.j2, hbx, if_true]
      rw [if_pos (by omega), if_pos (by omega), if_pos (by omega), if_pos d1]
    · by_cases d2 : (x.toNat : Int) > 126
      · rw [decide_eq_false (show ¬ (x.toNat : Int) ≤ 126 by omega), Bool.and_false, Bool.false_and, Bool.false_and, Bool.false_and]
        refine ⟨2, fun k hk => ?_⟩
        obtain ⟨k, rfl⟩ : ∃ m, k = m + 2 := ⟨k - 2, by omega⟩
        simp only [spec_FontOk.l0, spec_FontOk.j2, hbx, if_true]
        rw [if_pos (by omega), if_pos (by omega), if_pos (by omega), if_neg d1, if_pos d2]
      · rw [decide_eq_true (show 33 ≤ (x.toNat : Int) by omega), decide_eq_true (show (x.toNat : Int) ≤ 126 by omega), Bool.true_and, Bool.true_and]
        have hinner := font_inner a ws cs (a.size : Int) i hia hs x hx hbx _ h i 0 (by omega)
        rw [List.drop_zero] at hinner
        by_cases d3 : (decide (1 ≤ ws[i]) && decide (ws[i] ≤ 60)) = true
        · rw [d3, Bool.true_and, Bool.and_assoc]
          obtain ⟨K, hK⟩ := hinner
          refine ⟨K + 2, fun k hk => ?_⟩
          obtain ⟨k, rfl⟩ : ∃ m, k = m + 2 := ⟨k - 2, by omega⟩
          simp only [spec_FontOk.l0, spec_FontOk.j2, hbx, l1In_eq, Option.bind_some, rd_nat ws i hwi]
          rw [if_pos (by omega), if_pos (by omega), if_pos (by omega), if_neg d1, if_neg d2, if_pos (by omega), d3, Bool.not_true, if_neg (by decide)]
          exact hK k (by omega)
        · rw [show (decide (1 ≤ ws[i]) && decide (ws[i] ≤ 60)) = false by simpa using d3, Bool.false_and, Bool.and_false]
          refine ⟨2, fun k hk => ?_⟩
          obtain ⟨k, rfl⟩ : ∃ m, k = m + 2 := ⟨k - 2, by omega⟩
          simp only [spec_FontOk.l0, spec_FontOk.j2, hbx, l1In_eq, Option.bind_some, rd_nat ws i hwi]
          rw [if_pos (by omega), if_pos (by omega), if_pos (by omega), if_neg d1, if_neg d2, if_pos (by omega), show (decide (1 ≤ ws[i]) && decide (ws[i] ≤ 60)) = false by simpa using d3, Bool.not_false, if_pos rfl]
theorem spec_FontOk_ev (a : ByteArray) (ws cs : List Int) (hl : cs.length ≤ 1099511627776) : Ev (fun k => spec_FontOk.f k a ws cs) (fontB a ws cs) := by
  unfold fontB
  have hno : ∀ k, spec_FontOk.j0 (k + 1) (a.size : Int) true a ws cs = some false := fun k => by simp only [spec_FontOk.j0, if_true]
  by_cases c12 : 1 ≤ a.size ∧ a.size ≤ 40
  · have hin : (decide ((1 : Int) ≤ (a.size : Int)) && decide ((a.size : Int) ≤ 40)) = true := by simp; omega
    by_cases c3 : ws.length = a.size
    · by_cases c4 : cs.length = a.size
      · rw [if_pos ⟨c12.1, c12.2, c3, c4⟩]
        obtain ⟨K1, h1⟩ := spec_SortsAll_ev cs hl
        cases hs : sortsAll cs with
        | true =>
          rw [hs] at h1
          have h := font_loop a ws cs c12.2 c3 a.size 0 (by omega)
          rw [List.take_zero, List.drop_zero, List.drop_zero] at h
          rw [Bool.and_true]
          obtain ⟨K2, h2⟩ := h
          refine ⟨K1 + K2 + 1, fun k hk => ?_⟩
          obtain ⟨k, rfl⟩ : ∃ m, k = m + 1 := ⟨k - 1, by omega⟩
          simp only [spec_FontOk.f, l1In_eq, Option.bind_some, h1 (k + 1) (by omega)]
          rw [hin, if_pos rfl, if_pos (by omega), if_pos (by omega), Bool.not_true]
          simp only [spec_FontOk.j0]
          rw [if_neg (by decide)]
          exact h2 k (by omega)
        | false =>
          rw [hs] at h1
          rw [Bool.and_false]
          refine ⟨K1 + 1, fun k hk => ?_⟩
          obtain ⟨k, rfl⟩ : ∃ m, k = m + 1 := ⟨k - 1, by omega⟩
          simp only [spec_FontOk.f, l1In_eq, Option.bind_some, h1 (k + 1) (by omega)]
          rw [hin, if_pos rfl, if_pos (by omega), if_pos (by omega), Bool.not_false, hno]
      · rw [if_neg (fun h => c4 h.2.2.2)]
        refine ev_step1 (fun k => ?_)
        simp only [spec_FontOk.f, l1In_eq, Option.bind_some]
        rw [hin, if_pos rfl, if_pos (by omega), if_neg (by omega), hno]
    · rw [if_neg (fun h => c3 h.2.2.1)]
      refine ev_step1 (fun k => ?_)
      simp only [spec_FontOk.f, l1In_eq, Option.bind_some]
      rw [hin, if_pos rfl, if_neg (by omega), hno]
  · rw [if_neg (fun h => c12 ⟨h.1, h.2.1⟩)]
    have hin : (decide ((1 : Int) ≤ (a.size : Int)) && decide ((a.size : Int) ≤ 40)) = false := by simp; omega
    refine ev_step1 (fun k => ?_)
    simp only [spec_FontOk.f, l1In_eq, Option.bind_some]
    rw [hin, if_neg (by decide), hno]
/-- Whether a matrix is one of a font that is one. -/
def matB (a : ByteArray) (cs : List Int) (kind teeth : Int) : Bool := decide (0 ≤ kind) && decide (kind < a.size) && isSetB teeth && partB teeth (rd cs kind)
theorem impl_ofFont_eq (a : ByteArray) (ws cs : List Int) (kind teeth : Int) (hc : cs.length = a.size) : impl_ofFont.f a ws cs kind teeth = some (matB a cs kind teeth) := by
  unfold impl_ofFont.f matB
  by_cases h1 : 0 ≤ kind
  · by_cases h2 : kind < (a.size : Int)
    · rw [if_pos h1, if_pos h2, isSet_eq, Option.bind_some, decide_eq_true h1, decide_eq_true h2, Bool.true_and, Bool.true_and]
      cases hs : isSetB teeth with
      | true => rw [if_pos rfl, if_pos h1, if_pos (by omega), impl_part_eq, Option.bind_some, Bool.true_and]
      | false => rw [if_neg (by decide), Bool.false_and]
    · rw [if_pos h1, if_neg h2, decide_eq_false h2]; simp
  · rw [if_neg h1, decide_eq_false h1]; simp
theorem rd30_nat (l : List S30) (i : Nat) (h : i < l.length) : rd_T30 l (i : Int) = l[i] := by simp [rd_T30, List.getD_eq_getElem?_getD, h]
theorem rdL7_nat (l : List (List S30)) (i : Nat) (h : i < l.length) : rd_L6 l (i : Int) = l[i] := by simp [rd_L6, List.getD_eq_getElem?_getD, h]
theorem all_same {α : Type} (p q : α → Bool) : ∀ l : List α, (∀ x ∈ l, p x = q x) → l.all p = l.all q
  | [], _ => rfl
  | a :: r, h => by rw [List.all_cons, List.all_cons, h a List.mem_cons_self, all_same p q r (fun x hx => h x (List.mem_cons_of_mem _ hx))]
theorem impl_allOf_eq (a : ByteArray) (ws cs : List Int) (l : List S30) (hc : cs.length = a.size) : impl_allOf.f a ws cs l = some (l.all fun x => matB a cs x.f0 x.f1) := by
  unfold impl_allOf.f
  rw [if_pos]
  · congr 1
    refine all_same _ _ l (fun x _ => ?_)
    rw [impl_ofFont_eq a ws cs x.f0 x.f1 hc]
    cases matB a cs x.f0 x.f1 <;> rfl
  · rw [List.all_eq_true]
    intro x _
    rw [impl_ofFont_eq a ws cs x.f0 x.f1 hc]; rfl
/-- Whether all channels hold matrices of a font that is one. -/
def chanB (a : ByteArray) (cs : List Int) (ch : List S30) : Bool := decide (ch.length ≤ 20) && ch.all fun x => matB a cs x.f0 x.f1
def magazineOk (a : ByteArray) (ws cs : List Int) (m : List (List S30)) : Bool := fontB a ws cs && decide (m.length = a.size) && m.all (chanB a cs)
theorem impl_mag_loop (a : ByteArray) (ws cs : List Int) (m : List (List S30)) (hc : cs.length = a.size) (hs : a.size ≤ 40) (hm : m.length = a.size) : ∀ d i, i + d = m.length → Ev (fun k => impl_MagazineOk.l0 k m (m.length : Int) (i : Int) a ws cs) ((m.drop i).all (chanB a cs)) := by
  intro d
  induction d with
  | zero =>
    intro i hi
    rw [List.drop_eq_nil_of_le (by omega)]
    exact ev_step1 (fun k => by simp only [impl_MagazineOk.l0]; rw [if_neg (by omega)]; rfl)
  | succ d ih =>
    intro i hi
    have hi' : i < m.length := by omega
    have h := ih (i + 1) (by omega)
    rw [List.drop_eq_getElem_cons hi', List.all_cons]
    unfold chanB at h ⊢
    by_cases c1 : m[i].length ≤ 20
    · rw [decide_eq_true c1, Bool.true_and]
      cases c2 : m[i].all fun x => matB a cs x.f0 x.f1 with
      | true =>
        rw [Bool.true_and]
        refine Ev.step (fun k => ?_) h
        simp only [impl_MagazineOk.l0]
        rw [if_pos (by omega), if_pos (by omega), if_pos (by omega), rdL7_nat m i hi', if_neg (by omega), impl_allOf_eq a ws cs m[i] hc, c2, Option.bind_some, if_pos rfl, w1 i (by omega)]
      | false =>
        rw [Bool.false_and]
        refine ev_step1 (fun k => ?_)
        simp only [impl_MagazineOk.l0]
        rw [if_pos (by omega), if_pos (by omega), if_pos (by omega), rdL7_nat m i hi', if_neg (by omega), impl_allOf_eq a ws cs m[i] hc, c2, Option.bind_some, if_neg (by decide)]
    · rw [decide_eq_false c1, Bool.false_and, Bool.false_and]
      refine ev_step1 (fun k => ?_)
      simp only [impl_MagazineOk.l0]
      rw [if_pos (by omega), if_pos (by omega), if_pos (by omega), rdL7_nat m i hi', if_pos (by omega)]
theorem impl_MagazineOk_ev (a : ByteArray) (ws cs : List Int) (m : List (List S30)) (hl : cs.length ≤ 1099511627776) : Ev (fun k => impl_MagazineOk.f k a ws cs m) (magazineOk a ws cs m) := by
  obtain ⟨K1, f1⟩ := impl_FontOk_ev a ws cs hl
  unfold magazineOk
  cases hf : fontB a ws cs with
  | true =>
    rw [hf] at f1
    obtain ⟨_, l2, _, l4⟩ := fontB_len a ws cs hf
    by_cases hm : m.length = a.size
    · obtain ⟨K2, f2⟩ := impl_mag_loop a ws cs m l4 l2 hm m.length 0 (by omega)
      rw [List.drop_zero] at f2
      rw [decide_eq_true hm, Bool.true_and, Bool.true_and]
      refine ⟨K1 + K2 + 1, fun k hk => ?_⟩
      obtain ⟨k, rfl⟩ : ∃ q, k = q + 1 := ⟨k - 1, by omega⟩
      simp only [impl_MagazineOk.f, f1 (k + 1) (by omega), Option.bind_some, if_true, impl_MagazineOk.j0]
      rw [if_neg (by simp; omega)]
      exact f2 k (by omega)
    · rw [decide_eq_false hm]
      refine ⟨K1 + 1, fun k hk => ?_⟩
      obtain ⟨k, rfl⟩ : ∃ q, k = q + 1 := ⟨k - 1, by omega⟩
      simp only [impl_MagazineOk.f, f1 (k + 1) (by omega), Option.bind_some, if_true, impl_MagazineOk.j0]
      rw [if_pos (by simp; omega)]
      rfl
  | false =>
    rw [hf] at f1
    refine ⟨K1 + 1, fun k hk => ?_⟩
    obtain ⟨k, rfl⟩ : ∃ q, k = q + 1 := ⟨k - 1, by omega⟩
    simp only [impl_MagazineOk.f, f1 (k + 1) (by omega), Option.bind_some, Bool.false_eq_true, if_false, impl_MagazineOk.j0, if_true, Bool.false_and]
theorem ba_ext (a b : ByteArray) (h : a.data.toList = b.data.toList) : a = b := by
  cases a; cases b
  rw [Array.toList_inj] at h
  exact congrArg _ h
theorem cat_one (a : ByteArray) (ns : List Int) (k : Nat) (hk : k < a.size) : strOfNums ns ++ a.extract k (k + 1) = strOfNums (ns ++ [bt a (k : Int)]) := by
  obtain ⟨y, hy, hb⟩ := bt_get a k hk
  apply ba_ext
  rw [ByteArray.toList_data_append, strOfNums_data, strOfNums_data, List.map_append, hb]
  congr 1
  rw [ByteArray.data_extract, Array.toList_extract, List.extract_eq_take_drop]
  obtain ⟨h1, h2⟩ := List.getElem?_eq_some_iff.1 hy
  rw [show k + 1 - k = 1 by omega, List.drop_eq_getElem_cons h1, h2, List.take_succ_cons, List.take_zero]
  simp
/-- The letters; none where something is no matrix of a font. -/
def lettersOf (a : ByteArray) (ws cs : List Int) (l : List S30) : ByteArray := if fontB a ws cs = true ∧ (l.all fun x => matB a cs x.f0 x.f1) = true then strOfNums (l.map fun x => bt a x.f0) else strOfNums []
theorem matB_range (a : ByteArray) (cs : List Int) (kind teeth : Int) (h : matB a cs kind teeth = true) : 0 ≤ kind ∧ kind < a.size := by
  unfold matB at h
  simp only [Bool.and_eq_true, decide_eq_true_eq] at h
  exact ⟨h.1.1.1, h.1.1.2⟩
theorem impl_letters_loop (a : ByteArray) (ws cs : List Int) (l : List S30) (hl : l.length ≤ 1048576) (hm : (l.all fun x => matB a cs x.f0 x.f1) = true) : ∀ d i (ns : List Int), i + d = l.length → ns.length = i →
    Ev (fun k => impl_LettersOf.l0 k ns l (l.length : Int) (i : Int) a ws cs) (strOfNums (ns ++ (l.drop i).map fun x => bt a x.f0)) := by
  intro d
  induction d with
  | zero =>
    intro i ns hi hn
    rw [List.drop_eq_nil_of_le (by omega)]
    refine ev_step1 (fun k => ?_)
    simp only [impl_LettersOf.l0]
    rw [if_neg (by omega)]
    simp
  | succ d ih =>
    intro i ns hi hn
    have hi' : i < l.length := by omega
    obtain ⟨h0, h1⟩ := matB_range a cs _ _ (List.all_eq_true.1 hm l[i] (List.getElem_mem hi'))
    have h := ih (i + 1) (ns ++ [bt a l[i].f0]) (by omega) (by simp only [List.length_append, List.length_singleton]; omega)
    rw [List.append_assoc, List.singleton_append] at h
    rw [List.drop_eq_getElem_cons hi', List.map_cons]
    refine Ev.step (fun k => ?_) h
    simp only [impl_LettersOf.l0, rd30_nat l i hi']
    rw [if_pos (by omega), if_pos (by omega), if_pos (by omega), if_pos h0, if_pos h1, if_pos (by omega), w1 i (by omega)]
theorem impl_LettersOf_ev (a : ByteArray) (ws cs : List Int) (l : List S30) (hl : l.length ≤ 1048576) (hc : cs.length ≤ 1099511627776) : Ev (fun k => impl_LettersOf.f k a ws cs l) (lettersOf a ws cs l) := by
  unfold lettersOf
  obtain ⟨K1, f1⟩ := impl_FontOk_ev a ws cs hc
  by_cases hf : fontB a ws cs = true
  · obtain ⟨_, l2, _, l4⟩ := fontB_len a ws cs hf
    have he := impl_allOf_eq a ws cs l l4
    by_cases hm : (l.all fun x => matB a cs x.f0 x.f1) = true
    · rw [if_pos ⟨hf, hm⟩]
      obtain ⟨K2, f2⟩ := impl_letters_loop a ws cs l hl hm l.length 0 [] (by omega) rfl
      rw [List.drop_zero, List.nil_append] at f2
      refine ⟨K1 + K2 + 1, fun k hk => ?_⟩
      obtain ⟨k, rfl⟩ : ∃ m, k = m + 1 := ⟨k - 1, by omega⟩
      simp only [impl_LettersOf.f, f1 (k + 1) (by omega), hf, he, hm, Option.bind_some, if_true, Bool.not_true, impl_LettersOf.j0, Bool.false_eq_true, if_false]
      exact f2 k (by omega)
    · rw [if_neg (fun h => hm h.2)]
      refine ⟨K1 + 1, fun k hk => ?_⟩
      obtain ⟨k, rfl⟩ : ∃ m, k = m + 1 := ⟨k - 1, by omega⟩
      simp only [impl_LettersOf.f, f1 (k + 1) (by omega), hf, he, show (l.all fun x => matB a cs x.f0 x.f1) = false by simpa using hm, Option.bind_some, if_true, Bool.not_false, impl_LettersOf.j0]
      rfl
  · rw [if_neg (fun h => hf h.1)]
    refine ⟨K1 + 1, fun k hk => ?_⟩
    obtain ⟨k, rfl⟩ : ∃ m, k = m + 1 := ⟨k - 1, by omega⟩
    simp only [impl_LettersOf.f, f1 (k + 1) (by omega), show fontB a ws cs = false by simpa using hf, Option.bind_some, Bool.false_eq_true, if_false, impl_LettersOf.j0, if_true]
    rfl
def countStrays (a : ByteArray) (ws cs : List Int) (m : List (List S30)) : Int := if magazineOk a ws cs m = true then cntAll (fun i x => x.f0 != i) 0 m 0 else -1
theorem mag_rows (a : ByteArray) (ws cs : List Int) (m : List (List S30)) (h : magazineOk a ws cs m = true) : m.length ≤ 40 ∧ cs.length = a.size ∧ ∀ ch ∈ m, ch.length ≤ 20 ∧ ∀ x ∈ ch, 0 ≤ x.f0 ∧ x.f0 < a.size := by
  unfold magazineOk at h
  rw [Bool.and_eq_true, Bool.and_eq_true, decide_eq_true_eq] at h
  obtain ⟨⟨h1, h2⟩, h3⟩ := h
  obtain ⟨_, l2, _, l4⟩ := fontB_len a ws cs h1
  refine ⟨by omega, l4, fun ch hc => ?_⟩
  have h4 := List.all_eq_true.1 h3 ch hc
  unfold chanB at h4
  rw [Bool.and_eq_true, decide_eq_true_eq] at h4
  exact ⟨h4.1, fun x hx => matB_range a cs _ _ (List.all_eq_true.1 h4.2 x hx)⟩
theorem impl_CountStrays_ev (a : ByteArray) (ws cs : List Int) (m : List (List S30)) (hl : cs.length ≤ 1099511627776) : Ev (fun k => impl_CountStrays.f k a ws cs m) (countStrays a ws cs m) := by
  obtain ⟨K, f⟩ := impl_MagazineOk_ev a ws cs m hl
  refine ⟨K, fun k hk => ?_⟩
  simp only [impl_CountStrays.f, f k hk, Option.bind_some, countStrays]
def kcRow : List Int → List S30 → List Int
  | o, [] => o
  | o, x :: r => kcRow (o.set x.f0.toNat (wrap64 (rd o x.f0 + 1))) r
def kcAll : List Int → List (List S30) → List Int
  | o, [] => o
  | o, ch :: r => kcAll (kcRow o ch) r
theorem kcRow_length : ∀ (ch : List S30) (o : List Int), (kcRow o ch).length = o.length
  | [], _ => rfl
  | x :: r, o => by rw [kcRow, kcRow_length r, List.length_set]
theorem impl_kc_inner (m : List (List S30)) (len : Int) (N : Nat) (i : Nat) (hi : i ≤ 1000) (ch : List S30) (hch : ch.length ≤ 1000) (hx : ∀ x ∈ ch, 0 ≤ x.f0 ∧ x.f0 < (N : Int)) (G : List Int → List Int) (hG : ∀ o, o.length = N → Ev (fun k => impl_KindCounts.l0 k o m len ((i + 1 : Nat) : Int)) (G o)) :
    ∀ d j (o : List Int), j + d = ch.length → o.length = N → Ev (fun k => impl_KindCounts.l1 k o m len (i : Int) ch (ch.length : Int) (j : Int)) (G (kcRow o (ch.drop j))) := by
  intro d
  induction d with
  | zero =>
    intro j o hj ho
    rw [List.drop_eq_nil_of_le (by omega), kcRow]
    refine Ev.step (fun k => ?_) (hG o ho)
    simp only [impl_KindCounts.l1]
    rw [if_neg (by omega), w1 i (by omega)]
  | succ d ih =>
    intro j o hj ho
    have hj' : j < ch.length := by omega
    have h1 := hx _ (List.getElem_mem hj')
    rw [List.drop_eq_getElem_cons hj', kcRow]
    refine Ev.step (fun k => ?_) (ih (j + 1) (o.set ch[j].f0.toNat (wrap64 (rd o ch[j].f0 + 1))) (by omega) (by rw [List.length_set]; exact ho))
    simp only [impl_KindCounts.l1]
    rw [if_pos (by omega), if_pos (by omega), if_pos (by omega), rd30_nat ch j hj', if_pos (by omega), if_pos (by omega), w1 j (by omega)]
theorem impl_kc_loop (m : List (List S30)) (N : Nat) (hm : m.length ≤ 1000) (hch : ∀ ch ∈ m, ch.length ≤ 1000 ∧ ∀ x ∈ ch, 0 ≤ x.f0 ∧ x.f0 < (N : Int)) : ∀ d i (o : List Int), i + d = m.length → o.length = N → Ev (fun k => impl_KindCounts.l0 k o m (m.length : Int) (i : Int)) (kcAll o (m.drop i)) := by
  intro d
  induction d with
  | zero =>
    intro i o hi ho
    rw [List.drop_eq_nil_of_le (by omega), kcAll]
    exact ev_step1 (fun k => by simp only [impl_KindCounts.l0]; rw [if_neg (by omega)])
  | succ d ih =>
    intro i o hi ho
    have hi' : i < m.length := by omega
    have hc := hch _ (List.getElem_mem hi')
    have h := impl_kc_inner m (m.length : Int) N i (by omega) m[i] hc.1 hc.2 (fun o => kcAll o (m.drop (i + 1))) (fun o ho => ih (i + 1) o (by omega) ho) m[i].length 0 o (by omega) ho
    rw [List.drop_zero] at h
    rw [List.drop_eq_getElem_cons hi', kcAll]
    refine Ev.step (fun k => ?_) h
    simp only [impl_KindCounts.l0]
    rw [if_pos (by omega), if_pos (by omega), if_pos (by omega), rdL7_nat m i hi']
    rfl
def kindCounts (a : ByteArray) (ws cs : List Int) (m : List (List S30)) : List Int := if magazineOk a ws cs m = true then kcAll (List.replicate m.length 0) m else []
theorem mag_len (a : ByteArray) (ws cs : List Int) (m : List (List S30)) (h : magazineOk a ws cs m = true) : m.length = a.size := by
  unfold magazineOk at h
  rw [Bool.and_eq_true, Bool.and_eq_true, decide_eq_true_eq] at h
  exact h.1.2
theorem impl_KindCounts_ev (a : ByteArray) (ws cs : List Int) (m : List (List S30)) (hl : cs.length ≤ 1099511627776) : Ev (fun k => impl_KindCounts.f k a ws cs m) (kindCounts a ws cs m) := by
  obtain ⟨K, f⟩ := impl_MagazineOk_ev a ws cs m hl
  unfold kindCounts
  by_cases h : magazineOk a ws cs m = true
  · obtain ⟨h1, h2, h3⟩ := mag_rows a ws cs m h
    have hm := mag_len a ws cs m h
    obtain ⟨K2, f2⟩ := impl_kc_loop m m.length (by omega) (fun ch hc => ⟨by have := (h3 ch hc).1; omega, fun x hx => by have := (h3 ch hc).2 x hx; omega⟩) m.length 0 (List.replicate m.length 0) (by omega) (by simp)
    rw [List.drop_zero] at f2
    rw [if_pos h]
    refine ⟨K + K2, fun k hk => ?_⟩
    simp only [impl_KindCounts.f, f k (by omega), h, Option.bind_some, if_true]
    rw [if_pos (by omega), if_pos (by omega), Int.toNat_natCast]
    exact f2 k (by omega)
  · rw [if_neg h]
    refine ⟨K, fun k hk => ?_⟩
    simp only [impl_KindCounts.f, f k hk, Option.bind_some, if_neg h]
theorem mag_rows2 (a : ByteArray) (ws cs : List Int) (m : List (List S30)) (h : magazineOk a ws cs m = true) : m.length ≤ 40 ∧ m.length = a.size ∧ cs.length = a.size ∧ (∀ ch ∈ m, ch.length ≤ 20) := by
  obtain ⟨h1, h2, h3⟩ := mag_rows a ws cs m h
  exact ⟨h1, mag_len a ws cs m h, h2, fun ch hc => (h3 ch hc).1⟩
theorem i64_small (n : Nat) (h : n ≤ 1000) : IntKind.i64.wrap (n : Int) = n := by
  rw [i64_w, wrap_id _ (by omega) (by omega)]
theorem and255 (y : Int) : 0 ≤ Go.bits .and .i64 y 255 ∧ Go.bits .and .i64 y 255 ≤ 255 := by
  have h : (BitVec.ofInt IntKind.i64.bits y &&& BitVec.ofInt IntKind.i64.bits 255).toNat ≤ 255 := by
    rw [BitVec.toNat_and]
    exact Nat.and_le_right
  unfold Go.bits
  simp only
  rw [i64_small _ (by omega)]
  omega
/-- The cursor stands within its list. -/
def Cur (c : List Int) (i : Int) : Prop := 0 ≤ i ∧ i ≤ c.length ∧ c.length ≤ 1099511627776
theorem byte_ok (c : List Int) (i h : Int) (hc : Cur c i) : ∃ x i' h', spec_l01Byte.f c i h = some (x, i', h') ∧ 0 ≤ x ∧ x ≤ 255 ∧ Cur c i' := by
  obtain ⟨c1, c2, c3⟩ := hc
  unfold spec_l01Byte.f
  by_cases hi : i < (c.length : Int)
  · rw [if_pos hi, if_pos c1]
    have := wrap_id (i + 1) (by omega) (by omega)
    exact ⟨_, _, _, rfl, (and255 _).1, (and255 _).2, by rw [this]; omega, by rw [this]; omega, c3⟩
  · rw [if_neg hi]
    exact ⟨_, _, _, rfl, (and255 _).1, (and255 _).2, c1, c2, c3⟩
theorem below_ok (c : List Int) (i h n : Int) (hc : Cur c i) (h1 : 1 ≤ n) (h2 : n ≤ 256) : ∃ x i' h', spec_l01Below.f c i h n = some (x, i', h') ∧ 0 ≤ x ∧ x < n ∧ Cur c i' := by
  obtain ⟨x, i', h', e, x1, x2, hc'⟩ := byte_ok c i h hc
  unfold spec_l01Below.f
  rw [if_neg (by omega), if_pos h2, e, Option.bind_some, if_neg (by omega)]
  refine ⟨_, _, _, rfl, ?_, ?_, hc'⟩
  · exact Int.tmod_nonneg _ x1
  · exact Int.tmod_lt_of_pos _ (by omega)
theorem int_ok (c : List Int) (i h : Int) (l : List Int) (hc : Cur c i) (h1 : 1 ≤ l.length) (h2 : l.length ≤ 256) : ∃ x i' h', spec_l01Int.f c i h l = some (x, i', h') ∧ x ∈ l ∧ Cur c i' := by
  obtain ⟨x, i', h', e, x1, x2, hc'⟩ := below_ok c i h (l.length : Int) hc (by omega) (by omega)
  unfold spec_l01Int.f
  rw [e, Option.bind_some]
  simp only
  rw [if_pos x1, if_pos x2]
  refine ⟨_, _, _, rfl, ?_, hc'⟩
  obtain ⟨n, rfl⟩ : ∃ n : Nat, x = n := ⟨x.toNat, by omega⟩
  rw [rd_nat l n (by omega)]
  exact List.getElem_mem _
theorem new_ok (l : List Int) (hl : l.length ≤ 1099511627776) : ∃ h, Ev (fun k => spec_l01New.f k l) (l, 0, h) := by
  have main : ∀ d i (s : Int), l.length - i = d → i ≤ l.length → ∃ h, Ev (fun k => spec_l01New.l0 k l s (i : Int)) (l, 0, h) := by
    intro d
    induction d with
    | zero => intro i s hd hi; exact ⟨s, ev_step1 (fun k => by simp only [spec_l01New.l0]; rw [if_neg (by omega)])⟩
    | succ d ih =>
      intro i s hd hi
      by_cases h4 : (i : Int) < 4000
      · obtain ⟨h, hh⟩ := ih (i + 1) (Go.bits .and .i64 (wrap64 ((wrap64 ((wrap64 (s * 1103)) + (wrap64 (rd l (i : Int))))) + 7)) 1073741823) (by omega) (by omega)
        refine ⟨h, Ev.step (fun k => ?_) hh⟩
        simp only [spec_l01New.l0]
        rw [if_pos (by omega), if_pos h4, if_pos (by omega), w1 i (by omega)]
      · exact ⟨s, ev_step1 (fun k => by simp only [spec_l01New.l0]; rw [if_pos (by omega), if_neg h4])⟩
  exact main l.length 0 (wrap64 (3230 + (l.length : Int))) rfl (by omega)
/-- Does a number stand twice? -/
def dupFrom (l : List Int) : Nat → List Int → Bool
  | _, [] => false
  | i, s :: r => decide (s ∈ l.take i) || dupFrom l (i + 1) r
theorem spec_l1Sets_ev (l : List Int) (hl : l.length ≤ 1099511627776) : Ev (fun k => spec_l1Sets.f k l) (!dupFrom l 0 l && isBar l) := by
  have main : ∀ i, i ≤ l.length → Ev (fun k => spec_l1Sets.l0 k l l (l.length : Int) (i : Int)) (!dupFrom l i (l.drop i) && isBar l) := by
    refine ev_down0 (fun k i => spec_l1Sets.l0 k l l (l.length : Int) i) l.length (fun i => !dupFrom l i (l.drop i) && isBar l) ?_ ?_
    · refine Ev.step (f := fun k => (spec_IsBar.f k l).bind fun t => some t) (fun k => ?_) (Ev.bind (f := fun _ t => some t) (spec_IsBar_ev l hl) ?_)
      · simp only [spec_l1Sets.l0]
        rw [if_neg (by omega)]
      · rw [List.drop_length, dupFrom]; exact Ev.now _
    · intro i hi ih
      rw [List.drop_eq_getElem_cons hi, dupFrom]
      have hin : ∀ j, j ≤ (l.take i).length → Ev (fun k => spec_l1Sets.l1 k l l[i] l (l.length : Int) (i : Int) (l.take i) ((l.take i).length : Int) (j : Int)) (!(decide (l[i] ∈ (l.take i).drop j) || dupFrom l (i + 1) (l.drop (i + 1))) && isBar l) := by
        refine ev_down0 (fun k j => spec_l1Sets.l1 k l l[i] l (l.length : Int) (i : Int) (l.take i) ((l.take i).length : Int) j) (l.take i).length (fun j => !(decide (l[i] ∈ (l.take i).drop j) || dupFrom l (i + 1) (l.drop (i + 1))) && isBar l) ?_ ?_
        · refine Ev.step (f := fun k => spec_l1Sets.l0 k l l (l.length : Int) ((i + 1 : Nat) : Int)) (fun k => ?_) ?_
          · simp only [spec_l1Sets.l1]
            rw [if_neg (by omega), w1 i (by omega)]
          · rw [List.drop_length, decide_eq_false (by simp), Bool.false_or]; exact ih
        · intro j hj ihj
          rw [List.drop_eq_getElem_cons hj]
          have hlt : (l.take i).length ≤ l.length := by rw [List.length_take]; omega
          by_cases h : l[i] = (l.take i)[j]
          · rw [decide_eq_true (by rw [List.mem_cons]; exact Or.inl h), Bool.true_or]
            refine ev_step1 (fun k => ?_)
            simp only [spec_l1Sets.l1]
            rw [if_pos (by omega), if_pos (by omega), if_pos (by omega), rd_nat _ j hj, if_pos h]
            rfl
          · have e : decide (l[i] ∈ (l.take i)[j] :: (l.take i).drop (j + 1)) = decide (l[i] ∈ (l.take i).drop (j + 1)) := by
              rw [decide_eq_decide, List.mem_cons]
              exact ⟨fun h' => h'.resolve_left h, Or.inr⟩
            rw [e]
            refine Ev.step (fun k => ?_) ihj
            simp only [spec_l1Sets.l1]
            rw [if_pos (by omega), if_pos (by omega), if_pos (by omega), rd_nat _ j hj, if_neg h, w1 j (by omega)]
      have h0 := hin 0 (by omega)
      rw [List.drop_zero] at h0
      refine Ev.step (fun k => ?_) h0
      simp only [spec_l1Sets.l0]
      rw [if_pos (by omega), if_pos (by omega), if_pos (by omega), if_pos (by omega), rd_nat l i hi, Int.toNat_natCast, show max (i : Int) 0 = (((l.take i).length : Nat) : Int) from by rw [List.length_take]; omega]
      rfl
  have h := main 0 (by omega)
  rw [List.drop_zero] at h
  exact h
theorem single_good (s : Int) (h0 : 0 ≤ s) (h1 : s ≤ 127) : isBar [s] = true ∧ dupFrom [s] 0 [s] = false := by
  constructor
  · rw [isBar_iff]
    refine ⟨by simp, by simp, fun x hx => ?_⟩
    rw [List.mem_singleton] at hx
    subst hx
    exact ⟨h0, h1⟩
  · simp [dupFrom]
/-- Is tooth j free of the teeth b? From tooth i on. -/
def ff (l : List Int) (b : Nat → Bool) (j : Nat) : Nat → Nat → Bool
  | _, 0 => true
  | i, c + 1 => if i = j then ff l b j (i + 1) c else if b i = true then (if partB (l.getD i 0) (l.getD j 0) = true then false else ff l b j (i + 1) c) else ff l b j (i + 1) c
theorem getD_nat (l : List Int) (i : Nat) (h : i < l.length) : l.getD i 0 = l[i] := by simp [List.getD_eq_getElem?_getD, h]
theorem rd_getD (l : List Int) (i : Nat) : rd l (i : Int) = l.getD i 0 := by simp [rd]
theorem part_le_all : ∀ s : Nat, s < 128 → ∀ t : Nat, t < 128 → partB (s : Int) (t : Int) = true → s ≤ t := by decide +kernel
theorem exists_min (P : Nat → Prop) : ∀ v, P v → ∃ m, P m ∧ ∀ u, u < m → ¬ P u := by
  intro v
  induction v using Nat.strongRecOn with
  | ind v ih =>
    intro hv
    by_cases h : ∃ u, u < v ∧ P u
    · obtain ⟨u, hu, hpu⟩ := h
      exact ih u hu hpu
    · exact ⟨v, hv, fun u hu hpu => h ⟨u, hu, hpu⟩⟩
theorem dup_no (l : List Int) : ∀ d i, l.length - i = d → dupFrom l i (l.drop i) = false → ∀ j (hj : j < l.length), i ≤ j → l[j] ∉ l.take j := by
  intro d
  induction d with
  | zero => intro i hd _ j hj hij; omega
  | succ d ih =>
    intro i hd hf j hj hij
    have hi : i < l.length := by omega
    rw [List.drop_eq_getElem_cons hi, dupFrom, Bool.or_eq_false_iff, decide_eq_false_iff_not] at hf
    by_cases e : j = i
    · subst e; exact hf.1
    · exact ih (i + 1) (by omega) hf.2 j hj (by omega)
theorem no_two (l : List Int) (h : dupFrom l 0 l = false) (i j : Nat) (hi : i < l.length) (hj : j < l.length) (hne : i ≠ j) : l[i] ≠ l[j] := by
  have key : ∀ i j (hi : i < l.length) (hj : j < l.length), i < j → l[i] ≠ l[j] := by
    intro i j hi hj hlt e
    have := dup_no l l.length 0 rfl (by rw [List.drop_zero]; exact h) j hj (by omega)
    apply this
    rw [← e]
    rw [List.mem_take_iff_getElem]
    exact ⟨i, by omega, rfl⟩
  rcases Nat.lt_or_gt_of_ne hne with h' | h'
  · exact key i j hi hj h'
  · exact fun e => key j i hj hi h' e.symm
theorem ff_true (l : List Int) (b : Nat → Bool) (j : Nat) : ∀ c i, (∀ m, i ≤ m → m < i + c → m ≠ j → b m = true → partB (l.getD m 0) (l.getD j 0) = false) → ff l b j i c = true
  | 0, i, _ => rfl
  | c + 1, i, h => by
    have ih := ff_true l b j c (i + 1) (fun m h1 h2 => h m (by omega) (by omega))
    rw [ff]
    by_cases e : i = j
    · rw [if_pos e]; exact ih
    · rw [if_neg e]
      by_cases hb : b i = true
      · rw [if_pos hb, h i (Nat.le_refl _) (by omega) e hb, if_neg (by decide)]; exact ih
      · rw [if_neg hb]; exact ih
theorem free_ev (l : List Int) (b : List Bool) (j : Nat) (hb : b.length = l.length) (hn : l.length ≤ 1000) (hj : j < l.length) : Ev (fun k => spec_l1Free.f k l b (j : Int)) (ff l (fun i => b.getD i false) j 0 l.length) := by
  have main : ∀ c i, i + c = l.length → Ev (fun k => spec_l1Free.l0 k l b (j : Int) l (l.length : Int) (i : Int)) (ff l (fun i => b.getD i false) j i c) := by
    intro c
    induction c with
    | zero =>
      intro i hi
      refine ev_step1 (fun k => ?_)
      simp only [spec_l1Free.l0]
      rw [if_neg (by omega), ff]
    | succ c ih =>
      intro i hi
      have h := ih (i + 1) (by omega)
      have hr : rdOf false b (i : Int) = b.getD i false := by simp [rdOf]
      rw [ff]
      by_cases e : i = j
      · rw [if_pos e]
        refine Ev.step (fun k => ?_) h
        simp only [spec_l1Free.l0]
        rw [if_pos (by omega), if_pos (by omega), if_pos (by omega), if_pos (by omega), w1 i (by omega)]
      · rw [if_neg e]
        by_cases hbi : b.getD i false = true
        · rw [if_pos hbi]
          by_cases hp : partB (l.getD i 0) (l.getD j 0) = true
          · rw [if_pos hp]
            refine ev_step1 (fun k => ?_)
            simp only [spec_l1Free.l0]
            rw [if_pos (by omega), if_pos (by omega), if_pos (by omega), if_neg (by omega), if_pos (by omega), hr, if_pos hbi, if_pos (by omega), if_pos (by omega), rd_getD, rd_getD, spec_part_eq, Option.bind_some, if_pos hp]
          · rw [if_neg hp]
            refine Ev.step (fun k => ?_) h
            simp only [spec_l1Free.l0]
            rw [if_pos (by omega), if_pos (by omega), if_pos (by omega), if_neg (by omega), if_pos (by omega), hr, if_pos hbi, if_pos (by omega), if_pos (by omega), rd_getD, rd_getD, spec_part_eq, Option.bind_some, if_neg hp, w1 i (by omega)]
        · rw [if_neg hbi]
          refine Ev.step (fun k => ?_) h
          simp only [spec_l1Free.l0]
          rw [if_pos (by omega), if_pos (by omega), if_pos (by omega), if_neg (by omega), if_pos (by omega), hr, if_neg hbi, w1 i (by omega)]
  exact main l.length 0 (by omega)
/-- Of distinct sets that are left, one is free. -/
theorem some_free (l : List Int) (hbar : isBar l = true) (hd : dupFrom l 0 l = false) (b : List Bool) (hb : b.length = l.length) (j0 : Nat) (h0 : j0 < l.length) (ht : b.getD j0 false = true) :
    ∃ j, j < l.length ∧ b.getD j false = true ∧ ff l (fun i => b.getD i false) j 0 l.length = true := by
  obtain ⟨_, _, hs⟩ := (isBar_iff l).1 hbar
  obtain ⟨m, ⟨j, hj, hbj, hm⟩, hmin⟩ := exists_min (fun v => ∃ j, ∃ _ : j < l.length, b.getD j false = true ∧ (l.getD j 0).toNat = v) _ ⟨j0, h0, ht, rfl⟩
  refine ⟨j, hj, hbj, ff_true l _ j l.length 0 (fun i _ h2 hne hbi => ?_)⟩
  have hi : i < l.length := by omega
  have hsi := hs l[i] (List.getElem_mem hi)
  have hsj := hs l[j] (List.getElem_mem hj)
  have hne2 := no_two l hd i j hi hj hne
  rw [getD_nat l j hj] at hm ⊢
  rw [getD_nat l i hi]
  by_cases hp : partB l[i] l[j] = true
  · exfalso
    have h3 := part_le_all l[i].toNat (by omega) l[j].toNat (by omega)
    rw [show ((l[i].toNat : Nat) : Int) = l[i] by omega, show ((l[j].toNat : Nat) : Int) = l[j] by omega] at h3
    have h4 := h3 hp
    exact hmin l[i].toNat (by omega) ⟨i, hi, hbi, by rw [getD_nat l i hi]⟩
  · simpa using hp
theorem order_l2 (l : List Int) (b : List Bool) (out : List Int) (hb : b.length = l.length) (hn : l.length ≤ 1000) (ho : out.length ≤ 1000)
    (hnext : ∀ j (hj : j < l.length), b.getD j false = true → ∃ r, Ev (fun k => spec_OrderBar.l1 k l (b.set j false) (out ++ [l[j]])) (r, true) ∧ r.length = l.length) :
    ∀ d i, l.length - i = d → (∃ j, i ≤ j ∧ j < l.length ∧ b.getD j false = true ∧ ff l (fun i => b.getD i false) j 0 l.length = true) →
      ∃ r, Ev (fun k => spec_OrderBar.l2 k l b out l (l.length : Int) (i : Int)) (r, true) ∧ r.length = l.length := by
  intro d
  induction d with
  | zero => rintro i hd ⟨j, h1, h2, _⟩; omega
  | succ d ih =>
    rintro i hd ⟨j, h1, h2, h3, h4⟩
    have hi : i < l.length := by omega
    have hr : rdOf false b (i : Int) = b.getD i false := by simp [rdOf]
    by_cases hbi : b.getD i false = true
    · have hfree := free_ev l b i hb hn hi
      by_cases hf : ff l (fun i => b.getD i false) i 0 l.length = true
      · rw [hf] at hfree
        obtain ⟨r, hr1, hr2⟩ := hnext i hi hbi
        refine ⟨r, ?_, hr2⟩
        refine Ev.step (f := fun k => (spec_l1Free.f k l b (i : Int)).bind fun t => if t = true then spec_OrderBar.l1 k l (b.set i false) (out ++ [l[i]]) else spec_OrderBar.l2 k l b out l (l.length : Int) ((i + 1 : Nat) : Int)) (fun k => ?_) (Ev.bind (f := fun k t => if t = true then spec_OrderBar.l1 k l (b.set i false) (out ++ [l[i]]) else spec_OrderBar.l2 k l b out l (l.length : Int) ((i + 1 : Nat) : Int)) hfree (by simp only [if_true]; exact hr1))
        simp only [spec_OrderBar.l2]
        rw [if_pos (by omega), if_pos (by omega), if_pos (by omega), if_pos (by omega), hr, if_pos hbi, if_pos (show out.length < 17592186044416 by omega), rd_nat l i hi, w1 i (by omega), Int.toNat_natCast]
      · have hf' : ff l (fun i => b.getD i false) i 0 l.length = false := by simpa using hf
        rw [hf'] at hfree
        have hne : i ≠ j := fun e => by subst e; exact hf h4
        obtain ⟨r, hr1, hr2⟩ := ih (i + 1) (by omega) ⟨j, by omega, h2, h3, h4⟩
        refine ⟨r, ?_, hr2⟩
        refine Ev.step (f := fun k => (spec_l1Free.f k l b (i : Int)).bind fun t => if t = true then spec_OrderBar.l1 k l (b.set i false) (out ++ [l[i]]) else spec_OrderBar.l2 k l b out l (l.length : Int) ((i + 1 : Nat) : Int)) (fun k => ?_) (Ev.bind (f := fun k t => if t = true then spec_OrderBar.l1 k l (b.set i false) (out ++ [l[i]]) else spec_OrderBar.l2 k l b out l (l.length : Int) ((i + 1 : Nat) : Int)) hfree (by simp only [Bool.false_eq_true, if_false]; exact hr1))
        simp only [spec_OrderBar.l2]
        rw [if_pos (by omega), if_pos (by omega), if_pos (by omega), if_pos (by omega), hr, if_pos hbi, if_pos (show out.length < 17592186044416 by omega), rd_nat l i hi, w1 i (by omega), Int.toNat_natCast]
    · have hne : i ≠ j := fun e => by subst e; exact hbi h3
      obtain ⟨r, hr1, hr2⟩ := ih (i + 1) (by omega) ⟨j, by omega, h2, h3, h4⟩
      refine ⟨r, Ev.step (fun k => ?_) hr1, hr2⟩
      simp only [spec_OrderBar.l2]
      rw [if_pos (by omega), if_pos (by omega), if_pos (by omega), if_pos (by omega), hr, if_neg hbi, w1 i (by omega)]
theorem order_l1 (l : List Int) (hbar : isBar l = true) (hd : dupFrom l 0 l = false) : ∀ c (b : List Bool) (out : List Int), b.length = l.length → b.count true = c → out.length + c = l.length →
    ∃ r, Ev (fun k => spec_OrderBar.l1 k l b out) (r, true) ∧ r.length = l.length := by
  obtain ⟨l1, l2, _⟩ := (isBar_iff l).1 hbar
  intro c
  induction c with
  | zero =>
    intro b out hb hc ho
    exact ⟨out, ev_step1 (fun k => by simp only [spec_OrderBar.l1]; rw [if_neg (by omega)]), by omega⟩
  | succ c ih =>
    intro b out hb hc ho
    have hmem : true ∈ b := List.count_pos_iff.1 (by omega)
    obtain ⟨j0, hj0, hbj⟩ := List.getElem_of_mem hmem
    obtain ⟨j, h1, h2, h3⟩ := some_free l hbar hd b hb j0 (by omega) (by rw [List.getD_eq_getElem?_getD, List.getElem?_eq_getElem hj0, hbj]; rfl)
    obtain ⟨r, hr1, hr2⟩ := order_l2 l b out hb (by omega) (by omega) (fun q hq hbq => by
      have hqb : q < b.length := by omega
      rw [List.getD_eq_getElem?_getD, List.getElem?_eq_getElem hqb] at hbq
      simp only [Option.getD_some] at hbq
      refine ih (b.set q false) (out ++ [l[q]]) (by rw [List.length_set]; exact hb) ?_ (by simp only [List.length_append, List.length_singleton]; omega)
      rw [List.count_set hqb, hbq]
      simp
      omega) l.length 0 rfl ⟨j, by omega, h1, h2, h3⟩
    refine ⟨r, Ev.step (fun k => ?_) hr1, hr2⟩
    simp only [spec_OrderBar.l1]
    rw [if_pos (by omega)]
    rfl
theorem order_l0 (l : List Int) (hbar : isBar l = true) (hd : dupFrom l 0 l = false) : ∀ c i (b : List Bool), i + c = l.length → b.length = l.length → (∀ j, j < i → b[j]? = some true) →
    ∃ r, Ev (fun k => spec_OrderBar.l0 k l b (l.length : Int) (i : Int)) (r, true) ∧ r.length = l.length := by
  obtain ⟨l1, l2, _⟩ := (isBar_iff l).1 hbar
  intro c
  induction c with
  | zero =>
    intro i b hi hb hx
    have e : b = List.replicate l.length true := by
      apply List.ext_getElem (by rw [hb, List.length_replicate])
      intro j h1 h2
      have := hx j (by omega)
      rw [List.getElem?_eq_getElem h1] at this
      rw [Option.some.inj this, List.getElem_replicate]
    subst e
    obtain ⟨r, hr1, hr2⟩ := order_l1 l hbar hd l.length (List.replicate l.length true) [] (by simp) (by simp) (by simp)
    refine ⟨r, Ev.step (fun k => ?_) hr1, hr2⟩
    simp only [spec_OrderBar.l0]
    rw [if_neg (by omega)]
  | succ c ih =>
    intro i b hi hb hx
    obtain ⟨r, hr1, hr2⟩ := ih (i + 1) (b.set i true) (by omega) (by rw [List.length_set, hb]) (fun j hj => by
      rw [List.getElem?_set]
      by_cases e : i = j
      · subst e; rw [if_pos rfl, if_pos (by omega)]
      · rw [if_neg e]; exact hx j (by omega))
    refine ⟨r, Ev.step (fun k => ?_) hr1, hr2⟩
    simp only [spec_OrderBar.l0]
    rw [if_pos (by omega), if_pos (by omega), if_pos (by omega), w1 i (by omega), Int.toNat_natCast]
theorem orderBar_ok (l : List Int) (hbar : isBar l = true) (hd : dupFrom l 0 l = false) : ∃ r, Ev (fun k => spec_OrderBar.f k l) (r, true) ∧ r.length = l.length := by
  obtain ⟨l1, l2, _⟩ := (isBar_iff l).1 hbar
  have hs := spec_l1Sets_ev l (by omega)
  rw [hd, hbar] at hs
  obtain ⟨r, hr1, hr2⟩ := order_l0 l hbar hd l.length 0 (List.replicate l.length false) (by omega) (by simp) (fun j hj => absurd hj (Nat.not_lt_zero j))
  refine ⟨r, Ev.bind (f := fun k t => if t = true then (if 0 ≤ (l.length : Int) then (if ((l.length : Int) : Int).toNat ≤ 281474976710656 then ((some (List.replicate ((l.length : Int) : Int).toNat false : List Bool)).bind fun y155 => (spec_OrderBar.l0 k l y155 (y155.length : Int) 0)) else (none)) else (none)) else (some (([] : List Int), false))) hs ?_, hr2⟩
  refine ev_eq hr1 (fun k => ?_)
  rw [if_pos (by decide), if_pos (by omega), Int.toNat_natCast, if_pos (by omega), Option.bind_some, List.length_replicate]
  rfl
theorem or3_all7 : ∀ x : Nat, x < 5 → ∀ y : Nat, y < 5 → ∀ z : Nat, z < 7 → 0 ≤ Go.bits .or .i64 (Go.bits .or .i64 (shl .i64 1 (x : Int)) (shl .i64 1 (y : Int))) (shl .i64 1 (z : Int)) ∧ Go.bits .or .i64 (Go.bits .or .i64 (shl .i64 1 (x : Int)) (shl .i64 1 (y : Int))) (shl .i64 1 (z : Int)) ≤ 127 := by decide +kernel
theorem pick_ok (c : List Int) (i h : Int) (l : List ByteArray) (hc : Cur c i) (h1 : 1 ≤ l.length) (h2 : l.length ≤ 256) : ∃ x i' h', spec_l01Pick.f c i h l = some (x, i', h') ∧ x ∈ l ∧ Cur c i' := by
  obtain ⟨x, i', h', e, x1, x2, hc'⟩ := below_ok c i h (l.length : Int) hc (by omega) (by omega)
  unfold spec_l01Pick.f
  rw [e, Option.bind_some]
  simp only
  rw [if_pos x1, if_pos x2]
  refine ⟨_, _, _, rfl, ?_, hc'⟩
  obtain ⟨n, rfl⟩ : ∃ n : Nat, x = n := ⟨x.toNat, by omega⟩
  rw [rdOf_nat _ l n (by omega)]
  exact List.getElem_mem _
theorem l2font_l1 (c cs : List Int) (hs : cs.length ≤ 40) : ∀ d (j : Nat) (a : ByteArray) (ws : List Int) (i h : Int), j + d = cs.length → a.size = j → ws.length = j → Cur c i →
    ∃ a' ws' i' h', Ev (fun k => spec_l2Font.l1 k (cs.length : Int) (j : Int) c i h a ws cs) (a', ws', cs, i', h') ∧ a'.size = cs.length ∧ ws'.length = cs.length ∧ Cur c i' := by
  intro d
  induction d with
  | zero =>
    intro j a ws i h hj ha hw hc
    refine ⟨a, ws, i, h, ev_step1 (fun k => ?_), by omega, by omega, hc⟩
    simp only [spec_l2Font.l1]
    rw [if_neg (by omega)]
  | succ d ih =>
    intro j a ws i h hj ha hw hc
    obtain ⟨x1, i1, h1, e1, r1, s1, c1⟩ := below_ok c i h 20 hc (by omega) (by omega)
    have hx : ∀ L : ByteArray, L.size = 40 → (L.extract j (j + 1)).size = 1 := fun L hL => by rw [ByteArray.size_extract, hL]; omega
    have hL := hx ⟨#[97, 101, 110, 111, 114, 116, 105, 46, 44, 104, 115, 100, 108, 117, 99, 109, 102, 119, 45, 103, 121, 112, 98, 118, 107, 113, 120, 106, 122, 33, 40, 41, 48, 49, 50, 51, 52, 53, 54, 55]⟩ rfl
    obtain ⟨a', ws', i', h', hr, q1, q2, q3⟩ := ih (j + 1) (a ++ (ByteArray.extract ⟨#[97, 101, 110, 111, 114, 116, 105, 46, 44, 104, 115, 100, 108, 117, 99, 109, 102, 119, 45, 103, 121, 112, 98, 118, 107, 113, 120, 106, 122, 33, 40, 41, 48, 49, 50, 51, 52, 53, 54, 55]⟩ j (j + 1))) (ws ++ [wrap64 (1 + x1)]) i1 h1 (by omega) (by rw [ByteArray.size_append, hL, ha]) (by rw [List.length_append, List.length_singleton, hw]) c1
    refine ⟨a', ws', i', h', Ev.step (fun k => ?_) hr, q1, q2, q3⟩
    simp only [spec_l2Font.l1]
    rw [if_pos (by omega), if_pos (by omega), w1 j (by omega), if_pos (by omega), if_pos (by omega), Int.toNat_natCast, Int.toNat_natCast, hL, if_pos (by omega), e1, Option.bind_some]
    simp only
    rw [if_pos (by omega)]
theorem l2font_l0 (c : List Int) : ∀ (d : Nat) (l : List Int) (i h : Int), d ≤ 40 → (l = [] ∨ (isBar l = true ∧ dupFrom l 0 l = false)) → (l ≠ [] ∨ 0 < d) → Cur c i →
    ∃ a ws cs i' h', Ev (fun k => spec_l2Font.l0 k l (d : Int) c i h (⟨#[]⟩ : ByteArray)) (a, ws, cs, i', h') ∧ a.size = cs.length ∧ ws.length = cs.length ∧ 1 ≤ cs.length ∧ cs.length ≤ 40 ∧ Cur c i' := by
  intro d
  induction d with
  | zero =>
    intro l i h hd hg hne hc
    rcases hg with hg | ⟨g1, g2⟩
    · rcases hne with hne | hne
      · exact absurd hg hne
      · omega
    obtain ⟨r, ⟨K, hr⟩, hrl⟩ := orderBar_ok l g1 g2
    obtain ⟨b1, b2, _⟩ := (isBar_iff l).1 g1
    obtain ⟨a', ws', i', h', ⟨K2, hr2⟩, q1, q2, q3⟩ := l2font_l1 c r (by omega) r.length 0 ⟨#[]⟩ [] i h (by omega) rfl rfl hc
    refine ⟨a', ws', r, i', h', ⟨K + K2 + 1, fun k hk => ?_⟩, q1, q2, by omega, by omega, q3⟩
    obtain ⟨k, rfl⟩ : ∃ z, k = z + 1 := ⟨k - 1, by omega⟩
    simp only [spec_l2Font.l0, hr k (by omega), Option.bind_some]
    rw [if_neg (by omega)]
    exact hr2 k (by omega)
  | succ d ih =>
    intro l i h hd hg hne hc
    have eD : wrap64 (((d + 1 : Nat) : Int) - 1) = (d : Int) := by rw [wrap_id _ (by omega) (by omega)]; omega
    have hll : l.length ≤ 40 := by
      rcases hg with hg | ⟨g1, _⟩
      · rw [hg]; simp
      · exact ((isBar_iff l).1 g1).2.1
    obtain ⟨y1, k1, g1, f1, a1, b1, d1⟩ := below_ok c i h 5 hc (by omega) (by omega)
    obtain ⟨y2, k2, g2, f2, a2, b2, d2⟩ := below_ok c k1 g1 5 d1 (by omega) (by omega)
    obtain ⟨y3, k3, g3, f3, a3, b3, d3⟩ := below_ok c k2 g2 7 d2 (by omega) (by omega)
    have ho := or3_all7 y1.toNat (by omega) y2.toNat (by omega) y3.toNat (by omega)
    rw [Int.toNat_of_nonneg a1, Int.toNat_of_nonneg a2, Int.toNat_of_nonneg a3] at ho
    have hbody : ∀ s, 0 ≤ s → s ≤ 127 → ∃ a ws cs i' h', Ev (fun k => (spec_l1Sets.f k (([] : List Int) ++ l ++ [s])).bind fun t => if t = true then spec_l2Font.l0 k (([] : List Int) ++ l ++ [s]) (d : Int) c k3 g3 (⟨#[]⟩ : ByteArray) else spec_l2Font.l0 k l (d : Int) c k3 g3 (⟨#[]⟩ : ByteArray)) (a, ws, cs, i', h') ∧ a.size = cs.length ∧ ws.length = cs.length ∧ 1 ≤ cs.length ∧ cs.length ≤ 40 ∧ Cur c i' := by
      intro s hs0 hs1
      have hne2 : ([] : List Int) ++ l ++ [s] ≠ [] := by simp
      have hs := spec_l1Sets_ev (([] : List Int) ++ l ++ [s]) (by simp only [List.length_append, List.length_nil, List.length_singleton]; omega)
      by_cases ht : (!dupFrom (([] : List Int) ++ l ++ [s]) 0 (([] : List Int) ++ l ++ [s]) && isBar (([] : List Int) ++ l ++ [s])) = true
      · rw [ht] at hs
        obtain ⟨t1, t2⟩ : dupFrom (([] : List Int) ++ l ++ [s]) 0 (([] : List Int) ++ l ++ [s]) = false ∧ isBar (([] : List Int) ++ l ++ [s]) = true := by
          rw [Bool.and_eq_true, Bool.not_eq_true'] at ht
          exact ht
        obtain ⟨a, ws, cs, i', h', hr, p⟩ := ih _ k3 g3 (by omega) (Or.inr ⟨t2, t1⟩) (Or.inl hne2) d3
        exact ⟨a, ws, cs, i', h', Ev.bind (f := fun k t => if t = true then spec_l2Font.l0 k (([] : List Int) ++ l ++ [s]) (d : Int) c k3 g3 (⟨#[]⟩ : ByteArray) else spec_l2Font.l0 k l (d : Int) c k3 g3 (⟨#[]⟩ : ByteArray)) hs (by simp only [if_true]; exact hr), p⟩
      · have hf : (!dupFrom (([] : List Int) ++ l ++ [s]) 0 (([] : List Int) ++ l ++ [s]) && isBar (([] : List Int) ++ l ++ [s])) = false := by simpa using ht
        rw [hf] at hs
        have hln : l ≠ [] := fun e => by
          subst e
          obtain ⟨q1, q2⟩ := single_good s hs0 hs1
          apply ht
          rw [show ([] : List Int) ++ [] ++ [s] = [s] from rfl, q1, q2]
          rfl
        obtain ⟨a, ws, cs, i', h', hr, p⟩ := ih l k3 g3 (by omega) hg (Or.inl hln) d3
        exact ⟨a, ws, cs, i', h', Ev.bind (f := fun k t => if t = true then spec_l2Font.l0 k (([] : List Int) ++ l ++ [s]) (d : Int) c k3 g3 (⟨#[]⟩ : ByteArray) else spec_l2Font.l0 k l (d : Int) c k3 g3 (⟨#[]⟩ : ByteArray)) hs (by simp only [Bool.false_eq_true, if_false]; exact hr), p⟩
    obtain ⟨a, ws, cs, i', h', hr, p⟩ := hbody _ ho.1 ho.2
    refine ⟨a, ws, cs, i', h', Ev.step (fun k => ?_) hr, p⟩
    simp only [spec_l2Font.l0, f1, f2, f3, Option.bind_some, eD]
    rw [if_pos (by omega), if_pos a1, if_pos a2, if_pos a3, if_pos (by simp only [List.length_nil]; omega), if_pos (by simp only [List.length_append, List.length_nil]; omega)]
theorem l2font_ok (c : List Int) (i h n : Int) (hc : Cur c i) (h1 : 1 ≤ n) (h2 : n ≤ 40) : ∃ a ws cs i' h', Ev (fun k => spec_l2Font.f k c i h n) (a, ws, cs, i', h') ∧ a.size = cs.length ∧ ws.length = cs.length ∧ 1 ≤ cs.length ∧ cs.length ≤ 40 ∧ Cur c i' := by
  obtain ⟨x1, i1, g1, e1, r1, s1, c1⟩ := below_ok c i h n hc h1 (by omega)
  obtain ⟨a, ws, cs, i', h', hr, p⟩ := l2font_l0 c (1 + x1).toNat [] i1 g1 (by omega) (Or.inl rfl) (Or.inr (by omega)) c1
  refine ⟨a, ws, cs, i', h', ev_eq hr (fun k => ?_), p⟩
  simp only [spec_l2Font.f, e1, Option.bind_some]
  rw [wrap_id (1 + x1) (by omega) (by omega), Int.toNat_of_nonneg (by omega)]
theorem l2any_ok (c : List Int) (i h : Int) (hc : Cur c i) : ∃ a ws cs i' h', Ev (fun k => spec_l2Any.f k c i h) (a, ws, cs, i', h') ∧ a.size ≤ 41 ∧ cs.length ≤ 41 ∧ Cur c i' := by
  obtain ⟨a, ws, cs, i1, g1, ⟨K, hr⟩, p1, p2, p3, p4, c1⟩ := l2font_ok c i h 9 hc (by omega) (by omega)
  obtain ⟨x2, i2, g2, e2, _, _, c2⟩ := below_ok c i1 g1 20 c1 (by omega) (by omega)
  obtain ⟨y, i3, g3, e3, m3, c3⟩ := pick_ok c i2 g2 [(⟨#[97]⟩ : ByteArray), (⟨#[32]⟩ : ByteArray), (⟨#[126]⟩ : ByteArray), (⟨#[]⟩ : ByteArray)] c2 (by simp) (by simp)
  have hy : y.size ≤ 1 := by
    simp only [List.mem_cons, List.not_mem_nil, or_false] at m3
    rcases m3 with rfl | rfl | rfl | rfl <;> decide
  obtain ⟨z, i4, g4, e4, _, c4⟩ := int_ok c i3 g3 [0, 1, 60, 61] c3 (by decide) (by decide)
  obtain ⟨u, i5, g5, e5, _, c5⟩ := int_ok c i4 g4 [127, 0, 3, 128] c4 (by decide) (by decide)
  obtain ⟨v, i6, g6, e6, _, c6⟩ := int_ok c i2 g2 [0, 61, (-5), 60] c2 (by decide) (by decide)
  by_cases k0 : x2 = 0
  · refine ⟨a ++ y, ws ++ [z], cs ++ [u], i5, g5, ⟨K, fun k hk => ?_⟩, by rw [ByteArray.size_append]; omega, by rw [List.length_append, List.length_singleton]; omega, c5⟩
    simp only [spec_l2Any.f, hr k hk, e2, e3, e4, e5, Option.bind_some]
    rw [if_pos k0, if_pos (by omega), if_pos (by omega), if_pos (by omega)]
  by_cases k1 : x2 = 1
  · refine ⟨a, ws.set (0 : Int).toNat v, cs, i6, g6, ⟨K, fun k hk => ?_⟩, by omega, by omega, c6⟩
    simp only [spec_l2Any.f, hr k hk, e2, e6, Option.bind_some]
    rw [if_neg k0, if_pos k1, if_pos (by omega)]
  by_cases k2 : x2 = 2
  · refine ⟨a, ws, [] ++ cs.drop 1, i2, g2, ⟨K, fun k hk => ?_⟩, by omega, by rw [List.nil_append, List.length_drop]; omega, c2⟩
    simp only [spec_l2Any.f, hr k hk, e2, Option.bind_some]
    rw [if_neg k0, if_neg k1, if_pos k2, if_pos (by omega), if_pos (by rw [List.length_nil, List.length_drop]; omega)]
  by_cases k3 : x2 = 3
  · refine ⟨⟨#[]⟩, [], [], i2, g2, ⟨K, fun k hk => ?_⟩, by decide, by simp, c2⟩
    simp only [spec_l2Any.f, hr k hk, e2, Option.bind_some]
    rw [if_neg k0, if_neg k1, if_neg k2, if_pos k3]
  · refine ⟨a, ws, cs, i2, g2, ⟨K, fun k hk => ?_⟩, by omega, by omega, c2⟩
    simp only [spec_l2Any.f, hr k hk, e2, Option.bind_some]
    rw [if_neg k0, if_neg k1, if_neg k2, if_neg k3]
theorem drawFill_ok (l : List Int) (hl : l.length ≤ 1099511627776) : ∃ a ws cs n, Ev (fun k => spec_DrawFillMagazine.f k l) (a, ws, cs, n) ∧ cs.length ≤ 41 := by
  obtain ⟨h, K, hn⟩ := new_ok l hl
  obtain ⟨a, ws, cs, i1, g1, ⟨K2, hr⟩, p1, p2, c1⟩ := l2any_ok l 0 h ⟨by omega, by omega, hl⟩
  obtain ⟨z, i2, g2, e2, _, c2⟩ := int_ok l i1 g1 [0, 1, 2, 5, 20, 21, (-1)] c1 (by decide) (by decide)
  exact ⟨a, ws, cs, z, ⟨K + K2, fun k hk => by simp only [spec_DrawFillMagazine.f, hn k (by omega), hr k (by omega), e2, Option.bind_some]⟩, p2⟩
def fillRows (n : Nat) : Nat → List Int → List (List S30)
  | _, [] => []
  | i, c :: r => List.replicate n ⟨(i : Int), c⟩ :: fillRows n (i + 1) r
def fillMag (a : ByteArray) (ws cs : List Int) (each : Int) : List (List S30) × Bool := if fontB a ws cs = true ∧ 0 ≤ each ∧ each ≤ 20 then (fillRows each.toNat 0 cs, true) else ([], false)
theorem fillRows_length (n : Nat) : ∀ (cs : List Int) (i : Nat), (fillRows n i cs).length = cs.length
  | [], _ => rfl
  | c :: r, i => by rw [fillRows, List.length_cons, List.length_cons, fillRows_length n r]
theorem fillRows_rows (n : Nat) : ∀ (cs : List Int) (i : Nat), ∀ r ∈ fillRows n i cs, r.length = n
  | [], _ => by simp [fillRows]
  | c :: t, i => by
    intro r hr
    rw [fillRows] at hr
    rcases List.mem_cons.1 hr with rfl | h
    · simp
    · exact fillRows_rows n t (i + 1) r h
theorem impl_fill_loop (cs : List Int) (n : Nat) (hn : n ≤ 20) (hc : cs.length ≤ 40) : ∀ d i (acc : List (List S30)), i + d = cs.length → acc.length = i → Ev (fun k => impl_FillMagazine.l0 k (n : Int) acc cs (cs.length : Int) (i : Int)) (acc ++ fillRows n i (cs.drop i), true) := by
  intro d
  induction d with
  | zero =>
    intro i acc hi ha
    rw [List.drop_eq_nil_of_le (by omega), fillRows, List.append_nil]
    exact ev_step1 (fun k => by simp only [impl_FillMagazine.l0]; rw [if_neg (by omega)])
  | succ d ih =>
    intro i acc hi ha
    have hi' : i < cs.length := by omega
    have h := ih (i + 1) (acc ++ [List.replicate n ⟨(i : Int), cs[i]⟩]) (by omega) (by rw [List.length_append, List.length_singleton]; omega)
    rw [List.append_assoc, List.singleton_append] at h
    rw [List.drop_eq_getElem_cons hi', fillRows]
    refine Ev.step (fun k => ?_) h
    simp only [impl_FillMagazine.l0]
    rw [if_pos (by omega), if_pos (by omega), if_pos (by omega), rd_nat cs i hi', impl_Matrix_91.f, if_pos ⟨rfl, by omega, by omega⟩, Option.bind_some, if_pos (by omega), w1 i (by omega), Int.toNat_natCast]
    rfl
theorem impl_FillMagazine_ev (a : ByteArray) (ws cs : List Int) (each : Int) (hl : cs.length ≤ 1099511627776) : Ev (fun k => impl_FillMagazine.f k a ws cs each) (fillMag a ws cs each) := by
  obtain ⟨K, f⟩ := impl_FontOk_ev a ws cs hl
  replace f : ∀ k, K ≤ k → impl_FontOk.f k a ws cs = some (fontB a ws cs) := f
  unfold fillMag
  by_cases h : fontB a ws cs = true
  case neg =>
    rw [if_neg (fun q => h q.1)]
    refine ⟨K + 1, fun k hk => ?_⟩
    obtain ⟨k, rfl⟩ : ∃ z, k = z + 1 := ⟨k - 1, by omega⟩
    simp only [impl_FillMagazine.f, f (k + 1) (by omega), Option.bind_some, if_neg h, impl_FillMagazine.j0, if_true]
  by_cases h1 : each < 0
  · rw [if_neg (fun q => by omega)]
    refine ⟨K + 1, fun k hk => ?_⟩
    obtain ⟨k, rfl⟩ : ∃ z, k = z + 1 := ⟨k - 1, by omega⟩
    simp only [impl_FillMagazine.f, f (k + 1) (by omega), Option.bind_some, if_pos h, if_pos h1, impl_FillMagazine.j0, if_true]
  by_cases h2 : each > 20
  · rw [if_neg (fun q => by omega)]
    refine ⟨K + 1, fun k hk => ?_⟩
    obtain ⟨k, rfl⟩ : ∃ z, k = z + 1 := ⟨k - 1, by omega⟩
    simp only [impl_FillMagazine.f, f (k + 1) (by omega), Option.bind_some, if_pos h, if_neg h1, decide_eq_true h2, impl_FillMagazine.j0, if_true]
  rw [if_pos ⟨h, by omega, by omega⟩]
  obtain ⟨n, rfl⟩ := Int.eq_ofNat_of_zero_le (show 0 ≤ each by omega)
  obtain ⟨_, l2, _, l4⟩ := fontB_len a ws cs h
  obtain ⟨K2, f2⟩ := impl_fill_loop cs n (by omega) (by omega) cs.length 0 [] (by omega) rfl
  rw [List.drop_zero, List.nil_append] at f2
  refine ⟨K + K2 + 1, fun k hk => ?_⟩
  obtain ⟨k, rfl⟩ : ∃ z, k = z + 1 := ⟨k - 1, by omega⟩
  simp only [impl_FillMagazine.f, f (k + 1) (by omega), Option.bind_some, if_pos h, if_neg h1, decide_eq_false h2, impl_FillMagazine.j0, Bool.false_eq_true, if_false, Int.toNat_natCast]
  exact f2 k (by omega)
/-- The first place of a letter from a place on; -1 if there is none. -/
def keyF (a : ByteArray) (letter : Int) : Nat → Nat → Int
  | _, 0 => -1
  | i, c + 1 => if wrap64 (bt a (i : Int)) = letter then (i : Int) else keyF a letter (i + 1) c
theorem impl_key_ev (a : ByteArray) (ws cs : List Int) (letter : Int) (hs : a.size ≤ 40) : Ev (fun k => impl_key.f k a ws cs letter) (keyF a letter 0 a.size) := by
  have main : ∀ d i, i + d = a.size → Ev (fun k => impl_key.l0 k letter (a.size : Int) (i : Int) a ws cs) (keyF a letter i d) := by
    intro d
    induction d with
    | zero =>
      intro i hi
      refine ev_step1 (fun k => ?_)
      simp only [impl_key.l0, keyF]
      rw [if_neg (by omega)]
    | succ d ih =>
      intro i hi
      rw [keyF]
      by_cases e : wrap64 (bt a (i : Int)) = letter
      · rw [if_pos e]
        refine ev_step1 (fun k => ?_)
        simp only [impl_key.l0]
        rw [if_pos (by omega), if_pos (by omega), if_pos (by omega), if_pos e]
      · rw [if_neg e]
        refine Ev.step (fun k => ?_) (ih (i + 1) (by omega))
        simp only [impl_key.l0]
        rw [if_pos (by omega), if_pos (by omega), if_pos (by omega), if_neg e, w1 i (by omega)]
  exact main a.size 0 (by omega)
def keyOf (a : ByteArray) (ws cs : List Int) (letter : Int) : Int := if fontB a ws cs = true then keyF a letter 0 a.size else -1
theorem impl_KeyOf_ev (a : ByteArray) (ws cs : List Int) (letter : Int) (hl : cs.length ≤ 1099511627776) : Ev (fun k => impl_KeyOf.f k a ws cs letter) (keyOf a ws cs letter) := by
  obtain ⟨K1, f1⟩ := impl_FontOk_ev a ws cs hl
  unfold keyOf
  by_cases hf : fontB a ws cs = true
  · obtain ⟨K2, f2⟩ := impl_key_ev a ws cs letter (fontB_len a ws cs hf).2.1
    rw [if_pos hf]
    refine ⟨K1 + K2, fun k hk => ?_⟩
    simp only [impl_KeyOf.f, f1 k (by omega), f2 k (by omega), hf, Option.bind_some, if_true]
  · rw [if_neg hf]
    refine ⟨K1, fun k hk => ?_⟩
    simp only [impl_KeyOf.f, f1 k hk, Option.bind_some, if_neg hf]
def kindN (q : Nat) (l : List S30) : Nat := (l.map fun x => x.f0).count (q : Int)
theorem kindN_append (q : Nat) (a b : List S30) : kindN q (a ++ b) = kindN q a + kindN q b := by simp [kindN]
theorem kindN_cons (q : Nat) (x : S30) (b : List S30) : kindN q (x :: b) = kindN q b + if x.f0 = (q : Int) then 1 else 0 := by simp [kindN, List.count_cons]
theorem kcRow_append : ∀ (a b : List S30) (o : List Int), kcRow o (a ++ b) = kcRow (kcRow o a) b
  | [], b, o => rfl
  | x :: r, b, o => by rw [List.cons_append, kcRow, kcRow, kcRow_append r b]
theorem kcAll_flat : ∀ (m : List (List S30)) (o : List Int), kcAll o m = kcRow o m.flatten
  | [], o => rfl
  | ch :: r, o => by rw [kcAll, List.flatten_cons, kcRow_append, kcAll_flat r]
theorem getD_setI (o : List Int) (i q : Nat) (v : Int) (h : i < o.length) : (o.set i v).getD q 0 = if i = q then v else o.getD q 0 := by
  rw [List.getD_eq_getElem?_getD, List.getElem?_set, List.getD_eq_getElem?_getD]
  by_cases e : i = q
  · subst e; rw [if_pos rfl, if_pos h, if_pos rfl]; rfl
  · rw [if_neg e, if_neg e]
theorem kcRow_get (N : Nat) : ∀ (ch : List S30) (o : List Int), o.length = N → (∀ x ∈ ch, 0 ≤ x.f0 ∧ x.f0 < (N : Int)) → (∀ q, 0 ≤ o.getD q 0 ∧ o.getD q 0 + (ch.length : Int) ≤ 1000000) → ∀ q, (kcRow o ch).getD q 0 = o.getD q 0 + (kindN q ch : Int)
  | [], o, _, _, _, q => by simp [kcRow, kindN]
  | x :: r, o, ho, hx, hb, q => by
    obtain ⟨z, hz⟩ := Int.eq_ofNat_of_zero_le (hx x List.mem_cons_self).1
    have hzN := (hx x List.mem_cons_self).2
    have e0 : rd o x.f0 = o.getD z 0 := by unfold rd; rw [hz, Int.toNat_natCast]
    have hbz := hb z
    rw [List.length_cons] at hbz
    have hg := fun q => getD_setI o z q (o.getD z 0 + 1) (by omega)
    rw [kcRow, e0, wrap_id _ (by omega) (by omega), hz, Int.toNat_natCast, kcRow_get N r _ (by rw [List.length_set]; exact ho) (fun y hy => hx y (List.mem_cons_of_mem _ hy)) (fun q => ?_) q, hg, kindN_cons, hz]
    · by_cases e : z = q
      · subst e; rw [if_pos rfl, if_pos rfl]; omega
      · rw [if_neg e, if_neg (by omega)]; omega
    · rw [hg]
      have := hb q
      rw [List.length_cons] at this
      by_cases e : z = q
      · rw [if_pos e]; subst e; omega
      · rw [if_neg e]; omega
theorem flat_len (c : Nat) : ∀ m : List (List S30), (∀ ch ∈ m, ch.length ≤ c) → m.flatten.length ≤ m.length * c
  | [], _ => by simp
  | ch :: r, h => by
    have h1 := flat_len c r (fun x hx => h x (List.mem_cons_of_mem _ hx))
    have h2 := h ch List.mem_cons_self
    rw [List.flatten_cons, List.length_append, List.length_cons, Nat.add_mul, Nat.one_mul]; omega
theorem kc_flat (m : List (List S30)) (N : Nat) (hl : m.flatten.length ≤ 1000000) (hx : ∀ x ∈ m.flatten, 0 ≤ x.f0 ∧ x.f0 < (N : Int)) : kcAll (List.replicate N 0) m = (List.range N).map fun q => (kindN q m.flatten : Int) := by
  rw [kcAll_flat]
  have hz : ∀ q, (List.replicate N (0 : Int)).getD q 0 = 0 := fun q => by
    rw [List.getD_eq_getElem?_getD, List.getElem?_replicate]; split <;> rfl
  have h := kcRow_get N m.flatten (List.replicate N 0) (by simp) hx (fun q => by rw [hz]; omega)
  apply List.ext_getElem
  · rw [kcRow_length]; simp
  · intro q h1 h2
    have h3 := h q
    rw [hz, List.getD_eq_getElem?_getD, List.getElem?_eq_getElem h1] at h3
    simp only [Option.getD_some] at h3
    rw [h3]
    simp
def sumC (q : Int → S30 → Bool) : Int → List (List S30) → Nat
  | _, [] => 0
  | i, ch :: r => ch.countP (q i) + sumC q (i + 1) r
theorem cntRow_eq (q : Int → S30 → Bool) (i : Int) : ∀ (ch : List S30) (n : Int), 0 ≤ n → n + (ch.length : Int) ≤ 1000000 → cntRow q i ch n = n + (ch.countP (q i) : Int)
  | [], n, _, _ => by simp [cntRow]
  | x :: r, n, h0, h1 => by
    rw [List.length_cons] at h1
    rw [cntRow, List.countP_cons]
    by_cases e : q i x = true
    · rw [if_pos e, if_pos e, wrap_id _ (by omega) (by omega), cntRow_eq q i r (n + 1) (by omega) (by omega)]; omega
    · rw [if_neg e, if_neg e, cntRow_eq q i r n h0 (by omega)]; omega
theorem cntAll_eq (q : Int → S30 → Bool) : ∀ (m : List (List S30)) (i n : Int), 0 ≤ n → n + (m.flatten.length : Int) ≤ 1000000 → cntAll q i m n = n + (sumC q i m : Int)
  | [], i, n, _, _ => by simp [cntAll, sumC]
  | ch :: r, i, n, h0, h1 => by
    rw [List.flatten_cons, List.length_append] at h1
    have h2 := List.countP_le_length (p := q i) (l := ch)
    rw [cntAll, sumC, cntRow_eq q i ch n h0 (by omega), cntAll_eq q r (i + 1) _ (by omega) (by omega)]; omega
theorem sumC_flat (p : S30 → Bool) : ∀ (m : List (List S30)) (i : Int), sumC (fun _ x => p x) i m = m.flatten.countP p
  | [], _ => rfl
  | ch :: r, i => by rw [sumC, List.flatten_cons, List.countP_append, sumC_flat p r]
theorem sumC_zero (q : Int → S30 → Bool) : ∀ (m : List (List S30)) (i : Int), (∀ j (h : j < m.length), ∀ x ∈ m[j], q (i + j) x = false) → sumC q i m = 0
  | [], _, _ => rfl
  | ch :: r, i, h => by
    have h0 := h 0 (by simp)
    rw [sumC, sumC_zero q r (i + 1) (fun j hj x hx => ?_), Nat.add_zero, List.countP_eq_zero.2]
    · intro x hx
      have := h0 x hx
      simp at this
      simp [this]
    · have := h (j + 1) (by simpa using hj) x (by simpa using hx)
      rw [show i + ((j + 1 : Nat) : Int) = i + 1 + (j : Int) by omega] at this
      exact this
theorem lcount_ev (l : List Int) (x : Int) (hl : l.length ≤ 1000) : Ev (fun k => laws_count.f k l x) (l.count x : Int) := by
  have main : ∀ d i (a : Int), i + d = l.length → 0 ≤ a → a ≤ i → Ev (fun k => laws_count.l0 k x a l (l.length : Int) (i : Int)) (a + ((l.drop i).count x : Int)) := by
    intro d
    induction d with
    | zero =>
      intro i a hi h0 h1
      rw [List.drop_eq_nil_of_le (by omega)]
      refine ev_step1 (fun k => ?_)
      simp only [laws_count.l0]
      rw [if_neg (by omega)]
      simp
    | succ d ih =>
      intro i a hi h0 h1
      have hi' : i < l.length := by omega
      rw [List.drop_eq_getElem_cons hi', List.count_cons]
      have hw : wrap64 (a + 1) = a + 1 := wrap_id _ (by omega) (by omega)
      by_cases e : l[i] = x
      · rw [if_pos (by simpa using e)]
        have h := ih (i + 1) (a + 1) (by omega) (by omega) (by omega)
        rw [show a + (((l.drop (i + 1)).count x + 1 : Nat) : Int) = a + 1 + ((l.drop (i + 1)).count x : Int) by omega]
        refine Ev.step (fun k => ?_) h
        simp only [laws_count.l0]
        rw [if_pos (by omega), if_pos (by omega), if_pos (by omega), rd_nat l i hi', if_pos e, w1 i (by omega), hw]
      · rw [if_neg (by simpa using e), Nat.add_zero]
        refine Ev.step (fun k => ?_) (ih (i + 1) a (by omega) h0 (by omega))
        simp only [laws_count.l0]
        rw [if_pos (by omega), if_pos (by omega), if_pos (by omega), rd_nat l i hi', if_neg e, w1 i (by omega)]
  have h := main l.length 0 0 (by omega) (by omega) (by omega)
  rw [List.drop_zero, Int.zero_add] at h
  exact h
theorem mag_elem (a : ByteArray) (ws cs : List Int) (m : List (List S30)) (h : magazineOk a ws cs m = true) (ch : List S30) (hc : ch ∈ m) (x : S30) (hx : x ∈ ch) : matB a cs x.f0 x.f1 = true := by
  unfold magazineOk at h
  rw [Bool.and_eq_true] at h
  have h4 := List.all_eq_true.1 h.2 ch hc
  unfold chanB at h4
  rw [Bool.and_eq_true] at h4
  exact List.all_eq_true.1 h4.2 x hx
def countWorn (a : ByteArray) (ws cs : List Int) (m : List (List S30)) : Int := if magazineOk a ws cs m = true then cntAll (fun _ x => x.f1 != rd cs x.f0) 0 m 0 else -1
theorem impl_CountWorn_ev (a : ByteArray) (ws cs : List Int) (m : List (List S30)) (hl : cs.length ≤ 1099511627776) : Ev (fun k => impl_CountWorn.f k a ws cs m) (countWorn a ws cs m) := by
  obtain ⟨K, f⟩ := impl_MagazineOk_ev a ws cs m hl
  refine ⟨K, fun k hk => ?_⟩
  by_cases h : magazineOk a ws cs m = true
  · obtain ⟨h1, h2, h3⟩ := mag_rows a ws cs m h
    have hall : (m.all fun ch => ch.all fun x => decide (0 ≤ x.f0) && decide (x.f0 < (cs.length : Int))) = true := by
      rw [List.all_eq_true]
      intro ch hc
      rw [List.all_eq_true]
      intro x hx
      have := (h3 ch hc).2 x hx
      rw [Bool.and_eq_true, decide_eq_true_eq, decide_eq_true_eq]
      omega
    simp only [impl_CountWorn.f, f k hk, Option.bind_some, countWorn, h, if_true, hall]
  · simp only [impl_CountWorn.f, f k hk, Option.bind_some, countWorn, if_neg h]
/-- Each channel holds its own kind alone. -/
def pureR (o : List (List S30)) : Prop := ∀ q, ∀ x ∈ o.getD q [], x.f0 = (q : Int)
theorem pureR_get (o : List (List S30)) (h : pureR o) (j : Nat) (hj : j < o.length) : ∀ x ∈ o[j], x.f0 = (j : Int) := by
  intro x hx
  refine h j x ?_
  rw [List.getD_eq_getElem?_getD, List.getElem?_eq_getElem hj]; exact hx
theorem mag_iff (a : ByteArray) (ws cs : List Int) (m : List (List S30)) : magazineOk a ws cs m = true ↔ fontB a ws cs = true ∧ m.length = a.size ∧ ∀ ch ∈ m, ch.length ≤ 20 ∧ ∀ x ∈ ch, matB a cs x.f0 x.f1 = true := by
  unfold magazineOk chanB
  simp only [Bool.and_eq_true, List.all_eq_true, decide_eq_true_eq, and_assoc]
theorem mag_flat (a : ByteArray) (ws cs : List Int) (m : List (List S30)) (h : magazineOk a ws cs m = true) : m.flatten.length ≤ 800 ∧ (∀ x ∈ m.flatten, 0 ≤ x.f0 ∧ x.f0 < (m.length : Int)) ∧ ∀ x ∈ m.flatten, matB a cs x.f0 x.f1 = true := by
  obtain ⟨h1, h2, h3, h4⟩ := mag_rows2 a ws cs m h
  have hf := flat_len 20 m h4
  have hm : m.length * 20 ≤ 40 * 20 := Nat.mul_le_mul_right _ h1
  have hall : ∀ x ∈ m.flatten, matB a cs x.f0 x.f1 = true := fun x hx => by
    obtain ⟨ch, hc, hxc⟩ := List.mem_flatten.1 hx
    exact mag_elem a ws cs m h ch hc x hxc
  exact ⟨by omega, fun x hx => by have := matB_range a cs _ _ (hall x hx); omega, hall⟩
theorem kindCounts_eq (a : ByteArray) (ws cs : List Int) (m : List (List S30)) (h : magazineOk a ws cs m = true) : kindCounts a ws cs m = (List.range m.length).map fun q => (kindN q m.flatten : Int) := by
  obtain ⟨h1, h2, _⟩ := mag_flat a ws cs m h
  unfold kindCounts
  rw [if_pos h]
  exact kc_flat m m.length (by omega) h2
theorem countStrays_eq (a : ByteArray) (ws cs : List Int) (m : List (List S30)) (h : magazineOk a ws cs m = true) : countStrays a ws cs m = (sumC (fun i x => x.f0 != i) 0 m : Int) := by
  obtain ⟨h1, h2, _⟩ := mag_flat a ws cs m h
  unfold countStrays
  rw [if_pos h, cntAll_eq _ m 0 0 (by omega) (by omega), Int.zero_add]
theorem countWorn_eq (a : ByteArray) (ws cs : List Int) (m : List (List S30)) (h : magazineOk a ws cs m = true) : countWorn a ws cs m = (m.flatten.countP (fun x => x.f1 != rd cs x.f0) : Int) := by
  obtain ⟨h1, h2, _⟩ := mag_flat a ws cs m h
  unfold countWorn
  rw [if_pos h, cntAll_eq _ m 0 0 (by omega) (by omega), Int.zero_add, sumC_flat]
theorem strays_zero (a : ByteArray) (ws cs : List Int) (m : List (List S30)) (h : magazineOk a ws cs m = true) (hp : pureR m) : countStrays a ws cs m = 0 := by
  rw [countStrays_eq a ws cs m h, sumC_zero]
  · rfl
  · intro j hj x hx
    rw [pureR_get m hp j hj x hx, Int.zero_add]; simp
theorem part_self_all : ∀ s : Nat, s < 128 → partB (s : Int) (s : Int) = true := by decide +kernel
theorem fontB_iff (a : ByteArray) (ws cs : List Int) : fontB a ws cs = true ↔ (1 ≤ a.size ∧ a.size ≤ 40 ∧ ws.length = a.size ∧ cs.length = a.size) ∧ letA [] a.data.toList = true ∧ between ws 1 60 = true ∧ sortsAll cs = true := by
  unfold fontB
  by_cases h : 1 ≤ a.size ∧ a.size ≤ 40 ∧ ws.length = a.size ∧ cs.length = a.size
  · rw [if_pos h, Bool.and_eq_true, Bool.and_eq_true, and_assoc]
    exact ⟨fun q => ⟨h, q⟩, fun q => q.2⟩
  · rw [if_neg h]
    exact ⟨fun q => by simp at q, fun q => absurd q.1 h⟩
theorem font_code (a : ByteArray) (ws cs : List Int) (h : fontB a ws cs = true) (i : Nat) (hi : i < cs.length) : matB a cs (i : Int) cs[i] = true := by
  obtain ⟨⟨_, _, _, l4⟩, _, _, h1⟩ := (fontB_iff a ws cs).1 h
  unfold sortsAll at h1
  rw [Bool.and_eq_true] at h1
  have h2 := ((isBar_iff cs).1 h1.1).2.2 _ (List.getElem_mem hi)
  have h3 := part_self_all cs[i].toNat (by omega)
  rw [Int.toNat_of_nonneg h2.1] at h3
  unfold matB
  rw [rd_nat cs i hi, h3, (isSetB_iff _).2 h2, decide_eq_true (show (0 : Int) ≤ (i : Int) by omega), decide_eq_true (show (i : Int) < (a.size : Int) by omega)]
  rfl
theorem fillRows_get (n : Nat) : ∀ (cs : List Int) (i j : Nat) (h : j < cs.length) (h' : j < (fillRows n i cs).length), (fillRows n i cs)[j] = List.replicate n ⟨((i + j : Nat) : Int), cs[j]⟩
  | [], i, j, h, _ => absurd h (by simp)
  | c :: r, i, 0, _, _ => rfl
  | c :: r, i, j + 1, h, h' => by
    have ih := fillRows_get n r (i + 1) j (by simpa using h) (by rw [fillRows_length]; simpa using h)
    simp only [fillRows, List.getElem_cons_succ]
    rw [ih, show i + 1 + j = i + (j + 1) by omega]
theorem fill_mem (n : Nat) (cs : List Int) (x : S30) (ch : List S30) (hc : ch ∈ fillRows n 0 cs) (hx : x ∈ ch) : ∃ j, ∃ h : j < cs.length, x = ⟨(j : Int), cs[j]⟩ := by
  obtain ⟨j, hj, rfl⟩ := List.getElem_of_mem hc
  have hj' : j < cs.length := by rwa [fillRows_length] at hj
  rw [fillRows_get n cs 0 j hj' hj, Nat.zero_add] at hx
  exact ⟨j, hj', (List.mem_replicate.1 hx).2⟩
theorem fill_mag (a : ByteArray) (ws cs : List Int) (n : Nat) (h : fontB a ws cs = true) (hn : n ≤ 20) : magazineOk a ws cs (fillRows n 0 cs) = true := by
  obtain ⟨_, _, _, l4⟩ := fontB_len a ws cs h
  refine (mag_iff a ws cs _).2 ⟨h, by rw [fillRows_length]; exact l4, fun ch hc => ⟨by rw [fillRows_rows n cs 0 ch hc]; exact hn, fun x hx => ?_⟩⟩
  obtain ⟨j, hj, rfl⟩ := fill_mem n cs x ch hc hx
  exact font_code a ws cs h j hj
theorem fill_pure (n : Nat) (cs : List Int) : pureR (fillRows n 0 cs) := by
  intro q x hx
  rw [List.getD_eq_getElem?_getD] at hx
  by_cases hq : q < (fillRows n 0 cs).length
  · rw [List.getElem?_eq_getElem hq] at hx
    have hq' : q < cs.length := by rwa [fillRows_length] at hq
    simp only [Option.getD_some] at hx
    rw [fillRows_get n cs 0 q hq' hq, Nat.zero_add] at hx
    rw [(List.mem_replicate.1 hx).2]
  · rw [List.getElem?_eq_none (by omega)] at hx; cases hx
theorem fill_worn (a : ByteArray) (ws cs : List Int) (n : Nat) (h : fontB a ws cs = true) (hn : n ≤ 20) : countWorn a ws cs (fillRows n 0 cs) = 0 := by
  rw [countWorn_eq a ws cs _ (fill_mag a ws cs n h hn), List.countP_eq_zero.2]
  · rfl
  · intro x hx
    obtain ⟨ch, hc, hxc⟩ := List.mem_flatten.1 hx
    obtain ⟨j, hj, rfl⟩ := fill_mem n cs x ch hc hxc
    simp only [rd_nat cs j hj]
    simp
theorem kindN_rep (q n : Nat) (x : S30) : kindN q (List.replicate n x) = if x.f0 = (q : Int) then n else 0 := by
  unfold kindN
  rw [List.map_replicate, List.count_replicate]
  by_cases e : x.f0 = (q : Int)
  · rw [if_pos e, if_pos (by simpa using e)]
  · rw [if_neg e, if_neg (by simpa using e)]
theorem fill_kind (n : Nat) : ∀ (cs : List Int) (i q : Nat), kindN q (fillRows n i cs).flatten = if i ≤ q ∧ q < i + cs.length then n else 0
  | [], i, q => by rw [if_neg (by rw [List.length_nil]; omega)]; rfl
  | c :: r, i, q => by
    rw [fillRows, List.flatten_cons, kindN_append, kindN_rep, fill_kind n r (i + 1) q, List.length_cons]
    by_cases e : i = q
    · subst e; rw [if_pos rfl, if_neg (by omega), if_pos (by omega), Nat.add_zero]
    · rw [if_neg (by simp only; omega)]
      by_cases e2 : i + 1 ≤ q ∧ q < i + 1 + r.length
      · rw [if_pos e2, if_pos (by omega)]; omega
      · rw [if_neg e2, if_neg (by omega)]
theorem fill_counts (a : ByteArray) (ws cs : List Int) (n : Nat) (h : fontB a ws cs = true) (hn : n ≤ 20) : kindCounts a ws cs (fillRows n 0 cs) = List.replicate cs.length (n : Int) := by
  rw [kindCounts_eq a ws cs _ (fill_mag a ws cs n h hn), fillRows_length]
  apply List.ext_getElem
  · simp
  · intro q h1 h2
    have hq : q < cs.length := by simpa using h2
    simp only [List.getElem_map, List.getElem_range, List.getElem_replicate, fill_kind]
    rw [if_pos (by omega)]
theorem letters_row (a : ByteArray) (ws cs : List Int) (n i : Nat) (h : fontB a ws cs = true) (hi : i < cs.length) : lettersOf a ws cs (List.replicate n ⟨(i : Int), cs[i]⟩) = strOfNums (List.replicate n (bt a (i : Int))) := by
  unfold lettersOf
  rw [if_pos, List.map_replicate]
  refine ⟨h, ?_⟩
  rw [List.all_eq_true]
  intro x hx
  rw [(List.mem_replicate.1 hx).2]
  exact font_code a ws cs h i hi
theorem letA_no : ∀ (l d : List UInt8), letA d l = true → ∀ j (h : j < l.length), l[j] ∉ d ++ l.take j
  | [], d, _, j, h => absurd h (by simp)
  | c :: r, d, hl, j, h => by
    rw [letA, Bool.and_eq_true, Bool.and_eq_true] at hl
    cases j with
    | zero => simpa using hl.1.2
    | succ j =>
      have ih := letA_no r (d ++ [c]) hl.2 j (by simpa using h)
      simpa using ih
theorem letters_apart (a : ByteArray) (h : letA [] a.data.toList = true) (j i : Nat) (hji : j < i) (hi : i < a.size) : bt a (j : Int) ≠ bt a (i : Int) := by
  obtain ⟨x, hx, ex⟩ := bt_get a i hi
  obtain ⟨y, hy, ey⟩ := bt_get a j (by omega)
  obtain ⟨h1, e1⟩ := List.getElem?_eq_some_iff.1 hx
  obtain ⟨h2, e2⟩ := List.getElem?_eq_some_iff.1 hy
  intro e
  have hxy : x = y := by
    apply UInt8.toNat_inj.1
    rw [ex, ey] at e; omega
  have h3 := letA_no _ _ h i h1
  apply h3
  rw [List.nil_append, e1, hxy, ← e2, List.mem_take_iff_getElem]
  exact ⟨j, by omega, rfl⟩
theorem bt_small (a : ByteArray) (i : Nat) (hi : i < a.size) : 0 ≤ bt a (i : Int) ∧ bt a (i : Int) ≤ 255 := by
  obtain ⟨x, _, ex⟩ := bt_get a i hi
  have := x.toNat_lt
  omega
theorem keyF_own (a : ByteArray) (h : letA [] a.data.toList = true) (i : Nat) (hi : i < a.size) : ∀ c j, j ≤ i → i < j + c → j + c ≤ a.size → keyF a (wrap64 (bt a (i : Int))) j c = (i : Int)
  | 0, j, h1, h2, _ => by omega
  | c + 1, j, h1, h2, h3 => by
    have b1 := bt_small a i hi
    have b2 := bt_small a j (by omega)
    rw [keyF, wrap_id (bt a (i : Int)) (by omega) (by omega), wrap_id (bt a (j : Int)) (by omega) (by omega)]
    by_cases e : j = i
    · rw [e, if_pos rfl]
    · rw [if_neg (letters_apart a h j i (by omega) hi)]
      have ih := keyF_own a h i hi c (j + 1) (by omega) (by omega) (by omega)
      rwa [wrap_id (bt a (i : Int)) (by omega) (by omega)] at ih
theorem keyOf_own (a : ByteArray) (ws cs : List Int) (h : fontB a ws cs = true) (i : Nat) (hi : i < a.size) : keyOf a ws cs (wrap64 (bt a (i : Int))) = (i : Int) := by
  unfold keyOf
  rw [if_pos h]
  exact keyF_own a ((fontB_iff a ws cs).1 h).2.1 i hi a.size 0 (by omega) (by omega) (by omega)
end Go.Proofs.Ytilbngklgjjblaa.Q
