/- The plain laws that the proof of one statement needs. Conditions: those that each lemma names. -/
import Derived.Test.YtilbngklgjjblaaQ0
import Derived.Test.YtilbngklgjjblaaQ1
import Derived.Test.YtilbngklgjjblaaQ10
import Derived.Test.YtilbngklgjjblaaQ11
import Derived.Test.YtilbngklgjjblaaQ12
import Derived.Test.YtilbngklgjjblaaQ13
import Derived.Test.YtilbngklgjjblaaQ14
import Derived.Test.YtilbngklgjjblaaQ15
import Derived.Test.YtilbngklgjjblaaQ16
import Derived.Test.YtilbngklgjjblaaQ17
import Derived.Test.YtilbngklgjjblaaQ2
import Derived.Test.YtilbngklgjjblaaQ3
import Derived.Test.YtilbngklgjjblaaQ4
import Derived.Test.YtilbngklgjjblaaQ5
import Derived.Test.YtilbngklgjjblaaQ6
import Derived.Test.YtilbngklgjjblaaQ7
import Derived.Test.YtilbngklgjjblaaQ8
import Derived.Test.YtilbngklgjjblaaQ9
namespace Go.Proofs.Ytilbngklgjjblaa.Q
open Go.RowKit Go.Proofs.YtilbngklgjjblaaW.PrintWords Go.Proofs.YtilbngklgjjblaaW.PrintLast Go.Proofs.YtilbngklgjjblaaW.PrintMore
set_option linter.unusedVariables false
set_option linter.unusedSimpArgs false
theorem w1 (i : Nat) (h : i ≤ 4611686018427387904) : wrap64 ((i : Int) + 1) = ((i + 1 : Nat) : Int) := by unfold wrap64; omega
theorem wrap_id (x : Int) (h1 : -9223372036854775808 ≤ x) (h2 : x ≤ 9223372036854775807) : wrap64 x = x := by unfold wrap64; omega
theorem rd_nat (l : List Int) (i : Nat) (h : i < l.length) : rd l (i : Int) = l[i] := by simp [rd, List.getD_eq_getElem?_getD, h]
theorem rdOf_nat {α : Type} (d : α) (l : List α) (i : Nat) (h : i < l.length) : rdOf d l (i : Int) = l[i] := by simp [rdOf, List.getD_eq_getElem?_getD, h]
/-- A loop that counts up to n: from its end downwards. -/
theorem ev_down {σ β : Type} (L : Nat → σ → Int → Option β) (n : Nat) (I : Nat → σ → Prop) (G : Nat → σ → β)
    (hend : ∀ s, I n s → Ev (fun k => L k s (n : Int)) (G n s))
    (hstep : ∀ i s, i < n → I i s → (∀ s', I (i + 1) s' → Ev (fun k => L k s' ((i + 1 : Nat) : Int)) (G (i + 1) s')) → Ev (fun k => L k s (i : Int)) (G i s)) :
    ∀ i s, i ≤ n → I i s → Ev (fun k => L k s (i : Int)) (G i s) := by
  have key : ∀ d i s, n - i = d → i ≤ n → I i s → Ev (fun k => L k s (i : Int)) (G i s) := by
    intro d
    induction d with
    | zero => intro i s hd hi hI; obtain rfl : i = n := by omega
              exact hend s hI
    | succ d ih => intro i s hd hi hI; exact hstep i s (by omega) hI (fun s' hI' => ih (i + 1) s' (by omega) (by omega) hI')
  exact fun i s hi hI => key _ i s rfl hi hI
/-- The same without a state. -/
theorem ev_down0 {β : Type} (L : Nat → Int → Option β) (n : Nat) (G : Nat → β)
    (hend : Ev (fun k => L k (n : Int)) (G n))
    (hstep : ∀ i, i < n → Ev (fun k => L k ((i + 1 : Nat) : Int)) (G (i + 1)) → Ev (fun k => L k (i : Int)) (G i)) :
    ∀ i, i ≤ n → Ev (fun k => L k (i : Int)) (G i) :=
  fun i hi => ev_down (σ := Unit) (fun k _ j => L k j) n (fun _ _ => True) (fun j _ => G j) (fun _ _ => hend) (fun j _ hj _ h => hstep j hj (h () trivial)) i () hi trivial
theorem ev_eq {α : Type} {g f : Nat → Option α} {r : α} (k : Ev f r) (h : ∀ k, g k = f k) : Ev g r := Ev.congr h k
theorem ev_const {α : Type} {g : Nat → Option α} {r : α} (h : ∀ k, g k = some r) : Ev g r := ⟨0, fun k _ => h k⟩
theorem ev_step1 {α : Type} {g : Nat → Option α} {r : α} (h : ∀ k, g (k + 1) = some r) : Ev g r := Ev.step h (Ev.now r)
def isSetB (s : Int) : Bool := decide (0 ≤ s) && decide (s ≤ 127)
theorem isSetB_iff (s : Int) : isSetB s = true ↔ 0 ≤ s ∧ s ≤ 127 := by simp [isSetB]
theorem l1In_eq (a b c : Int) : spec_l1In.f a b c = some (decide (b ≤ a) && decide (a ≤ c)) := by
  unfold spec_l1In.f
  by_cases h : a ≥ b
  · rw [if_pos h]; simp [show b ≤ a from h]
  · rw [if_neg h]; simp [show ¬ b ≤ a from h]
theorem l1Set_eq (s : Int) : spec_l1Set.f s = some (isSetB s) := by
  unfold spec_l1Set.f
  rw [l1In_eq]; rfl
theorem isSet_eq (s : Int) : impl_isSet.f s = some (isSetB s) := by
  unfold impl_isSet.f isSetB
  by_cases h : s ≥ 0
  · rw [if_pos h]; simp [show 0 ≤ s from h]
  · rw [if_neg h]; simp [show ¬ 0 ≤ s from h]
theorem isBar_eq (l : List Int) : impl_IsBar.f l = some (isBar l) := rfl
theorem isBar_iff (l : List Int) : isBar l = true ↔ 1 ≤ l.length ∧ l.length ≤ 40 ∧ ∀ s ∈ l, 0 ≤ s ∧ s ≤ 127 := by
  simp [isBar, and_assoc]
theorem spec_IsBar_ev (l : List Int) (hl : l.length ≤ 1099511627776) : Ev (fun k => spec_IsBar.f k l) (isBar l) := by
  have main : ∀ i, i ≤ l.length → Ev (fun k => spec_IsBar.l0 k l l (l.length : Int) (i : Int)) ((decide (1 ≤ l.length) && decide (l.length ≤ 40)) && (l.drop i).all isSetB) := by
    refine ev_down0 (fun k i => spec_IsBar.l0 k l l (l.length : Int) i) l.length (fun i => (decide (1 ≤ l.length) && decide (l.length ≤ 40)) && (l.drop i).all isSetB) ?_ ?_
    · refine ev_step1 (fun k => ?_)
      simp only [spec_IsBar.l0]
      rw [if_neg (by omega), l1In_eq]
      simp
      rw [show decide (1 ≤ (l.length : Int)) = decide (1 ≤ l.length) from decide_eq_decide.2 (by omega), show decide ((l.length : Int) ≤ 40) = decide (l.length ≤ 40) from decide_eq_decide.2 (by omega)]
    · intro i hi ih
      rw [List.drop_eq_getElem_cons hi, List.all_cons]
      cases e : isSetB l[i] with
      | true =>
        refine Ev.step (f := fun k => spec_IsBar.l0 k l l (l.length : Int) ((i + 1 : Nat) : Int)) (fun k => ?_) (by simpa using ih)
        simp only [spec_IsBar.l0]
        rw [if_pos (by omega), if_pos (by omega), if_pos (by omega), rd_nat l i hi, l1Set_eq, e, Option.bind_some, if_pos rfl, w1 i (by omega)]
      | false =>
        refine ev_step1 (fun k => ?_)
        simp only [spec_IsBar.l0]
        rw [if_pos (by omega), if_pos (by omega), if_pos (by omega), rd_nat l i hi, l1Set_eq, e, Option.bind_some, if_neg (by decide)]
        simp
  have h := main 0 (by omega)
  rw [List.drop_zero] at h
  exact h
def partB (s t : Int) : Bool := (Go.bits .andNot .i64 s t) == 0
theorem impl_part_eq (s t : Int) : impl_part.f s t = some (partB s t) := rfl
theorem spec_part_eq (s t : Int) : spec_l1Part.f s t = some (partB s t) := rfl
/-- The place, or the end, where a matrix falls. -/
def fallN (bar : List Int) (s : Int) : Nat := bar.findIdx (partB s)
def fallFrom (bar : List Int) (s : Int) (i : Nat) : Int := ((i + (bar.drop i).findIdx (partB s) : Nat) : Int)
theorem fallFrom_zero (bar : List Int) (s : Int) : fallFrom bar s 0 = (fallN bar s : Int) := by simp [fallFrom, fallN]
theorem fallFrom_hit (bar : List Int) (s : Int) (i : Nat) (h : i < bar.length) (e : partB s bar[i] = true) : fallFrom bar s i = (i : Int) := by
  unfold fallFrom
  rw [List.drop_eq_getElem_cons h, List.findIdx_cons, e]; rfl
theorem fallFrom_miss (bar : List Int) (s : Int) (i : Nat) (h : i < bar.length) (e : partB s bar[i] = false) : fallFrom bar s i = fallFrom bar s (i + 1) := by
  unfold fallFrom
  rw [List.drop_eq_getElem_cons h, List.findIdx_cons, e]
  simp; omega
theorem impl_fall_ev (bar : List Int) (s : Int) (hl : bar.length ≤ 1099511627776) : Ev (fun k => impl_fall.f k bar s) (fallN bar s : Int) := by
  have main : ∀ i, i ≤ bar.length → Ev (fun k => impl_fall.l0 k bar s bar (bar.length : Int) (i : Int)) (fallFrom bar s i) := by
    refine ev_down0 (fun k i => impl_fall.l0 k bar s bar (bar.length : Int) i) bar.length (fun i => fallFrom bar s i) ?_ ?_
    · refine ev_step1 (fun k => ?_)
      simp only [impl_fall.l0]
      rw [if_neg (by omega)]
      simp [fallFrom]
    · intro i hi ih
      cases e : partB s bar[i] with
      | true =>
        refine ev_step1 (fun k => ?_)
        simp only [impl_fall.l0]
        rw [if_pos (by omega), if_pos (by omega), if_pos (by omega), rd_nat bar i hi, impl_part_eq, e, Option.bind_some, if_pos rfl, fallFrom_hit bar s i hi e]
      | false =>
        rw [fallFrom_miss bar s i hi e]
        refine Ev.step (f := fun k => impl_fall.l0 k bar s bar (bar.length : Int) ((i + 1 : Nat) : Int)) (fun k => ?_) ih
        simp only [impl_fall.l0]
        rw [if_pos (by omega), if_pos (by omega), if_pos (by omega), rd_nat bar i hi, impl_part_eq, e, Option.bind_some, if_neg (by decide), w1 i (by omega)]
  have h := main 0 (by omega)
  rw [fallFrom_zero] at h
  exact h
theorem spec_fall_ev (bar : List Int) (s : Int) (hl : bar.length ≤ 1099511627776) : Ev (fun k => spec_l1Fall.f k bar s) (fallN bar s : Int) := by
  have main : ∀ i, i ≤ bar.length → Ev (fun k => spec_l1Fall.l0 k bar s bar (bar.length : Int) (i : Int)) (fallFrom bar s i) := by
    refine ev_down0 (fun k i => spec_l1Fall.l0 k bar s bar (bar.length : Int) i) bar.length (fun i => fallFrom bar s i) ?_ ?_
    · refine ev_step1 (fun k => ?_)
      simp only [spec_l1Fall.l0]
      rw [if_neg (by omega)]
      simp [fallFrom]
    · intro i hi ih
      cases e : partB s bar[i] with
      | true =>
        refine ev_step1 (fun k => ?_)
        simp only [spec_l1Fall.l0]
        rw [if_pos (by omega), if_pos (by omega), if_pos (by omega), rd_nat bar i hi, spec_part_eq, e, Option.bind_some, if_pos rfl, fallFrom_hit bar s i hi e]
      | false =>
        rw [fallFrom_miss bar s i hi e]
        refine Ev.step (f := fun k => spec_l1Fall.l0 k bar s bar (bar.length : Int) ((i + 1 : Nat) : Int)) (fun k => ?_) ih
        simp only [spec_l1Fall.l0]
        rw [if_pos (by omega), if_pos (by omega), if_pos (by omega), rd_nat bar i hi, spec_part_eq, e, Option.bind_some, if_neg (by decide), w1 i (by omega)]
  have h := main 0 (by omega)
  rw [fallFrom_zero] at h
  exact h
/-- From place i on, each set falls at its own place. -/
def sortsFrom (bar : List Int) : Nat → List Int → Bool
  | _, [] => true
  | i, s :: rest => decide (fallN bar s = i) && sortsFrom bar (i + 1) rest
def sortsAll (bar : List Int) : Bool := isBar bar && sortsFrom bar 0 bar
theorem spec_SortsAll_ev (bar : List Int) (hl : bar.length ≤ 1099511627776) : Ev (fun k => spec_SortsAll.f k bar) (sortsAll bar) := by
  have main : ∀ i, i ≤ bar.length → Ev (fun k => spec_SortsAll.l0 k bar bar (bar.length : Int) (i : Int)) (isBar bar && sortsFrom bar i (bar.drop i)) := by
    refine ev_down0 (fun k i => spec_SortsAll.l0 k bar bar (bar.length : Int) i) bar.length (fun i => isBar bar && sortsFrom bar i (bar.drop i)) ?_ ?_
    · refine Ev.step (f := fun k => (spec_IsBar.f k bar).bind fun t => some t) (fun k => ?_) (Ev.bind (f := fun _ t => some t) (spec_IsBar_ev bar hl) ?_)
      · simp only [spec_SortsAll.l0]
        rw [if_neg (by omega)]
      · simp [sortsFrom]
        exact Ev.now _
    · intro i hi ih
      rw [List.drop_eq_getElem_cons hi, sortsFrom]
      by_cases e : fallN bar bar[i] = i
      · refine Ev.step (f := fun k => (spec_l1Fall.f k bar bar[i]).bind fun t => if t = (i : Int) then spec_SortsAll.l0 k bar bar (bar.length : Int) ((i + 1 : Nat) : Int) else some false) (fun k => ?_) (Ev.bind (f := fun k t => if t = (i : Int) then spec_SortsAll.l0 k bar bar (bar.length : Int) ((i + 1 : Nat) : Int) else some false) (spec_fall_ev bar bar[i] hl) ?_)
        · simp only [spec_SortsAll.l0]
          rw [if_pos (by omega), if_pos (by omega), if_pos (by omega), rd_nat bar i hi, w1 i (by omega)]
        · simp only [e, if_true, decide_true, Bool.true_and]
          exact ih
      · refine Ev.step (f := fun k => (spec_l1Fall.f k bar bar[i]).bind fun t => if t = (i : Int) then spec_SortsAll.l0 k bar bar (bar.length : Int) ((i + 1 : Nat) : Int) else some false) (fun k => ?_) (Ev.bind (f := fun k t => if t = (i : Int) then spec_SortsAll.l0 k bar bar (bar.length : Int) ((i + 1 : Nat) : Int) else some false) (spec_fall_ev bar bar[i] hl) ?_)
        · simp only [spec_SortsAll.l0]
          rw [if_pos (by omega), if_pos (by omega), if_pos (by omega), rd_nat bar i hi, w1 i (by omega)]
        · have e' : ¬ ((fallN bar bar[i] : Int) = (i : Int)) := by omega
          simp only [if_neg e', e, decide_false, Bool.false_and, Bool.and_false]
          exact Ev.now _
  have h := main 0 (by omega)
  rw [List.drop_zero] at h
  exact h
theorem impl_SortsAll_ev (bar : List Int) (hl : bar.length ≤ 1099511627776) : Ev (fun k => impl_SortsAll.f k bar) (sortsAll bar) := by
  have main : ∀ i, i ≤ bar.length → Ev (fun k => impl_SortsAll.l0 k bar bar (bar.length : Int) (i : Int)) (sortsFrom bar i (bar.drop i)) := by
    refine ev_down0 (fun k i => impl_SortsAll.l0 k bar bar (bar.length : Int) i) bar.length (fun i => sortsFrom bar i (bar.drop i)) ?_ ?_
    · refine ev_step1 (fun k => ?_)
      simp only [impl_SortsAll.l0]
      rw [if_neg (by omega)]
      simp [sortsFrom]
    · intro i hi ih
      rw [List.drop_eq_getElem_cons hi, sortsFrom]
      refine Ev.step (f := fun k => (impl_fall.f k bar bar[i]).bind fun t => if t = (i : Int) then impl_SortsAll.l0 k bar bar (bar.length : Int) ((i + 1 : Nat) : Int) else some false) (fun k => ?_) (Ev.bind (f := fun k t => if t = (i : Int) then impl_SortsAll.l0 k bar bar (bar.length : Int) ((i + 1 : Nat) : Int) else some false) (impl_fall_ev bar bar[i] hl) ?_)
      · simp only [impl_SortsAll.l0]
        rw [if_pos (by omega), if_pos (by omega), if_pos (by omega), rd_nat bar i hi, w1 i (by omega)]
      · by_cases e : fallN bar bar[i] = i
        · simp only [e, if_true, decide_true, Bool.true_and]
          exact ih
        · have e' : ¬ ((fallN bar bar[i] : Int) = (i : Int)) := by omega
          simp only [if_neg e', e, decide_false, Bool.false_and]
          exact Ev.now _
  have h := main 0 (by omega)
  rw [List.drop_zero] at h
  cases e : isBar bar with
  | true =>
    rw [show sortsAll bar = sortsFrom bar 0 bar from by simp [sortsAll, e]]
    exact ev_eq h (fun k => by simp only [impl_SortsAll.f, isBar_eq, e, Option.bind_some, if_true]; rfl)
  | false =>
    rw [show sortsAll bar = false from by simp [sortsAll, e]]
    exact ev_const (fun k => by simp [impl_SortsAll.f, isBar_eq, e])
theorem bt_get (a : ByteArray) (j : Nat) (hj : j < a.size) : ∃ y : UInt8, a.data.toList[j]? = some y ∧ bt a (j : Int) = (y.toNat : Int) := by
  refine ⟨a[j]'hj, Lib.data_getElem? a j hj, ?_⟩
  have h := bt_at a (j : Int) (by simpa using hj)
  rw [← h]; simp
theorem dsize (a : ByteArray) : a.data.toList.length = a.size := by rw [Lib.size_eq]
/-- Whether something is a font. -/
def fontB (a : ByteArray) (ws cs : List Int) : Bool := if 1 ≤ a.size ∧ a.size ≤ 40 ∧ ws.length = a.size ∧ cs.length = a.size then letA [] a.data.toList && between ws 1 60 && sortsAll cs else false
theorem fontB_len (a : ByteArray) (ws cs : List Int) (h : fontB a ws cs = true) : 1 ≤ a.size ∧ a.size ≤ 40 ∧ ws.length = a.size ∧ cs.length = a.size := by
  unfold fontB at h
  by_cases e : 1 ≤ a.size ∧ a.size ≤ 40 ∧ ws.length = a.size ∧ cs.length = a.size
  · exact e
  · rw [if_neg e] at h; cases h
theorem impl_FontOk_ev (a : ByteArray) (ws cs : List Int) (hl : cs.length ≤ 1099511627776) : Ev (fun k => impl_FontOk.f k a ws cs) (fontB a ws cs) := by
  unfold fontB
  by_cases c1 : 1 ≤ a.size
  · by_cases c2 : a.size ≤ 40
    · by_cases c3 : ws.length = a.size
      · by_cases c4 : cs.length = a.size
        · rw [if_pos ⟨c1, c2, c3, c4⟩]
          by_cases c5 : letA [] a.data.toList = true
          · by_cases c6 : between ws 1 60 = true
            · rw [c5, c6, Bool.true_and, Bool.true_and]
              refine ev_eq (impl_SortsAll_ev cs hl) (fun k => ?_)
              unfold impl_FontOk.f
              rw [if_pos c1, if_pos c2, if_pos c3, if_pos c4, if_pos c5, if_pos c6]
            · rw [show between ws 1 60 = false by simpa using c6, Bool.and_false, Bool.false_and]
              refine ev_const (fun k => ?_)
              unfold impl_FontOk.f
              rw [if_pos c1, if_pos c2, if_pos c3, if_pos c4, if_pos c5, if_neg c6]
          · rw [show letA [] a.data.toList = false by simpa using c5, Bool.false_and, Bool.false_and]
            refine ev_const (fun k => ?_)
            unfold impl_FontOk.f
            rw [if_pos c1, if_pos c2, if_pos c3, if_pos c4, if_neg c5]
        · rw [if_neg (fun h => c4 h.2.2.2)]
          refine ev_const (fun k => ?_)
          unfold impl_FontOk.f
          rw [if_pos c1, if_pos c2, if_pos c3, if_neg c4]
      · rw [if_neg (fun h => c3 h.2.2.1)]
        refine ev_const (fun k => ?_)
        unfold impl_FontOk.f
        rw [if_pos c1, if_pos c2, if_neg c3]
    · rw [if_neg (fun h => c2 h.2.1)]
      refine ev_const (fun k => ?_)
      unfold impl_FontOk.f
      rw [if_pos c1, if_neg c2]
  · rw [if_neg (fun h => c1 h.1)]
    refine ev_const (fun k => ?_)
    unfold impl_FontOk.f
    rw [if_neg c1]
theorem font_inner (a : ByteArray) (ws cs : List Int) (n : Int) (i : Nat) (hi : i < a.size) (hs : a.size ≤ 40) (x : UInt8) (hx : a.data.toList[i]? = some x) (hbx : bt a (i : Int) = (x.toNat : Int)) (R : Bool)
    (hR : Ev (fun k => spec_FontOk.l0 k n ((i + 1 : Nat) : Int) a ws cs) R) : ∀ d j, j + d = i → Ev (fun k => spec_FontOk.l1 k n (i : Int) (j : Int) a ws cs) (!((a.data.toList.take i).drop j).contains x && R) := by
  intro d
  induction d with
  | zero =>
    intro j hj
    obtain rfl : j = i := by omega
    rw [List.drop_eq_nil_of_le (by rw [List.length_take]; omega)]
    refine Ev.step (f := fun k => spec_FontOk.l0 k n ((j + 1 : Nat) : Int) a ws cs) (fun k => ?_) (by simpa using hR)
    simp only [spec_FontOk.l1]
    rw [if_neg (by omega), w1 j (by omega)]
  | succ d ih =>
    intro j hj
    have hja : j < a.size := by omega
    obtain ⟨y, hy, hby⟩ := bt_get a j hja
    have hlt : j < (a.data.toList.take i).length := by rw [List.length_take, dsize]; omega
    have hget : (a.data.toList.take i)[j] = y := by
      rw [List.getElem_take]
      obtain ⟨_, h2⟩ := List.getElem?_eq_some_iff.1 hy
      exact h2
    rw [List.drop_eq_getElem_cons hlt, hget, List.contains_cons]
    by_cases e : x = y
    · subst e
      refine ev_step1 (fun k => ?_)
      simp only [spec_FontOk.l1]
      rw [if_pos (by omega), if_pos (by omega), if_pos (by omega), if_pos (by omega), if_pos (by omega), if_pos (by rw [hbx, hby])]
      simp
    · have hne : ¬ bt a (i : Int) = bt a (j : Int) := by
        rw [hbx, hby]
        intro h
        exact e (UInt8.toNat_inj.1 (by omega))
      rw [show (x == y) = false by simpa using e, Bool.false_or]
      refine Ev.step (fun k => ?_) (ih (j + 1) (by omega))
      simp only [spec_FontOk.l1]
      rw [if_pos (by omega), if_pos (by omega), if_pos (by omega), if_pos (by omega), if_pos (by omega), if_neg hne, w1 j (by omega)]
theorem font_loop (a : ByteArray) (ws cs : List Int) (hs : a.size ≤ 40) (hw : ws.length = a.size) : ∀ d i, i + d = a.size → Ev (fun k => spec_FontOk.l0 k (a.size : Int) (i : Int) a ws cs) (letA (a.data.toList.take i) (a.data.toList.drop i) && between (ws.drop i) 1 60) := by
  intro d
  induction d with
  | zero =>
    intro i hi
    rw [List.drop_eq_nil_of_le (by rw [dsize]; omega), List.drop_eq_nil_of_le (by omega), letA]
    refine ev_step1 (fun k => ?_)
    simp only [spec_FontOk.l0]
    rw [if_neg (by omega)]
    rfl
  | succ d ih =>
    intro i hi
    have hia : i < a.size := by omega
    obtain ⟨x, hx, hbx⟩ := bt_get a i hia
    have h := ih (i + 1) (by omega)
    have hwi : i < ws.length := by omega
    rw [letA_step a i hia x hx, List.drop_eq_getElem_cons hwi, show between (ws[i] :: ws.drop (i + 1)) 1 60 = ((decide (1 ≤ ws[i]) && decide (ws[i] ≤ 60)) && between (ws.drop (i + 1)) 1 60) from rfl]
    by_cases d1 : (x.toNat : Int) < 33
    · rw [decide_eq_false (by omega), Bool.false_and, Bool.false_and, Bool.false_and, Bool.false_and]
      refine ⟨2, fun k hk => ?_⟩
      obtain ⟨k, rfl⟩ : ∃ m, k = m + 2 := ⟨k - 2, by omega⟩
      simp only [spec_FontOk.l0, spec_FontOk.j2, hbx, if_true]
      rw [if_pos (by omega), if_pos (by omega), if_pos (by omega), if_pos d1]
    · by_cases d2 : (x.toNat : Int) > 126
      · rw [decide_eq_false (show ¬ (x.toNat : Int) ≤ 126 by omega), Bool.and_false, Bool.false_and, Bool.false_and, Bool.false_and]
        refine ⟨2, fun k hk => ?_⟩
        obtain ⟨k, rfl⟩ : ∃ m, k = m + 2 := ⟨k - 2, by omega⟩
        simp only [spec_FontOk.l0, spec_FontOk.j2, hbx, if_true]
        rw [if_pos (by omega), if_pos (by omega), if_pos (by omega), if_neg d1, if_pos d2]
      · rw [decide_eq_true (show 33 ≤ (x.toNat : Int) by omega), decide_eq_true (show (x.toNat : Int) ≤ 126 by omega), Bool.true_and, Bool.true_and]
        have hinner := font_inner a ws cs (a.size : Int) i hia hs x hx hbx _ h i 0 (by omega)
        rw [List.drop_zero] at hinner
        by_cases d3 : (decide (1 ≤ ws[i]) && decide (ws[i] ≤ 60)) = true
        · rw [d3, Bool.true_and, Bool.and_assoc]
          obtain ⟨K, hK⟩ := hinner
          refine ⟨K + 2, fun k hk => ?_⟩
          obtain ⟨k, rfl⟩ : ∃ m, k = m + 2 := ⟨k - 2, by omega⟩
          simp only [spec_FontOk.l0, spec_FontOk.j2, hbx, l1In_eq, Option.bind_some, rd_nat ws i hwi]
          rw [if_pos (by omega), if_pos (by omega), if_pos (by omega), if_neg d1, if_neg d2, if_pos (by omega), d3, Bool.not_true, if_neg (by decide)]
          exact hK k (by omega)
        · rw [show (decide (1 ≤ ws[i]) && decide (ws[i] ≤ 60)) = false by simpa using d3, Bool.false_and, Bool.and_false]
          refine ⟨2, fun k hk => ?_⟩
          obtain ⟨k, rfl⟩ : ∃ m, k = m + 2 := ⟨k - 2, by omega⟩
          simp only [spec_FontOk.l0, spec_FontOk.j2, hbx, l1In_eq, Option.bind_some, rd_nat ws i hwi]
          rw [if_pos (by omega), if_pos (by omega), if_pos (by omega), if_neg d1, if_neg d2, if_pos (by omega), show (decide (1 ≤ ws[i]) && decide (ws[i] ≤ 60)) = false by simpa using d3, Bool.not_false, if_pos rfl]
theorem spec_FontOk_ev (a : ByteArray) (ws cs : List Int) (hl : cs.length ≤ 1099511627776) : Ev (fun k => spec_FontOk.f k a ws cs) (fontB a ws cs) := by
  unfold fontB
  have hno : ∀ k, spec_FontOk.j0 (k + 1) (a.size : Int) true a ws cs = some false := fun k => by simp only [spec_FontOk.j0, if_true]
  by_cases c12 : 1 ≤ a.size ∧ a.size ≤ 40
  · have hin : (decide ((1 : Int) ≤ (a.size : Int)) && decide ((a.size : Int) ≤ 40)) = true := by simp; omega
    by_cases c3 : ws.length = a.size
    · by_cases c4 : cs.length = a.size
      · rw [if_pos ⟨c12.1, c12.2, c3, c4⟩]
        obtain ⟨K1, h1⟩ := spec_SortsAll_ev cs hl
        cases hs : sortsAll cs with
        | true =>
          rw [hs] at h1
          have h := font_loop a ws cs c12.2 c3 a.size 0 (by omega)
          rw [List.take_zero, List.drop_zero, List.drop_zero] at h
          rw [Bool.and_true]
          obtain ⟨K2, h2⟩ := h
          refine ⟨K1 + K2 + 1, fun k hk => ?_⟩
          obtain ⟨k, rfl⟩ : ∃ m, k = m + 1 := ⟨k - 1, by omega⟩
          simp only [spec_FontOk.f, l1In_eq, Option.bind_some, h1 (k + 1) (by omega)]
          rw [hin, if_pos rfl, if_pos (by omega), if_pos (by omega), Bool.not_true]
          simp only [spec_FontOk.j0]
          rw [if_neg (by decide)]
          exact h2 k (by omega)
        | false =>
          rw [hs] at h1
          rw [Bool.and_false]
          refine ⟨K1 + 1, fun k hk => ?_⟩
          obtain ⟨k, rfl⟩ : ∃ m, k = m + 1 := ⟨k - 1, by omega⟩
          simp only [spec_FontOk.f, l1In_eq, Option.bind_some, h1 (k + 1) (by omega)]
          rw [hin, if_pos rfl, if_pos (by omega), if_pos (by omega), Bool.not_false, hno]
      · rw [if_neg (fun h => c4 h.2.2.2)]
        refine ev_step1 (fun k => ?_)
        simp only [spec_FontOk.f, l1In_eq, Option.bind_some]
        rw [hin, if_pos rfl, if_pos (by omega), if_neg (by omega), hno]
    · rw [if_neg (fun h => c3 h.2.2.1)]
      refine ev_step1 (fun k => ?_)
      simp only [spec_FontOk.f, l1In_eq, Option.bind_some]
      rw [hin, if_pos rfl, if_neg (by omega), hno]
  · rw [if_neg (fun h => c12 ⟨h.1, h.2.1⟩)]
    have hin : (decide ((1 : Int) ≤ (a.size : Int)) && decide ((a.size : Int) ≤ 40)) = false := by simp; omega
    refine ev_step1 (fun k => ?_)
    simp only [spec_FontOk.f, l1In_eq, Option.bind_some]
    rw [hin, if_neg (by decide), hno]
/-- Whether a matrix is one of a font that is one. -/
def matB (a : ByteArray) (cs : List Int) (kind teeth : Int) : Bool := decide (0 ≤ kind) && decide (kind < a.size) && isSetB teeth && partB teeth (rd cs kind)
theorem impl_ofFont_eq (a : ByteArray) (ws cs : List Int) (kind teeth : Int) (hc : cs.length = a.size) : impl_ofFont.f a ws cs kind teeth = some (matB a cs kind teeth) := by
  unfold impl_ofFont.f matB
  by_cases h1 : 0 ≤ kind
  · by_cases h2 : kind < (a.size : Int)
    · rw [if_pos h1, if_pos h2, isSet_eq, Option.bind_some, decide_eq_true h1, decide_eq_true h2, Bool.true_and, Bool.true_and]
      cases hs : isSetB teeth with
      | true => rw [if_pos rfl, if_pos h1, if_pos (by omega), impl_part_eq, Option.bind_some, Bool.true_and]
      | false => rw [if_neg (by decide), Bool.false_and]
    · rw [if_pos h1, if_neg h2, decide_eq_false h2]; simp
  · rw [if_neg h1, decide_eq_false h1]; simp
theorem spec_l2Matrix_eq (a : ByteArray) (ws cs : List Int) (kind teeth : Int) (hc : cs.length = a.size) (hs : a.size ≤ 40) : spec_l2Matrix.f a ws cs kind teeth = some (matB a cs kind teeth) := by
  unfold spec_l2Matrix.f matB
  have hw : wrap64 ((a.size : Int) - 1) = (a.size : Int) - 1 := wrap_id _ (by omega) (by omega)
  rw [hw, l1In_eq, Option.bind_some]
  by_cases h1 : 0 ≤ kind
  · by_cases h2 : kind < (a.size : Int)
    · rw [decide_eq_true h1, decide_eq_true h2, decide_eq_true (show kind ≤ (a.size : Int) - 1 by omega), Bool.true_and, Bool.true_and, if_pos rfl, l1Set_eq, Option.bind_some]
      cases hs : isSetB teeth with
      | true => rw [if_pos rfl, if_pos h1, if_pos (by omega), spec_part_eq, Option.bind_some, Bool.true_and]
      | false => rw [if_neg (by decide), Bool.false_and]
    · rw [decide_eq_true h1, decide_eq_false h2, decide_eq_false (show ¬ kind ≤ (a.size : Int) - 1 by omega)]; simp
  · rw [decide_eq_false h1]; simp
theorem matB_range (a : ByteArray) (cs : List Int) (kind teeth : Int) (h : matB a cs kind teeth = true) : 0 ≤ kind ∧ kind < a.size := by
  unfold matB at h
  simp only [Bool.and_eq_true, decide_eq_true_eq] at h
  exact ⟨h.1.1.1, h.1.1.2⟩
theorem rd30_nat (l : List S30) (i : Nat) (h : i < l.length) : rd_T30 l (i : Int) = l[i] := by simp [rd_T30, List.getD_eq_getElem?_getD, h]
theorem rdL7_nat (l : List (List S30)) (i : Nat) (h : i < l.length) : rd_L2 l (i : Int) = l[i] := by simp [rd_L2, List.getD_eq_getElem?_getD, h]
theorem all_same {α : Type} (p q : α → Bool) : ∀ l : List α, (∀ x ∈ l, p x = q x) → l.all p = l.all q
  | [], _ => rfl
  | a :: r, h => by rw [List.all_cons, List.all_cons, h a List.mem_cons_self, all_same p q r (fun x hx => h x (List.mem_cons_of_mem _ hx))]
theorem impl_allOf_eq (a : ByteArray) (ws cs : List Int) (l : List S30) (hc : cs.length = a.size) : impl_allOf.f a ws cs l = some (l.all fun x => matB a cs x.f0 x.f1) := by
  unfold impl_allOf.f
  rw [if_pos]
  · congr 1
    refine all_same _ _ l (fun x _ => ?_)
    rw [impl_ofFont_eq a ws cs x.f0 x.f1 hc]
    cases matB a cs x.f0 x.f1 <;> rfl
  · rw [List.all_eq_true]
    intro x _
    rw [impl_ofFont_eq a ws cs x.f0 x.f1 hc]; rfl
/-- Whether all channels hold matrices of a font that is one. -/
def chanB (a : ByteArray) (cs : List Int) (ch : List S30) : Bool := decide (ch.length ≤ 20) && ch.all fun x => matB a cs x.f0 x.f1
def magazineOk (a : ByteArray) (ws cs : List Int) (m : List (List S30)) : Bool := fontB a ws cs && decide (m.length = a.size) && m.all (chanB a cs)
theorem impl_mag_loop (a : ByteArray) (ws cs : List Int) (m : List (List S30)) (hc : cs.length = a.size) (hs : a.size ≤ 40) (hm : m.length = a.size) : ∀ d i, i + d = m.length → Ev (fun k => impl_MagazineOk.l0 k m (m.length : Int) (i : Int) a ws cs) ((m.drop i).all (chanB a cs)) := by
  intro d
  induction d with
  | zero =>
    intro i hi
    rw [List.drop_eq_nil_of_le (by omega)]
    exact ev_step1 (fun k => by simp only [impl_MagazineOk.l0]; rw [if_neg (by omega)]; rfl)
  | succ d ih =>
    intro i hi
    have hi' : i < m.length := by omega
    have h := ih (i + 1) (by omega)
    rw [List.drop_eq_getElem_cons hi', List.all_cons]
    unfold chanB at h ⊢
    by_cases c1 : m[i].length ≤ 20
    · rw [decide_eq_true c1, Bool.true_and]
      cases c2 : m[i].all fun x => matB a cs x.f0 x.f1 with
      | true =>
        rw [Bool.true_and]
        refine Ev.step (fun k => ?_) h
        simp only [impl_MagazineOk.l0]
        rw [if_pos (by omega), if_pos (by omega), if_pos (by omega), rdL7_nat m i hi', if_neg (by omega), impl_allOf_eq a ws cs m[i] hc, c2, Option.bind_some, if_pos rfl, w1 i (by omega)]
      | false =>
        rw [Bool.false_and]
        refine ev_step1 (fun k => ?_)
        simp only [impl_MagazineOk.l0]
        rw [if_pos (by omega), if_pos (by omega), if_pos (by omega), rdL7_nat m i hi', if_neg (by omega), impl_allOf_eq a ws cs m[i] hc, c2, Option.bind_some, if_neg (by decide)]
    · rw [decide_eq_false c1, Bool.false_and, Bool.false_and]
      refine ev_step1 (fun k => ?_)
      simp only [impl_MagazineOk.l0]
      rw [if_pos (by omega), if_pos (by omega), if_pos (by omega), rdL7_nat m i hi', if_pos (by omega)]
theorem spec_mag_inner (a : ByteArray) (ws cs : List Int) (m : List (List S30)) (hc : cs.length = a.size) (hs : a.size ≤ 40) (n : Int) (i : Nat) (hi : i ≤ 40) (ch : List S30) (hch : ch.length ≤ 20) (R : Bool)
    (hR : Ev (fun k => spec_MagazineOk.l0 k m n ((i + 1 : Nat) : Int) a ws cs) R) : ∀ d j, j + d = ch.length → Ev (fun k => spec_MagazineOk.l1 k m n (i : Int) ch (ch.length : Int) (j : Int) a ws cs) ((ch.drop j).all (fun x => matB a cs x.f0 x.f1) && R) := by
  intro d
  induction d with
  | zero =>
    intro j hj
    rw [List.drop_eq_nil_of_le (by omega)]
    refine Ev.step (f := fun k => spec_MagazineOk.l0 k m n ((i + 1 : Nat) : Int) a ws cs) (fun k => ?_) (by simpa using hR)
    simp only [spec_MagazineOk.l1]
    rw [if_neg (by omega), w1 i (by omega)]
  | succ d ih =>
    intro j hj
    have hj' : j < ch.length := by omega
    rw [List.drop_eq_getElem_cons hj', List.all_cons]
    cases c : matB a cs ch[j].f0 ch[j].f1 with
    | true =>
      rw [Bool.true_and]
      refine Ev.step (fun k => ?_) (ih (j + 1) (by omega))
      simp only [spec_MagazineOk.l1]
      rw [if_pos (by omega), if_pos (by omega), if_pos (by omega), rd30_nat ch j hj', spec_l2Matrix_eq a ws cs _ _ hc hs, c, Option.bind_some, if_pos rfl, w1 j (by omega)]
    | false =>
      rw [Bool.false_and, Bool.false_and]
      refine ev_step1 (fun k => ?_)
      simp only [spec_MagazineOk.l1]
      rw [if_pos (by omega), if_pos (by omega), if_pos (by omega), rd30_nat ch j hj', spec_l2Matrix_eq a ws cs _ _ hc hs, c, Option.bind_some, if_neg (by decide)]
theorem spec_mag_loop (a : ByteArray) (ws cs : List Int) (m : List (List S30)) (hc : cs.length = a.size) (hs : a.size ≤ 40) (hm : m.length = a.size) : ∀ d i, i + d = m.length → Ev (fun k => spec_MagazineOk.l0 k m (m.length : Int) (i : Int) a ws cs) ((m.drop i).all (chanB a cs)) := by
  intro d
  induction d with
  | zero =>
    intro i hi
    rw [List.drop_eq_nil_of_le (by omega)]
    exact ev_step1 (fun k => by simp only [spec_MagazineOk.l0]; rw [if_neg (by omega)]; rfl)
  | succ d ih =>
    intro i hi
    have hi' : i < m.length := by omega
    have h := ih (i + 1) (by omega)
    rw [List.drop_eq_getElem_cons hi', List.all_cons]
    unfold chanB at h ⊢
    by_cases c1 : m[i].length ≤ 20
    · rw [decide_eq_true c1, Bool.true_and]
      have hin := spec_mag_inner a ws cs m hc hs (m.length : Int) i (by omega) m[i] c1 _ h m[i].length 0 (by omega)
      rw [List.drop_zero] at hin
      refine Ev.step (fun k => ?_) hin
      simp only [spec_MagazineOk.l0]
      rw [if_pos (by omega), if_pos (by omega), if_pos (by omega), rdL7_nat m i hi', if_neg (by omega)]
      rfl
    · rw [decide_eq_false c1, Bool.false_and, Bool.false_and]
      refine ev_step1 (fun k => ?_)
      simp only [spec_MagazineOk.l0]
      rw [if_pos (by omega), if_pos (by omega), if_pos (by omega), rdL7_nat m i hi', if_pos (by omega)]
theorem impl_MagazineOk_ev (a : ByteArray) (ws cs : List Int) (m : List (List S30)) (hl : cs.length ≤ 1099511627776) : Ev (fun k => impl_MagazineOk.f k a ws cs m) (magazineOk a ws cs m) := by
  obtain ⟨K1, f1⟩ := impl_FontOk_ev a ws cs hl
  unfold magazineOk
  cases hf : fontB a ws cs with
  | true =>
    rw [hf] at f1
    obtain ⟨_, l2, _, l4⟩ := fontB_len a ws cs hf
    by_cases hm : m.length = a.size
    · obtain ⟨K2, f2⟩ := impl_mag_loop a ws cs m l4 l2 hm m.length 0 (by omega)
      rw [List.drop_zero] at f2
      rw [decide_eq_true hm, Bool.true_and, Bool.true_and]
      refine ⟨K1 + K2 + 1, fun k hk => ?_⟩
      obtain ⟨k, rfl⟩ : ∃ q, k = q + 1 := ⟨k - 1, by omega⟩
      simp only [impl_MagazineOk.f, f1 (k + 1) (by omega), Option.bind_some, if_true, impl_MagazineOk.j0]
      rw [if_neg (by simp; omega)]
      exact f2 k (by omega)
    · rw [decide_eq_false hm]
      refine ⟨K1 + 1, fun k hk => ?_⟩
      obtain ⟨k, rfl⟩ : ∃ q, k = q + 1 := ⟨k - 1, by omega⟩
      simp only [impl_MagazineOk.f, f1 (k + 1) (by omega), Option.bind_some, if_true, impl_MagazineOk.j0]
      rw [if_pos (by simp; omega)]
      rfl
  | false =>
    rw [hf] at f1
    refine ⟨K1 + 1, fun k hk => ?_⟩
    obtain ⟨k, rfl⟩ : ∃ q, k = q + 1 := ⟨k - 1, by omega⟩
    simp only [impl_MagazineOk.f, f1 (k + 1) (by omega), Option.bind_some, Bool.false_eq_true, if_false, impl_MagazineOk.j0, if_true, Bool.false_and]
theorem spec_MagazineOk_ev (a : ByteArray) (ws cs : List Int) (m : List (List S30)) (hl : cs.length ≤ 1099511627776) : Ev (fun k => spec_MagazineOk.f k a ws cs m) (magazineOk a ws cs m) := by
  obtain ⟨K1, f1⟩ := spec_FontOk_ev a ws cs hl
  unfold magazineOk
  cases hf : fontB a ws cs with
  | true =>
    rw [hf] at f1
    obtain ⟨_, l2, _, l4⟩ := fontB_len a ws cs hf
    by_cases hm : m.length = a.size
    · obtain ⟨K2, f2⟩ := spec_mag_loop a ws cs m l4 l2 hm m.length 0 (by omega)
      rw [List.drop_zero] at f2
      rw [decide_eq_true hm, Bool.true_and, Bool.true_and]
      refine ⟨K1 + K2 + 1, fun k hk => ?_⟩
      obtain ⟨k, rfl⟩ : ∃ q, k = q + 1 := ⟨k - 1, by omega⟩
      simp only [spec_MagazineOk.f, f1 (k + 1) (by omega), Option.bind_some, if_true, spec_MagazineOk.j0]
      rw [if_neg (by simp; omega)]
      exact f2 k (by omega)
    · rw [decide_eq_false hm]
      refine ⟨K1 + 1, fun k hk => ?_⟩
      obtain ⟨k, rfl⟩ : ∃ q, k = q + 1 := ⟨k - 1, by omega⟩
      simp only [spec_MagazineOk.f, f1 (k + 1) (by omega), Option.bind_some, if_true, spec_MagazineOk.j0]
      rw [if_pos (by simp; omega)]
      rfl
  | false =>
    rw [hf] at f1
    refine ⟨K1 + 1, fun k hk => ?_⟩
    obtain ⟨k, rfl⟩ : ∃ q, k = q + 1 := ⟨k - 1, by omega⟩
    simp only [spec_MagazineOk.f, f1 (k + 1) (by omega), Option.bind_some, Bool.false_eq_true, if_false, spec_MagazineOk.j0, if_true, Bool.false_and]
def countStrays (a : ByteArray) (ws cs : List Int) (m : List (List S30)) : Int := if magazineOk a ws cs m = true then cntAll (fun i x => x.f0 != i) 0 m 0 else -1
theorem mag_rows (a : ByteArray) (ws cs : List Int) (m : List (List S30)) (h : magazineOk a ws cs m = true) : m.length ≤ 40 ∧ cs.length = a.size ∧ ∀ ch ∈ m, ch.length ≤ 20 ∧ ∀ x ∈ ch, 0 ≤ x.f0 ∧ x.f0 < a.size := by
  unfold magazineOk at h
  rw [Bool.and_eq_true, Bool.and_eq_true, decide_eq_true_eq] at h
  obtain ⟨⟨h1, h2⟩, h3⟩ := h
  obtain ⟨_, l2, _, l4⟩ := fontB_len a ws cs h1
  refine ⟨by omega, l4, fun ch hc => ?_⟩
  have h4 := List.all_eq_true.1 h3 ch hc
  unfold chanB at h4
  rw [Bool.and_eq_true, decide_eq_true_eq] at h4
  exact ⟨h4.1, fun x hx => matB_range a cs _ _ (List.all_eq_true.1 h4.2 x hx)⟩
theorem impl_CountStrays_ev (a : ByteArray) (ws cs : List Int) (m : List (List S30)) (hl : cs.length ≤ 1099511627776) : Ev (fun k => impl_CountStrays.f k a ws cs m) (countStrays a ws cs m) := by
  obtain ⟨K, f⟩ := impl_MagazineOk_ev a ws cs m hl
  refine ⟨K, fun k hk => ?_⟩
  simp only [impl_CountStrays.f, f k hk, Option.bind_some, countStrays]
def kcRow : List Int → List S30 → List Int
  | o, [] => o
  | o, x :: r => kcRow (o.set x.f0.toNat (wrap64 (rd o x.f0 + 1))) r
def kcAll : List Int → List (List S30) → List Int
  | o, [] => o
  | o, ch :: r => kcAll (kcRow o ch) r
theorem kcRow_length : ∀ (ch : List S30) (o : List Int), (kcRow o ch).length = o.length
  | [], _ => rfl
  | x :: r, o => by rw [kcRow, kcRow_length r, List.length_set]
theorem kcAll_length : ∀ (m : List (List S30)) (o : List Int), (kcAll o m).length = o.length
  | [], _ => rfl
  | ch :: r, o => by rw [kcAll, kcAll_length r, kcRow_length]
theorem impl_kc_inner (m : List (List S30)) (len : Int) (N : Nat) (i : Nat) (hi : i ≤ 1000) (ch : List S30) (hch : ch.length ≤ 1000) (hx : ∀ x ∈ ch, 0 ≤ x.f0 ∧ x.f0 < (N : Int)) (G : List Int → List Int) (hG : ∀ o, o.length = N → Ev (fun k => impl_KindCounts.l0 k o m len ((i + 1 : Nat) : Int)) (G o)) :
    ∀ d j (o : List Int), j + d = ch.length → o.length = N → Ev (fun k => impl_KindCounts.l1 k o m len (i : Int) ch (ch.length : Int) (j : Int)) (G (kcRow o (ch.drop j))) := by
  intro d
  induction d with
  | zero =>
    intro j o hj ho
    rw [List.drop_eq_nil_of_le (by omega), kcRow]
    refine Ev.step (fun k => ?_) (hG o ho)
    simp only [impl_KindCounts.l1]
    rw [if_neg (by omega), w1 i (by omega)]
  | succ d ih =>
    intro j o hj ho
    have hj' : j < ch.length := by omega
    have h1 := hx _ (List.getElem_mem hj')
    rw [List.drop_eq_getElem_cons hj', kcRow]
    refine Ev.step (fun k => ?_) (ih (j + 1) (o.set ch[j].f0.toNat (wrap64 (rd o ch[j].f0 + 1))) (by omega) (by rw [List.length_set]; exact ho))
    simp only [impl_KindCounts.l1]
    rw [if_pos (by omega), if_pos (by omega), if_pos (by omega), rd30_nat ch j hj', if_pos (by omega), if_pos (by omega), w1 j (by omega)]
theorem impl_kc_loop (m : List (List S30)) (N : Nat) (hm : m.length ≤ 1000) (hch : ∀ ch ∈ m, ch.length ≤ 1000 ∧ ∀ x ∈ ch, 0 ≤ x.f0 ∧ x.f0 < (N : Int)) : ∀ d i (o : List Int), i + d = m.length → o.length = N → Ev (fun k => impl_KindCounts.l0 k o m (m.length : Int) (i : Int)) (kcAll o (m.drop i)) := by
  intro d
  induction d with
  | zero =>
    intro i o hi ho
    rw [List.drop_eq_nil_of_le (by omega), kcAll]
    exact ev_step1 (fun k => by simp only [impl_KindCounts.l0]; rw [if_neg (by omega)])
  | succ d ih =>
    intro i o hi ho
    have hi' : i < m.length := by omega
    have hc := hch _ (List.getElem_mem hi')
    have h := impl_kc_inner m (m.length : Int) N i (by omega) m[i] hc.1 hc.2 (fun o => kcAll o (m.drop (i + 1))) (fun o ho => ih (i + 1) o (by omega) ho) m[i].length 0 o (by omega) ho
    rw [List.drop_zero] at h
    rw [List.drop_eq_getElem_cons hi', kcAll]
    refine Ev.step (fun k => ?_) h
    simp only [impl_KindCounts.l0]
    rw [if_pos (by omega), if_pos (by omega), if_pos (by omega), rdL7_nat m i hi']
    rfl
def kindCounts (a : ByteArray) (ws cs : List Int) (m : List (List S30)) : List Int := if magazineOk a ws cs m = true then kcAll (List.replicate m.length 0) m else []
theorem kindCounts_length (a : ByteArray) (ws cs : List Int) (m : List (List S30)) : (kindCounts a ws cs m).length ≤ m.length := by
  unfold kindCounts
  split
  · rw [kcAll_length, List.length_replicate]; exact Nat.le_refl _
  · exact Nat.zero_le _
theorem mag_len (a : ByteArray) (ws cs : List Int) (m : List (List S30)) (h : magazineOk a ws cs m = true) : m.length = a.size := by
  unfold magazineOk at h
  rw [Bool.and_eq_true, Bool.and_eq_true, decide_eq_true_eq] at h
  exact h.1.2
theorem impl_KindCounts_ev (a : ByteArray) (ws cs : List Int) (m : List (List S30)) (hl : cs.length ≤ 1099511627776) : Ev (fun k => impl_KindCounts.f k a ws cs m) (kindCounts a ws cs m) := by
  obtain ⟨K, f⟩ := impl_MagazineOk_ev a ws cs m hl
  unfold kindCounts
  by_cases h : magazineOk a ws cs m = true
  · obtain ⟨h1, h2, h3⟩ := mag_rows a ws cs m h
    have hm := mag_len a ws cs m h
    obtain ⟨K2, f2⟩ := impl_kc_loop m m.length (by omega) (fun ch hc => ⟨by have := (h3 ch hc).1; omega, fun x hx => by have := (h3 ch hc).2 x hx; omega⟩) m.length 0 (List.replicate m.length 0) (by omega) (by simp)
    rw [List.drop_zero] at f2
    rw [if_pos h]
    refine ⟨K + K2, fun k hk => ?_⟩
    simp only [impl_KindCounts.f, f k (by omega), h, Option.bind_some, if_true]
    rw [if_pos (by omega), if_pos (by omega), Int.toNat_natCast]
    exact f2 k (by omega)
  · rw [if_neg h]
    refine ⟨K, fun k hk => ?_⟩
    simp only [impl_KindCounts.f, f k hk, Option.bind_some, if_neg h]
theorem impl_copy_ev (m : List (List S30)) (hm : m.length ≤ 1000) (hr : ∀ r ∈ m, r.length ≤ 1000) : Ev (fun k => impl_copyMagazine.f k m) m := by
  have main : ∀ d i (acc : List (List S30)), i + d = m.length → acc.length = i → Ev (fun k => impl_copyMagazine.l0 k acc m (m.length : Int) (i : Int)) (acc ++ m.drop i) := by
    intro d
    induction d with
    | zero =>
      intro i acc hi ha
      rw [List.drop_eq_nil_of_le (by omega), List.append_nil]
      exact ev_step1 (fun k => by simp only [impl_copyMagazine.l0]; rw [if_neg (by omega)])
    | succ d ih =>
      intro i acc hi ha
      have hi' : i < m.length := by omega
      have h := ih (i + 1) (acc ++ [m[i]]) (by omega) (by rw [List.length_append, List.length_singleton]; omega)
      rw [List.append_assoc, List.singleton_append, ← List.drop_eq_getElem_cons hi'] at h
      have hrow := hr _ (List.getElem_mem hi')
      refine Ev.step (fun k => ?_) h
      simp only [impl_copyMagazine.l0]
      rw [if_pos (by omega), if_pos (by omega), if_pos (by omega), rdL7_nat m i hi', impl_Matrix_102.f, if_pos (by omega), Option.bind_some, if_pos (by omega), w1 i (by omega)]
  have h := main m.length 0 [] (by omega) rfl
  exact h
theorem mag_rows2 (a : ByteArray) (ws cs : List Int) (m : List (List S30)) (h : magazineOk a ws cs m = true) : m.length ≤ 40 ∧ m.length = a.size ∧ cs.length = a.size ∧ (∀ ch ∈ m, ch.length ≤ 20) := by
  obtain ⟨h1, h2, h3⟩ := mag_rows a ws cs m h
  exact ⟨h1, mag_len a ws cs m h, h2, fun ch hc => (h3 ch hc).1⟩
theorem i64_small (n : Nat) (h : n ≤ 1000) : IntKind.i64.wrap (n : Int) = n := by
  rw [i64_w, wrap_id _ (by omega) (by omega)]
theorem and255 (y : Int) : 0 ≤ Go.bits .and .i64 y 255 ∧ Go.bits .and .i64 y 255 ≤ 255 := by
  have h : (BitVec.ofInt IntKind.i64.bits y &&& BitVec.ofInt IntKind.i64.bits 255).toNat ≤ 255 := by
    rw [BitVec.toNat_and]
    exact Nat.and_le_right
  unfold Go.bits
  simp only
  rw [i64_small _ (by omega)]
  omega
/-- The cursor stands within its list. -/
def Cur (c : List Int) (i : Int) : Prop := 0 ≤ i ∧ i ≤ c.length ∧ c.length ≤ 1099511627776
theorem byte_ok (c : List Int) (i h : Int) (hc : Cur c i) : ∃ x i' h', spec_l01Byte.f c i h = some (x, i', h') ∧ 0 ≤ x ∧ x ≤ 255 ∧ Cur c i' := by
  obtain ⟨c1, c2, c3⟩ := hc
  unfold spec_l01Byte.f
  by_cases hi : i < (c.length : Int)
  · rw [if_pos hi, if_pos c1]
    have := wrap_id (i + 1) (by omega) (by omega)
    exact ⟨_, _, _, rfl, (and255 _).1, (and255 _).2, by rw [this]; omega, by rw [this]; omega, c3⟩
  · rw [if_neg hi]
    exact ⟨_, _, _, rfl, (and255 _).1, (and255 _).2, c1, c2, c3⟩
theorem below_ok (c : List Int) (i h n : Int) (hc : Cur c i) (h1 : 1 ≤ n) (h2 : n ≤ 256) : ∃ x i' h', spec_l01Below.f c i h n = some (x, i', h') ∧ 0 ≤ x ∧ x < n ∧ Cur c i' := by
  obtain ⟨x, i', h', e, x1, x2, hc'⟩ := byte_ok c i h hc
  unfold spec_l01Below.f
  rw [if_neg (by omega), if_pos h2, e, Option.bind_some, if_neg (by omega)]
  refine ⟨_, _, _, rfl, ?_, ?_, hc'⟩
  · exact Int.tmod_nonneg _ x1
  · exact Int.tmod_lt_of_pos _ (by omega)
theorem int_ok (c : List Int) (i h : Int) (l : List Int) (hc : Cur c i) (h1 : 1 ≤ l.length) (h2 : l.length ≤ 256) : ∃ x i' h', spec_l01Int.f c i h l = some (x, i', h') ∧ x ∈ l ∧ Cur c i' := by
  obtain ⟨x, i', h', e, x1, x2, hc'⟩ := below_ok c i h (l.length : Int) hc (by omega) (by omega)
  unfold spec_l01Int.f
  rw [e, Option.bind_some]
  simp only
  rw [if_pos x1, if_pos x2]
  refine ⟨_, _, _, rfl, ?_, hc'⟩
  obtain ⟨n, rfl⟩ : ∃ n : Nat, x = n := ⟨x.toNat, by omega⟩
  rw [rd_nat l n (by omega)]
  exact List.getElem_mem _
theorem new_ok (l : List Int) (hl : l.length ≤ 1099511627776) : ∃ h, Ev (fun k => spec_l01New.f k l) (l, 0, h) := by
  have main : ∀ d i (s : Int), l.length - i = d → i ≤ l.length → ∃ h, Ev (fun k => spec_l01New.l0 k l s (i : Int)) (l, 0, h) := by
    intro d
    induction d with
    | zero => intro i s hd hi; exact ⟨s, ev_step1 (fun k => by simp only [spec_l01New.l0]; rw [if_neg (by omega)])⟩
    | succ d ih =>
      intro i s hd hi
      by_cases h4 : (i : Int) < 4000
      · obtain ⟨h, hh⟩ := ih (i + 1) (Go.bits .and .i64 (wrap64 ((wrap64 ((wrap64 (s * 1103)) + (wrap64 (rd l (i : Int))))) + 7)) 1073741823) (by omega) (by omega)
        refine ⟨h, Ev.step (fun k => ?_) hh⟩
        simp only [spec_l01New.l0]
        rw [if_pos (by omega), if_pos h4, if_pos (by omega), w1 i (by omega)]
      · exact ⟨s, ev_step1 (fun k => by simp only [spec_l01New.l0]; rw [if_pos (by omega), if_neg h4])⟩
  exact main l.length 0 (wrap64 (3230 + (l.length : Int))) rfl (by omega)
/-- Does a number stand twice? -/
def dupFrom (l : List Int) : Nat → List Int → Bool
  | _, [] => false
  | i, s :: r => decide (s ∈ l.take i) || dupFrom l (i + 1) r
theorem spec_l1Sets_ev (l : List Int) (hl : l.length ≤ 1099511627776) : Ev (fun k => spec_l1Sets.f k l) (!dupFrom l 0 l && isBar l) := by
  have main : ∀ i, i ≤ l.length → Ev (fun k => spec_l1Sets.l0 k l l (l.length : Int) (i : Int)) (!dupFrom l i (l.drop i) && isBar l) := by
    refine ev_down0 (fun k i => spec_l1Sets.l0 k l l (l.length : Int) i) l.length (fun i => !dupFrom l i (l.drop i) && isBar l) ?_ ?_
    · refine Ev.step (f := fun k => (spec_IsBar.f k l).bind fun t => some t) (fun k => ?_) (Ev.bind (f := fun _ t => some t) (spec_IsBar_ev l hl) ?_)
      · simp only [spec_l1Sets.l0]
        rw [if_neg (by omega)]
      · rw [List.drop_length, dupFrom]; exact Ev.now _
    · intro i hi ih
      rw [List.drop_eq_getElem_cons hi, dupFrom]
      have hin : ∀ j, j ≤ (l.take i).length → Ev (fun k => spec_l1Sets.l1 k l l[i] l (l.length : Int) (i : Int) (l.take i) ((l.take i).length : Int) (j : Int)) (!(decide (l[i] ∈ (l.take i).drop j) || dupFrom l (i + 1) (l.drop (i + 1))) && isBar l) := by
        refine ev_down0 (fun k j => spec_l1Sets.l1 k l l[i] l (l.length : Int) (i : Int) (l.take i) ((l.take i).length : Int) j) (l.take i).length (fun j => !(decide (l[i] ∈ (l.take i).drop j) || dupFrom l (i + 1) (l.drop (i + 1))) && isBar l) ?_ ?_
        · refine Ev.step (f := fun k => spec_l1Sets.l0 k l l (l.length : Int) ((i + 1 : Nat) : Int)) (fun k => ?_) ?_
          · simp only [spec_l1Sets.l1]
            rw [if_neg (by omega), w1 i (by omega)]
          · rw [List.drop_length, decide_eq_false (by simp), Bool.false_or]; exact ih
        · intro j hj ihj
          rw [List.drop_eq_getElem_cons hj]
          have hlt : (l.take i).length ≤ l.length := by rw [List.length_take]; omega
          by_cases h : l[i] = (l.take i)[j]
          · rw [decide_eq_true (by rw [List.mem_cons]; exact Or.inl h), Bool.true_or]
            refine ev_step1 (fun k => ?_)
            simp only [spec_l1Sets.l1]
            rw [if_pos (by omega), if_pos (by omega), if_pos (by omega), rd_nat _ j hj, if_pos h]
            rfl
          · have e : decide (l[i] ∈ (l.take i)[j] :: (l.take i).drop (j + 1)) = decide (l[i] ∈ (l.take i).drop (j + 1)) := by
              rw [decide_eq_decide, List.mem_cons]
              exact ⟨fun h' => h'.resolve_left h, Or.inr⟩
            rw [e]
            refine Ev.step (fun k => ?_) ihj
            simp only [spec_l1Sets.l1]
            rw [if_pos (by omega), if_pos (by omega), if_pos (by omega), rd_nat _ j hj, if_neg h, w1 j (by omega)]
      have h0 := hin 0 (by omega)
      rw [List.drop_zero] at h0
      refine Ev.step (fun k => ?_) h0
      simp only [spec_l1Sets.l0]
      rw [if_pos (by omega), if_pos (by omega), if_pos (by omega), if_pos (by omega), rd_nat l i hi, Int.toNat_natCast, show max (i : Int) 0 = (((l.take i).length : Nat) : Int) from by rw [List.length_take]; omega]
      rfl
  have h := main 0 (by omega)
  rw [List.drop_zero] at h
  exact h
theorem single_good (s : Int) (h0 : 0 ≤ s) (h1 : s ≤ 127) : isBar [s] = true ∧ dupFrom [s] 0 [s] = false := by
  constructor
  · rw [isBar_iff]
    refine ⟨by simp, by simp, fun x hx => ?_⟩
    rw [List.mem_singleton] at hx
    subst hx
    exact ⟨h0, h1⟩
  · simp [dupFrom]
theorem shl_all : ∀ n : Nat, n < 9 → shl .i64 1 (n : Int) = ((2 ^ n : Nat) : Int) := by decide +kernel
/-- Is tooth j free of the teeth b? From tooth i on. -/
def ff (l : List Int) (b : Nat → Bool) (j : Nat) : Nat → Nat → Bool
  | _, 0 => true
  | i, c + 1 => if i = j then ff l b j (i + 1) c else if b i = true then (if partB (l.getD i 0) (l.getD j 0) = true then false else ff l b j (i + 1) c) else ff l b j (i + 1) c
theorem getD_nat (l : List Int) (i : Nat) (h : i < l.length) : l.getD i 0 = l[i] := by simp [List.getD_eq_getElem?_getD, h]
theorem rd_getD (l : List Int) (i : Nat) : rd l (i : Int) = l.getD i 0 := by simp [rd]
theorem part_le_all : ∀ s : Nat, s < 128 → ∀ t : Nat, t < 128 → partB (s : Int) (t : Int) = true → s ≤ t := by decide +kernel
theorem exists_min (P : Nat → Prop) : ∀ v, P v → ∃ m, P m ∧ ∀ u, u < m → ¬ P u := by
  intro v
  induction v using Nat.strongRecOn with
  | ind v ih =>
    intro hv
    by_cases h : ∃ u, u < v ∧ P u
    · obtain ⟨u, hu, hpu⟩ := h
      exact ih u hu hpu
    · exact ⟨v, hv, fun u hu hpu => h ⟨u, hu, hpu⟩⟩
theorem dup_no (l : List Int) : ∀ d i, l.length - i = d → dupFrom l i (l.drop i) = false → ∀ j (hj : j < l.length), i ≤ j → l[j] ∉ l.take j := by
  intro d
  induction d with
  | zero => intro i hd _ j hj hij; omega
  | succ d ih =>
    intro i hd hf j hj hij
    have hi : i < l.length := by omega
    rw [List.drop_eq_getElem_cons hi, dupFrom, Bool.or_eq_false_iff, decide_eq_false_iff_not] at hf
    by_cases e : j = i
    · subst e; exact hf.1
    · exact ih (i + 1) (by omega) hf.2 j hj (by omega)
theorem no_two (l : List Int) (h : dupFrom l 0 l = false) (i j : Nat) (hi : i < l.length) (hj : j < l.length) (hne : i ≠ j) : l[i] ≠ l[j] := by
  have key : ∀ i j (hi : i < l.length) (hj : j < l.length), i < j → l[i] ≠ l[j] := by
    intro i j hi hj hlt e
    have := dup_no l l.length 0 rfl (by rw [List.drop_zero]; exact h) j hj (by omega)
    apply this
    rw [← e]
    rw [List.mem_take_iff_getElem]
    exact ⟨i, by omega, rfl⟩
  rcases Nat.lt_or_gt_of_ne hne with h' | h'
  · exact key i j hi hj h'
  · exact fun e => key j i hj hi h' e.symm
theorem ff_true (l : List Int) (b : Nat → Bool) (j : Nat) : ∀ c i, (∀ m, i ≤ m → m < i + c → m ≠ j → b m = true → partB (l.getD m 0) (l.getD j 0) = false) → ff l b j i c = true
  | 0, i, _ => rfl
  | c + 1, i, h => by
    have ih := ff_true l b j c (i + 1) (fun m h1 h2 => h m (by omega) (by omega))
    rw [ff]
    by_cases e : i = j
    · rw [if_pos e]; exact ih
    · rw [if_neg e]
      by_cases hb : b i = true
      · rw [if_pos hb, h i (Nat.le_refl _) (by omega) e hb, if_neg (by decide)]; exact ih
      · rw [if_neg hb]; exact ih
theorem free_ev (l : List Int) (b : List Bool) (j : Nat) (hb : b.length = l.length) (hn : l.length ≤ 1000) (hj : j < l.length) : Ev (fun k => spec_l1Free.f k l b (j : Int)) (ff l (fun i => b.getD i false) j 0 l.length) := by
  have main : ∀ c i, i + c = l.length → Ev (fun k => spec_l1Free.l0 k l b (j : Int) l (l.length : Int) (i : Int)) (ff l (fun i => b.getD i false) j i c) := by
    intro c
    induction c with
    | zero =>
      intro i hi
      refine ev_step1 (fun k => ?_)
      simp only [spec_l1Free.l0]
      rw [if_neg (by omega), ff]
    | succ c ih =>
      intro i hi
      have h := ih (i + 1) (by omega)
      have hr : rdOf false b (i : Int) = b.getD i false := by simp [rdOf]
      rw [ff]
      by_cases e : i = j
      · rw [if_pos e]
        refine Ev.step (fun k => ?_) h
        simp only [spec_l1Free.l0]
        rw [if_pos (by omega), if_pos (by omega), if_pos (by omega), if_pos (by omega), w1 i (by omega)]
      · rw [if_neg e]
        by_cases hbi : b.getD i false = true
        · rw [if_pos hbi]
          by_cases hp : partB (l.getD i 0) (l.getD j 0) = true
          · rw [if_pos hp]
            refine ev_step1 (fun k => ?_)
            simp only [spec_l1Free.l0]
            rw [if_pos (by omega), if_pos (by omega), if_pos (by omega), if_neg (by omega), if_pos (by omega), hr, if_pos hbi, if_pos (by omega), if_pos (by omega), rd_getD, rd_getD, spec_part_eq, Option.bind_some, if_pos hp]
          · rw [if_neg hp]
            refine Ev.step (fun k => ?_) h
            simp only [spec_l1Free.l0]
            rw [if_pos (by omega), if_pos (by omega), if_pos (by omega), if_neg (by omega), if_pos (by omega), hr, if_pos hbi, if_pos (by omega), if_pos (by omega), rd_getD, rd_getD, spec_part_eq, Option.bind_some, if_neg hp, w1 i (by omega)]
        · rw [if_neg hbi]
          refine Ev.step (fun k => ?_) h
          simp only [spec_l1Free.l0]
          rw [if_pos (by omega), if_pos (by omega), if_pos (by omega), if_neg (by omega), if_pos (by omega), hr, if_neg hbi, w1 i (by omega)]
  exact main l.length 0 (by omega)
/-- Of distinct sets that are left, one is free. -/
theorem some_free (l : List Int) (hbar : isBar l = true) (hd : dupFrom l 0 l = false) (b : List Bool) (hb : b.length = l.length) (j0 : Nat) (h0 : j0 < l.length) (ht : b.getD j0 false = true) :
    ∃ j, j < l.length ∧ b.getD j false = true ∧ ff l (fun i => b.getD i false) j 0 l.length = true := by
  obtain ⟨_, _, hs⟩ := (isBar_iff l).1 hbar
  obtain ⟨m, ⟨j, hj, hbj, hm⟩, hmin⟩ := exists_min (fun v => ∃ j, ∃ _ : j < l.length, b.getD j false = true ∧ (l.getD j 0).toNat = v) _ ⟨j0, h0, ht, rfl⟩
  refine ⟨j, hj, hbj, ff_true l _ j l.length 0 (fun i _ h2 hne hbi => ?_)⟩
  have hi : i < l.length := by omega
  have hsi := hs l[i] (List.getElem_mem hi)
  have hsj := hs l[j] (List.getElem_mem hj)
  have hne2 := no_two l hd i j hi hj hne
  rw [getD_nat l j hj] at hm ⊢
  rw [getD_nat l i hi]
  by_cases hp : partB l[i] l[j] = true
  · exfalso
    have h3 := part_le_all l[i].toNat (by omega) l[j].toNat (by omega)
    rw [show ((l[i].toNat : Nat) : Int) = l[i] by omega, show ((l[j].toNat : Nat) : Int) = l[j] by omega] at h3
    have h4 := h3 hp
    exact hmin l[i].toNat (by omega) ⟨i, hi, hbi, by rw [getD_nat l i hi]⟩
  · simpa using hp
theorem order_l2 (l : List Int) (b : List Bool) (out : List Int) (hb : b.length = l.length) (hn : l.length ≤ 1000) (ho : out.length ≤ 1000)
    (hnext : ∀ j (hj : j < l.length), b.getD j false = true → ∃ r, Ev (fun k => spec_OrderBar.l1 k l (b.set j false) (out ++ [l[j]])) (r, true) ∧ r.length = l.length) :
    ∀ d i, l.length - i = d → (∃ j, i ≤ j ∧ j < l.length ∧ b.getD j false = true ∧ ff l (fun i => b.getD i false) j 0 l.length = true) →
      ∃ r, Ev (fun k => spec_OrderBar.l2 k l b out l (l.length : Int) (i : Int)) (r, true) ∧ r.length = l.length := by
  intro d
  induction d with
  | zero => rintro i hd ⟨j, h1, h2, _⟩; omega
  | succ d ih =>
    rintro i hd ⟨j, h1, h2, h3, h4⟩
    have hi : i < l.length := by omega
    have hr : rdOf false b (i : Int) = b.getD i false := by simp [rdOf]
    by_cases hbi : b.getD i false = true
    · have hfree := free_ev l b i hb hn hi
      by_cases hf : ff l (fun i => b.getD i false) i 0 l.length = true
      · rw [hf] at hfree
        obtain ⟨r, hr1, hr2⟩ := hnext i hi hbi
        refine ⟨r, ?_, hr2⟩
        refine Ev.step (f := fun k => (spec_l1Free.f k l b (i : Int)).bind fun t => if t = true then spec_OrderBar.l1 k l (b.set i false) (out ++ [l[i]]) else spec_OrderBar.l2 k l b out l (l.length : Int) ((i + 1 : Nat) : Int)) (fun k => ?_) (Ev.bind (f := fun k t => if t = true then spec_OrderBar.l1 k l (b.set i false) (out ++ [l[i]]) else spec_OrderBar.l2 k l b out l (l.length : Int) ((i + 1 : Nat) : Int)) hfree (by simp only [if_true]; exact hr1))
        simp only [spec_OrderBar.l2]
        rw [if_pos (by omega), if_pos (by omega), if_pos (by omega), if_pos (by omega), hr, if_pos hbi, if_pos (show out.length < 17592186044416 by omega), rd_nat l i hi, w1 i (by omega), Int.toNat_natCast]
      · have hf' : ff l (fun i => b.getD i false) i 0 l.length = false := by simpa using hf
        rw [hf'] at hfree
        have hne : i ≠ j := fun e => by subst e; exact hf h4
        obtain ⟨r, hr1, hr2⟩ := ih (i + 1) (by omega) ⟨j, by omega, h2, h3, h4⟩
        refine ⟨r, ?_, hr2⟩
        refine Ev.step (f := fun k => (spec_l1Free.f k l b (i : Int)).bind fun t => if t = true then spec_OrderBar.l1 k l (b.set i false) (out ++ [l[i]]) else spec_OrderBar.l2 k l b out l (l.length : Int) ((i + 1 : Nat) : Int)) (fun k => ?_) (Ev.bind (f := fun k t => if t = true then spec_OrderBar.l1 k l (b.set i false) (out ++ [l[i]]) else spec_OrderBar.l2 k l b out l (l.length : Int) ((i + 1 : Nat) : Int)) hfree (by simp only [Bool.false_eq_true, if_false]; exact hr1))
        simp only [spec_OrderBar.l2]
        rw [if_pos (by omega), if_pos (by omega), if_pos (by omega), if_pos (by omega), hr, if_pos hbi, if_pos (show out.length < 17592186044416 by omega), rd_nat l i hi, w1 i (by omega), Int.toNat_natCast]
    · have hne : i ≠ j := fun e => by subst e; exact hbi h3
      obtain ⟨r, hr1, hr2⟩ := ih (i + 1) (by omega) ⟨j, by omega, h2, h3, h4⟩
      refine ⟨r, Ev.step (fun k => ?_) hr1, hr2⟩
      simp only [spec_OrderBar.l2]
      rw [if_pos (by omega), if_pos (by omega), if_pos (by omega), if_pos (by omega), hr, if_neg hbi, w1 i (by omega)]
theorem order_l1 (l : List Int) (hbar : isBar l = true) (hd : dupFrom l 0 l = false) : ∀ c (b : List Bool) (out : List Int), b.length = l.length → b.count true = c → out.length + c = l.length →
    ∃ r, Ev (fun k => spec_OrderBar.l1 k l b out) (r, true) ∧ r.length = l.length := by
  obtain ⟨l1, l2, _⟩ := (isBar_iff l).1 hbar
  intro c
  induction c with
  | zero =>
    intro b out hb hc ho
    exact ⟨out, ev_step1 (fun k => by simp only [spec_OrderBar.l1]; rw [if_neg (by omega)]), by omega⟩
  | succ c ih =>
    intro b out hb hc ho
    have hmem : true ∈ b := List.count_pos_iff.1 (by omega)
    obtain ⟨j0, hj0, hbj⟩ := List.getElem_of_mem hmem
    obtain ⟨j, h1, h2, h3⟩ := some_free l hbar hd b hb j0 (by omega) (by rw [List.getD_eq_getElem?_getD, List.getElem?_eq_getElem hj0, hbj]; rfl)
    obtain ⟨r, hr1, hr2⟩ := order_l2 l b out hb (by omega) (by omega) (fun q hq hbq => by
      have hqb : q < b.length := by omega
      rw [List.getD_eq_getElem?_getD, List.getElem?_eq_getElem hqb] at hbq
      simp only [Option.getD_some] at hbq
      refine ih (b.set q false) (out ++ [l[q]]) (by rw [List.length_set]; exact hb) ?_ (by simp only [List.length_append, List.length_singleton]; omega)
      rw [List.count_set hqb, hbq]
      simp
      omega) l.length 0 rfl ⟨j, by omega, h1, h2, h3⟩
    refine ⟨r, Ev.step (fun k => ?_) hr1, hr2⟩
    simp only [spec_OrderBar.l1]
    rw [if_pos (by omega)]
    rfl
theorem order_l0 (l : List Int) (hbar : isBar l = true) (hd : dupFrom l 0 l = false) : ∀ c i (b : List Bool), i + c = l.length → b.length = l.length → (∀ j, j < i → b[j]? = some true) →
    ∃ r, Ev (fun k => spec_OrderBar.l0 k l b (l.length : Int) (i : Int)) (r, true) ∧ r.length = l.length := by
  obtain ⟨l1, l2, _⟩ := (isBar_iff l).1 hbar
  intro c
  induction c with
  | zero =>
    intro i b hi hb hx
    have e : b = List.replicate l.length true := by
      apply List.ext_getElem (by rw [hb, List.length_replicate])
      intro j h1 h2
      have := hx j (by omega)
      rw [List.getElem?_eq_getElem h1] at this
      rw [Option.some.inj this, List.getElem_replicate]
    subst e
    obtain ⟨r, hr1, hr2⟩ := order_l1 l hbar hd l.length (List.replicate l.length true) [] (by simp) (by simp) (by simp)
    refine ⟨r, Ev.step (fun k => ?_) hr1, hr2⟩
    simp only [spec_OrderBar.l0]
    rw [if_neg (by omega)]
  | succ c ih =>
    intro i b hi hb hx
    obtain ⟨r, hr1, hr2⟩ := ih (i + 1) (b.set i true) (by omega) (by rw [List.length_set, hb]) (fun j hj => by
      rw [List.getElem?_set]
      by_cases e : i = j
      · subst e; rw [if_pos rfl, if_pos (by omega)]
      · rw [if_neg e]; exact hx j (by omega))
    refine ⟨r, Ev.step (fun k => ?_) hr1, hr2⟩
    simp only [spec_OrderBar.l0]
    rw [if_pos (by omega), if_pos (by omega), if_pos (by omega), w1 i (by omega), Int.toNat_natCast]
theorem orderBar_ok (l : List Int) (hbar : isBar l = true) (hd : dupFrom l 0 l = false) : ∃ r, Ev (fun k => spec_OrderBar.f k l) (r, true) ∧ r.length = l.length := by
  obtain ⟨l1, l2, _⟩ := (isBar_iff l).1 hbar
  have hs := spec_l1Sets_ev l (by omega)
  rw [hd, hbar] at hs
  obtain ⟨r, hr1, hr2⟩ := order_l0 l hbar hd l.length 0 (List.replicate l.length false) (by omega) (by simp) (fun j hj => absurd hj (Nat.not_lt_zero j))
  refine ⟨r, Ev.bind (f := fun k t => if t = true then (if 0 ≤ (l.length : Int) then (if ((l.length : Int) : Int).toNat ≤ 281474976710656 then ((some (List.replicate ((l.length : Int) : Int).toNat false : List Bool)).bind fun y155 => (spec_OrderBar.l0 k l y155 (y155.length : Int) 0)) else (none)) else (none)) else (some (([] : List Int), false))) hs ?_, hr2⟩
  refine ev_eq hr1 (fun k => ?_)
  rw [if_pos (by decide), if_pos (by omega), Int.toNat_natCast, if_pos (by omega), Option.bind_some, List.length_replicate]
  rfl
theorem or3_all7 : ∀ x : Nat, x < 5 → ∀ y : Nat, y < 5 → ∀ z : Nat, z < 7 → 0 ≤ Go.bits .or .i64 (Go.bits .or .i64 (shl .i64 1 (x : Int)) (shl .i64 1 (y : Int))) (shl .i64 1 (z : Int)) ∧ Go.bits .or .i64 (Go.bits .or .i64 (shl .i64 1 (x : Int)) (shl .i64 1 (y : Int))) (shl .i64 1 (z : Int)) ≤ 127 := by decide +kernel
theorem pick_ok (c : List Int) (i h : Int) (l : List ByteArray) (hc : Cur c i) (h1 : 1 ≤ l.length) (h2 : l.length ≤ 256) : ∃ x i' h', spec_l01Pick.f c i h l = some (x, i', h') ∧ x ∈ l ∧ Cur c i' := by
  obtain ⟨x, i', h', e, x1, x2, hc'⟩ := below_ok c i h (l.length : Int) hc (by omega) (by omega)
  unfold spec_l01Pick.f
  rw [e, Option.bind_some]
  simp only
  rw [if_pos x1, if_pos x2]
  refine ⟨_, _, _, rfl, ?_, hc'⟩
  obtain ⟨n, rfl⟩ : ∃ n : Nat, x = n := ⟨x.toNat, by omega⟩
  rw [rdOf_nat _ l n (by omega)]
  exact List.getElem_mem _
theorem l2font_l1 (c cs : List Int) (hs : cs.length ≤ 40) : ∀ d (j : Nat) (a : ByteArray) (ws : List Int) (i h : Int), j + d = cs.length → a.size = j → ws.length = j → Cur c i →
    ∃ a' ws' i' h', Ev (fun k => spec_l2Font.l1 k (cs.length : Int) (j : Int) c i h a ws cs) (a', ws', cs, i', h') ∧ a'.size = cs.length ∧ ws'.length = cs.length ∧ Cur c i' := by
  intro d
  induction d with
  | zero =>
    intro j a ws i h hj ha hw hc
    refine ⟨a, ws, i, h, ev_step1 (fun k => ?_), by omega, by omega, hc⟩
    simp only [spec_l2Font.l1]
    rw [if_neg (by omega)]
  | succ d ih =>
    intro j a ws i h hj ha hw hc
    obtain ⟨x1, i1, h1, e1, r1, s1, c1⟩ := below_ok c i h 20 hc (by omega) (by omega)
    have hx : ∀ L : ByteArray, L.size = 40 → (L.extract j (j + 1)).size = 1 := fun L hL => by rw [ByteArray.size_extract, hL]; omega
    have hL := hx ⟨#[97, 101, 110, 111, 114, 116, 105, 46, 44, 104, 115, 100, 108, 117, 99, 109, 102, 119, 45, 103, 121, 112, 98, 118, 107, 113, 120, 106, 122, 33, 40, 41, 48, 49, 50, 51, 52, 53, 54, 55]⟩ rfl
    obtain ⟨a', ws', i', h', hr, q1, q2, q3⟩ := ih (j + 1) (a ++ (ByteArray.extract ⟨#[97, 101, 110, 111, 114, 116, 105, 46, 44, 104, 115, 100, 108, 117, 99, 109, 102, 119, 45, 103, 121, 112, 98, 118, 107, 113, 120, 106, 122, 33, 40, 41, 48, 49, 50, 51, 52, 53, 54, 55]⟩ j (j + 1))) (ws ++ [wrap64 (1 + x1)]) i1 h1 (by omega) (by rw [ByteArray.size_append, hL, ha]) (by rw [List.length_append, List.length_singleton, hw]) c1
    refine ⟨a', ws', i', h', Ev.step (fun k => ?_) hr, q1, q2, q3⟩
    simp only [spec_l2Font.l1]
    rw [if_pos (by omega), if_pos (by omega), w1 j (by omega), if_pos (by omega), if_pos (by omega), Int.toNat_natCast, Int.toNat_natCast, hL, if_pos (by omega), e1, Option.bind_some]
    simp only
    rw [if_pos (by omega)]
theorem l2font_l0 (c : List Int) : ∀ (d : Nat) (l : List Int) (i h : Int), d ≤ 40 → (l = [] ∨ (isBar l = true ∧ dupFrom l 0 l = false)) → (l ≠ [] ∨ 0 < d) → Cur c i →
    ∃ a ws cs i' h', Ev (fun k => spec_l2Font.l0 k l (d : Int) c i h (⟨#[]⟩ : ByteArray)) (a, ws, cs, i', h') ∧ a.size = cs.length ∧ ws.length = cs.length ∧ 1 ≤ cs.length ∧ cs.length ≤ 40 ∧ Cur c i' := by
  intro d
  induction d with
  | zero =>
    intro l i h hd hg hne hc
    rcases hg with hg | ⟨g1, g2⟩
    · rcases hne with hne | hne
      · exact absurd hg hne
      · omega
    obtain ⟨r, ⟨K, hr⟩, hrl⟩ := orderBar_ok l g1 g2
    obtain ⟨b1, b2, _⟩ := (isBar_iff l).1 g1
    obtain ⟨a', ws', i', h', ⟨K2, hr2⟩, q1, q2, q3⟩ := l2font_l1 c r (by omega) r.length 0 ⟨#[]⟩ [] i h (by omega) rfl rfl hc
    refine ⟨a', ws', r, i', h', ⟨K + K2 + 1, fun k hk => ?_⟩, q1, q2, by omega, by omega, q3⟩
    obtain ⟨k, rfl⟩ : ∃ z, k = z + 1 := ⟨k - 1, by omega⟩
    simp only [spec_l2Font.l0, hr k (by omega), Option.bind_some]
    rw [if_neg (by omega)]
    exact hr2 k (by omega)
  | succ d ih =>
    intro l i h hd hg hne hc
    have eD : wrap64 (((d + 1 : Nat) : Int) - 1) = (d : Int) := by rw [wrap_id _ (by omega) (by omega)]; omega
    have hll : l.length ≤ 40 := by
      rcases hg with hg | ⟨g1, _⟩
      · rw [hg]; simp
      · exact ((isBar_iff l).1 g1).2.1
    obtain ⟨y1, k1, g1, f1, a1, b1, d1⟩ := below_ok c i h 5 hc (by omega) (by omega)
    obtain ⟨y2, k2, g2, f2, a2, b2, d2⟩ := below_ok c k1 g1 5 d1 (by omega) (by omega)
    obtain ⟨y3, k3, g3, f3, a3, b3, d3⟩ := below_ok c k2 g2 7 d2 (by omega) (by omega)
    have ho := or3_all7 y1.toNat (by omega) y2.toNat (by omega) y3.toNat (by omega)
    rw [Int.toNat_of_nonneg a1, Int.toNat_of_nonneg a2, Int.toNat_of_nonneg a3] at ho
    have hbody : ∀ s, 0 ≤ s → s ≤ 127 → ∃ a ws cs i' h', Ev (fun k => (spec_l1Sets.f k (([] : List Int) ++ l ++ [s])).bind fun t => if t = true then spec_l2Font.l0 k (([] : List Int) ++ l ++ [s]) (d : Int) c k3 g3 (⟨#[]⟩ : ByteArray) else spec_l2Font.l0 k l (d : Int) c k3 g3 (⟨#[]⟩ : ByteArray)) (a, ws, cs, i', h') ∧ a.size = cs.length ∧ ws.length = cs.length ∧ 1 ≤ cs.length ∧ cs.length ≤ 40 ∧ Cur c i' := by
      intro s hs0 hs1
      have hne2 : ([] : List Int) ++ l ++ [s] ≠ [] := by simp
      have hs := spec_l1Sets_ev (([] : List Int) ++ l ++ [s]) (by simp only [List.length_append, List.length_nil, List.length_singleton]; omega)
      by_cases ht : (!dupFrom (([] : List Int) ++ l ++ [s]) 0 (([] : List Int) ++ l ++ [s]) && isBar (([] : List Int) ++ l ++ [s])) = true
      · rw [ht] at hs
        obtain ⟨t1, t2⟩ : dupFrom (([] : List Int) ++ l ++ [s]) 0 (([] : List Int) ++ l ++ [s]) = false ∧ isBar (([] : List Int) ++ l ++ [s]) = true := by
          rw [Bool.and_eq_true, Bool.not_eq_true'] at ht
          exact ht
        obtain ⟨a, ws, cs, i', h', hr, p⟩ := ih _ k3 g3 (by omega) (Or.inr ⟨t2, t1⟩) (Or.inl hne2) d3
        exact ⟨a, ws, cs, i', h', Ev.bind (f := fun k t => if t = true then spec_l2Font.l0 k (([] : List Int) ++ l ++ [s]) (d : Int) c k3 g3 (⟨#[]⟩ : ByteArray) else spec_l2Font.l0 k l (d : Int) c k3 g3 (⟨#[]⟩ : ByteArray)) hs (by simp only [if_true]; exact hr), p⟩
      · have hf : (!dupFrom (([] : List Int) ++ l ++ [s]) 0 (([] : List Int) ++ l ++ [s]) && isBar (([] : List Int) ++ l ++ [s])) = false := by simpa using ht
        rw [hf] at hs
        have hln : l ≠ [] := fun e => by
          subst e
          obtain ⟨q1, q2⟩ := single_good s hs0 hs1
          apply ht
          rw [show ([] : List Int) ++ [] ++ [s] = [s] from rfl, q1, q2]
          rfl
        obtain ⟨a, ws, cs, i', h', hr, p⟩ := ih l k3 g3 (by omega) hg (Or.inl hln) d3
        exact ⟨a, ws, cs, i', h', Ev.bind (f := fun k t => if t = true then spec_l2Font.l0 k (([] : List Int) ++ l ++ [s]) (d : Int) c k3 g3 (⟨#[]⟩ : ByteArray) else spec_l2Font.l0 k l (d : Int) c k3 g3 (⟨#[]⟩ : ByteArray)) hs (by simp only [Bool.false_eq_true, if_false]; exact hr), p⟩
    obtain ⟨a, ws, cs, i', h', hr, p⟩ := hbody _ ho.1 ho.2
    refine ⟨a, ws, cs, i', h', Ev.step (fun k => ?_) hr, p⟩
    simp only [spec_l2Font.l0, f1, f2, f3, Option.bind_some, eD]
    rw [if_pos (by omega), if_pos a1, if_pos a2, if_pos a3, if_pos (by simp only [List.length_nil]; omega), if_pos (by simp only [List.length_append, List.length_nil]; omega)]
theorem l2font_ok (c : List Int) (i h n : Int) (hc : Cur c i) (h1 : 1 ≤ n) (h2 : n ≤ 40) : ∃ a ws cs i' h', Ev (fun k => spec_l2Font.f k c i h n) (a, ws, cs, i', h') ∧ a.size = cs.length ∧ ws.length = cs.length ∧ 1 ≤ cs.length ∧ cs.length ≤ 40 ∧ Cur c i' := by
  obtain ⟨x1, i1, g1, e1, r1, s1, c1⟩ := below_ok c i h n hc h1 (by omega)
  obtain ⟨a, ws, cs, i', h', hr, p⟩ := l2font_l0 c (1 + x1).toNat [] i1 g1 (by omega) (Or.inl rfl) (Or.inr (by omega)) c1
  refine ⟨a, ws, cs, i', h', ev_eq hr (fun k => ?_), p⟩
  simp only [spec_l2Font.f, e1, Option.bind_some]
  rw [wrap_id (1 + x1) (by omega) (by omega), Int.toNat_of_nonneg (by omega)]
theorem l2any_ok (c : List Int) (i h : Int) (hc : Cur c i) : ∃ a ws cs i' h', Ev (fun k => spec_l2Any.f k c i h) (a, ws, cs, i', h') ∧ a.size ≤ 41 ∧ cs.length ≤ 41 ∧ Cur c i' := by
  obtain ⟨a, ws, cs, i1, g1, ⟨K, hr⟩, p1, p2, p3, p4, c1⟩ := l2font_ok c i h 9 hc (by omega) (by omega)
  obtain ⟨x2, i2, g2, e2, _, _, c2⟩ := below_ok c i1 g1 20 c1 (by omega) (by omega)
  obtain ⟨y, i3, g3, e3, m3, c3⟩ := pick_ok c i2 g2 [(⟨#[97]⟩ : ByteArray), (⟨#[32]⟩ : ByteArray), (⟨#[126]⟩ : ByteArray), (⟨#[]⟩ : ByteArray)] c2 (by simp) (by simp)
  have hy : y.size ≤ 1 := by
    simp only [List.mem_cons, List.not_mem_nil, or_false] at m3
    rcases m3 with rfl | rfl | rfl | rfl <;> decide
  obtain ⟨z, i4, g4, e4, _, c4⟩ := int_ok c i3 g3 [0, 1, 60, 61] c3 (by decide) (by decide)
  obtain ⟨u, i5, g5, e5, _, c5⟩ := int_ok c i4 g4 [127, 0, 3, 128] c4 (by decide) (by decide)
  obtain ⟨v, i6, g6, e6, _, c6⟩ := int_ok c i2 g2 [0, 61, (-5), 60] c2 (by decide) (by decide)
  by_cases k0 : x2 = 0
  · refine ⟨a ++ y, ws ++ [z], cs ++ [u], i5, g5, ⟨K, fun k hk => ?_⟩, by rw [ByteArray.size_append]; omega, by rw [List.length_append, List.length_singleton]; omega, c5⟩
    simp only [spec_l2Any.f, hr k hk, e2, e3, e4, e5, Option.bind_some]
    rw [if_pos k0, if_pos (by omega), if_pos (by omega), if_pos (by omega)]
  by_cases k1 : x2 = 1
  · refine ⟨a, ws.set (0 : Int).toNat v, cs, i6, g6, ⟨K, fun k hk => ?_⟩, by omega, by omega, c6⟩
    simp only [spec_l2Any.f, hr k hk, e2, e6, Option.bind_some]
    rw [if_neg k0, if_pos k1, if_pos (by omega)]
  by_cases k2 : x2 = 2
  · refine ⟨a, ws, [] ++ cs.drop 1, i2, g2, ⟨K, fun k hk => ?_⟩, by omega, by rw [List.nil_append, List.length_drop]; omega, c2⟩
    simp only [spec_l2Any.f, hr k hk, e2, Option.bind_some]
    rw [if_neg k0, if_neg k1, if_pos k2, if_pos (by omega), if_pos (by rw [List.length_nil, List.length_drop]; omega)]
  by_cases k3 : x2 = 3
  · refine ⟨⟨#[]⟩, [], [], i2, g2, ⟨K, fun k hk => ?_⟩, by decide, by simp, c2⟩
    simp only [spec_l2Any.f, hr k hk, e2, Option.bind_some]
    rw [if_neg k0, if_neg k1, if_neg k2, if_pos k3]
  · refine ⟨a, ws, cs, i2, g2, ⟨K, fun k hk => ?_⟩, by omega, by omega, c2⟩
    simp only [spec_l2Any.f, hr k hk, e2, Option.bind_some]
    rw [if_neg k0, if_neg k1, if_neg k2, if_neg k3]
theorem getD_set (m : List (List S30)) (i q : Nat) (r : List S30) : (m.set i r).getD q [] = if i = q ∧ i < m.length then r else m.getD q [] := by
  rw [List.getD_eq_getElem?_getD, List.getElem?_set, List.getD_eq_getElem?_getD]
  by_cases e : i = q
  · subst e
    by_cases h : i < m.length
    · rw [if_pos rfl, if_pos h, if_pos ⟨rfl, h⟩]; rfl
    · rw [if_pos rfl, if_neg h, if_neg (fun z => h z.2), List.getElem?_eq_none (by omega)]
  · rw [if_neg e, if_neg (fun z => e z.1)]
theorem getD_empty (n q : Nat) : (List.replicate n ([] : List S30)).getD q [] = [] := by
  rw [List.getD_eq_getElem?_getD, List.getElem?_replicate]
  split <;> rfl
/-- Up to a channel filled, that one with b at most. -/
def RowsI (m : List (List S30)) (i b : Nat) : Prop := (∀ q, (m.getD q []).length ≤ 20) ∧ (m.getD i []).length ≤ b ∧ ∀ q, i < q → m.getD q [] = []
theorem rowsI_put (m : List (List S30)) (i b : Nat) (x : S30) (h : RowsI m i b) (hb : b < 20) : RowsI (m.set i (m.getD i [] ++ [x])) i (b + 1) := by
  obtain ⟨h1, h2, h3⟩ := h
  refine ⟨fun q => ?_, ?_, fun q hq => ?_⟩
  · rw [getD_set]
    split
    · rw [List.length_append, List.length_singleton]; omega
    · exact h1 q
  · rw [getD_set]
    split
    · rw [List.length_append, List.length_singleton]; omega
    · omega
  · rw [getD_set, if_neg (fun e => by omega)]; exact h3 q hq
theorem stock_l1 (c : List Int) (a : ByteArray) (ws cs : List Int) (N : Nat) (hN : N ≤ 100) (i : Nat) (hi : i < N) (x7 x19 : Int) (P : List (List S30) × Int × Int → Prop)
    (hP : ∀ (m : List (List S30)) (j h : Int), m.length = N → RowsI m i 20 → Cur c j → ∃ r, Ev (fun k => spec_l2Stock.l0 k (N : Int) m x7 x19 ((i + 1 : Nat) : Int) c j h a ws cs) r ∧ P r) :
    ∀ d, d ≤ 20 → ∀ (m : List (List S30)) (j h : Int), m.length = N → RowsI m i (20 - d) → Cur c j →
      ∃ r, Ev (fun k => spec_l2Stock.l1 k (N : Int) m x7 (i : Int) (d : Int) x19 (i : Int) c j h a ws cs) r ∧ P r := by
  intro d
  induction d with
  | zero =>
    intro hd m j h hm hb hc
    obtain ⟨r, hr, p⟩ := hP m j h hm hb hc
    refine ⟨r, Ev.step (fun k => ?_) hr, p⟩
    simp only [spec_l2Stock.l1]
    rw [if_neg (by omega), w1 i (by omega)]
  | succ d ih =>
    intro hd m j h hm hb hc
    have eD : wrap64 (((d + 1 : Nat) : Int) - 1) = (d : Int) := by rw [wrap_id _ (by omega) (by omega)]; omega
    have hrow : ∀ x : S30, rd_L2 m (i : Int) = m.getD i [] := fun _ => rfl
    have hbi := hb.1 i
    have put : ∀ (f0 f1 j h : Int), Cur c j → ∃ r, Ev (fun k => spec_l2Stock.l1 k (N : Int) (m.set i (m.getD i [] ++ [⟨f0, f1⟩])) x7 (i : Int) (d : Int) x19 (i : Int) c j h a ws cs) r ∧ P r := fun f0 f1 j h hc =>
      ih (by omega) _ j h (by rw [List.length_set]; exact hm) (by have := rowsI_put m i (20 - (d + 1)) ⟨f0, f1⟩ hb (by omega); rwa [show 20 - (d + 1) + 1 = 20 - d by omega] at this) hc
    have j5 : ∀ (f0 f1 j h : Int), Cur c j → ∃ r, Ev (fun k => spec_l2Stock.j5 k (N : Int) m x7 (i : Int) ((d + 1 : Nat) : Int) x19 (i : Int) c j h a ws cs f0 f1) r ∧ P r := by
      intro f0 f1 j h hc
      by_cases h7 : x7 > 1
      · obtain ⟨x1, j1, g1, e1, _, _, c1⟩ := below_ok c j h 3 hc (by omega) (by omega)
        by_cases hb1 : (x1 == 0) = true
        · obtain ⟨x2, j2, g2, e2, r2, s2, c2⟩ := below_ok c j1 g1 7 c1 (by omega) (by omega)
          obtain ⟨r, hr, p⟩ := put f0 (Go.bits .andNot .i64 f1 (shl .i64 1 x2)) j2 g2 c2
          refine ⟨r, Ev.step (fun k => ?_) hr, p⟩
          simp only [spec_l2Stock.j5, spec_l01Once.f, e1, e2, Option.bind_some, eD]
          rw [if_pos h7, if_pos hb1, if_pos r2, if_pos (by omega), if_pos (by omega), hrow ⟨0, 0⟩, if_pos (by omega), Int.toNat_natCast]
        · obtain ⟨r, hr, p⟩ := put f0 f1 j1 g1 c1
          refine ⟨r, Ev.step (fun k => ?_) hr, p⟩
          simp only [spec_l2Stock.j5, spec_l01Once.f, e1, Option.bind_some, eD]
          rw [if_pos h7, if_neg hb1, if_pos (by omega), if_pos (by omega), hrow ⟨0, 0⟩, if_pos (by omega), Int.toNat_natCast]
      · obtain ⟨r, hr, p⟩ := put f0 f1 j h hc
        refine ⟨r, Ev.step (fun k => ?_) hr, p⟩
        simp only [spec_l2Stock.j5, eD]
        rw [if_neg h7, if_pos (by omega), if_pos (by omega), hrow ⟨0, 0⟩, if_pos (by omega), Int.toNat_natCast]
    have j4 : ∀ (f0 f1 j h : Int), 0 ≤ f0 → Cur c j → ∃ r, Ev (fun k => spec_l2Stock.j4 k (N : Int) m x7 (i : Int) ((d + 1 : Nat) : Int) x19 (i : Int) c j h a ws cs f0 f1) r ∧ P r := by
      intro f0 f1 j h hf hc
      by_cases h0 : f0 < (cs.length : Int)
      · obtain ⟨r, hr, p⟩ := j5 f0 (rd cs f0) j h hc
        exact ⟨r, Ev.step (fun k => by simp only [spec_l2Stock.j4]; rw [if_pos h0, if_pos hf]) hr, p⟩
      · obtain ⟨r, hr, p⟩ := j5 f0 f1 j h hc
        exact ⟨r, Ev.step (fun k => by simp only [spec_l2Stock.j4]; rw [if_neg h0]) hr, p⟩
    have j3 : ∀ (b : Bool) (j h : Int), Cur c j → ∃ r, Ev (fun k => spec_l2Stock.j3 k (N : Int) m x7 (i : Int) ((d + 1 : Nat) : Int) x19 (i : Int) b c j h a ws cs (i : Int) 0) r ∧ P r := by
      intro b j h hc
      cases b with
      | true =>
        obtain ⟨x1, j1, g1, e1, r1, _, c1⟩ := below_ok c j h (N : Int) hc (by omega) (by omega)
        obtain ⟨r, hr, p⟩ := j4 x1 0 j1 g1 r1 c1
        exact ⟨r, Ev.step (fun k => by simp only [spec_l2Stock.j3, e1, Option.bind_some, if_true]) hr, p⟩
      | false =>
        obtain ⟨r, hr, p⟩ := j4 (i : Int) 0 j h (by omega) hc
        exact ⟨r, Ev.step (fun k => by simp only [spec_l2Stock.j3, Bool.false_eq_true, if_false]) hr, p⟩
    by_cases h7 : x7 > 0
    · obtain ⟨x1, j1, g1, e1, _, _, c1⟩ := below_ok c j h 4 hc (by omega) (by omega)
      obtain ⟨r, hr, p⟩ := j3 (x1 == 0) j1 g1 c1
      refine ⟨r, Ev.step (fun k => ?_) hr, p⟩
      simp only [spec_l2Stock.l1, spec_l01Once.f, e1, Option.bind_some]
      rw [if_pos (by omega), if_pos h7]
    · obtain ⟨r, hr, p⟩ := j3 false j h hc
      refine ⟨r, Ev.step (fun k => ?_) hr, p⟩
      simp only [spec_l2Stock.l1]
      rw [if_pos (by omega), if_neg h7]
theorem stock_l0 (c : List Int) (a : ByteArray) (ws cs : List Int) (N : Nat) (hN : N ≤ 100) (x7 : Int) : ∀ d i (m : List (List S30)) (j h : Int), i + d = N → m.length = N → (∀ q, (m.getD q []).length ≤ 20) → (∀ q, i ≤ q → m.getD q [] = []) → Cur c j →
    ∃ r : List (List S30) × Int × Int, Ev (fun k => spec_l2Stock.l0 k (N : Int) m x7 (N : Int) (i : Int) c j h a ws cs) r ∧ r.1.length = N ∧ (∀ q, (r.1.getD q []).length ≤ 20) ∧ Cur c r.2.1 := by
  intro d
  induction d with
  | zero =>
    intro i m j h hi hm hb hz hc
    refine ⟨(m, j, h), ev_step1 (fun k => ?_), hm, hb, hc⟩
    simp only [spec_l2Stock.l0]
    rw [if_neg (by omega)]
  | succ d ih =>
    intro i m j h hi hm hb hz hc
    obtain ⟨x1, j1, g1, e1, r1, s1, c1⟩ := below_ok c j h 5 hc (by omega) (by omega)
    obtain ⟨x2, j2, g2, e2, _, _, c2⟩ := below_ok c j1 g1 10 c1 (by omega) (by omega)
    have go : ∀ (x j h : Int), 0 ≤ x → x ≤ 20 → Cur c j → ∃ r : List (List S30) × Int × Int, Ev (fun k => spec_l2Stock.j1 k (N : Int) m x7 (i : Int) x (N : Int) (i : Int) c j h a ws cs) r ∧ r.1.length = N ∧ (∀ q, (r.1.getD q []).length ≤ 20) ∧ Cur c r.2.1 := by
      intro x j h hx0 hx1 hc
      obtain ⟨n, rfl⟩ := Int.eq_ofNat_of_zero_le hx0
      obtain ⟨r, hr, p⟩ := stock_l1 c a ws cs N hN i (by omega) x7 (N : Int) (fun r => r.1.length = N ∧ (∀ q, (r.1.getD q []).length ≤ 20) ∧ Cur c r.2.1) (fun m j h h1 h2 h3 => ih (i + 1) m j h (by omega) h1 h2.1 (fun q hq => h2.2.2 q (by omega)) h3) n (by omega) m j h hm ⟨hb, by rw [hz i (Nat.le_refl _)]; simp, fun q hq => hz q (by omega)⟩ hc
      exact ⟨r, Ev.step (fun k => by simp only [spec_l2Stock.j1]) hr, p⟩
    by_cases hb1 : (x2 == 0) = true
    · obtain ⟨x3, j3, g3, e3, r3, s3, c3⟩ := below_ok c j2 g2 2 c2 (by omega) (by omega)
      have ew := wrap_id (19 + x3) (by omega) (by omega)
      obtain ⟨r, hr, p⟩ := go (19 + x3) j3 g3 (by omega) (by omega) c3
      refine ⟨r, Ev.step (fun k => ?_) hr, p⟩
      simp only [spec_l2Stock.l0, spec_l01Once.f, e1, e2, e3, Option.bind_some, ew]
      rw [if_pos (by omega), if_pos hb1]
    · obtain ⟨r, hr, p⟩ := go x1 j2 g2 r1 (by omega) c2
      refine ⟨r, Ev.step (fun k => ?_) hr, p⟩
      simp only [spec_l2Stock.l0, spec_l01Once.f, e1, e2, Option.bind_some]
      rw [if_pos (by omega), if_neg hb1]
theorem l2stock_ok (c : List Int) (i h : Int) (a : ByteArray) (ws cs : List Int) (hc : Cur c i) (ha : a.size ≤ 100) : ∃ m i' h', Ev (fun k => spec_l2Stock.f k c i h a ws cs) (m, i', h') ∧ m.length = a.size ∧ (∀ q, (m.getD q []).length ≤ 20) ∧ Cur c i' := by
  obtain ⟨x1, j1, g1, e1, r1, s1, c1⟩ := below_ok c i h 3 hc (by omega) (by omega)
  obtain ⟨⟨m, i', h'⟩, hr, p⟩ := stock_l0 c a ws cs a.size ha x1 a.size 0 (List.replicate a.size []) j1 g1 (by omega) (by simp) (fun q => by rw [getD_empty]; simp) (fun q _ => getD_empty _ q) c1
  refine ⟨m, i', h', ev_eq hr (fun k => ?_), p⟩
  simp only [spec_l2Stock.f, e1, Option.bind_some]
  rw [if_pos (by omega), if_pos (by omega), Int.toNat_natCast, List.length_replicate]
  rfl
theorem both_l0 (c : List Int) (a : ByteArray) (ws cs : List Int) (i h : Int) (z : Nat) : ∀ d (m : List (List S30)), (21 - (m.getD z []).length) = d → z < m.length → m.length ≤ 100 → (∀ q, (m.getD q []).length ≤ 21) →
    ∃ m', Ev (fun k => spec_l2Both.l0 k m (z : Int) c i h a ws cs) (a, ws, cs, m', i, h) ∧ m'.length ≤ 100 ∧ ∀ q, (m'.getD q []).length ≤ 21 := by
  intro d
  induction d with
  | zero =>
    intro m hd hz hm hb
    refine ⟨m, ev_step1 (fun k => ?_), hm, hb⟩
    simp only [spec_l2Both.l0]
    rw [if_pos (by omega), if_pos (by omega), if_neg (by show ¬ ((m.getD z []).length : Int) < 21; omega)]
  | succ d ih =>
    intro m hd hz hm hb
    obtain ⟨m', hr, p⟩ := ih (m.set z (m.getD z [] ++ [⟨0, 0⟩])) (by rw [getD_set, if_pos ⟨rfl, hz⟩, List.length_append, List.length_singleton]; omega) (by rw [List.length_set]; exact hz) (by rw [List.length_set]; exact hm) (fun q => by
      rw [getD_set]
      split
      · rw [List.length_append, List.length_singleton]; omega
      · exact hb q)
    refine ⟨m', Ev.step (fun k => ?_) hr, p⟩
    have hrow : rd_L2 m (z : Int) = m.getD z [] := rfl
    simp only [spec_l2Both.l0]
    rw [if_pos (by omega), if_pos (by omega), hrow, if_pos (by omega), if_pos (by omega), Int.toNat_natCast]
theorem l2both_ok (c : List Int) (i h : Int) (hc : Cur c i) : ∃ a ws cs m i' h', Ev (fun k => spec_l2Both.f k c i h) (a, ws, cs, m, i', h') ∧ cs.length ≤ 41 ∧ m.length ≤ 100 ∧ (∀ q, (m.getD q []).length ≤ 21) ∧ Cur c i' := by
  obtain ⟨a, ws, cs, i1, g1, ⟨K1, hr1⟩, p1, p2, c1⟩ := l2any_ok c i h hc
  obtain ⟨m, i2, g2, ⟨K2, hr2⟩, q1, q2, c2⟩ := l2stock_ok c i1 g1 a ws cs c1 (by omega)
  have hj : ∀ (b : Bool) (i h : Int), (b = true → 0 < m.length) → Cur c i → ∃ m' i' h', Ev (fun k => spec_l2Both.j0 k m b c i h a ws cs) (a, ws, cs, m', i', h') ∧ m'.length ≤ 100 ∧ (∀ q, (m'.getD q []).length ≤ 21) ∧ Cur c i' := by
    intro b i h hbm hc
    cases b with
    | false =>
      exact ⟨m, i, h, ev_step1 (fun k => by simp only [spec_l2Both.j0, Bool.false_eq_true, if_false]), by omega, fun q => by have := q2 q; omega, hc⟩
    | true =>
      have hm0 := hbm rfl
      obtain ⟨x1, j1, g1, e1, r1, s1, c1⟩ := below_ok c i h (m.length : Int) hc (by omega) (by omega)
      obtain ⟨z, rfl⟩ := Int.eq_ofNat_of_zero_le r1
      obtain ⟨x2, j2, g2, e2, r2, s2, c2⟩ := below_ok c j1 g1 3 c1 (by omega) (by omega)
      have hrow : rd_L2 m (z : Int) = m.getD z [] := rfl
      have hq := q2 z
      by_cases k0 : x2 = 0
      · obtain ⟨x3, j3, g3, e3, _, _, c3⟩ := below_ok c j2 g2 12 c2 (by omega) (by omega)
        refine ⟨m.set z (m.getD z [] ++ [⟨wrap64 (x3 - 1), 127⟩]), j3, g3, ev_step1 (fun k => ?_), by rw [List.length_set]; omega, fun q => ?_, c3⟩
        · simp only [spec_l2Both.j0, e1, e2, e3, Option.bind_some, if_true]
          rw [if_pos k0, if_pos (by omega), if_pos (by omega), hrow, if_pos (by omega), Int.toNat_natCast]
        · rw [getD_set]
          split
          · rw [List.length_append, List.length_singleton]; omega
          · have := q2 q; omega
      by_cases k1 : x2 = 1
      · have ew := wrap_id ((m.length : Int) - 1) (by omega) (by omega)
        refine ⟨m.take ((m.length : Int) - 1).toNat, j2, g2, ev_step1 (fun k => ?_), by rw [List.length_take]; omega, fun q => ?_, c2⟩
        · simp only [spec_l2Both.j0, e1, e2, Option.bind_some, if_true, ew]
          rw [if_neg k0, if_pos k1, if_pos (by omega), if_pos (by omega)]
        · have h2 := q2 q
          rw [List.getD_eq_getElem?_getD] at h2 ⊢
          rw [List.getElem?_take]
          split
          · omega
          · simp
      · obtain ⟨m', hr, p, p'⟩ := both_l0 c a ws cs j2 g2 z _ m rfl (by omega) (by omega) (fun q => by have := q2 q; omega)
        refine ⟨m', j2, g2, Ev.step (fun k => ?_) hr, p, p', c2⟩
        simp only [spec_l2Both.j0, e1, e2, Option.bind_some, if_true]
        rw [if_neg k0, if_neg k1]
  by_cases hm : (m.length : Int) > 0
  · obtain ⟨x3, i3, g3, e3, _, _, c3⟩ := below_ok c i2 g2 20 c2 (by omega) (by omega)
    obtain ⟨m', i', h', ⟨K3, hr3⟩, u1, u2, u3⟩ := hj (x3 == 0) i3 g3 (fun _ => by omega) c3
    refine ⟨a, ws, cs, m', i', h', ⟨K1 + K2 + K3, fun k hk => ?_⟩, p2, u1, u2, u3⟩
    simp only [spec_l2Both.f, spec_l01Once.f, hr1 k (by omega), hr2 k (by omega), e3, Option.bind_some]
    rw [if_pos hm]
    exact hr3 k (by omega)
  · obtain ⟨m', i', h', ⟨K3, hr3⟩, u1, u2, u3⟩ := hj false i2 g2 (fun e => by cases e) c2
    refine ⟨a, ws, cs, m', i', h', ⟨K1 + K2 + K3, fun k hk => ?_⟩, p2, u1, u2, u3⟩
    simp only [spec_l2Both.f, hr1 k (by omega), hr2 k (by omega), Option.bind_some]
    rw [if_neg hm]
    exact hr3 k (by omega)
theorem len_one (n : Nat) (h : n ≤ 21) : 1 ≤ (n : Int) + 1 ∧ (n : Int) + 1 ≤ 256 ∧ wrap64 ((n : Int) + 1) = (n : Int) + 1 := ⟨by omega, by omega, wrap_id _ (by omega) (by omega)⟩
theorem len_two (n : Nat) (h : n ≤ 100) : 1 ≤ (n : Int) + 2 ∧ (n : Int) + 2 ≤ 256 ∧ wrap64 ((n : Int) + 2) = (n : Int) + 2 ∧ wrap64 ((n : Int) - 1) = (n : Int) - 1 := ⟨by omega, by omega, wrap_id _ (by omega) (by omega), wrap_id _ (by omega) (by omega)⟩
theorem len_less (x : Int) (n : Nat) (h : n ≤ 100) (h0 : 0 ≤ x) (h1 : x < (n : Int) + 2) : wrap64 (x - 1) = x - 1 := wrap_id _ (by omega) (by omega)
theorem len_lt (x n : Int) (h : x - 1 ≤ n - 1) : x - 1 < n := by omega
theorem drawWear_ok (l : List Int) (hl : l.length ≤ 1099511627776) : ∃ a ws cs m c i t, Ev (fun k => spec_DrawWearMatrix.f k l) (a, ws, cs, m, c, i, t) ∧ cs.length ≤ 41 := by
  obtain ⟨h, K, hn⟩ := new_ok l hl
  obtain ⟨a, ws, cs, m, i1, g1, ⟨K2, hr⟩, p1, p2, p3, c1⟩ := l2both_ok l 0 h ⟨by omega, by omega, hl⟩
  obtain ⟨w1, w2, ew, em⟩ := len_two m.length p2
  obtain ⟨x, i2, g2, e2, r2, s2, c2⟩ := below_ok l i1 g1 ((m.length : Int) + 2) c1 w1 w2
  obtain ⟨y, i3, g3, e3, r3, s3, c3⟩ := below_ok l i2 g2 5 c2 (by decide) (by decide)
  have ex := len_less x m.length p2 r2 s2
  have start : ∀ k, K + K2 ≤ k → ∀ R, (((spec_l1In.f (x - 1) 0 ((m.length : Int) - 1)).bind fun t559 => (if t559 = true then (if 0 ≤ x - 1 then (if x - 1 < (m.length : Int) then ((spec_l01Below.f l i3 g3 (wrap64 (((rd_L2 m (x - 1)).length : Int) + 1))).bind fun bt561 => ((spec_l01Int.f l bt561.2.1 bt561.2.2 [0, 1, 2, 3, 4, 5, 6, 0, 1, 2, 3, 4, (-1), 7]).bind fun bt567 => (some (a, ws, cs, m, x - 1, bt561.1, bt567.1)))) else (none)) else (none)) else ((spec_l01Int.f l i3 g3 [0, 1, 2, 3, 4, 5, 6, 0, 1, 2, 3, 4, (-1), 7]).bind fun bt573 => (some (a, ws, cs, m, x - 1, wrap64 (y - 1), bt573.1))))) = R) → spec_DrawWearMatrix.f k l = R := by
    intro k hk R hR
    have h1 : spec_l01New.f k l = some (l, 0, h) := hn k (Nat.le_trans (Nat.le_add_right _ _) hk)
    have h2 : spec_l2Both.f k l 0 h = some (a, ws, cs, m, i1, g1) := hr k (Nat.le_trans (Nat.le_add_left _ _) hk)
    unfold spec_DrawWearMatrix.f
    rw [h1, Option.bind_some]
    show ((spec_l2Both.f k l 0 h).bind _) = _
    rw [h2, Option.bind_some]
    show ((spec_l01Below.f l i1 g1 (wrap64 ((m.length : Int) + 2))).bind _) = _
    rw [ew, e2, Option.bind_some]
    show ((spec_l01Below.f l i2 g2 5).bind _) = _
    rw [e3, Option.bind_some]
    show ((spec_l1In.f (wrap64 (x - 1)) 0 (wrap64 ((m.length : Int) - 1))).bind _) = _
    rw [ex, em]
    exact hR
  by_cases hb : (decide (0 ≤ x - 1) && decide (x - 1 ≤ (m.length : Int) - 1)) = true
  · have hb2 := hb
    rw [Bool.and_eq_true, decide_eq_true_eq, decide_eq_true_eq] at hb2
    obtain ⟨z, hz⟩ := Int.eq_ofNat_of_zero_le hb2.1
    have hp := p3 z
    have hrow : rd_L2 m (z : Int) = m.getD z [] := rfl
    obtain ⟨v1, v2, er⟩ := len_one _ hp
    obtain ⟨u, i5, g5, e5, _, _, c5⟩ := below_ok l i3 g3 (((m.getD z []).length : Int) + 1) c3 v1 v2
    obtain ⟨t, i6, g6, e6, _, c6⟩ := int_ok l i5 g5 [0, 1, 2, 3, 4, 5, 6, 0, 1, 2, 3, 4, (-1), 7] c5 (by decide) (by decide)
    refine ⟨a, ws, cs, m, x - 1, u, t, ⟨K + K2, fun k hk => start k hk _ ?_⟩, p1⟩
    have hrow2 : rd_L2 m (x - 1) = m.getD z [] := by rw [hz]; rfl
    rw [l1In_eq, hb, Option.bind_some, hrow2, er, e5]
    simp only [if_true, Option.bind_some, e6]
    rw [if_pos hb2.1, if_pos (len_lt _ _ hb2.2)]
  · obtain ⟨t, i4, g4, e4, _, c4⟩ := int_ok l i3 g3 [0, 1, 2, 3, 4, 5, 6, 0, 1, 2, 3, 4, (-1), 7] c3 (by decide) (by decide)
    refine ⟨a, ws, cs, m, x - 1, wrap64 (y - 1), t, ⟨K + K2, fun k hk => start k hk _ ?_⟩, p1⟩
    rw [l1In_eq, show (decide (0 ≤ x - 1) && decide (x - 1 ≤ (m.length : Int) - 1)) = false by simpa using hb, Option.bind_some, if_neg (by decide), e4]
    rfl
theorem part_less_all : ∀ t : Nat, t < 7 → ∀ s : Nat, s < 128 → ∀ x : Nat, x < 128 → partB (s : Int) (x : Int) = true → partB (Go.bits .andNot .i64 (s : Int) (shl .i64 1 (t : Int))) (x : Int) = true := by decide +kernel
theorem less_all : ∀ t : Nat, t < 7 → ∀ s : Nat, s < 128 → 0 ≤ Go.bits .andNot .i64 (s : Int) (shl .i64 1 (t : Int)) ∧ Go.bits .andNot .i64 (s : Int) (shl .i64 1 (t : Int)) ≤ 127 := by decide +kernel
def kindN (q : Nat) (l : List S30) : Nat := (l.map fun x => x.f0).count (q : Int)
theorem kindN_cons (q : Nat) (x : S30) (b : List S30) : kindN q (x :: b) = kindN q b + if x.f0 = (q : Int) then 1 else 0 := by simp [kindN, List.count_cons]
theorem kcRow_append : ∀ (a b : List S30) (o : List Int), kcRow o (a ++ b) = kcRow (kcRow o a) b
  | [], b, o => rfl
  | x :: r, b, o => by rw [List.cons_append, kcRow, kcRow, kcRow_append r b]
theorem kcAll_flat : ∀ (m : List (List S30)) (o : List Int), kcAll o m = kcRow o m.flatten
  | [], o => rfl
  | ch :: r, o => by rw [kcAll, List.flatten_cons, kcRow_append, kcAll_flat r]
theorem getD_setI (o : List Int) (i q : Nat) (v : Int) (h : i < o.length) : (o.set i v).getD q 0 = if i = q then v else o.getD q 0 := by
  rw [List.getD_eq_getElem?_getD, List.getElem?_set, List.getD_eq_getElem?_getD]
  by_cases e : i = q
  · subst e; rw [if_pos rfl, if_pos h, if_pos rfl]; rfl
  · rw [if_neg e, if_neg e]
theorem kcRow_get (N : Nat) : ∀ (ch : List S30) (o : List Int), o.length = N → (∀ x ∈ ch, 0 ≤ x.f0 ∧ x.f0 < (N : Int)) → (∀ q, 0 ≤ o.getD q 0 ∧ o.getD q 0 + (ch.length : Int) ≤ 1000000) → ∀ q, (kcRow o ch).getD q 0 = o.getD q 0 + (kindN q ch : Int)
  | [], o, _, _, _, q => by simp [kcRow, kindN]
  | x :: r, o, ho, hx, hb, q => by
    obtain ⟨z, hz⟩ := Int.eq_ofNat_of_zero_le (hx x List.mem_cons_self).1
    have hzN := (hx x List.mem_cons_self).2
    have e0 : rd o x.f0 = o.getD z 0 := by unfold rd; rw [hz, Int.toNat_natCast]
    have hbz := hb z
    rw [List.length_cons] at hbz
    have hg := fun q => getD_setI o z q (o.getD z 0 + 1) (by omega)
    rw [kcRow, e0, wrap_id _ (by omega) (by omega), hz, Int.toNat_natCast, kcRow_get N r _ (by rw [List.length_set]; exact ho) (fun y hy => hx y (List.mem_cons_of_mem _ hy)) (fun q => ?_) q, hg, kindN_cons, hz]
    · by_cases e : z = q
      · subst e; rw [if_pos rfl, if_pos rfl]; omega
      · rw [if_neg e, if_neg (by omega)]; omega
    · rw [hg]
      have := hb q
      rw [List.length_cons] at this
      by_cases e : z = q
      · rw [if_pos e]; subst e; omega
      · rw [if_neg e]; omega
theorem flat_len (c : Nat) : ∀ m : List (List S30), (∀ ch ∈ m, ch.length ≤ c) → m.flatten.length ≤ m.length * c
  | [], _ => by simp
  | ch :: r, h => by
    have h1 := flat_len c r (fun x hx => h x (List.mem_cons_of_mem _ hx))
    have h2 := h ch List.mem_cons_self
    rw [List.flatten_cons, List.length_append, List.length_cons, Nat.add_mul, Nat.one_mul]; omega
theorem kc_flat (m : List (List S30)) (N : Nat) (hl : m.flatten.length ≤ 1000000) (hx : ∀ x ∈ m.flatten, 0 ≤ x.f0 ∧ x.f0 < (N : Int)) : kcAll (List.replicate N 0) m = (List.range N).map fun q => (kindN q m.flatten : Int) := by
  rw [kcAll_flat]
  have hz : ∀ q, (List.replicate N (0 : Int)).getD q 0 = 0 := fun q => by
    rw [List.getD_eq_getElem?_getD, List.getElem?_replicate]; split <;> rfl
  have h := kcRow_get N m.flatten (List.replicate N 0) (by simp) hx (fun q => by rw [hz]; omega)
  apply List.ext_getElem
  · rw [kcRow_length]; simp
  · intro q h1 h2
    have h3 := h q
    rw [hz, List.getD_eq_getElem?_getD, List.getElem?_eq_getElem h1] at h3
    simp only [Option.getD_some] at h3
    rw [h3]
    simp
def sumC (q : Int → S30 → Bool) : Int → List (List S30) → Nat
  | _, [] => 0
  | i, ch :: r => ch.countP (q i) + sumC q (i + 1) r
theorem cntRow_eq (q : Int → S30 → Bool) (i : Int) : ∀ (ch : List S30) (n : Int), 0 ≤ n → n + (ch.length : Int) ≤ 1000000 → cntRow q i ch n = n + (ch.countP (q i) : Int)
  | [], n, _, _ => by simp [cntRow]
  | x :: r, n, h0, h1 => by
    rw [List.length_cons] at h1
    rw [cntRow, List.countP_cons]
    by_cases e : q i x = true
    · rw [if_pos e, if_pos e, wrap_id _ (by omega) (by omega), cntRow_eq q i r (n + 1) (by omega) (by omega)]; omega
    · rw [if_neg e, if_neg e, cntRow_eq q i r n h0 (by omega)]; omega
theorem cntAll_eq (q : Int → S30 → Bool) : ∀ (m : List (List S30)) (i n : Int), 0 ≤ n → n + (m.flatten.length : Int) ≤ 1000000 → cntAll q i m n = n + (sumC q i m : Int)
  | [], i, n, _, _ => by simp [cntAll, sumC]
  | ch :: r, i, n, h0, h1 => by
    rw [List.flatten_cons, List.length_append] at h1
    have h2 := List.countP_le_length (p := q i) (l := ch)
    rw [cntAll, sumC, cntRow_eq q i ch n h0 (by omega), cntAll_eq q r (i + 1) _ (by omega) (by omega)]; omega
theorem sumC_flat (p : S30 → Bool) : ∀ (m : List (List S30)) (i : Int), sumC (fun _ x => p x) i m = m.flatten.countP p
  | [], _ => rfl
  | ch :: r, i => by rw [sumC, List.flatten_cons, List.countP_append, sumC_flat p r]
/-- A row that is put in another's place. -/
theorem flat_set : ∀ (o : List (List S30)) (i : Nat) (r : List S30), i < o.length → (o.getD i [] ++ (o.set i r).flatten).Perm (r ++ o.flatten)
  | [], i, r, h => absurd h (by simp)
  | a :: t, 0, r, _ => by
    show (a ++ (r ++ t.flatten)).Perm (r ++ (a ++ t.flatten))
    exact List.perm_append_comm_assoc a r t.flatten
  | a :: t, i + 1, r, h => by
    show (t.getD i [] ++ (a ++ (t.set i r).flatten)).Perm (r ++ (a ++ t.flatten))
    have ih := flat_set t i r (by simpa using h)
    exact (List.perm_append_comm_assoc _ a _).trans ((ih.append_left a).trans (List.perm_append_comm_assoc a r _))
/-- Whether a tooth can be lost. -/
def wearP (a : ByteArray) (ws cs : List Int) (m : List (List S30)) (c i t : Int) : Prop :=
  magazineOk a ws cs m = true ∧ 0 ≤ c ∧ c < (m.length : Int) ∧ 0 ≤ i ∧ i < ((rd_L2 m c).length : Int) ∧ 0 ≤ t ∧ t ≤ 6 ∧ ¬ Go.bits .and .i64 (shr .i64 ((rd_T30 (rd_L2 m c) i).f1) t) 1 = 0
instance (a : ByteArray) (ws cs : List Int) (m : List (List S30)) (c i t : Int) : Decidable (wearP a ws cs m c i t) := by unfold wearP; infer_instance
def wearMatrix (a : ByteArray) (ws cs : List Int) (m : List (List S30)) (c i t : Int) : List (List S30) × Bool :=
  if wearP a ws cs m c i t then (m.set c.toNat ((rd_L2 m c).set i.toNat ⟨(rd_T30 (rd_L2 m c) i).f0, Go.bits .andNot .i64 ((rd_T30 (rd_L2 m c) i).f1) (shl .i64 1 t)⟩), true) else ([], false)
theorem wear_all : ∀ t : Nat, t < 7 → ∀ s : Nat, s < 128 → ¬ Go.bits .and .i64 (shr .i64 (s : Int) (t : Int)) 1 = 0 → wrap64 ((s : Int) - shl .i64 1 (t : Int)) = Go.bits .andNot .i64 (s : Int) (shl .i64 1 (t : Int)) := by decide +kernel
theorem mag_elem (a : ByteArray) (ws cs : List Int) (m : List (List S30)) (h : magazineOk a ws cs m = true) (ch : List S30) (hc : ch ∈ m) (x : S30) (hx : x ∈ ch) : matB a cs x.f0 x.f1 = true := by
  unfold magazineOk at h
  rw [Bool.and_eq_true] at h
  have h4 := List.all_eq_true.1 h.2 ch hc
  unfold chanB at h4
  rw [Bool.and_eq_true] at h4
  exact List.all_eq_true.1 h4.2 x hx
theorem matB_teeth (a : ByteArray) (cs : List Int) (x t : Int) (h : matB a cs x t = true) : 0 ≤ t ∧ t ≤ 127 := by
  unfold matB at h
  simp only [Bool.and_eq_true] at h
  exact (isSetB_iff t).1 h.1.2
theorem wear_same (a : ByteArray) (ws cs : List Int) (m : List (List S30)) (c i t : Int) (h : wearP a ws cs m c i t) : wrap64 ((rd_T30 (rd_L2 m c) i).f1 - shl .i64 1 t) = Go.bits .andNot .i64 ((rd_T30 (rd_L2 m c) i).f1) (shl .i64 1 t) := by
  obtain ⟨h1, h2, h3, h4, h5, h6, h7, h8⟩ := h
  obtain ⟨j, rfl⟩ := Int.eq_ofNat_of_zero_le h2
  obtain ⟨q, rfl⟩ := Int.eq_ofNat_of_zero_le h4
  obtain ⟨t, rfl⟩ := Int.eq_ofNat_of_zero_le h6
  have hj : j < m.length := by omega
  rw [rdL7_nat m j hj] at h5 h8 ⊢
  have hq : q < m[j].length := by omega
  rw [rd30_nat _ q hq] at h8 ⊢
  have h9 := matB_teeth a cs _ _ (mag_elem a ws cs m h1 m[j] (List.getElem_mem hj) m[j][q] (List.getElem_mem hq))
  obtain ⟨s, hs⟩ := Int.eq_ofNat_of_zero_le h9.1
  rw [hs] at h8 h9 ⊢
  exact wear_all t (by omega) s (by omega) h8
theorem impl_WearMatrix_ev (a : ByteArray) (ws cs : List Int) (m : List (List S30)) (c i t : Int) (hl : cs.length ≤ 1099511627776) : Ev (fun k => impl_WearMatrix.f k a ws cs m c i t) (wearMatrix a ws cs m c i t) := by
  obtain ⟨K, f⟩ := impl_MagazineOk_ev a ws cs m hl
  replace f : ∀ k, K ≤ k → impl_MagazineOk.f k a ws cs m = some (magazineOk a ws cs m) := f
  unfold wearMatrix
  by_cases h : wearP a ws cs m c i t
  · rw [if_pos h]
    obtain ⟨h1, h2, h3, h4, h5, h6, h7, h8⟩ := h
    obtain ⟨l1, l2, l3, l4⟩ := mag_rows2 a ws cs m h1
    obtain ⟨K3, f3⟩ := impl_copy_ev m (by omega) (fun r hr => by have := l4 r hr; omega)
    replace f3 : ∀ k, K3 ≤ k → impl_copyMagazine.f k m = some m := f3
    refine ⟨K + K3, fun k hk => ?_⟩
    simp only [impl_WearMatrix.f, f k (by omega), Option.bind_some, if_pos h1, f3 k (by omega)]
    rw [if_neg (by omega), if_neg (by omega), if_neg (by omega), if_pos h2, if_pos h3, if_neg (by omega), if_neg (by omega), if_neg (by omega), if_pos h4, if_pos h5, if_pos h6, if_neg h8, if_pos h3, if_pos h5]
  · rw [if_neg h]
    refine ⟨K, fun k hk => ?_⟩
    simp only [impl_WearMatrix.f, f k (by omega), Option.bind_some]
    by_cases h1 : magazineOk a ws cs m = true
    case neg => rw [if_neg h1]
    rw [if_pos h1]
    by_cases h2 : c < 0
    · rw [if_pos h2]
    rw [if_neg h2]
    by_cases h3 : c ≥ (m.length : Int)
    · rw [if_pos h3]
    rw [if_neg h3]
    by_cases h4 : i < 0
    · rw [if_pos h4]
    rw [if_neg h4, if_pos (by omega), if_pos (by omega)]
    by_cases h5 : i ≥ ((rd_L2 m c).length : Int)
    · rw [if_pos h5]
    rw [if_neg h5]
    by_cases h6 : t < 0
    · rw [if_pos h6]
    rw [if_neg h6]
    by_cases h7 : t > 6
    · rw [if_pos h7]
    rw [if_neg h7, if_pos (by omega), if_pos (by omega), if_pos (by omega)]
    by_cases h8 : Go.bits .and .i64 (shr .i64 ((rd_T30 (rd_L2 m c) i).f1) t) 1 = 0
    · rw [if_pos h8]
    exact absurd ⟨h1, by omega, by omega, by omega, by omega, by omega, by omega, h8⟩ h
def countWorn (a : ByteArray) (ws cs : List Int) (m : List (List S30)) : Int := if magazineOk a ws cs m = true then cntAll (fun _ x => x.f1 != rd cs x.f0) 0 m 0 else -1
theorem impl_CountWorn_ev (a : ByteArray) (ws cs : List Int) (m : List (List S30)) (hl : cs.length ≤ 1099511627776) : Ev (fun k => impl_CountWorn.f k a ws cs m) (countWorn a ws cs m) := by
  obtain ⟨K, f⟩ := impl_MagazineOk_ev a ws cs m hl
  refine ⟨K, fun k hk => ?_⟩
  by_cases h : magazineOk a ws cs m = true
  · obtain ⟨h1, h2, h3⟩ := mag_rows a ws cs m h
    have hall : (m.all fun ch => ch.all fun x => decide (0 ≤ x.f0) && decide (x.f0 < (cs.length : Int))) = true := by
      rw [List.all_eq_true]
      intro ch hc
      rw [List.all_eq_true]
      intro x hx
      have := (h3 ch hc).2 x hx
      rw [Bool.and_eq_true, decide_eq_true_eq, decide_eq_true_eq]
      omega
    simp only [impl_CountWorn.f, f k hk, Option.bind_some, countWorn, h, if_true, hall]
  · simp only [impl_CountWorn.f, f k hk, Option.bind_some, countWorn, if_neg h]
theorem mag_iff (a : ByteArray) (ws cs : List Int) (m : List (List S30)) : magazineOk a ws cs m = true ↔ fontB a ws cs = true ∧ m.length = a.size ∧ ∀ ch ∈ m, ch.length ≤ 20 ∧ ∀ x ∈ ch, matB a cs x.f0 x.f1 = true := by
  unfold magazineOk chanB
  simp only [Bool.and_eq_true, List.all_eq_true, decide_eq_true_eq, and_assoc]
theorem mag_flat (a : ByteArray) (ws cs : List Int) (m : List (List S30)) (h : magazineOk a ws cs m = true) : m.flatten.length ≤ 800 ∧ (∀ x ∈ m.flatten, 0 ≤ x.f0 ∧ x.f0 < (m.length : Int)) ∧ ∀ x ∈ m.flatten, matB a cs x.f0 x.f1 = true := by
  obtain ⟨h1, h2, h3, h4⟩ := mag_rows2 a ws cs m h
  have hf := flat_len 20 m h4
  have hm : m.length * 20 ≤ 40 * 20 := Nat.mul_le_mul_right _ h1
  have hall : ∀ x ∈ m.flatten, matB a cs x.f0 x.f1 = true := fun x hx => by
    obtain ⟨ch, hc, hxc⟩ := List.mem_flatten.1 hx
    exact mag_elem a ws cs m h ch hc x hxc
  exact ⟨by omega, fun x hx => by have := matB_range a cs _ _ (hall x hx); omega, hall⟩
theorem kindCounts_eq (a : ByteArray) (ws cs : List Int) (m : List (List S30)) (h : magazineOk a ws cs m = true) : kindCounts a ws cs m = (List.range m.length).map fun q => (kindN q m.flatten : Int) := by
  obtain ⟨h1, h2, _⟩ := mag_flat a ws cs m h
  unfold kindCounts
  rw [if_pos h]
  exact kc_flat m m.length (by omega) h2
theorem countStrays_eq (a : ByteArray) (ws cs : List Int) (m : List (List S30)) (h : magazineOk a ws cs m = true) : countStrays a ws cs m = (sumC (fun i x => x.f0 != i) 0 m : Int) := by
  obtain ⟨h1, h2, _⟩ := mag_flat a ws cs m h
  unfold countStrays
  rw [if_pos h, cntAll_eq _ m 0 0 (by omega) (by omega), Int.zero_add]
theorem countWorn_eq (a : ByteArray) (ws cs : List Int) (m : List (List S30)) (h : magazineOk a ws cs m = true) : countWorn a ws cs m = (m.flatten.countP (fun x => x.f1 != rd cs x.f0) : Int) := by
  obtain ⟨h1, h2, _⟩ := mag_flat a ws cs m h
  unfold countWorn
  rw [if_pos h, cntAll_eq _ m 0 0 (by omega) (by omega), Int.zero_add, sumC_flat]
theorem same_counts (a : ByteArray) (ws cs : List Int) (m o : List (List S30)) (h : magazineOk a ws cs m = true) (h2 : magazineOk a ws cs o = true) (hl : o.length = m.length) (hp : (o.flatten.map fun x => x.f0).Perm (m.flatten.map fun x => x.f0)) : kindCounts a ws cs o = kindCounts a ws cs m := by
  rw [kindCounts_eq a ws cs m h, kindCounts_eq a ws cs o h2, hl]
  refine List.map_congr_left (fun q _ => ?_)
  unfold kindN
  rw [hp.count_eq]
theorem getD_row (m : List (List S30)) (c : Nat) (h : c < m.length) : m.getD c [] = m[c] := by rw [List.getD_eq_getElem?_getD, List.getElem?_eq_getElem h]; rfl
theorem mag_set (a : ByteArray) (ws cs : List Int) (m : List (List S30)) (c : Nat) (r : List S30) (h : magazineOk a ws cs m = true) (hr : r.length ≤ 20) (hx : ∀ x ∈ r, matB a cs x.f0 x.f1 = true) : magazineOk a ws cs (m.set c r) = true := by
  obtain ⟨h1, h2, h3⟩ := (mag_iff a ws cs m).1 h
  refine (mag_iff a ws cs _).2 ⟨h1, by rw [List.length_set]; exact h2, fun ch hc => ?_⟩
  rcases List.mem_or_eq_of_mem_set hc with k | k
  · exact h3 ch k
  · subst k; exact ⟨hr, hx⟩
theorem sumC_set (q : Int → S30 → Bool) : ∀ (m : List (List S30)) (i : Int) (c : Nat) (r : List S30), (∀ h : c < m.length, r.countP (q (i + c)) = m[c].countP (q (i + c))) → sumC q i (m.set c r) = sumC q i m
  | [], i, c, r, _ => rfl
  | ch :: t, i, 0, r, h => by
    have h0 := h (by simp)
    simp only [List.getElem_cons_zero, Int.natCast_zero, Int.add_zero] at h0
    rw [List.set_cons_zero, sumC, sumC, h0]
  | ch :: t, i, c + 1, r, h => by
    rw [List.set_cons_succ, sumC, sumC, sumC_set q t (i + 1) c r (fun hc => ?_)]
    have := h (by simpa using hc)
    rw [show i + ((c + 1 : Nat) : Int) = i + 1 + (c : Int) by omega] at this
    simpa using this
theorem countP_map_same (p : Int → Bool) (l l' : List S30) (h : l.map (fun x => x.f0) = l'.map fun x => x.f0) : l.countP (fun x => p x.f0) = l'.countP fun x => p x.f0 := by
  have h1 := List.countP_map (p := p) (f := fun x : S30 => x.f0) (l := l)
  have h2 := List.countP_map (p := p) (f := fun x : S30 => x.f0) (l := l')
  rw [h] at h1
  exact h1.symm.trans h2
theorem map_set_same (l : List S30) (i : Nat) (y : S30) (h : ∀ hi : i < l.length, y.f0 = l[i].f0) : (l.set i y).map (fun x => x.f0) = l.map fun x => x.f0 := by
  rw [List.map_set]
  apply List.ext_getElem
  · simp
  · intro j h1 h2
    rw [List.getElem_set]
    split
    · rename_i e; subst e
      rw [List.getElem_map, h (by simpa using h2)]
    · rfl
theorem wear_flat (m : List (List S30)) (c i : Nat) (y : S30) (hc : c < m.length) (hy : ∀ hi : i < m[c].length, y.f0 = m[c][i].f0) : ((m.set c (m[c].set i y)).flatten.map fun x => x.f0).Perm (m.flatten.map fun x => x.f0) := by
  have h := (flat_set m c (m[c].set i y) hc).map fun x : S30 => x.f0
  rw [getD_row m c hc, List.map_append, List.map_append, map_set_same _ i y hy] at h
  exact (List.perm_append_left_iff _).1 h
theorem wear_strays (m : List (List S30)) (c i : Nat) (y : S30) (hc : c < m.length) (hy : ∀ hi : i < m[c].length, y.f0 = m[c][i].f0) : sumC (fun i x => x.f0 != i) 0 (m.set c (m[c].set i y)) = sumC (fun i x => x.f0 != i) 0 m :=
  sumC_set _ m 0 c _ (fun _ => countP_map_same (fun z => z != (0 + (c : Int))) _ _ (map_set_same _ i y hy))
theorem wear_worn (p : S30 → Bool) (m : List (List S30)) (c i : Nat) (y : S30) (hc : c < m.length) (hi : i < m[c].length) (hy : p y = true) : (m.set c (m[c].set i y)).flatten.countP p = m.flatten.countP p + if p m[c][i] = true then 0 else 1 := by
  have h := (flat_set m c (m[c].set i y) hc).countP_eq p
  rw [getD_row m c hc, List.countP_append, List.countP_append, List.countP_set hi, if_pos hy] at h
  have hpos : p m[c][i] = true → 0 < m[c].countP p := fun e => List.countP_pos_iff.2 ⟨_, List.getElem_mem hi, e⟩
  by_cases e : p m[c][i] = true
  · have := hpos e
    rw [if_pos e] at h ⊢; omega
  · rw [if_neg e] at h ⊢; omega
theorem intsC_ev (l : List Int) (hl : l.length ≤ 1000000) : Ev (fun k => laws_ints.f k l l) true := by
  have main : ∀ d i, i + d = l.length → Ev (fun k => laws_ints.l0 k l l (l.length : Int) (i : Int)) true := by
    intro d
    induction d with
    | zero => intro i hi; exact ev_step1 (fun k => by simp only [laws_ints.l0]; rw [if_neg (by omega)])
    | succ d ih =>
      intro i hi
      refine Ev.step (fun k => ?_) (ih (i + 1) (by omega))
      simp only [laws_ints.l0]
      rw [if_pos (by omega), if_pos (by omega), if_pos (by omega), if_pos (by omega), if_pos trivial, w1 i (by omega)]
  exact ev_eq (main l.length 0 (by omega)) (fun k => by simp only [laws_ints.f]; rw [if_pos trivial]; rfl)
theorem part_self_all : ∀ s : Nat, s < 128 → partB (s : Int) (s : Int) = true := by decide +kernel
theorem fontB_iff (a : ByteArray) (ws cs : List Int) : fontB a ws cs = true ↔ (1 ≤ a.size ∧ a.size ≤ 40 ∧ ws.length = a.size ∧ cs.length = a.size) ∧ letA [] a.data.toList = true ∧ between ws 1 60 = true ∧ sortsAll cs = true := by
  unfold fontB
  by_cases h : 1 ≤ a.size ∧ a.size ≤ 40 ∧ ws.length = a.size ∧ cs.length = a.size
  · rw [if_pos h, Bool.and_eq_true, Bool.and_eq_true, and_assoc]
    exact ⟨fun q => ⟨h, q⟩, fun q => q.2⟩
  · rw [if_neg h]
    exact ⟨fun q => by simp at q, fun q => absurd q.1 h⟩
theorem font_code (a : ByteArray) (ws cs : List Int) (h : fontB a ws cs = true) (i : Nat) (hi : i < cs.length) : matB a cs (i : Int) cs[i] = true := by
  obtain ⟨⟨_, _, _, l4⟩, _, _, h1⟩ := (fontB_iff a ws cs).1 h
  unfold sortsAll at h1
  rw [Bool.and_eq_true] at h1
  have h2 := ((isBar_iff cs).1 h1.1).2.2 _ (List.getElem_mem hi)
  have h3 := part_self_all cs[i].toNat (by omega)
  rw [Int.toNat_of_nonneg h2.1] at h3
  unfold matB
  rw [rd_nat cs i hi, h3, (isSetB_iff _).2 h2, decide_eq_true (show (0 : Int) ≤ (i : Int) by omega), decide_eq_true (show (i : Int) < (a.size : Int) by omega)]
  rfl
end Go.Proofs.Ytilbngklgjjblaa.Q
