/- General lemmas over rounds, lists and wrapped numbers, used by the pure texts. No conditions beyond those each lemma names. -/
import Derived.Test.YtnkpblbofjchaaaQ0
namespace Go.Proofs.Ytnkpblbofjchaaa.Q
open Go.RowKit Go.Proofs.YtnkpblbofjchaaaW.PrintWords Go.Proofs.YtnkpblbofjchaaaW.PrintLast Go.Proofs.YtnkpblbofjchaaaW.PrintMore
set_option linter.unusedVariables false
set_option linter.unusedSimpArgs false
theorem w1 (i : Nat) (h : i ≤ 4611686018427387904) : wrap64 ((i : Int) + 1) = ((i + 1 : Nat) : Int) := by unfold wrap64; omega
theorem wrap_id (x : Int) (h1 : -9223372036854775808 ≤ x) (h2 : x ≤ 9223372036854775807) : wrap64 x = x := by unfold wrap64; omega
theorem rd_nat (l : List Int) (i : Nat) (h : i < l.length) : rd l (i : Int) = l[i] := by simp [rd, List.getD_eq_getElem?_getD, h]
/-- A loop that counts up to n: from its end downwards. -/
theorem ev_down {σ β : Type} (L : Nat → σ → Int → Option β) (n : Nat) (I : Nat → σ → Prop) (G : Nat → σ → β)
    (hend : ∀ s, I n s → Ev (fun k => L k s (n : Int)) (G n s))
    (hstep : ∀ i s, i < n → I i s → (∀ s', I (i + 1) s' → Ev (fun k => L k s' ((i + 1 : Nat) : Int)) (G (i + 1) s')) → Ev (fun k => L k s (i : Int)) (G i s)) :
    ∀ i s, i ≤ n → I i s → Ev (fun k => L k s (i : Int)) (G i s) := by
  have key : ∀ d i s, n - i = d → i ≤ n → I i s → Ev (fun k => L k s (i : Int)) (G i s) := by
    intro d
    induction d with
    | zero => intro i s hd hi hI; obtain rfl : i = n := by omega
              exact hend s hI
    | succ d ih => intro i s hd hi hI; exact hstep i s (by omega) hI (fun s' hI' => ih (i + 1) s' (by omega) (by omega) hI')
  exact fun i s hi hI => key _ i s rfl hi hI
/-- The same without a state. -/
theorem ev_down0 {β : Type} (L : Nat → Int → Option β) (n : Nat) (G : Nat → β)
    (hend : Ev (fun k => L k (n : Int)) (G n))
    (hstep : ∀ i, i < n → Ev (fun k => L k ((i + 1 : Nat) : Int)) (G (i + 1)) → Ev (fun k => L k (i : Int)) (G i)) :
    ∀ i, i ≤ n → Ev (fun k => L k (i : Int)) (G i) :=
  fun i hi => ev_down (σ := Unit) (fun k _ j => L k j) n (fun _ _ => True) (fun j _ => G j) (fun _ _ => hend) (fun j _ hj _ h => hstep j hj (h () trivial)) i () hi trivial
theorem ev_eq {α : Type} {g f : Nat → Option α} {r : α} (k : Ev f r) (h : ∀ k, g k = f k) : Ev g r := Ev.congr h k
theorem ev_const {α : Type} {g : Nat → Option α} {r : α} (h : ∀ k, g k = some r) : Ev g r := ⟨0, fun k _ => h k⟩
theorem ev_step1 {α : Type} {g : Nat → Option α} {r : α} (h : ∀ k, g (k + 1) = some r) : Ev g r := Ev.step h (Ev.now r)
end Go.Proofs.Ytnkpblbofjchaaa.Q
