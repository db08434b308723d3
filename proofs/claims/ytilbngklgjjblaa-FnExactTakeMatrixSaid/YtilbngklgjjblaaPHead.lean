/- The head of this translation: what its first words say of the program's make. No conditions. -/
import Derived.Test.YtilbngklgjjblaaProg
import Derived.ProofKit
import Derived.SizedLaws
namespace Go.Proofs.Ytilbngklgjjblaa.Head
theorem and_true_ {a b : Bool} (h : a = true) (k : b = true) : (a && b) = true := by rw [h, k]; rfl
theorem ws_word (r : List Char) : ∀ w : List Char, (∀ c ∈ w, c ≠ Char.ofNat 32) → wordsSigns (w ++ Char.ofNat 32 :: r) = w :: wordsSigns r
  | [], _ => rfl
  | c :: w, h => by
    have ih := ws_word r w (fun x hx => h x (List.mem_cons_of_mem _ hx))
    rw [List.cons_append, wordsSigns.eq_3 _ _ (by intro e; exact h c List.mem_cons_self e), ih]
def hd0 : List Nat := [104, 97, 114, 110, 101, 115, 115]
def hd1 : List Nat := [97, 53, 99, 51, 56, 48, 50, 49, 97, 48, 98, 98, 49, 50, 55, 56, 50, 51, 100, 50, 56, 53, 101, 53, 98, 99, 55, 100, 57, 57, 54, 98, 49, 56, 56, 57, 54, 56, 52, 51, 55, 102, 56, 52, 102, 99, 55, 56, 57, 102, 56, 57, 54, 52, 52, 54, 100, 100, 48, 51, 98, 50, 54, 55]
def hd2 : List Nat := [99, 117, 116]
def hd3 : List Nat := [97, 116, 32, 108, 111, 111, 112, 46, 101, 120, 97, 109, 112, 108, 101, 47, 103, 48, 51, 50, 51, 48, 47, 108, 97, 119, 115, 46, 70, 110, 82, 111, 117, 110, 100, 32, 108, 111, 111, 112, 46, 101, 120, 97, 109, 112, 108, 101, 47, 103, 48, 51, 50, 51, 48, 47, 108, 97, 119, 115, 46, 70, 110, 69, 120, 97, 99, 116, 70, 111, 110, 116, 79, 107, 32, 108, 111, 111, 112, 46, 101, 120, 97, 109, 112, 108, 101, 47, 103, 48, 51, 50, 51, 48, 47, 108, 97, 119, 115, 46, 70, 110, 69, 120, 97, 99, 116, 77, 97, 116, 114, 105, 120, 79, 107, 32, 108, 111, 111, 112, 46, 101, 120, 97, 109, 112, 108, 101, 47, 103, 48, 51, 50, 51, 48, 47, 108, 97, 119, 115, 46, 70, 110, 69, 120, 97, 99, 116, 75, 101, 121, 79, 102, 32, 108, 111, 111, 112, 46, 101, 120, 97, 109, 112, 108, 101, 47, 103, 48, 51, 50, 51, 48, 47, 108, 97, 119, 115, 46, 70, 110, 69, 120, 97, 99, 116, 76, 101, 116, 116, 101, 114, 115, 79, 102, 32, 108, 111, 111, 112, 46, 101, 120, 97, 109, 112, 108, 101, 47, 103, 48, 51, 50, 51, 48, 47, 108, 97, 119, 115, 46, 70, 110, 69, 120, 97, 99, 116, 77, 97, 103, 97, 122, 105, 110, 101, 79, 107, 32, 108, 111, 111, 112, 46, 101, 120, 97, 109, 112, 108, 101, 47, 103, 48, 51, 50, 51, 48, 47, 108, 97, 119, 115, 46, 70, 110, 69, 120, 97, 99, 116, 67, 111, 117, 110, 116, 83, 116, 114, 97, 121, 115, 32, 108, 111, 111, 112, 46, 101, 120, 97, 109, 112, 108, 101, 47, 103, 48, 51, 50, 51, 48, 47, 108, 97, 119, 115, 46, 70, 110, 69, 120, 97, 99, 116, 67, 111, 117, 110, 116, 87, 111, 114, 110, 32, 108, 111, 111, 112, 46, 101, 120, 97, 109, 112, 108, 101, 47, 103, 48, 51, 50, 51, 48, 47, 108, 97, 119, 115, 46, 70, 110, 69, 120, 97, 99, 116, 70, 105, 108, 108, 77, 97, 103, 97, 122, 105, 110, 101, 32, 108, 111, 111, 112, 46, 101, 120, 97, 109, 112, 108, 101, 47, 103, 48, 51, 50, 51, 48, 47, 108, 97, 119, 115, 46, 70, 110, 69, 120, 97, 99, 116, 75, 105, 110, 100, 67, 111, 117, 110, 116, 115, 32, 108, 111, 111, 112, 46, 101, 120, 97, 109, 112, 108, 101, 47, 103, 48, 51, 50, 51, 48, 47, 108, 97, 119, 115, 46, 70, 110, 83, 116, 111, 99, 107, 101, 100, 32, 108, 111, 111, 112, 46, 101, 120, 97, 109, 112, 108, 101, 47, 103, 48, 51, 50, 51, 48, 47, 108, 97, 119, 115, 46, 70, 110, 69, 120, 97, 99, 116, 84, 97, 107, 101, 77, 97, 116, 114, 105, 120, 32, 108, 111, 111, 112, 46, 101, 120, 97, 109, 112, 108, 101, 47, 103, 48, 51, 50, 51, 48, 47, 108, 97, 119, 115, 46, 70, 110, 87, 111, 114, 110, 32, 108, 111, 111, 112, 46, 101, 120, 97, 109, 112, 108, 101, 47, 103, 48, 51, 50, 51, 48, 47, 108, 97, 119, 115, 46, 70, 110, 69, 120, 97, 99, 116, 83, 119, 101, 101, 112, 77, 97, 103, 97, 122, 105, 110, 101, 32, 108, 111, 111, 112, 46, 101, 120, 97, 109, 112, 108, 101, 47, 103, 48, 51, 50, 51, 48, 47, 108, 97, 119, 115, 46, 70, 110, 69, 120, 97, 99, 116, 87, 101, 97, 114, 77, 97, 116, 114, 105, 120, 32, 108, 111, 111, 112, 46, 101, 120, 97, 109, 112, 108, 101, 47, 103, 48, 51, 50, 51, 48, 47, 108, 97, 119, 115, 46, 70, 110, 69, 120, 97, 99, 116, 68, 114, 111, 112, 77, 97, 116, 114, 105, 120, 32, 108, 111, 111, 112, 46, 101, 120, 97, 109, 112, 108, 101, 47, 103, 48, 51, 50, 51, 48, 47, 108, 97, 119, 115, 46, 70, 110, 83, 119, 101, 112, 116]
theorem head_text : Try.prog.initOrder = String.ofList (hd0.map Char.ofNat ++ Char.ofNat 32 :: (hd1.map Char.ofNat ++ Char.ofNat 32 :: (hd2.map Char.ofNat ++ Char.ofNat 32 :: hd3.map Char.ofNat))) := by kernel_rfl
theorem head_words : behindMainWord (wordsSigns Try.prog.initOrder.toList) = hd2.map Char.ofNat :: wordsSigns (hd3.map Char.ofNat) := by
  rw [head_text, String.toList_ofList, ws_word _ _ (by decide +kernel), ws_word _ _ (by decide +kernel), ws_word _ _ (by decide +kernel)]
  simp only [behindMainWord]
  rw [if_pos]
  kernel_rfl
theorem make_of (P : Program) (c : List Char) (ws : List (List Char)) (h : behindMainWord (wordsSigns P.initOrder.toList) = c :: ws) (h1 : (c == "gc".toList || c == "spec".toList) = false) (h2 : (c == "cut".toList) = true) : P.make = some .cut := by
  unfold Program.make
  rw [h]
  simp only [h1, h2, Bool.true_or, if_true, Bool.false_eq_true, if_false]
theorem enter_of (P : Program) (c : List Char) (ws : List (List Char)) (h : behindMainWord (wordsSigns P.initOrder.toList) = c :: ws) (h2 : stripLifts liftWords (c :: ws) = ([], c :: ws)) (h3 : (some c == some "cut".toList) = true)
    (h4 : P.laysLater = false) (h5 : P.bearsReflect = false) (h6 : P.doorFits [] = true) : P.mayEnter = true := by
  unfold Program.mayEnter
  rw [h]
  simp only [h2, List.head?_cons, h3, h4, h5, h6]
  simp
theorem lifts_of (P : Program) (c : List Char) (ws : List (List Char)) (h : behindMainWord (wordsSigns P.initOrder.toList) = c :: ws) (h1 : (some c == some "carried".toList) = false) (h2 : stripLifts liftWords (c :: ws) = ([], c :: ws)) : P.liftsFinal = false := by
  unfold Program.liftsFinal Program.headLifts
  rw [h]
  simp only [h2, List.head?_cons, h1]
  simp
theorem strip_ (ws : List (List Char)) : stripLifts liftWords (hd2.map Char.ofNat :: ws) = ([], hd2.map Char.ofNat :: ws) := by kernel_rfl
theorem make_ (m : Make) (h : m = .cut) : (Try.prog.make == some m) = true := by
  rw [h, make_of Try.prog _ _ head_words (by kernel_rfl) (by kernel_rfl)]; rfl
theorem enter_ : Try.prog.mayEnter = true := enter_of Try.prog _ _ head_words (strip_ _) (by kernel_rfl) (by kernel_rfl) (by kernel_rfl) (by kernel_rfl)
theorem lifts_ : (false == Try.prog.liftsFinal) = true := by rw [lifts_of Try.prog _ _ head_words (by kernel_rfl) (strip_ _)]; rfl
end Go.Proofs.Ytilbngklgjjblaa.Head
