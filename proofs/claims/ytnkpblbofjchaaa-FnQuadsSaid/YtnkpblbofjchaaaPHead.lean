/- The head of this translation: what its first words say of the program's make. No conditions. -/
import Derived.Test.YtnkpblbofjchaaaProg
import Derived.ProofKit
import Derived.SizedLaws
namespace Go.Proofs.Ytnkpblbofjchaaa.Head
theorem and_true_ {a b : Bool} (h : a = true) (k : b = true) : (a && b) = true := by rw [h, k]; rfl
theorem ws_word (r : List Char) : ∀ w : List Char, (∀ c ∈ w, c ≠ Char.ofNat 32) → wordsSigns (w ++ Char.ofNat 32 :: r) = w :: wordsSigns r
  | [], _ => rfl
  | c :: w, h => by
    have ih := ws_word r w (fun x hx => h x (List.mem_cons_of_mem _ hx))
    rw [List.cons_append, wordsSigns.eq_3 _ _ (by intro e; exact h c List.mem_cons_self e), ih]
def hd0 : List Nat := [104, 97, 114, 110, 101, 115, 115]
def hd1 : List Nat := [50, 98, 55, 55, 100, 55, 50, 101, 97, 97, 52, 55, 99, 53, 49, 49, 54, 55, 53, 54, 57, 101, 55, 57, 50, 52, 57, 101, 54, 51, 97, 52, 50, 52, 50, 52, 50, 55, 48, 101, 56, 49, 98, 56, 52, 99, 49, 99, 99, 56, 53, 56, 48, 50, 52, 56, 98, 102, 48, 52, 51, 101, 56, 51]
def hd2 : List Nat := [99, 117, 116]
def hd3 : List Nat := [97, 116, 32, 108, 111, 111, 112, 46, 101, 120, 97, 109, 112, 108, 101, 47, 103, 48, 51, 50, 51, 48, 47, 108, 97, 119, 115, 46, 70, 110, 69, 120, 97, 99, 116, 77, 101, 97, 115, 117, 114, 101, 79, 107, 32, 108, 111, 111, 112, 46, 101, 120, 97, 109, 112, 108, 101, 47, 103, 48, 51, 50, 51, 48, 47, 108, 97, 119, 115, 46, 70, 110, 69, 120, 97, 99, 116, 76, 105, 110, 101, 79, 107, 32, 108, 111, 111, 112, 46, 101, 120, 97, 109, 112, 108, 101, 47, 103, 48, 51, 50, 51, 48, 47, 108, 97, 119, 115, 46, 70, 110, 69, 120, 97, 99, 116, 84, 101, 120, 116, 79, 107, 32, 108, 111, 111, 112, 46, 101, 120, 97, 109, 112, 108, 101, 47, 103, 48, 51, 50, 51, 48, 47, 108, 97, 119, 115, 46, 70, 110, 69, 120, 97, 99, 116, 87, 105, 100, 116, 104, 115, 79, 102, 32, 108, 111, 111, 112, 46, 101, 120, 97, 109, 112, 108, 101, 47, 103, 48, 51, 50, 51, 48, 47, 108, 97, 119, 115, 46, 70, 110, 69, 120, 97, 99, 116, 83, 112, 114, 101, 97, 100, 76, 105, 110, 101, 32, 108, 111, 111, 112, 46, 101, 120, 97, 109, 112, 108, 101, 47, 103, 48, 51, 50, 51, 48, 47, 108, 97, 119, 115, 46, 70, 110, 69, 120, 97, 99, 116, 73, 115, 70, 117, 108, 108, 32, 108, 111, 111, 112, 46, 101, 120, 97, 109, 112, 108, 101, 47, 103, 48, 51, 50, 51, 48, 47, 108, 97, 119, 115, 46, 70, 110, 69, 120, 97, 99, 116, 76, 105, 110, 101, 75, 105, 110, 100, 32, 108, 111, 111, 112, 46, 101, 120, 97, 109, 112, 108, 101, 47, 103, 48, 51, 50, 51, 48, 47, 108, 97, 119, 115, 46, 70, 110, 69, 120, 97, 99, 116, 67, 111, 117, 110, 116, 70, 105, 116, 116, 105, 110, 103, 32, 108, 111, 111, 112, 46, 101, 120, 97, 109, 112, 108, 101, 47, 103, 48, 51, 50, 51, 48, 47, 108, 97, 119, 115, 46, 70, 110, 69, 120, 97, 99, 116, 73, 115, 66, 114, 101, 97, 107, 105, 110, 103, 32, 108, 111, 111, 112, 46, 101, 120, 97, 109, 112, 108, 101, 47, 103, 48, 51, 50, 51, 48, 47, 108, 97, 119, 115, 46, 70, 110, 84, 117, 114, 110, 101, 100, 32, 108, 111, 111, 112, 46, 101, 120, 97, 109, 112, 108, 101, 47, 103, 48, 51, 50, 51, 48, 47, 108, 97, 119, 115, 46, 70, 110, 87, 105, 100, 101, 114, 32, 108, 111, 111, 112, 46, 101, 120, 97, 109, 112, 108, 101, 47, 103, 48, 51, 50, 51, 48, 47, 108, 97, 119, 115, 46, 70, 110, 69, 120, 97, 99, 116, 67, 111, 117, 110, 116, 66, 114, 101, 97, 107, 105, 110, 103, 115, 32, 108, 111, 111, 112, 46, 101, 120, 97, 109, 112, 108, 101, 47, 103, 48, 51, 50, 51, 48, 47, 108, 97, 119, 115, 46, 70, 110, 69, 120, 97, 99, 116, 66, 97, 110, 100, 87, 105, 100, 116, 104, 115, 32, 108, 111, 111, 112, 46, 101, 120, 97, 109, 112, 108, 101, 47, 103, 48, 51, 50, 51, 48, 47, 108, 97, 119, 115, 46, 70, 110, 83, 112, 114, 101, 97, 100, 32, 108, 111, 111, 112, 46, 101, 120, 97, 109, 112, 108, 101, 47, 103, 48, 51, 50, 51, 48, 47, 108, 97, 119, 115, 46, 70, 110, 69, 120, 97, 99, 116, 67, 101, 110, 116, 101, 114, 76, 105, 110, 101, 32, 108, 111, 111, 112, 46, 101, 120, 97, 109, 112, 108, 101, 47, 103, 48, 51, 50, 51, 48, 47, 108, 97, 119, 115, 46, 70, 110, 69, 120, 97, 99, 116, 81, 117, 97, 100, 76, 105, 110, 101, 32, 108, 111, 111, 112, 46, 101, 120, 97, 109, 112, 108, 101, 47, 103, 48, 51, 50, 51, 48, 47, 108, 97, 119, 115, 46, 70, 110, 69, 120, 97, 99, 116, 80, 108, 97, 99, 101, 115, 79, 102, 32, 108, 111, 111, 112, 46, 101, 120, 97, 109, 112, 108, 101, 47, 103, 48, 51, 50, 51, 48, 47, 108, 97, 119, 115, 46, 70, 110, 70, 105, 116, 116, 105, 110, 103, 32, 108, 111, 111, 112, 46, 101, 120, 97, 109, 112, 108, 101, 47, 103, 48, 51, 50, 51, 48, 47, 108, 97, 119, 115, 46, 70, 110, 80, 108, 97, 99, 101, 115, 32, 108, 111, 111, 112, 46, 101, 120, 97, 109, 112, 108, 101, 47, 103, 48, 51, 50, 51, 48, 47, 108, 97, 119, 115, 46, 70, 110, 81, 117, 97, 100, 115]
theorem head_text : Try.prog.initOrder = String.ofList (hd0.map Char.ofNat ++ Char.ofNat 32 :: (hd1.map Char.ofNat ++ Char.ofNat 32 :: (hd2.map Char.ofNat ++ Char.ofNat 32 :: hd3.map Char.ofNat))) := by kernel_rfl
theorem head_words : behindMainWord (wordsSigns Try.prog.initOrder.toList) = hd2.map Char.ofNat :: wordsSigns (hd3.map Char.ofNat) := by
  rw [head_text, String.toList_ofList, ws_word _ _ (by decide +kernel), ws_word _ _ (by decide +kernel), ws_word _ _ (by decide +kernel)]
  simp only [behindMainWord]
  rw [if_pos]
  kernel_rfl
theorem make_of (P : Program) (c : List Char) (ws : List (List Char)) (h : behindMainWord (wordsSigns P.initOrder.toList) = c :: ws) (h1 : (c == "gc".toList || c == "spec".toList) = false) (h2 : (c == "cut".toList) = true) : P.make = some .cut := by
  unfold Program.make
  rw [h]
  simp only [h1, h2, Bool.true_or, if_true, Bool.false_eq_true, if_false]
theorem enter_of (P : Program) (c : List Char) (ws : List (List Char)) (h : behindMainWord (wordsSigns P.initOrder.toList) = c :: ws) (h2 : stripLifts liftWords (c :: ws) = ([], c :: ws)) (h3 : (some c == some "cut".toList) = true)
    (h4 : P.laysLater = false) (h5 : P.bearsReflect = false) (h6 : P.doorFits [] = true) : P.mayEnter = true := by
  unfold Program.mayEnter
  rw [h]
  simp only [h2, List.head?_cons, h3, h4, h5, h6]
  simp
theorem lifts_of (P : Program) (c : List Char) (ws : List (List Char)) (h : behindMainWord (wordsSigns P.initOrder.toList) = c :: ws) (h1 : (some c == some "carried".toList) = false) (h2 : stripLifts liftWords (c :: ws) = ([], c :: ws)) : P.liftsFinal = false := by
  unfold Program.liftsFinal Program.headLifts
  rw [h]
  simp only [h2, List.head?_cons, h1]
  simp
theorem strip_ (ws : List (List Char)) : stripLifts liftWords (hd2.map Char.ofNat :: ws) = ([], hd2.map Char.ofNat :: ws) := by kernel_rfl
theorem make_ (m : Make) (h : m = .cut) : (Try.prog.make == some m) = true := by
  rw [h, make_of Try.prog _ _ head_words (by kernel_rfl) (by kernel_rfl)]; rfl
theorem enter_ : Try.prog.mayEnter = true := enter_of Try.prog _ _ head_words (strip_ _) (by kernel_rfl) (by kernel_rfl) (by kernel_rfl) (by kernel_rfl)
theorem lifts_ : (false == Try.prog.liftsFinal) = true := by rw [lifts_of Try.prog _ _ head_words (by kernel_rfl) (strip_ _)]; rfl
end Go.Proofs.Ytnkpblbofjchaaa.Head
