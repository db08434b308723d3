/- Contracts of Go functions over this translation: each call returns what the Lean function of the same name gives, and writes into no memory that was there. Written by a program of this claim's author (mp.py) over the kit's print. Conditions: those that each theorem names. -/
import Derived.Test.YtnkpblbofjchaaaQ0
namespace Go.Proofs.Ytnkpblbofjchaaa.Q
open Go.RowKit Go.Proofs.YtnkpblbofjchaaaW.PrintWords Go.Proofs.YtnkpblbofjchaaaW.PrintLast Go.Proofs.YtnkpblbofjchaaaW.PrintMore
attribute [local go_sem] max2_int min2_int max_two min_two max_three min_three max_four min_four   -- for this text's walks alone
set_option linter.unusedVariables false
set_option linter.unusedSimpArgs false

/-! ### slices_IndexFunc_int_int: function 103 -/
/-- Where the first element stands at which p holds; -1 if there is none. -/
def idxF {α : Type} (p : α → Bool) (l : List α) : Int := match l.findIdx? p with | some i => (i : Int) | none => -1
theorem idxF_hit {α : Type} (p : α → Bool) (l : List α) (k : Nat) (hk : k < l.length) (hp : p l[k] = true) (hn : ∀ j (h : j < l.length), j < k → p l[j] = false) : idxF p l = (k : Int) := by
  unfold idxF
  have : l.findIdx? p = some k := by
    rw [List.findIdx?_eq_some_iff_getElem]
    exact ⟨hk, hp, fun j hj => by simp [hn j (by omega) hj]⟩
  rw [this]
theorem idxF_miss {α : Type} (p : α → Bool) (l : List α) (hn : ∀ j (h : j < l.length), p l[j] = false) : idxF p l = -1 := by
  unfold idxF
  have : l.findIdx? p = none := by
    rw [List.findIdx?_eq_none_iff]
    intro x hx
    obtain ⟨j, hj, rfl⟩ := List.getElem_of_mem hx
    exact hn j hj
  rw [this]
theorem idxF_range {α : Type} (p : α → Bool) (l : List α) : -1 ≤ idxF p l ∧ idxF p l < (l.length : Int) := by
  unfold idxF
  cases h : l.findIdx? p with
  | none => simp; omega
  | some i =>
    have := (List.findIdx?_eq_some_iff_getElem.1 h).1
    simp only
    omega
theorem idxF_any {α : Type} (p : α → Bool) (l : List α) : decide (0 ≤ idxF p l) = l.any p := by
  unfold idxF
  cases h : l.findIdx? p with
  | none =>
    rw [List.findIdx?_eq_none_iff] at h
    simp
    intro x hx
    simpa using h x hx
  | some i =>
    obtain ⟨h1, h2, _⟩ := List.findIdx?_eq_some_iff_getElem.1 h
    simp
    exact ⟨_, List.getElem_mem h1, h2⟩
set_option maxHeartbeats 2000000 in
/-- slices.IndexFunc over a function value that keeps I. -/
theorem slices_IndexFunc_int_int.calls (p : Int → Bool) (g : Nat) (lb : Array Value) (I : World → Prop) (A0 : Option Addr) (c0 : Nat) (l0 : List Int) (w : World)
    (eg : ∀ args w, (callFunc g args).run Try.prog w = .ok (.enter g args) w)
    (hr0 : Kd.C (Kd.int .i64) w A0 l0.length l0) (hc0 : l0.length ≤ c0) (hI : ∀ W, I W → Below w.heap.size w W) (h0 : I w)
    (hf : ∀ W x, x ∈ l0 → I W → Calls Try.prog g (#[.int .i64 x] ++ lb) W fun e W' => e = .returned (.bool (p x)) ∧ I W') :
    Calls Try.prog 103 #[.slice A0 l0.length c0, .func (.func g) #[] lb] w fun e w' => e = .returned (.int .i64 (idxF p l0)) ∧ I w' := by
  have HR0 := Aside0.mk hr0
  have HI := Aside0.mk hI
  have HF := Aside0.mk hf
  have H0 := Aside0.mk h0
  have hlen : l0.length ≤ 9223372036854775807 := hr0.2.1
  clear hr0 hc0 hI hf h0
  go_enter Try.func103, Try.ntmps103
  go_wp2
  go_loopg [5, 8] l0.length (fun gg _ s8 wr => ∃ kk : Nat, kk ≤ l0.length ∧ l0.length - kk ≤ gg ∧ s8 = .int .i64 kk ∧ Aside0 (I wr) ∧ Aside0 (∀ j (h : j < l0.length), j < kk → p l0[j] = false))
  case atStart => exact ⟨0, Nat.zero_le _, by omega, rfl, H0, ⟨fun j h hj => absurd hj (Nat.not_lt_zero _)⟩⟩
  case round =>
    obtain ⟨kk, hkk, hg, rfl, HW, HN⟩ := hrel
    by_cases hlt : kk < l0.length
    · have hltz : (kk : Int) < (l0.length : Int) := by omega
      obtain ⟨ad, e1, hx0⟩ := Kd.at_int HR0.out (kk : Int) (by omega) hltz
      cases e1
      have hx := ((HI.out _ HW.out).cell (World.block_lt_of_cell? w _ hx0)).trans hx0
      clear hx0
      have hrd : rd l0 (kk : Int) = l0[kk] := by simp [rd, List.getD_eq_getElem?_getD, hlt]
      rw [hrd] at hx
      have hcall := HF.out wr l0[kk] (List.getElem_mem hlt) HW.out
      clear hrd
      generalize hy : l0[kk] = y at hx hcall
      have HY := Aside0.mk hy
      clear hy
      simp only [Int.toNat_natCast, Nat.mul_one, Nat.add_zero] at hx
      cases hq : p y with
      | true =>
        rw [hq] at hcall
        have HQ := Aside0.mk hq
        clear hq
        go_wp2_with (go_at_fn g; refine hcall.mono ?_; rintro e w' ⟨rfl, hi'⟩)
        go_ret
        exact ⟨by rw [idxF_hit p l0 kk hlt (by rw [HY.out]; exact HQ.out) HN.out]; rfl, hi'⟩
      | false =>
        rw [hq] at hcall
        have HQ := Aside0.mk hq
        clear hq
        go_wp2_with (go_at_fn g; refine hcall.mono ?_; rintro e w' ⟨rfl, hi'⟩)
        go_roundg (l0.length - (kk + 1))
        case measure => omega
        case rel =>
          refine ⟨kk + 1, by omega, by omega, by go_num, ⟨hi'⟩, ⟨fun j h hj => ?_⟩⟩
          by_cases e : j = kk
          · subst e
            rw [HY.out]; exact HQ.out
          · exact HN.out j h (by omega)
    · have hltz : ¬ (kk : Int) < (l0.length : Int) := by omega
      have HK : kk = l0.length := by omega
      subst HK
      go_wp2
      go_ret
      exact ⟨by rw [idxF_miss p l0 (fun j h => HN.out j h h)]; rfl, HW.out⟩

/-! ### slices_ContainsFunc_int_int: function 94 -/
set_option maxHeartbeats 2000000 in
/-- slices.ContainsFunc over a function value that keeps I. -/
theorem slices_ContainsFunc_int_int.calls (p : Int → Bool) (g : Nat) (lb : Array Value) (I : World → Prop) (A0 : Option Addr) (c0 : Nat) (l0 : List Int) (w : World)
    (eg : ∀ args w, (callFunc g args).run Try.prog w = .ok (.enter g args) w)
    (hr0 : Kd.C (Kd.int .i64) w A0 l0.length l0) (hc0 : l0.length ≤ c0) (hI : ∀ W, I W → Below w.heap.size w W) (h0 : I w)
    (hf : ∀ W x, x ∈ l0 → I W → Calls Try.prog g (#[.int .i64 x] ++ lb) W fun e W' => e = .returned (.bool (p x)) ∧ I W') :
    Calls Try.prog 94 #[.slice A0 l0.length c0, .func (.func g) #[] lb] w fun e w' => e = .returned (.bool (l0.any p)) ∧ I w' := by
  have hc := slices_IndexFunc_int_int.calls p g lb I A0 c0 l0 w eg hr0 hc0 hI h0 hf
  rw [← idxF_any p l0]
  have hrange := idxF_range p l0
  generalize idxF p l0 = r at hc hrange ⊢
  have HC := Aside0.mk hc
  clear hc hr0 hc0 hI h0 hf eg
  go_enter Try.func94, Try.ntmps94
  go_wp2_with (go_at_call 103; refine HC.out.mono ?_; rintro e w' ⟨rfl, hi'⟩)
  go_ret
  exact ⟨rfl, hi'⟩

-- NOT PRINTED: function 95 (impl_between_1)

/-! ### impl_between: function 66 -/
def between (l : List Int) (a b : Int) : Bool := l.all (fun n => decide (a ≤ n) && decide (n ≤ b))
def impl_between.f (l0 : List Int) (a1 : Int) (a2 : Int) : Option Bool := some (between l0 a1 a2)
theorem impl_between_1.calls (x a b : Int) (p q : Nat) (w : World) (h1 : w.cell? ⟨p, 0, none⟩ = some (.int .i64 a)) (h2 : w.cell? ⟨q, 0, none⟩ = some (.int .i64 b)) :
    Calls Try.prog 95 #[.int .i64 x, .pointer (some ⟨p, 0, none⟩), .pointer (some ⟨q, 0, none⟩)] w fun e w' => e = .returned (.bool (!(decide (a ≤ x) && decide (x ≤ b)))) ∧ w = w' := by
  by_cases c1 : x < a
  · go_enter Try.func95, Try.ntmps95
    go_wp2
    go_ret
    exact ⟨by simp [show ¬ a ≤ x by omega], rfl⟩
  · by_cases c2 : b < x
    · go_enter Try.func95, Try.ntmps95
      go_wp2
      go_ret
      exact ⟨by simp [show a ≤ x by omega, show ¬ x ≤ b by omega], rfl⟩
    · go_enter Try.func95, Try.ntmps95
      go_wp2
      go_ret
      exact ⟨by simp [show a ≤ x by omega, show x ≤ b by omega], rfl⟩
set_option maxHeartbeats 2000000 in
theorem impl_between.calls (A0 : Option Addr) (c0 : Nat) (l0 : List Int) (a1 a2 : Int) (r : Bool) (w : World) (hr0 : Kd.C (Kd.int .i64) w A0 l0.length l0) (hc0 : l0.length ≤ c0) (h : impl_between.f l0 a1 a2 = some r) :
    Calls Try.prog 66 #[.slice A0 l0.length c0, .int .i64 a1, .int .i64 a2] w fun e w' => e = .returned (.bool r) ∧ Below w.heap.size w w' := by
  obtain rfl := Option.some.inj h
  clear h
  have eg : ∀ args w, (callFunc 95 args).run Try.prog w = .ok (.enter 95 args) w := enters_of Try.func95 (by kernel_rfl) rfl
  have hc := slices_ContainsFunc_int_int.calls (fun x => !(decide (a1 ≤ x) && decide (x ≤ a2))) 95 #[.pointer (some ⟨w.heap.size, 0, none⟩), .pointer (some ⟨w.heap.size + 1, 0, none⟩)]
    (fun W => (w.alloc (.cells #[.int .i64 a1] 3)).alloc (.cells #[.int .i64 a2] 3) = W) A0 c0 l0 ((w.alloc (.cells #[.int .i64 a1] 3)).alloc (.cells #[.int .i64 a2] 3)) eg
    (Kd.C_alloc (Kd.C_alloc hr0 _) _) hc0 (fun W e => e ▸ Below.refl _ _) rfl
    (fun W x _ e => (impl_between_1.calls x a1 a2 _ _ W (by rw [← e]; simp) (by rw [← e]; simp)).mono fun _ _ ⟨h1, h2⟩ => ⟨h1, e.trans h2⟩)
  have HE : (l0.any fun x => !(decide (a1 ≤ x) && decide (x ≤ a2))) = !(between l0 a1 a2) := by simp [between, List.any_eq_not_all_not]
  rw [HE] at hc
  clear HE eg
  generalize between l0 a1 a2 = b at hc ⊢
  have HC := Aside0.mk hc
  clear hc hr0
  go_enter Try.func66, Try.ntmps66
  go_wp2_with (go_at_call 94; refine HC.out.mono ?_; rintro e w' ⟨rfl, rfl⟩)
  go_ret
  exact ⟨by simp, ((Below.refl _ w).alloc (Nat.le_refl _) _).alloc (by simp) _⟩

end Go.Proofs.Ytnkpblbofjchaaa.Q
