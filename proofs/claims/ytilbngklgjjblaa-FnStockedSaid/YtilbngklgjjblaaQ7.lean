/- Contracts of Go functions over this translation: each call returns what the Lean function of the same name gives, and writes into no memory that was there. Written by a program of this claim's author (mp.py) over the kit's print. Conditions: those that each theorem names. -/
import Derived.Test.YtilbngklgjjblaaQ0
import Derived.Test.YtilbngklgjjblaaQ3
import Derived.Test.YtilbngklgjjblaaQ6
namespace Go.Proofs.Ytilbngklgjjblaa.Q
open Go.RowKit Go.Proofs.YtilbngklgjjblaaW.PrintWords Go.Proofs.YtilbngklgjjblaaW.PrintLast Go.Proofs.YtilbngklgjjblaaW.PrintMore
attribute [local go_sem] max2_int min2_int max_two min_two max_three min_three max_four min_four   -- for this text's walks alone
set_option linter.unusedVariables false
set_option linter.unusedSimpArgs false

/-! ### impl_CountWorn: function 49 -/
def impl_CountWorn.f (k : Nat) (a0_0 : ByteArray) (l0_1 l0_2 : List Int) (l1 : List (List S30)) : Option Int := (impl_MagazineOk.f k a0_0 l0_1 l0_2 l1).bind fun t => if t = true then (if (l1.all fun ch => ch.all fun x => decide (0 ≤ x.f0) && decide (x.f0 < (l0_2.length : Int))) = true then some (cntAll (fun _ x => x.f1 != rd l0_2 x.f0) 0 l1 0) else none) else some (-1)
theorem impl_CountWorn.mono : ∀ a0 a1 a2 a3 k, LeO (impl_CountWorn.f k a0 a1 a2 a3) (impl_CountWorn.f (k + 1) a0 a1 a2 a3) := by
  intro a0 a1 a2 a3 k
  unfold impl_CountWorn.f
  exact LeO.bind (impl_MagazineOk.mono _ _ _ _ _) (fun _ => LeO.refl _)
set_option maxHeartbeats 2000000 in
theorem impl_CountWorn_1.calls (i : Int) (x : S30) (q : Nat) (a0_0 : ByteArray) (A0_1 : Option Addr) (n0_1 c0_1 : Nat) (A0_2 : Option Addr) (c0_2 : Nat) (l0_2 : List Int) (w : World) (hr0_2 : Kd.C (Kd.int .i64) w A0_2 l0_2.length l0_2) (hx0 : w.cell? ⟨q, 0, none⟩ = some (.string a0_0)) (hx1 : w.cell? ⟨q, 1, none⟩ = some (.slice A0_1 n0_1 c0_1)) (hx2 : w.cell? ⟨q, 2, none⟩ = some (.slice A0_2 l0_2.length c0_2)) (h0 : 0 ≤ x.f0) (h1 : x.f0 < (l0_2.length : Int)) :
    Calls Try.prog 90 #[.int .i64 i, .agg #[.int .i64 x.f0, .int .i64 x.f1], .pointer (some ⟨q, 0, none⟩)] w fun e w' => e = .returned (.bool (x.f1 != rd l0_2 x.f0)) ∧ Below w.heap.size w w' := by
  have hu25 := Try.underlying25
  have hu30 := Try.underlying30
  have HB := Aside0.mk (Below.refl w.heap.size w)
  have hlen : l0_2.length ≤ 9223372036854775807 := hr0_2.2.1
  obtain ⟨ad, e1, hx⟩ := Kd.at_int hr0_2 x.f0 h0 h1
  cases e1
  have p18 : (0 ≤ x.f0) = True := eq_true h0
  have q18 : (x.f0 < (l0_2.length : Int)) = True := eq_true h1
  have hb := below_alloc (Below.refl w.heap.size w) (.cells #[.int .i64 x.f0, .int .i64 x.f1] 30)
  have hy := (hb.cell (World.block_lt_of_cell? w _ hx)).trans hx
  have hy2 := (hb.cell (World.block_lt_of_cell? w _ hx2)).trans hx2
  have HB1 := Aside0.mk hb
  clear hr0_2 h0 h1 hx hx0 hx1 hx2 hb
  go_enter Try.func90, Try.ntmps90
  go_wp2
  repeat (go_quiet (fail); try go_wp2)
  all_goals go_ret
  all_goals exact ⟨rfl, by repeat (first | exact HB1.out | exact HB.out | apply pw_below_drewN | apply below_drew1)⟩
set_option maxHeartbeats 2000000 in
theorem impl_CountWorn.calls (k : Nat) (a0_0 : ByteArray) (A0_1 : Option Addr) (c0_1 : Nat) (l0_1 : List Int) (A0_2 : Option Addr) (c0_2 : Nat) (l0_2 : List Int) (A1 : Option Addr) (c1 : Nat) (l1 : List (List S30)) (r : Int) (w : World)
    (hr0_1 : Kd.C (Kd.int .i64) w A0_1 l0_1.length l0_1) (hc0_1 : l0_1.length ≤ c0_1) (hr0_2 : Kd.C (Kd.int .i64) w A0_2 l0_2.length l0_2) (hc0_2 : l0_2.length ≤ c0_2) (hr1 : Kd.C (Kd.slice 30 k30) w A1 l1.length l1) (hc1 : l1.length ≤ c1) (h : impl_CountWorn.f k a0_0 l0_1 l0_2 l1 = some r) :
    Calls Try.prog 49 #[.agg #[.string a0_0, .slice A0_1 l0_1.length c0_1, .slice A0_2 l0_2.length c0_2], .slice A1 l1.length c1] w fun e w' => e = .returned (.int .i64 r) ∧ Below w.heap.size w w' := by
  unfold impl_CountWorn.f at h
  obtain ⟨b, hb, h⟩ := Option.bind_eq_some_iff.1 h
  have hu25 := Try.underlying25
  have eg : ∀ args w, (callFunc 90 args).run Try.prog w = .ok (.enter 90 args) w := enters_of Try.func90 (by kernel_rfl) rfl
  have HB := Aside0.mk (below_alloc (Below.refl w.heap.size w) (.cells #[.string a0_0, .slice A0_1 l0_1.length c0_1, .slice A0_2 l0_2.length c0_2] 25))
  have hr : (if b = true then cntAll (fun _ x => x.f1 != rd l0_2 x.f0) 0 l1 0 else -1) = r := by
    cases b with
    | true =>
      rw [if_pos rfl] at h ⊢
      by_cases ha : (l1.all fun ch => ch.all fun x => decide (0 ≤ x.f0) && decide (x.f0 < (l0_2.length : Int))) = true
      · rw [if_pos ha] at h; exact Option.some.inj h
      · rw [if_neg ha] at h; cases h
    | false => rw [if_neg (by decide)] at h ⊢; exact Option.some.inj h
  have hall : b = true → ∀ ch x, ch ∈ l1 → x ∈ ch → 0 ≤ x.f0 ∧ x.f0 < (l0_2.length : Int) := by
    intro hbt ch x h1 h2
    rw [if_pos hbt] at h
    by_cases ha : (l1.all fun ch => ch.all fun x => decide (0 ≤ x.f0) && decide (x.f0 < (l0_2.length : Int))) = true
    · have h3 := List.all_eq_true.1 (List.all_eq_true.1 ha ch h1) x h2
      rw [Bool.and_eq_true, decide_eq_true_eq, decide_eq_true_eq] at h3
      exact h3
    · rw [if_neg ha] at h; cases h
  have hs : w.heap.size < (w.alloc (.cells #[.string a0_0, .slice A0_1 l0_1.length c0_1, .slice A0_2 l0_2.length c0_2] 25)).heap.size := by simp
  have hc := impl_counted.calls (fun _ x => x.f1 != rd l0_2 x.f0) 90 #[.pointer (some ⟨w.heap.size, 0, none⟩)] k a0_0 A0_1 c0_1 l0_1 A0_2 c0_2 l0_2 A1 c1 l1 b (w.alloc (.cells #[.string a0_0, .slice A0_1 l0_1.length c0_1, .slice A0_2 l0_2.length c0_2] 25)) eg
    (Kd.C_alloc hr0_1 _) hc0_1 (Kd.C_alloc hr0_2 _) hc0_2 (Kd.C_alloc hr1 _) hc1 hb (fun hbt W i ch x h1 h2 hW => impl_CountWorn_1.calls i x w.heap.size a0_0 A0_1 l0_1.length c0_1 A0_2 c0_2 l0_2 W (Kd.C_below (Kd.C_alloc hr0_2 _) hW) ((hW.cell (p := ⟨w.heap.size, 0, none⟩) hs).trans (by simp)) ((hW.cell (p := ⟨w.heap.size, 1, none⟩) hs).trans (by simp)) ((hW.cell (p := ⟨w.heap.size, 2, none⟩) hs).trans (by simp)) (hall hbt ch x h1 h2).1 (hall hbt ch x h1 h2).2)
  rw [hr] at hc
  have HC := Aside0.mk hc
  clear hc hr0_1 hr0_2 hr1 hc0_1 hc0_2 hc1 hb eg hall hr h hs
  go_enter Try.func49, Try.ntmps49
  go_wp2_with (go_at_call 88; refine HC.out.mono ?_; rintro e w' ⟨rfl, hb1⟩; have HB2 := Aside0.mk (HB.out.trans (hb1.mono HB.out.size)); clear hb1)
  go_ret
  exact ⟨rfl, HB2.out⟩

/-! ### bits_Mul32: function 117 -/
def bits_Mul32.f (a0 : Int) (a1 : Int) : Option (Int × Int) := some (((IntKind.u64.wrap ((IntKind.u64.wrap (a0)) * (IntKind.u64.wrap (a1)))) / 4294967296) % 4294967296, (IntKind.u64.wrap ((IntKind.u64.wrap (a0)) * (IntKind.u64.wrap (a1)))) % 4294967296)
set_option maxHeartbeats 8000000 in
set_option maxRecDepth 100000 in
theorem bits_Mul32.calls (a0 : Int) (a1 : Int) (r1 : Int) (r2 : Int) (w : World) (h : bits_Mul32.f a0 a1 = some (r1, r2)) :
    Calls Try.prog 117 #[.int .u32 a0, .int .u32 a1] w fun e w' => e = .returned (.tuple #[.int .u32 r1, .int .u32 r2]) ∧ Drawn0 w w' := by
  have H : (some (((IntKind.u64.wrap ((IntKind.u64.wrap (a0)) * (IntKind.u64.wrap (a1)))) / 4294967296) % 4294967296, (IntKind.u64.wrap ((IntKind.u64.wrap (a0)) * (IntKind.u64.wrap (a1)))) % 4294967296)) = some (r1, r2) := h
  clear h
  simp only [Option.some.injEq, Prod.mk.injEq] at H
  obtain ⟨rfl, rfl⟩ := H
  go_enter Try.func117, Try.ntmps117
  go_wp2
  go_ret2
  exact ⟨by first | rfl | (simp only [i64_w, i32_w, wrap64_zero, Int.sub_zero, Int.add_zero, Int.mul_zero, Int.zero_mul]; rfl) | (simp; done) | (simp [*]; done), by repeat (first | exact Drawn0.refl _ | apply Drawn0.step)⟩

/-! ### bits_Mul64: function 118 -/
def bits_Mul64.f (a0 : Int) (a1 : Int) : Option (Int × Int) := some (IntKind.u64.wrap ((IntKind.u64.wrap ((IntKind.u64.wrap ((a0 / 4294967296) * (a1 / 4294967296))) + ((IntKind.u64.wrap ((IntKind.u64.wrap ((a0 / 4294967296) * (Go.bits .and .u64 a1 4294967295))) + ((IntKind.u64.wrap ((Go.bits .and .u64 a0 4294967295) * (Go.bits .and .u64 a1 4294967295))) / 4294967296))) / 4294967296))) + ((IntKind.u64.wrap ((Go.bits .and .u64 (IntKind.u64.wrap ((IntKind.u64.wrap ((a0 / 4294967296) * (Go.bits .and .u64 a1 4294967295))) + ((IntKind.u64.wrap ((Go.bits .and .u64 a0 4294967295) * (Go.bits .and .u64 a1 4294967295))) / 4294967296))) 4294967295) + (IntKind.u64.wrap ((Go.bits .and .u64 a0 4294967295) * (a1 / 4294967296))))) / 4294967296)), IntKind.u64.wrap (a0 * a1))
set_option maxHeartbeats 8000000 in
set_option maxRecDepth 100000 in
theorem bits_Mul64.calls (a0 : Int) (a1 : Int) (r1 : Int) (r2 : Int) (w : World) (h : bits_Mul64.f a0 a1 = some (r1, r2)) :
    Calls Try.prog 118 #[.int .u64 a0, .int .u64 a1] w fun e w' => e = .returned (.tuple #[.int .u64 r1, .int .u64 r2]) ∧ Drawn0 w w' := by
  have H : (some (IntKind.u64.wrap ((IntKind.u64.wrap ((IntKind.u64.wrap ((a0 / 4294967296) * (a1 / 4294967296))) + ((IntKind.u64.wrap ((IntKind.u64.wrap ((a0 / 4294967296) * (Go.bits .and .u64 a1 4294967295))) + ((IntKind.u64.wrap ((Go.bits .and .u64 a0 4294967295) * (Go.bits .and .u64 a1 4294967295))) / 4294967296))) / 4294967296))) + ((IntKind.u64.wrap ((Go.bits .and .u64 (IntKind.u64.wrap ((IntKind.u64.wrap ((a0 / 4294967296) * (Go.bits .and .u64 a1 4294967295))) + ((IntKind.u64.wrap ((Go.bits .and .u64 a0 4294967295) * (Go.bits .and .u64 a1 4294967295))) / 4294967296))) 4294967295) + (IntKind.u64.wrap ((Go.bits .and .u64 a0 4294967295) * (a1 / 4294967296))))) / 4294967296)), IntKind.u64.wrap (a0 * a1))) = some (r1, r2) := h
  clear h
  simp only [Option.some.injEq, Prod.mk.injEq] at H
  obtain ⟨rfl, rfl⟩ := H
  go_enter Try.func118, Try.ntmps118
  go_wp2
  go_ret2
  exact ⟨by first | rfl | (simp only [i64_w, i32_w, wrap64_zero, Int.sub_zero, Int.add_zero, Int.mul_zero, Int.zero_mul]; rfl) | (simp; done) | (simp [*]; done), by repeat (first | exact Drawn0.refl _ | apply Drawn0.step)⟩

/-! ### bits_Mul: function 112 -/
def bits_Mul.f (a0 : Int) (a1 : Int) : Option (Int × Int) := (bits_Mul64.f a0 a1).bind fun bt154 => (some (bt154.1, bt154.2))
set_option maxHeartbeats 8000000 in
set_option maxRecDepth 100000 in
theorem bits_Mul.calls (a0 : Int) (a1 : Int) (r1 : Int) (r2 : Int) (w : World) (h : bits_Mul.f a0 a1 = some (r1, r2)) :
    Calls Try.prog 112 #[.int .u64 a0, .int .u64 a1] w fun e w' => e = .returned (.tuple #[.int .u64 r1, .int .u64 r2]) ∧ Drawn0 w w' := by
  have H : ((bits_Mul64.f a0 a1).bind fun bt154 => (some (bt154.1, bt154.2))) = some (r1, r2) := h
  clear h
  replace H := Option.bind_eq_some_iff.mp H
  obtain ⟨⟨t154, t155⟩, A30, H⟩ := H
  replace H : (some (t154, t155)) = some (r1, r2) := H
  have A3 := Aside0.mk A30
  clear A30
  simp only [Option.some.injEq, Prod.mk.injEq] at H
  obtain ⟨rfl, rfl⟩ := H
  go_enter Try.func112, Try.ntmps112
  go_wp2_with (first | ((with_reducible refine gate_callee (f := 118) rfl ?_); refine goesL_ (some 25) rfl rfl Try.func118 (by kernel_rfl) rfl #[.int .u64 a0, .int .u64 a1] rfl (by (try simp only [List.map_toArray, List.map_cons, List.map_nil]); first | done | rfl | (simp only [List.length_drop, List.length_take]; rfl)) ?_; (with_reducible refine (bits_Mul64.calls a0 a1 t154 t155 _ A3.out).mono ?_); rintro e w' ⟨rfl, ⟨nd, rfl⟩⟩; refine ⟨_, rfl, ?_⟩))
  go_ret2
  exact ⟨by first | rfl | (simp only [i64_w, i32_w, wrap64_zero, Int.sub_zero, Int.add_zero, Int.mul_zero, Int.zero_mul]; rfl) | (simp; done) | (simp [*]; done), by repeat (first | exact Drawn0.refl _ | apply Drawn0.step)⟩

/-! ### impl_Matrix_91: function 91 -/
/-- The cells of a list of matrices. -/
def flat2 (l : List S30) : List Value := l.flatMap fun x => [.int .i64 x.f0, .int .i64 x.f1]
theorem flat2_len (l : List S30) : (flat2 l).length = l.length * 2 := by
  induction l with
  | nil => rfl
  | cons a l ih => simp only [flat2, List.flatMap_cons, List.length_append, List.length_cons, List.length_nil] at ih ⊢; omega
theorem flat2_append (a b : List S30) : flat2 (a ++ b) = flat2 a ++ flat2 b := by simp [flat2]
theorem flat2_one (l : List S30) : ∀ u ∈ flat2 l, u.oneCell' = true := by
  intro u hu
  obtain ⟨x, _, hx⟩ := List.mem_flatMap.1 hu
  simp only [List.mem_cons, List.not_mem_nil, or_false] at hx
  rcases hx with rfl | rfl <;> rfl
theorem flat2_take (l : List S30) (n : Nat) : (flat2 l).take (n * 2) = flat2 (l.take n) := by
  induction l generalizing n with
  | nil => simp [flat2]
  | cons a l ih =>
    cases n with
    | zero => simp [flat2]
    | succ n =>
      have := ih n
      rw [show (n + 1) * 2 = n * 2 + 2 by omega]
      simp only [flat2, List.flatMap_cons, List.cons_append, List.nil_append, List.take_succ_cons] at this ⊢
      rw [this]
theorem flat2_drop (l : List S30) (n : Nat) : (flat2 l).drop (n * 2) = flat2 (l.drop n) := by
  induction l generalizing n with
  | nil => simp [flat2]
  | cons a l ih =>
    cases n with
    | zero => simp [flat2]
    | succ n =>
      have := ih n
      rw [show (n + 1) * 2 = n * 2 + 2 by omega]
      simp only [flat2, List.flatMap_cons, List.cons_append, List.nil_append, List.drop_succ_cons] at this ⊢
      rw [this]
theorem mats_reps {w : World} {base : Nat} {ok : Nat → Prop} : ∀ (l : List S30) (inner : List Value), Reps (k30.M w base ok) 2 l inner → inner = flat2 l
  | [], inner, h => List.eq_nil_of_length_eq_zero (by simpa using h.1)
  | x :: l, inner, h => by
    have h1 := k30_openM (h.2 0 x rfl)
    rw [Nat.zero_mul, List.drop_zero] at h1
    have h2 : Reps (k30.M w base ok) 2 l (inner.drop 2) := ⟨by rw [List.length_drop, h.1, List.length_cons]; omega, fun j p hj => by
      have := h.2 (j + 1) p (by simpa using hj)
      rw [List.drop_drop, show 2 + j * 2 = (j + 1) * 2 by omega]
      exact this⟩
    have h3 := mats_reps l _ h2
    rw [← List.take_append_drop 2 inner, h1, h3]
    rfl
theorem reps_mats {w : World} {base : Nat} {ok : Nat → Prop} (l : List S30) : Reps (k30.M w base ok) 2 l (flat2 l) := by
  refine ⟨flat2_len l, fun j p hj => ?_⟩
  obtain ⟨h1, rfl⟩ := List.getElem?_eq_some_iff.1 hj
  rw [flat2_drop, List.drop_eq_getElem_cons h1]
  exact k30_mkM _ _ _ _
theorem mat_open {w : World} {base : Nat} {ok : Nat → Prop} {v : Value} {l : List S30} (h : Kd.R k30 30 w base ok v l) :
    (v = .slice none 0 0 ∧ l = []) ∨ ∃ g cap cur, v = .slice (some ⟨g, 0, none⟩) l.length cap ∧ ok g ∧ base ≤ g ∧ w.heap[g]? = some (.cells cur 30 (0, 0)) ∧ l.length ≤ cap ∧ cap ≤ maxLen ∧ cur.size = cap * 2 ∧ cur.toList.take (l.length * 2) = flat2 l := by
  obtain ⟨h0, inner, ⟨_, ho⟩, hr⟩ := h
  have hi := mats_reps l inner hr
  rcases ho with ⟨h1, h2⟩ | ⟨g, cap, cur, h1, h2, h3, h4, h5, h6, h7⟩
  · exact Or.inl ⟨h1, List.length_eq_zero_iff.1 h2⟩
  · exact Or.inr ⟨g, cap, cur, h1, h0 g (by rw [h1]; rfl), h2, h3, h4, h5, h6, by rw [← hi, ← h7]; rfl⟩
theorem mat_shut {w : World} {base : Nat} {ok : Nat → Prop} {l : List S30} {g cap n : Nat} {cur : Array Value} (hn : n = l.length) (h0 : ok g) (h2 : base ≤ g) (h3 : w.heap[g]? = some (.cells cur 30 (0, 0))) (h4 : l.length ≤ cap) (h5 : cap ≤ maxLen) (h6 : cur.size = cap * 2) (h7 : cur.toList.take (l.length * 2) = flat2 l) :
    Kd.R k30 30 w base ok (.slice (some ⟨g, 0, none⟩) n cap) l := by
  subst hn
  refine ⟨fun k hk => ?_, flat2 l, ⟨flat2_len l, Or.inr ⟨g, cap, cur, rfl, h2, h3, h4, h5, h6, h7⟩⟩, reps_mats l⟩
  have : g = k := by simpa [Value.ownBlock] using hk
  subst this; exact h0
theorem run_copy_cells2 {P : Program} (w : World) (dT sT ty elem : TypeId) (b o dLen dCap : Nat) (a : Addr) (sLen sCap : Nat) (cs : List Value)
    (hu : P.underlying dT = some (.slice elem)) (hs : (P.info? elem).map (·.size) = some 2) (hn : cs.length = Nat.min sLen dLen * 2)
    (hsrc : ∀ j v, cs[j]? = some v → w.cell? (a.add j) = some v) (hc : ∀ j, j < cs.length → (w.cell? ⟨b, o + j, none⟩).isSome = true) (hf : ∀ j, j < cs.length → w.frozen? ⟨b, o + j, none⟩ = false) (h1 : ∀ v ∈ cs, v.oneCell' = true) :
    (Builtin.copy_ #[dT, sT] ty #[.slice (some ⟨b, o, none⟩) dLen dCap, .slice (some a) sLen sCap]).run P w = .ok (goInt (Nat.min sLen dLen : Nat)) (w.setCells b o cs) := by
  have hl := run_loadCells_list (P := P) w a cs hsrc
  have hst := run_storeCells_cells (P := P) b o cs 0 w (by simpa using hc) (by simpa using hf) h1
  cases hq : P.info? elem with
  | none => simp [hq] at hs
  | some i =>
    have hi : i.size = 2 := by simpa [hq] using hs
    rw [hn] at hl
    simp [Builtin.copy_, run_underlying hu, Builtin.lenOf, Builtin.firstCells, sizeOf, typeInfo, hq, hi, hl, hst]
/-- copy onto a row of matrices of one's own, from place j on. -/
theorem mat_copy_run {P : Program} {o : Oper} {a : Act} {w0 W : World} (base : Nat) (s x : Operand) (t t' : TypeId)
    (ho : o.op = .call { callee := .builtin .copy, args := #[s, x], argTypes := #[t, t'] }) (ht : P.underlying t = some (.slice 30)) (hinfo : (P.info? 30).map (·.size) = some 2)
    (g cap j m mc : Nat) (xs ys : List S30) (ad : Addr) (sl sc : Nat) (ok : Nat → Prop) (hs : a.eval s = .slice (some ⟨g, j * 2, none⟩) m mc) (hx : a.eval x = .slice (some ad) sl sc)
    (HO : Kd.R k30 30 W base ok (.slice (some ⟨g, 0, none⟩) xs.length cap) xs) (hj : j + m = xs.length) (hy : ys.length = Nat.min sl m) (hsrc : ∀ q u, (flat2 ys)[q]? = some u → W.cell? (ad.add q) = some u) (HB : Below base w0 W) :
    ∃ w1, (execOp a.eval o).run P W = .ok (.value (goInt (ys.length : Nat))) w1 ∧ Kd.R k30 30 w1 base ok (.slice (some ⟨g, 0, none⟩) xs.length cap) (xs.take j ++ ys ++ xs.drop (j + ys.length)) ∧ Below base w0 w1 := by
  have hml : ys.length ≤ m := by rw [hy]; exact Nat.min_le_right _ _
  rcases mat_open HO with ⟨h1, h2⟩ | ⟨g', cap', cur, h1, hok, hbase, hh, hnc, hcm, hcs, htk⟩
  · cases h1
  · injection h1 with e1 _ e3
    injection e1 with e1
    injection e1 with e1 _ _
    subst e1; subst e3
    have hlen := flat2_len ys
    have hr := run_copy_cells2 (P := P) W t t' o.type 30 g (j * 2) m mc ad sl sc (flat2 ys) ht hinfo (by rw [hlen, hy]) hsrc
      (fun q hq => by rw [cell_of_row W g _ cur 30 (0, 0) hh]; simp; omega) (fun q _ => blk_frozen hh _) (flat2_one ys)
    obtain ⟨cur', h3, h4, h5⟩ := setCells_row (flat2 ys) (j * 2) W cur hh (by omega)
    obtain ⟨s1, s2, s3, s4⟩ := setCells_same g (flat2 ys) (j * 2) W
    have hln : (xs.take j ++ ys ++ xs.drop (j + ys.length)).length = xs.length := by
      rw [List.length_append, List.length_append, List.length_take, List.length_drop]; omega
    refine ⟨W.setCells g (j * 2) (flat2 ys), ?_, mat_shut hln.symm hok hbase h3 (by omega) hcm (by rw [h4, hcs]) ?_, HB.trans ⟨s1, s2, s3, by rw [s4]; exact Nat.le_refl _, fun k hk => setCells_far _ _ k (by omega)⟩⟩
    · unfold execOp
      simp only [ho, resolve, invoke, builtin, Sem.run_bind, Sem.run_pure, Result.andThen_ok, List.map_toArray, List.map_cons, List.map_nil, hs, hx, hr]
      rw [← hy]
    · rw [h5, hln, hlen, ← Nat.add_mul]
      have htk2 : (cur.toList.take (xs.length * 2)).take (j * 2) = cur.toList.take (j * 2) := by rw [List.take_take, Nat.min_eq_left (by omega)]
      have hdr : cur.toList.drop ((j + ys.length) * 2) = (cur.toList.take (xs.length * 2)).drop ((j + ys.length) * 2) ++ cur.toList.drop (xs.length * 2) := by
        rw [← List.drop_append_of_le_length (by have h_ : cur.toList.length = cur.size := Array.length_toList; rw [List.length_take, h_, Nat.min_eq_left (show xs.length * 2 ≤ cur.size by rw [hcs]; omega)]; omega), List.take_append_drop]
      rw [← htk2, hdr, htk, flat2_take, flat2_drop, ← flat2_append, ← List.append_assoc, ← flat2_append]
      exact List.take_left' (by rw [flat2_len, hln])
theorem mat_copyL {P : Program} {ops : Array Oper} {rest : List Oper} {o : Oper} {a : Act} {Q : Exit → Act → World → Prop} {w0 W : World} (base : Nat) (s x : Operand) (t t' : TypeId)
    (ho : o.op = .call { callee := .builtin .copy, args := #[s, x], argTypes := #[t, t'] }) (ht : P.underlying t = some (.slice 30)) (hinfo : (P.info? 30).map (·.size) = some 2)
    (g cap j m mc : Nat) (xs ys : List S30) (ad : Addr) (sl sc : Nat) (ok : Nat → Prop) (hs : a.eval s = .slice (some ⟨g, j * 2, none⟩) m mc) (hx : a.eval x = .slice (some ad) sl sc)
    (HO : Kd.R k30 30 W base ok (.slice (some ⟨g, 0, none⟩) xs.length cap) xs) (hj : j + m = xs.length) (hy : ys.length = Nat.min sl m) (hsrc : ∀ q u, (flat2 ys)[q]? = some u → W.cell? (ad.add q) = some u) (HB : Below base w0 W) (hgd : o.guard = none)
    (h : ∀ w1, Kd.R k30 30 w1 base ok (.slice (some ⟨g, 0, none⟩) xs.length cap) (xs.take j ++ ys ++ xs.drop (j + ys.length)) → Below base w0 w1 → wpList P ops Q rest (a.put o.dst (goInt (ys.length : Nat))) w1) : wpList P ops Q (o :: rest) a W := by
  obtain ⟨w1, h1, h2, h3⟩ := mat_copy_run base s x t t' ho ht hinfo g cap j m mc xs ys ad sl sc ok hs hx HO hj hy hsrc HB
  refine wpList_plain hgd fun K hK => ?_
  unfold Oper.wp
  rw [h1]
  exact hK _ _ (h w1 h2 h3)
theorem mat_copyS {P : Program} {ops : Array Oper} {o : Oper} {a : Act} {Q : Exit → Act → World → Prop} {K : Act → World → Prop} {w0 W : World} (base : Nat) (s x : Operand) (t t' : TypeId) {N : Option Tmp} (hw : Region.wanted o (yielded ops a.tmps) = true) (hN : o.dst = N)
    (ho : o.op = .call { callee := .builtin .copy, args := #[s, x], argTypes := #[t, t'] }) (ht : P.underlying t = some (.slice 30)) (hinfo : (P.info? 30).map (·.size) = some 2)
    (g cap j m mc : Nat) (xs ys : List S30) (ad : Addr) (sl sc : Nat) (ok : Nat → Prop) (hs : a.eval s = .slice (some ⟨g, j * 2, none⟩) m mc) (hx : a.eval x = .slice (some ad) sl sc)
    (HO : Kd.R k30 30 W base ok (.slice (some ⟨g, 0, none⟩) xs.length cap) xs) (hj : j + m = xs.length) (hy : ys.length = Nat.min sl m) (hsrc : ∀ q u, (flat2 ys)[q]? = some u → W.cell? (ad.add q) = some u) (HB : Below base w0 W)
    (h : ∀ w1, Kd.R k30 30 w1 base ok (.slice (some ⟨g, 0, none⟩) xs.length cap) (xs.take j ++ ys ++ xs.drop (j + ys.length)) → Below base w0 w1 → K (a.put N (goInt (ys.length : Nat))) w1) : if Region.wanted o (yielded ops a.tmps) = true then Oper.wp P o a W K Q else K (a.put N undef) W := by
  obtain ⟨w1, h1, h2, h3⟩ := mat_copy_run base s x t t' ho ht hinfo g cap j m mc xs ys ad sl sc ok hs hx HO hj hy hsrc HB
  exact value_ hw hN h1 (h w1 h2 h3)
/-- slices.Repeat of one element. -/
def impl_Matrix_91.f (l0 : List S30) (a1 : Int) : Option (List S30) := if l0.length = 1 ∧ 0 ≤ a1 ∧ a1 ≤ 20 then some (List.replicate a1.toNat (l0.getD 0 z30)) else none
theorem u64_nat : ∀ n : Nat, n < 21 → IntKind.u64.wrap (n : Int) = (n : Int) := by decide
theorem i64_nat : ∀ n : Nat, n < 21 → IntKind.i64.wrap (n : Int) = (n : Int) := by decide
theorem mul_one_small : ∀ n : Nat, n < 21 → bits_Mul.f 1 (n : Int) = some (0, (n : Int)) := by decide +kernel
theorem made_mats (c nd : Nat) {w w1 : World} {v1 : Value} (ho1 : Kd.R k30 30 w1 (w.drewN nd).heap.size (fun _ => True) v1 (List.replicate (c : Int).toNat z30)) (hb1 : Below (w.drewN nd).heap.size (w.drewN nd) w1) (hat1 : ∃ b, v1.ownBlock = some b ∧ (w.drewN nd).heap.size ≤ b) :
    ∃ g cap, v1 = .slice (some ⟨g, 0, none⟩) c cap ∧ Kd.R k30 30 w1 w.heap.size (fun _ => True) (.slice (some ⟨g, 0, none⟩) (List.replicate c z30).length cap) (List.replicate c z30) ∧ Below w.heap.size w w1 := by
  rw [Int.toNat_natCast] at ho1
  have hs : (w.drewN nd).heap.size = w.heap.size := by simp
  rcases mat_open ho1 with ⟨h1, h2⟩ | ⟨g, cap, cur, h1, _⟩
  · obtain ⟨b, hb, _⟩ := hat1
    rw [h1] at hb; simp [Value.ownBlock] at hb
  · refine ⟨g, cap, by rw [h1, List.length_replicate], ?_, (pw_below_drewN (Below.refl w.heap.size w) nd).trans (hb1.mono (by rw [hs]; exact Nat.le_refl _))⟩
    rw [← h1]; exact Kd.R_lower ho1 (by rw [hs]; exact Nat.le_refl _)
theorem mat_cells {w : World} {base : Nat} {ok : Nat → Prop} {g n cap : Nat} {l : List S30} (h : Kd.R k30 30 w base ok (.slice (some ⟨g, 0, none⟩) n cap) l) : ∀ q u, (flat2 l)[q]? = some u → w.cell? ⟨g, q, none⟩ = some u := by
  intro q u hq
  rcases mat_open h with ⟨h1, _⟩ | ⟨g', cap', cur, h1, _, _, hh, _, _, _, ht⟩
  · cases h1
  · injection h1 with e1 _ _
    injection e1 with e1
    injection e1 with e1 _ _
    subst e1
    rw [cell_of_row w g q cur 30 (0, 0) hh]
    rw [← ht, List.getElem?_take] at hq
    split at hq
    · simpa using hq
    · cases hq
theorem flat_more (x : S30) (m n k : Nat) (hm : m ≤ n) (q : Nat) (u : Value) (h : (flat2 (List.replicate m x))[q]? = some u) : (flat2 (List.replicate n x ++ List.replicate k z30))[q]? = some u := by
  have e : List.replicate n x = List.replicate m x ++ List.replicate (n - m) x := by rw [List.replicate_append_replicate, show m + (n - m) = n by omega]
  rw [e, List.append_assoc, flat2_append, List.getElem?_append_left (List.getElem?_eq_some_iff.1 h).1]
  exact h
theorem rep_step (x : S30) (n c m : Nat) (hn : n ≤ c) (hm : m ≤ c - n) : (List.replicate n x ++ List.replicate (c - n) z30).take n ++ List.replicate m x ++ (List.replicate n x ++ List.replicate (c - n) z30).drop (n + m) = List.replicate (n + m) x ++ List.replicate (c - (n + m)) z30 := by
  rw [List.take_left' (by rw [List.length_replicate]), List.drop_append, List.drop_replicate, List.drop_replicate, List.length_replicate, List.replicate_append_replicate]
  rw [show n - (n + m) = 0 by omega, List.replicate_zero, List.nil_append, show c - n - (n + m - n) = c - (n + m) by omega]
theorem flat_min (x : S30) (c q : Nat) (u : Value) (h : (flat2 (List.replicate (Nat.min 1 c) x))[q]? = some u) : (flat2 [x])[q]? = some u := by
  cases c with
  | zero => simp [flat2] at h
  | succ c => rwa [show Nat.min 1 (c + 1) = 1 from Nat.min_eq_left (by omega)] at h
set_option maxHeartbeats 4000000 in
set_option maxRecDepth 100000 in
theorem impl_Matrix_91.calls (A0 : Option Addr) (c0 : Nat) (l0 : List S30) (a1 : Int) (r : List S30) (w : World) (hr0 : Kd.C k30 w A0 l0.length l0) (hc0 : l0.length ≤ c0) (h : impl_Matrix_91.f l0 a1 = some r) :
    Calls Try.prog 91 #[.slice A0 l0.length c0, .int .i64 a1] w fun e w' => ∃ v0_ : Value, e = .returned (v0_) ∧ Kd.R k30 30 w' w.heap.size (fun _ => True) v0_ r ∧ Below w.heap.size w w' := by
  unfold impl_Matrix_91.f at h
  by_cases hlim : l0.length = 1 ∧ 0 ≤ a1 ∧ a1 ≤ 20
  case neg => rw [if_neg hlim] at h; exact absurd h (by simp)
  rw [if_pos hlim] at h
  obtain rfl := Option.some.inj h
  clear h
  obtain ⟨hl, h1, h2⟩ := hlim
  obtain ⟨c, rfl⟩ := Int.eq_ofNat_of_zero_le h1
  obtain ⟨x, rfl⟩ := List.length_eq_one_iff.1 hl
  obtain ⟨ad, e1, hx0, hx1⟩ := at_T30 hr0 0 (by omega) (by simp)
  cases e1
  have hsrc : ∀ q u, (flat2 [x])[q]? = some u → w.cell? (ad.add q) = some u := by
    intro q u hq
    have hq2 : ([.int .i64 x.f0, .int .i64 x.f1] : List Value)[q]? = some u := hq
    cases q with
    | zero => simpa [rd_T30] using (show w.cell? (ad.add 0) = some u from by rw [← Option.some.inj hq2]; simpa [rd_T30] using hx0)
    | succ q =>
      cases q with
      | zero =>
        have e2 : Value.int .i64 x.f1 = u := Option.some.inj hq2
        have h3 : w.cell? ⟨(ad.add ((0 : Int).toNat * 2)).block, (ad.add ((0 : Int).toNat * 2)).off + 1, none⟩ = some (.int .i64 x.f1) := by simpa [rd_T30] using hx1
        rw [← e2, ← h3]
        rfl
      | succ q => simp at hq2
  have hu34 := Try.underlying34
  have HS := Aside0.mk hsrc
  have HB := Aside0.mk (Below.refl w.heap.size w)
  have HM := Aside0.mk (mul_one_small c (by omega))
  have hk1 : IntKind.u64.wrap (1 : Int) = 1 := by decide
  have hk2 : IntKind.u64.wrap (c : Int) = (c : Int) := u64_nat c (by omega)
  have hk3 : IntKind.i64.wrap (c : Int) = (c : Int) := i64_nat c (by omega)
  have hn0 : decide ((c : Int) < 0) = false := decide_eq_false (by omega)
  have hn1 : decide ((9223372036854775807 : Int) < (c : Int)) = false := decide_eq_false (by omega)
  have hc20 : c ≤ 20 := by omega
  clear hr0 hx0 hx1 hsrc h1 h2 hl hc0
  go_enter Try.func91, Try.ntmps91
  go_wp2_with (first | (go_at_call 112; refine (bits_Mul.calls 1 (c : Int) 0 (c : Int) _ HM.out).mono ?_; rintro e w' ⟨rfl, ⟨nd, rfl⟩⟩) | ((with_reducible refine gate_dst (N := 30) rfl ?_); refine Kd.R_make k30 _ 30 rfl (N := 30) rfl 34 _ _ rfl (c : Int) rfl rfl Try.underlying34 (.agg #[(.int .i64 0), (.int .i64 0)]) 16 info30 rfl (by decide) (by omega) z30 (ok := fun _ => True) (okp := fun _ => True) (k30_mkM _ _ _ z30) (fun _ hk => hk) trivial (Int.natCast_nonneg c) (by rw [Int.toNat_natCast]; omega) (Below.refl _ _) (Nat.le_refl _) ?_; intro v1 w1 ho1 hb1 hg1 hat1; obtain ⟨g, cap, e1, hro, hbb⟩ := made_mats c nd ho1 hb1 hat1; subst e1; have HO1 := Aside0.mk hro; have HB1 := Aside0.mk hbb; clear ho1 hb1 hg1 hat1 hro hbb) | ((with_reducible refine gate_builtin (b := .copy) (xs := #[.tmp 31, .tmp 32]) rfl ?_); refine mat_copyL (w0 := w) w.heap.size (.tmp 31) (.tmp 32) 34 34 rfl Try.underlying34 (by kernel_rfl) g cap 0 c _ (List.replicate c z30) (List.replicate (Nat.min 1 c) x) ad 1 c0 (fun _ => True) rfl rfl HO1.out (by simp) (by rw [List.length_replicate]) (fun q u hq => (HB1.out.cell (World.block_lt_of_cell? w _ (HS.out q u (flat_min x c q u hq)))).trans (HS.out q u (flat_min x c q u hq))) HB1.out rfl ?_; intro w2 ho2 hb2; rw [List.length_replicate] at ho2; have HO2 := Aside0.mk ho2; have HB2 := Aside0.mk hb2; rw [List.length_replicate]; clear ho2 hb2))
  have hE : List.take 0 (List.replicate c z30) ++ List.replicate (Nat.min 1 c) x ++ List.drop (0 + Nat.min 1 c) (List.replicate c z30) = List.replicate (Nat.min 1 c) x ++ List.replicate (c - Nat.min 1 c) z30 := by
    rw [List.take_zero, List.nil_append, Nat.zero_add, List.drop_replicate]
  have ho2 := HO2.out
  simp only [List.length_replicate] at ho2
  rw [hE] at ho2
  have HO3 := Aside0.mk ho2
  clear hE ho2
  go_loopg [8] c (fun gg s8 wx => ∃ n : Nat, n ≤ c ∧ c - n ≤ gg ∧ (0 < n ∨ c = 0) ∧ s8 = .int .i64 (n : Int) ∧ Aside0 (Kd.R k30 30 wx w.heap.size (fun _ => True) (.slice (some ⟨g, 0, none⟩) c cap) (List.replicate n x ++ List.replicate (c - n) z30)) ∧ Aside0 (Below w.heap.size w wx))
  case atStart => exact ⟨Nat.min 1 c, Nat.min_le_right _ _, by omega, by cases c with | zero => exact Or.inr rfl | succ c => exact Or.inl (by rw [show Nat.min 1 (c + 1) = 1 from Nat.min_eq_left (by omega)]; decide), rfl, HO3, HB2⟩
  case round =>
    clear HO3 HB2 HO2 HO1 HB1 HM
    obtain ⟨n, hn, hg, h0, rfl, HR, HBX⟩ := hrel
    by_cases hlt : n < c
    · have hd : decide ((n : Int) < (c : Int)) = true := decide_eq_true (by omega)
      have q1 : (0 ≤ (n : Int)) = True := eq_true (by omega)
      have q2 : ((n : Int) ≤ (c : Int)) = True := eq_true (by omega)
      cases gk with
      | zero => omega
      | succ gg =>
      obtain ⟨m, hm⟩ : ∃ m, m = Nat.min n (c - n) := ⟨_, rfl⟩
      have hm1 : m ≤ n := by rw [hm]; exact Nat.min_le_left _ _
      have hm2 : m ≤ c - n := by rw [hm]; exact Nat.min_le_right _ _
      have hm3 : 0 < m := by rw [hm]; exact Nat.lt_min.2 ⟨by omega, by omega⟩
      have hw : wrap64 ((n : Int) + (m : Int)) = ((n + m : Nat) : Int) := by unfold wrap64; omega
      have hlen : (List.replicate n x ++ List.replicate (c - n) z30).length = c := by simp; omega
      have hcap : c ≤ cap := by
        rcases mat_open HR.out with ⟨h1, _⟩ | ⟨g', cap', cur, h1, _, _, _, h2, _⟩
        · cases h1
        · injection h1 with _ e2 e3
          subst e3; omega
      have q3 : ((n : Int) ≤ (cap : Int)) = True := eq_true (by omega)
      have q4 : ((c : Int) ≤ (cap : Int)) = True := eq_true (by omega)
      have q5 : (cap = n) = False := eq_false (by omega)
      have HM := Aside0.mk hm
      have HL := Aside0.mk hlen
      have HW := Aside0.mk hw
      clear hm hlen hw
      have HR3 := Aside0.mk (Kd.R_drew HR.out)
      have HB3 := Aside0.mk (below_drew1 HBX.out)
      go_wp2_with fail
      refine start_ (n := 10) (S := fun w' => True) (ds := []) #[false, false, false, false, false, false, false, false, false, false] (by kernel_rfl) rfl rfl trivial (fun hHeld => ?_)
      generalize World.drew wr = w3 at HR3 HB3 ⊢
      refine pure_ (i := 0) (N := some 38) (v := ?_) (a' := ?_) #[true, false, false, false, false, false, false, false, false, false] rfl rfl (by kernel_rfl) (fun _ _ _ h => h) (Or.inl ⟨by rfl, ?_⟩) ?_ ?_
      rotate_left
      · intro w'
        go_simp
        with_reducible rfl
      rotate_left
      · simp only [Act.put, List.setIfInBounds_toArray, List.set_cons_zero, List.set_cons_succ, i64_w, i32_w]
        rfl
      refine pure_ (i := 1) (N := some 39) (v := ?_) (a' := ?_) #[true, true, false, false, false, false, false, false, false, false] rfl rfl (by kernel_rfl) (fun _ _ _ h => h) (Or.inl ⟨by rfl, ?_⟩) ?_ ?_
      rotate_left
      · intro w'
        go_simp
        with_reducible rfl
      rotate_left
      · simp only [Act.put, List.setIfInBounds_toArray, List.set_cons_zero, List.set_cons_succ, i64_w, i32_w]
        rfl
      refine pure_ (i := 2) (N := some 40) (v := ?_) (a' := ?_) #[true, true, true, false, false, false, false, false, false, false] rfl rfl (by kernel_rfl) (fun _ _ _ h => h) (Or.inl ⟨by rfl, ?_⟩) ?_ ?_
      rotate_left
      · intro w'
        go_simp
        with_reducible rfl
      rotate_left
      · simp only [Act.put, List.setIfInBounds_toArray, List.set_cons_zero, List.set_cons_succ, i64_w, i32_w]
        rfl
      refine pure_ (i := 3) (N := some 41) (v := ?_) (a' := ?_) #[true, true, true, true, false, false, false, false, false, false] rfl rfl (by kernel_rfl) (fun _ _ _ h => h) (Or.inl ⟨by rfl, ?_⟩) ?_ ?_
      rotate_left
      · intro w'
        go_simp
        with_reducible rfl
      rotate_left
      · simp only [Act.put, List.setIfInBounds_toArray, List.set_cons_zero, List.set_cons_succ, i64_w, i32_w]
        rfl
      refine pure_ (i := 4) (N := some 42) (v := ?_) (a' := ?_) #[true, true, true, true, true, false, false, false, false, false] rfl rfl (by kernel_rfl) (fun _ _ _ h => h) (Or.inl ⟨by rfl, ?_⟩) ?_ ?_
      rotate_left
      · intro w'
        go_simp
        with_reducible rfl
      rotate_left
      · simp only [Act.put, List.setIfInBounds_toArray, List.set_cons_zero, List.set_cons_succ, i64_w, i32_w]
        rfl
      refine pure_ (i := 5) (N := some 43) (v := ?_) (a' := ?_) #[true, true, true, true, true, true, false, false, false, false] rfl rfl (by kernel_rfl) (fun _ _ _ h => h) (Or.inl ⟨by rfl, ?_⟩) ?_ ?_
      rotate_left
      · intro w'
        go_simp
        with_reducible rfl
      rotate_left
      · simp only [Act.put, List.setIfInBounds_toArray, List.set_cons_zero, List.set_cons_succ, i64_w, i32_w]
        rfl
      refine pure_ (i := 6) (N := some 44) (v := ?_) (a' := ?_) #[true, true, true, true, true, true, true, false, false, false] rfl rfl (by kernel_rfl) (fun _ _ _ h => h) (Or.inl ⟨by rfl, ?_⟩) ?_ ?_
      rotate_left
      · intro w'
        go_simp
        with_reducible rfl
      rotate_left
      · simp only [Act.put, List.setIfInBounds_toArray, List.set_cons_zero, List.set_cons_succ, i64_w, i32_w]
        rfl
      refine one_ (i := 7) (N := some 45) #[true, true, true, true, true, true, true, true, false, false] rfl rfl (by kernel_rfl) (by decide) (fun K hK => ?_)
      refine mat_copyS (w0 := w) w.heap.size (.tmp 41) (.tmp 44) 34 34 (by rfl) rfl rfl Try.underlying34 (by kernel_rfl) g cap n (c - n) (cap - n) (List.replicate n x ++ List.replicate (c - n) z30) (List.replicate m x) ⟨g, 0, none⟩ n cap (fun _ => True) rfl rfl (by rw [HL.out]; exact HR3.out) (by rw [HL.out]; omega) (by rw [List.length_replicate]; exact HM.out) (fun q u hq => by rw [add_plain]; exact mat_cells HR3.out q u (flat_more x m n (c - n) hm1 q u hq)) HB3.out ?_
      intro w4 ho4 hb4
      rw [List.length_replicate, HL.out, rep_step x n c m (by omega) hm2] at ho4
      have HR4 := Aside0.mk ho4
      have HB4 := Aside0.mk hb4
      clear ho4 hb4
      rw [List.length_replicate]
      refine hK.out _ _ trivial (fun hHeld => ?_)
      clear hK K
      refine norm_ (a' := ?_) ?_ ?_
      rotate_left
      · show Act.put _ (some 45) _ = _
        simp only [Act.put, List.setIfInBounds_toArray, List.set_cons_zero, List.set_cons_succ, i64_w, i32_w]
        rfl
      refine pure_ (i := 8) (N := some 46) (v := ?_) (a' := ?_) #[true, true, true, true, true, true, true, true, true, false] rfl rfl (by kernel_rfl) (fun _ _ _ h => h) (Or.inl ⟨by rfl, ?_⟩) ?_ ?_
      rotate_left
      · intro w'
        go_simp
        with_reducible rfl
      rotate_left
      · simp only [Act.put, List.setIfInBounds_toArray, List.set_cons_zero, List.set_cons_succ, i64_w, i32_w]
        rfl
      refine pure_ (i := 9) (N := some 8) (v := ?_) (a' := ?_) #[true, true, true, true, true, true, true, true, true, true] rfl rfl (by kernel_rfl) (fun _ _ _ h => h) (Or.inl ⟨by rfl, ?_⟩) ?_ ?_
      rotate_left
      · intro w'
        go_simp
        with_reducible rfl
      rotate_left
      · simp only [Act.put, List.setIfInBounds_toArray, List.set_cons_zero, List.set_cons_succ, i64_w, i32_w]
        rfl
      refine done_ (by kernel_rfl) ?_
      try go_wp2
      go_roundg gg
      case measure => omega
      case rel => exact ⟨n + m, by omega, by omega, Or.inl (by omega), by first | rfl | rw [HW.out], HR4, HB4⟩
    · have hnc : n = c := by omega
      subst hnc
      have hd : decide ((n : Int) < (n : Int)) = false := by simp
      go_wp2_with fail
      go_ret
      refine ⟨_, rfl, ?_, HBX.out⟩
      have h_ := HR.out
      rw [Nat.sub_self, List.replicate_zero, List.append_nil] at h_
      rw [Int.toNat_natCast]
      exact h_

end Go.Proofs.Ytilbngklgjjblaa.Q
