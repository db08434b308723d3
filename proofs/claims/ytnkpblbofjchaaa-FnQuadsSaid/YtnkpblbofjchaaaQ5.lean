/- Contracts of Go functions over this translation: each call returns what the Lean function of the same name gives, and writes into no memory that was there. Written by a program of this claim's author (mp.py) over the kit's print. Conditions: those that each theorem names. -/
import Derived.Test.YtnkpblbofjchaaaQ0
import Derived.Test.YtnkpblbofjchaaaQ1
import Derived.Test.YtnkpblbofjchaaaQ2
import Derived.Test.YtnkpblbofjchaaaQ4
namespace Go.Proofs.Ytnkpblbofjchaaa.Q
open Go.RowKit Go.Proofs.YtnkpblbofjchaaaW.PrintWords Go.Proofs.YtnkpblbofjchaaaW.PrintLast Go.Proofs.YtnkpblbofjchaaaW.PrintMore
attribute [local go_sem] max2_int min2_int max_two min_two max_three min_three max_four min_four   -- for this text's walks alone
set_option linter.unusedVariables false
set_option linter.unusedSimpArgs false

/-! ### impl_filled: function 86 -/
/-- Blank letters are added as long as one of them has room: each time the first one that has. -/
def filL (F : List Int → Option Bool) (add : List Int → Int → List Int) (Q : List Int) : Nat → List Int → Option (List Int)
  | 0, _ => none
  | k + 1, out => if out.length ≤ 1000 ∧ (Q.all fun x => (F (add out x)).isSome) = true then (if Q.findIdx (fun x => F (add out x) == some true) < Q.length then filL F add Q k (add out (Q.getD (Q.findIdx fun x => F (add out x) == some true) 0)) else some out) else none
theorem findIdx_alike : ∀ (l : List Int) (p q : Int → Bool), (∀ x ∈ l, p x = q x) → l.findIdx p = l.findIdx q
  | [], _, _, _ => rfl
  | a :: l, p, q, h => by rw [List.findIdx_cons, List.findIdx_cons, h a (by simp), findIdx_alike l p q (fun x hx => h x (by simp [hx]))]
theorem filL_mono (F F' : List Int → Option Bool) (add : List Int → Int → List Int) (Q : List Int) (hF : ∀ L, LeO (F L) (F' L)) : ∀ k out, LeO (filL F add Q k out) (filL F' add Q (k + 1) out)
  | 0, _ => fun r h => by simp [filL] at h
  | k + 1, out => fun r h => by
    rw [filL] at h
    by_cases c : out.length ≤ 1000 ∧ (Q.all fun x => (F (add out x)).isSome) = true
    case neg => rw [if_neg c] at h; cases h
    rw [if_pos c] at h
    have hall : ∀ x ∈ Q, F' (add out x) = F (add out x) := by
      intro x hx
      obtain ⟨b, hb⟩ := Option.isSome_iff_exists.1 (List.all_eq_true.1 c.2 x hx)
      rw [hb]; exact hF _ b hb
    have hs : (Q.all fun x => (F' (add out x)).isSome) = true := by
      rw [List.all_eq_true]
      intro x hx
      rw [hall x hx]
      exact List.all_eq_true.1 c.2 x hx
    have hi : Q.findIdx (fun x => F' (add out x) == some true) = Q.findIdx (fun x => F (add out x) == some true) := findIdx_alike _ _ _ (fun x hx => by rw [hall x hx])
    rw [filL, if_pos ⟨c.1, hs⟩, hi]
    by_cases d : Q.findIdx (fun x => F (add out x) == some true) < Q.length
    · rw [if_pos d] at h ⊢; exact filL_mono F F' add Q hF k _ r h
    · rw [if_neg d] at h ⊢; exact h
def filF (add : List Int → Int → List Int) (k : Nat) (a b c : Int) (l0 l1 : List Int) : Option (List Int × Bool) := (impl_fits.f k a b c l0).bind fun t => if t = true then ((impl_quadsOk.f k l1).bind fun q => if q = true then (filL (fun L => impl_fits.f k a b c L) add l1 k l0).bind fun o => some (o, true) else some ([], false)) else some ([], false)
theorem filF_mono (add : List Int → Int → List Int) (k : Nat) (a b c : Int) (l0 l1 : List Int) : LeO (filF add k a b c l0 l1) (filF add (k + 1) a b c l0 l1) := by
  unfold filF
  refine LeO.bind (impl_fits.mono _ _ _ _ _) (fun _ => ?_)
  refine LeO.ite ?_ (LeO.refl _)
  refine LeO.bind (impl_quadsOk.mono _ _) (fun _ => ?_)
  refine LeO.ite ?_ (LeO.refl _)
  exact LeO.bind (filL_mono _ _ _ _ (fun L => impl_fits.mono _ _ _ _ _) _ _) (fun _ => LeO.refl _)
theorem goesV_ {P : Program} {ops : Array Oper} {Q : Exit → Act → World → Prop} {oi : Oper} {N : Option Tmp} {a : Act} {w : World} {K : Act → World → Prop} (g : FuncId) (lb : Array Value) (args : Array Value) (hw : Region.wanted oi (yielded ops a.tmps) = true) (hN : oi.dst = N) {c : Operand} {az : Array Operand} {ts : Array TypeId}
    (hop : oi.op = .call { callee := .value c, args := az, argTypes := ts }) (hc : a.eval c = .func (.func g) #[] lb) (hargs : az.map a.eval = args) (eg : ∀ args w, (callFunc g args).run P w = .ok (.enter g args) w)
    (h : Calls P g (args ++ lb) w fun e w' => ∃ v, e = .returned v ∧ K (a.put N v) w') : if Region.wanted oi (yielded ops a.tmps) = true then Oper.wp P oi a w K Q else K (a.put N undef) w := by
  refine call_ g (args ++ lb) hw hN ?_ h
  unfold execOp
  simp [hop, resolve, Deferred.ofValue, invoke, hc, hargs, eg]
set_option maxHeartbeats 2000000 in
set_option maxRecDepth 100000 in
theorem impl_filled_1.calls (add : List Int → Int → List Int) (g : Nat) (lb : Array Value) (k : Nat) (a b c x : Int) (r : Bool) (qm qa qo : Nat) (Ao : Option Addr) (co : Nat) (L : List Int) (w : World)
    (eg : ∀ args w, (callFunc g args).run Try.prog w = .ok (.enter g args) w)
    (hm0 : w.cell? ⟨qm, 0, none⟩ = some (.int .i64 a)) (hm1 : w.cell? ⟨qm, 1, none⟩ = some (.int .i64 b)) (hm2 : w.cell? ⟨qm, 2, none⟩ = some (.int .i64 c))
    (ha : w.cell? ⟨qa, 0, none⟩ = some (.func (.func g) #[] lb)) (ho : w.cell? ⟨qo, 0, none⟩ = some (.slice Ao L.length co))
    (hadd : ∀ W, Below w.heap.size w W → Calls Try.prog g (#[.slice Ao L.length co, .int .i64 x] ++ lb) W fun e W' => ∃ v : Value, e = .returned v ∧ Kd.R (Kd.int .i64) 3 W' W.heap.size (fun _ => True) v (add L x) ∧ Below W.heap.size W W')
    (h : impl_fits.f k a b c (add L x) = some r) :
    Calls Try.prog 104 #[.int .i64 x, .pointer (some ⟨qm, 0, none⟩), .pointer (some ⟨qa, 0, none⟩), .pointer (some ⟨qo, 0, none⟩)] w fun e w' => e = .returned (.bool r) ∧ Below w.heap.size w w' := by
  have hu25 := Try.underlying25
  have HA := Aside0.mk hadd
  have HH := Aside0.mk h
  have HD := Aside0.mk (below_drew1 (Below.refl w.heap.size w))
  clear hadd h
  go_enter Try.func104, Try.ntmps104
  try go_wp2_with fail
  refine start_ (n := 7) (S := fun w' => w'.cell? ⟨qm, 0, none⟩ = some (.int .i64 a) ∧ w'.cell? ⟨qm, 1, none⟩ = some (.int .i64 b) ∧ w'.cell? ⟨qm, 2, none⟩ = some (.int .i64 c) ∧ w'.cell? ⟨qa, 0, none⟩ = some (.func (.func g) #[] lb) ∧ w'.cell? ⟨qo, 0, none⟩ = some (.slice Ao L.length co)) (ds := []) #[false, false, false, false, false, false, false] (by kernel_rfl) rfl rfl ⟨hm0, hm1, hm2, ha, ho⟩ (fun hHeld => ?_)
  generalize World.drew w = wd at HD hHeld ⊢
  refine take_ (i := 0) (N := some 6) (v := ?_) (a' := ?_) #[true, false, false, false, false, false, false] rfl rfl (by kernel_rfl) (fun _ _ _ h => h) (Or.inl ⟨by rfl, ?_⟩) hHeld ?_ ?_
  rotate_left
  · rintro w' ⟨s0, s1, s2, s3, s4⟩
    go_simp
    with_reducible rfl
  rotate_left
  · simp only [Act.put, List.setIfInBounds_toArray, List.set_cons_zero, List.set_cons_succ, i64_w, i32_w]
    rfl
  refine take_ (i := 1) (N := some 7) (v := ?_) (a' := ?_) #[true, true, false, false, false, false, false] rfl rfl (by kernel_rfl) (fun _ _ _ h => h) (Or.inl ⟨by rfl, ?_⟩) hHeld ?_ ?_
  rotate_left
  · rintro w' ⟨s0, s1, s2, s3, s4⟩
    go_simp
    with_reducible rfl
  rotate_left
  · simp only [Act.put, List.setIfInBounds_toArray, List.set_cons_zero, List.set_cons_succ, i64_w, i32_w]
    rfl
  refine take_ (i := 2) (N := some 8) (v := ?_) (a' := ?_) #[true, true, true, false, false, false, false] rfl rfl (by kernel_rfl) (fun _ _ _ h => h) (Or.inl ⟨by rfl, ?_⟩) hHeld ?_ ?_
  rotate_left
  · rintro w' ⟨s0, s1, s2, s3, s4⟩
    go_simp
    with_reducible rfl
  rotate_left
  · simp only [Act.put, List.setIfInBounds_toArray, List.set_cons_zero, List.set_cons_succ, i64_w, i32_w]
    rfl
  refine pure_ (i := 3) (N := some 9) (v := ?_) (a' := ?_) #[true, true, true, true, false, false, false] rfl rfl (by kernel_rfl) (fun _ _ _ h => h) (Or.inl ⟨by rfl, ?_⟩) ?_ ?_
  rotate_left
  · intro w'
    go_simp
    with_reducible rfl
  rotate_left
  · simp only [Act.put, List.setIfInBounds_toArray, List.set_cons_zero, List.set_cons_succ, i64_w, i32_w]
    rfl
  refine one_ (i := 4) (N := some 10) #[true, true, true, true, true, false, false] rfl rfl (by kernel_rfl) (by decide) (fun K hK => ?_)
  refine goesV_ g lb #[.slice Ao L.length co, .int .i64 x] (by rfl) rfl rfl rfl (by first | rfl | (simp only [List.map_toArray, List.map_cons, List.map_nil]; rfl)) eg ?_
  refine (HA.out wd HD.out).mono ?_
  rintro e w1 ⟨v1, rfl, hr1, hb1⟩
  obtain ⟨A1, c1, e1⟩ := Kd.R_slice hr1
  subst e1
  have HR1 := Aside0.mk hr1
  have HB1 := Aside0.mk (HD.out.trans (hb1.mono HD.out.size))
  refine ⟨_, rfl, ?_⟩
  have hHeld1 := hHeld
  obtain ⟨d0, d1, d2, d3, d4⟩ := hHeld
  refine hK.out _ _ ⟨(hb1.cell (World.block_lt_of_cell? _ _ d0)).trans d0, (hb1.cell (World.block_lt_of_cell? _ _ d1)).trans d1, (hb1.cell (World.block_lt_of_cell? _ _ d2)).trans d2, (hb1.cell (World.block_lt_of_cell? _ _ d3)).trans d3, (hb1.cell (World.block_lt_of_cell? _ _ d4)).trans d4⟩ (fun hHeld => ?_)
  clear d0 d1 d2 d3 d4 hHeld1 hr1 hb1
  clear hK K
  refine norm_ (a' := ?_) ?_ ?_
  rotate_left
  · show Act.put _ (some 10) _ = _
    simp only [Act.put, List.setIfInBounds_toArray, List.set_cons_zero, List.set_cons_succ, i64_w, i32_w]
    rfl
  refine one_ (i := 5) (N := some 11) #[true, true, true, true, true, true, false] rfl rfl (by kernel_rfl) (by decide) (fun K hK => ?_)
  refine goes_ Try.func77 (by kernel_rfl) rfl #[.agg #[.int .i64 a, .int .i64 b, .int .i64 c], .slice A1 (add L x).length c1] (by rfl) rfl rfl (by first | rfl | (simp only [List.map_toArray, List.map_cons, List.map_nil]; rfl)) ?_
  refine (impl_fits.calls k a b c _ _ (add L x) r _ (Kd.R_reads' HR1.out).2.2 (Kd.R_reads' HR1.out).2.1 HH.out).mono ?_
  rintro e w2 ⟨rfl, hb2⟩
  have HB2 := Aside0.mk (HB1.out.trans (hb2.mono HB1.out.size))
  refine ⟨_, rfl, ?_⟩
  obtain ⟨d0, d1, d2, d3, d4⟩ := hHeld
  refine hK.out _ _ ⟨(hb2.cell (World.block_lt_of_cell? _ _ d0)).trans d0, (hb2.cell (World.block_lt_of_cell? _ _ d1)).trans d1, (hb2.cell (World.block_lt_of_cell? _ _ d2)).trans d2, (hb2.cell (World.block_lt_of_cell? _ _ d3)).trans d3, (hb2.cell (World.block_lt_of_cell? _ _ d4)).trans d4⟩ (fun hHeld => ?_)
  clear d0 d1 d2 d3 d4 hb2
  clear hK K
  refine norm_ (a' := ?_) ?_ ?_
  rotate_left
  · show Act.put _ (some 11) _ = _
    simp only [Act.put, List.setIfInBounds_toArray, List.set_cons_zero, List.set_cons_succ, i64_w, i32_w]
    rfl
  refine pure_ (i := 6) (N := some 5) (v := ?_) (a' := ?_) #[true, true, true, true, true, true, true] rfl rfl (by kernel_rfl) (fun _ _ _ h => h) (Or.inl ⟨by rfl, ?_⟩) ?_ ?_
  rotate_left
  · intro w'
    go_simp
    with_reducible rfl
  rotate_left
  · simp only [Act.put, List.setIfInBounds_toArray, List.set_cons_zero, List.set_cons_succ, i64_w, i32_w]
    rfl
  refine done_ (by kernel_rfl) ?_
  go_wp2
  go_ret
  exact ⟨rfl, HB2.out⟩
set_option maxHeartbeats 4000000 in
set_option maxRecDepth 100000 in
theorem impl_filled.calls (add : List Int → Int → List Int) (g : Nat) (lb : Array Value) (k : Nat) (a0_0 a0_1 a0_2 : Int) (A1 : Option Addr) (c1 : Nat) (l1 : List Int) (A2 : Option Addr) (c2 : Nat) (l2 : List Int) (r1 : List Int) (r2 : Bool) (w : World)
    (eg : ∀ args w, (callFunc g args).run Try.prog w = .ok (.enter g args) w)
    (hr1 : Kd.C (Kd.int .i64) w A1 l1.length l1) (hc1 : l1.length ≤ c1) (hr2 : Kd.C (Kd.int .i64) w A2 l2.length l2) (hc2 : l2.length ≤ c2)
    (hadd : ∀ W base v L x, L.length ≤ 1000 → base ≤ W.heap.size → Kd.R (Kd.int .i64) 3 W base (fun _ => True) v L → Calls Try.prog g (#[v, .int .i64 x] ++ lb) W fun e W' => ∃ v : Value, e = .returned v ∧ Kd.R (Kd.int .i64) 3 W' W.heap.size (fun _ => True) v (add L x) ∧ Below W.heap.size W W')
    (h : filF add k a0_0 a0_1 a0_2 l1 l2 = some (r1, r2)) :
    Calls Try.prog 86 #[.agg #[.int .i64 a0_0, .int .i64 a0_1, .int .i64 a0_2], .slice A1 l1.length c1, .slice A2 l2.length c2, .func (.func g) #[] lb] w fun e w' => ∃ v0_ : Value, e = .returned (.tuple #[v0_, .bool r2]) ∧ Kd.R (Kd.int .i64) 3 w' w.heap.size (fun _ => True) v0_ r1 ∧ Below w.heap.size w w' := by
  have hu25 := Try.underlying25
  have HR1 := Aside0.mk hr1
  have HC1 := Aside0.mk hc1
  have HR2 := Aside0.mk hr2
  have HC2 := Aside0.mk hc2
  have HA := Aside0.mk hadd
  have hb0 := below_alloc (below_alloc (Below.refl w.heap.size w) (.cells #[.int .i64 a0_0, .int .i64 a0_1, .int .i64 a0_2] 25)) (.cells #[.func (.func g) #[] lb] 66)
  have HB := Aside0.mk hb0
  clear hr1 hc1 hr2 hc2 hadd hb0
  unfold filF at h
  obtain ⟨t, ht, h⟩ := Option.bind_eq_some_iff.1 h
  have HT := Aside0.mk ht
  cases t with
  | false =>
    rw [if_neg (by decide)] at h
    obtain ⟨rfl, rfl⟩ := Prod.mk.inj (Option.some.inj h)
    clear h ht
    go_enter Try.func86, Try.ntmps86
    go_wp2_with (go_at_call 77; refine (impl_fits.calls k a0_0 a0_1 a0_2 A1 c1 l1 false _ (Kd.C_below HR1.out HB.out) HC1.out HT.out).mono ?_; rintro e w' ⟨rfl, hb⟩; have HB2 := Aside0.mk (HB.out.trans (hb.mono HB.out.size)); clear hb)
    go_ret2
    exact ⟨_, rfl, Kd.R_nil _ _ _ _ _, HB2.out⟩
  | true =>
  rw [if_pos rfl] at h
  obtain ⟨q, hq, h⟩ := Option.bind_eq_some_iff.1 h
  have HQ := Aside0.mk hq
  cases q with
  | false =>
    rw [if_neg (by decide)] at h
    obtain ⟨rfl, rfl⟩ := Prod.mk.inj (Option.some.inj h)
    clear h ht hq
    go_enter Try.func86, Try.ntmps86
    go_wp2_with (first
      | (go_at_call 77; refine (impl_fits.calls k a0_0 a0_1 a0_2 A1 c1 l1 true _ (Kd.C_below HR1.out HB.out) HC1.out HT.out).mono ?_; rintro e w' ⟨rfl, hb⟩; have HB2 := Aside0.mk (HB.out.trans (hb.mono HB.out.size)); clear hb)
      | (go_at_call 101; refine (impl_quadsOk.calls k A2 c2 l2 false _ (Kd.C_below HR2.out HB2.out) HC2.out HQ.out).mono ?_; rintro e w'' ⟨rfl, hb⟩; have HB3 := Aside0.mk (HB2.out.trans (hb.mono HB2.out.size)); clear hb))
    go_ret2
    exact ⟨_, rfl, Kd.R_nil _ _ _ _ _, HB3.out⟩
  | true =>
  rw [if_pos rfl] at h
  obtain ⟨o, ho, h⟩ := Option.bind_eq_some_iff.1 h
  obtain ⟨rfl, rfl⟩ := Prod.mk.inj (Option.some.inj h)
  have h40 : l1.length ≤ 1000 := by
    cases k with
    | zero => simp [filL] at ho
    | succ k =>
      rw [filL] at ho
      by_cases hc : l1.length ≤ 1000 ∧ (l2.all fun x => (impl_fits.f (k + 1) a0_0 a0_1 a0_2 (add l1 x)).isSome) = true
      · exact hc.1
      · rw [if_neg hc] at ho; cases ho
  have HO := Aside0.mk ho
  have HCL := Aside0.mk (show slices_Clone_int_int.f l1 = some l1 from by unfold slices_Clone_int_int.f; rw [if_pos (by omega)])
  have HS := Aside0.mk (show ((w.alloc (.cells #[.int .i64 a0_0, .int .i64 a0_1, .int .i64 a0_2] 25)).alloc (.cells #[.func (.func g) #[] lb] 66)).heap.size = w.heap.size + 2 by simp)
  have HM0 := Aside0.mk (show ((w.alloc (.cells #[.int .i64 a0_0, .int .i64 a0_1, .int .i64 a0_2] 25)).alloc (.cells #[.func (.func g) #[] lb] 66)).cell? ⟨w.heap.size, 0, none⟩ = some (.int .i64 a0_0) by simp)
  have HM1 := Aside0.mk (show ((w.alloc (.cells #[.int .i64 a0_0, .int .i64 a0_1, .int .i64 a0_2] 25)).alloc (.cells #[.func (.func g) #[] lb] 66)).cell? ⟨w.heap.size, 1, none⟩ = some (.int .i64 a0_1) by simp)
  have HM2 := Aside0.mk (show ((w.alloc (.cells #[.int .i64 a0_0, .int .i64 a0_1, .int .i64 a0_2] 25)).alloc (.cells #[.func (.func g) #[] lb] 66)).cell? ⟨w.heap.size, 2, none⟩ = some (.int .i64 a0_2) by simp)
  have HM3 := Aside0.mk (show ((w.alloc (.cells #[.int .i64 a0_0, .int .i64 a0_1, .int .i64 a0_2] 25)).alloc (.cells #[.func (.func g) #[] lb] 66)).cell? ⟨w.heap.size + 1, 0, none⟩ = some (.func (.func g) #[] lb) by simp)
  clear h ht hq ho h40
  go_enter Try.func86, Try.ntmps86
  go_wp2_with (first
    | (go_at_call 77; refine (impl_fits.calls k a0_0 a0_1 a0_2 A1 c1 l1 true _ (Kd.C_below HR1.out HB.out) HC1.out HT.out).mono ?_; rintro e w1 ⟨rfl, hb⟩; have HX1 := Aside0.mk hb; have HB1 := Aside0.mk (HB.out.trans (hb.mono HB.out.size)); clear hb)
    | (go_at_call 101; refine (impl_quadsOk.calls k A2 c2 l2 true _ (Kd.C_below HR2.out HB1.out) HC2.out HQ.out).mono ?_; rintro e w2 ⟨rfl, hb⟩; have HX2 := Aside0.mk (HX1.out.trans (hb.mono HX1.out.size)); have HB2 := Aside0.mk (HB1.out.trans (hb.mono HB1.out.size)); clear hb)
    | (go_at_call 102; refine (slices_Clone_int_int.calls A1 c1 l1 l1 _ (Kd.C_below HR1.out HB2.out) HC1.out HCL.out).mono ?_; rintro e w3 ⟨vL, rfl, hor, hbl⟩; obtain ⟨AL, cL, eL⟩ := Kd.R_slice hor; subst eL; have HOL := Aside0.mk (Kd.R_lower hor HB2.out.size); have HX3 := Aside0.mk (HX2.out.trans (hbl.mono HX2.out.size)); have HB3 := Aside0.mk (HB2.out.trans (hbl.mono HB2.out.size)); clear hor hbl))
  have hB4 := below_alloc HB3.out (.cells #[.slice AL l1.length cL] 28)
  have hX4 := below_alloc HX3.out (.cells #[.slice AL l1.length cL] 28)
  have hbox : (w3.alloc (.cells #[.slice AL l1.length cL] 28)).heap[w3.heap.size]? = some (.cells #[.slice AL l1.length cL] 28 (0, 0)) := blk_new w3 _
  have HOL4 := Aside0.mk (Kd.R_alloc HOL.out (.cells #[.slice AL l1.length cL] 28))
  have hgo : w.heap.size + 2 ≤ w3.heap.size := by have h_ := HX3.out.size; have h2_ := HS.out; omega
  have HGO := Aside0.mk hgo
  have HB4 := Aside0.mk hB4
  have HX4 := Aside0.mk hX4
  have HBOX := Aside0.mk hbox
  clear hB4 hX4 hbox hgo
  obtain ⟨go, hgo_⟩ : ∃ go, go = w3.heap.size := ⟨_, rfl⟩
  rw [← hgo_] at HBOX HGO ⊢
  clear hgo_
  go_loopg [11] k (fun gg s11 wx => ∃ (L : List Int) (AL' : Option Addr) (cL' : Nat), Aside0 (filL (fun L => impl_fits.f k a0_0 a0_1 a0_2 L) add l2 gg L = some o) ∧ Aside0 (wx.heap[go]? = some (.cells #[.slice AL' L.length cL'] 28 (0, 0))) ∧ Aside0 (Kd.R (Kd.int .i64) 3 wx w.heap.size (fun _ => True) (.slice AL' L.length cL') L) ∧ Aside0 (Below w.heap.size w wx) ∧ Aside0 (Below ((w.alloc (.cells #[.int .i64 a0_0, .int .i64 a0_1, .int .i64 a0_2] 25)).alloc (.cells #[.func (.func g) #[] lb] 66)).heap.size ((w.alloc (.cells #[.int .i64 a0_0, .int .i64 a0_1, .int .i64 a0_2] 25)).alloc (.cells #[.func (.func g) #[] lb] 66)) wx))
  case atStart => exact ⟨l1, AL, cL, HO, HBOX, HOL4, HB4, HX4⟩
  case round =>
    clear HBOX HOL4 HB4 HX4 HO HOL HX3 HB3 HX2 HB2 HX1 HB1 HT HQ HCL
    obtain ⟨L, AL, cL, HL, BKO, HR, HBX, HXX⟩ := hrel
    cases gk with
    | zero => exact absurd HL.out (by simp [filL])
    | succ gg =>
      have h2 := HL.out
      rw [filL] at h2
      by_cases hc : L.length ≤ 1000 ∧ (l2.all fun x => (impl_fits.f k a0_0 a0_1 a0_2 (add L x)).isSome) = true
      case neg => rw [if_neg hc] at h2; cases h2
      rw [if_pos hc] at h2
      obtain ⟨hlen, hall⟩ := hc
      have hsz : w.heap.size + 2 ≤ wr.heap.size := by have h_ := HXX.out.size; have h2_ := HS.out; omega
      have hm0 := (HXX.out.cell (p := ⟨w.heap.size, 0, none⟩) (show w.heap.size < ((w.alloc (.cells #[.int .i64 a0_0, .int .i64 a0_1, .int .i64 a0_2] 25)).alloc (.cells #[.func (.func g) #[] lb] 66)).heap.size by rw [HS.out]; omega)).trans HM0.out
      have hm1 := (HXX.out.cell (p := ⟨w.heap.size, 1, none⟩) (show w.heap.size < ((w.alloc (.cells #[.int .i64 a0_0, .int .i64 a0_1, .int .i64 a0_2] 25)).alloc (.cells #[.func (.func g) #[] lb] 66)).heap.size by rw [HS.out]; omega)).trans HM1.out
      have hm2 := (HXX.out.cell (p := ⟨w.heap.size, 2, none⟩) (show w.heap.size < ((w.alloc (.cells #[.int .i64 a0_0, .int .i64 a0_1, .int .i64 a0_2] 25)).alloc (.cells #[.func (.func g) #[] lb] 66)).heap.size by rw [HS.out]; omega)).trans HM2.out
      have hm3 := (HXX.out.cell (p := ⟨w.heap.size + 1, 0, none⟩) (show w.heap.size + 1 < ((w.alloc (.cells #[.int .i64 a0_0, .int .i64 a0_1, .int .i64 a0_2] 25)).alloc (.cells #[.func (.func g) #[] lb] 66)).heap.size by rw [HS.out]; omega)).trans HM3.out
      have hcz : wr.cell? ⟨go, 0, none⟩ = some (.slice AL L.length cL) := (blk_cell BKO.out 0).trans rfl
      have hfz := blk_frozen BKO.out 0
      have eg1 : ∀ args w, (callFunc 104 args).run Try.prog w = .ok (.enter 104 args) w := enters_of Try.func104 (by kernel_rfl) rfl
      have hrd := Kd.R_reads' HR.out
      have hif := slices_IndexFunc_int_int.calls (fun x => impl_fits.f k a0_0 a0_1 a0_2 (add L x) == some true) 104 #[.pointer (some ⟨w.heap.size, 0, none⟩), .pointer (some ⟨w.heap.size + 1, 0, none⟩), .pointer (some ⟨go, 0, none⟩)] (fun W => Below wr.heap.size wr W) A2 c2 l2 wr eg1 (Kd.C_below HR2.out HBX.out) HC2.out (fun W e => e) (Below.refl _ _)
        (fun W x hx e => by
          obtain ⟨b, hb⟩ := Option.isSome_iff_exists.1 (List.all_eq_true.1 hall x hx)
          refine (impl_filled_1.calls add g lb k a0_0 a0_1 a0_2 x b w.heap.size (w.heap.size + 1) go AL cL L W eg ((e.cell (World.block_lt_of_cell? wr _ hm0)).trans hm0) ((e.cell (World.block_lt_of_cell? wr _ hm1)).trans hm1) ((e.cell (World.block_lt_of_cell? wr _ hm2)).trans hm2) ((e.cell (World.block_lt_of_cell? wr _ hm3)).trans hm3) ((e.cell (World.block_lt_of_cell? wr _ hcz)).trans hcz)
            (fun W2 e2 => HA.out W2 w.heap.size _ L x hlen (Nat.le_trans (HBX.out.size) (Nat.le_trans e.size e2.size)) (Kd.R_below (Kd.R_below HR.out e) e2)) hb).mono ?_
          rintro e1 W' ⟨rfl, hb2⟩
          exact ⟨by rw [hb]; cases b <;> rfl, e.trans (hb2.mono e.size)⟩)
      by_cases hq : l2.findIdx (fun x => impl_fits.f k a0_0 a0_1 a0_2 (add L x) == some true) < l2.length
      case neg =>
        rw [if_neg hq] at h2
        obtain rfl := Option.some.inj h2
        rw [idxF_miss _ _ (fun j hj => by
          have h_ := List.not_of_lt_findIdx (p := fun x => impl_fits.f k a0_0 a0_1 a0_2 (add L x) == some true) (xs := l2) (i := j) (by omega)
          simpa using h_)] at hif
        have HIF := Aside0.mk hif
        clear hif h2 hq hall eg1 hrd hm0 hm1 hm2 hm3
        go_wp2_with (go_at_call 103; refine HIF.out.mono ?_; rintro e w5 ⟨rfl, hb5⟩; have BK5 := Aside0.mk (blk_below BKO.out hb5); have HL5 := Aside0.mk (Kd.R_below HR.out hb5); have HB5 := Aside0.mk (HBX.out.trans (hb5.mono HBX.out.size)); have hcz5 : w5.cell? ⟨go, 0, none⟩ = some (.slice AL L.length cL) := (blk_cell BK5.out 0).trans rfl; have hfz5 := blk_frozen BK5.out 0; clear hb5)
        go_ret2
        exact ⟨_, rfl, HL5.out, HB5.out⟩
      rw [if_pos hq] at h2
      have hidx : idxF (fun x => impl_fits.f k a0_0 a0_1 a0_2 (add L x) == some true) l2 = ((l2.findIdx (fun x => impl_fits.f k a0_0 a0_1 a0_2 (add L x) == some true) : Nat) : Int) := idxF_hit _ _ _ hq (List.findIdx_getElem (w := hq)) (fun j hj hlt => by
        have h_ := List.not_of_lt_findIdx (p := fun x => impl_fits.f k a0_0 a0_1 a0_2 (add L x) == some true) (xs := l2) hlt
        simpa using h_)
      rw [hidx] at hif
      generalize l2.findIdx (fun x => impl_fits.f k a0_0 a0_1 a0_2 (add L x) == some true) = q at hif h2 hq hidx
      rw [show l2.getD q 0 = rd l2 (q : Int) from by simp [rd]] at h2
      have HIF := Aside0.mk hif
      have HN := Aside0.mk h2
      have HLEN := Aside0.mk hlen
      have HM3' := Aside0.mk hm3
      have p18 : (0 ≤ (q : Int)) = True := eq_true (by omega)
      have q18 : ((q : Int) < (l2.length : Int)) = True := eq_true (by omega)
      have hneg : decide ((q : Int) < 0) = false := decide_eq_false (by omega)
      obtain ⟨ad2, e2, hx2⟩ := Kd.at_int (Kd.C_below HR2.out HBX.out) (q : Int) (of_eq_true p18) (of_eq_true q18)
      cases e2
      simp only [Int.toNat_natCast] at hx2
      have HX2 := Aside0.mk hx2
      clear hif h2 hidx hq hlen hall eg1 hrd hm0 hm1 hm2 hm3 hcz hfz hx2 hsz
      go_wp2_with (go_at_call 103; refine HIF.out.mono ?_; rintro e w5 ⟨rfl, hb5⟩; have BK5 := Aside0.mk (blk_below BKO.out hb5); have HL5 := Aside0.mk (Kd.R_below HR.out hb5); have HB5 := Aside0.mk (HBX.out.trans (hb5.mono HBX.out.size)); have HX5 := Aside0.mk (HXX.out.trans (hb5.mono HXX.out.size)); have hcz5 : w5.cell? ⟨go, 0, none⟩ = some (.slice AL L.length cL) := (blk_cell BK5.out 0).trans rfl; have hca5 := (hb5.cell (World.block_lt_of_cell? _ _ HM3'.out)).trans HM3'.out; have hx5 := (hb5.cell (World.block_lt_of_cell? _ _ HX2.out)).trans HX2.out; clear hb5)
      have HL6 := Aside0.mk (Kd.R_drew HL5.out)
      have HB6 := Aside0.mk (below_drew1 HB5.out)
      have HX6 := Aside0.mk (below_drew1 HX5.out)
      have BKO6 := Aside0.mk (blk_drew BK5.out)
      refine start_ (n := 8) (S := fun w' => w'.cell? ⟨w.heap.size + 1, 0, none⟩ = some (.func (.func g) #[] lb) ∧ w'.cell? ⟨go, 0, none⟩ = some (.slice AL L.length cL) ∧ w'.cell? (ad2.add q) = some (.int .i64 (rd l2 (q : Int)))) (ds := [7]) #[false, false, false, false, false, false, false, false] (by kernel_rfl) rfl rfl ⟨hca5, hcz5, hx5⟩ (fun hHeld => ?_)
      generalize World.drew w5 = w6 at HL6 HB6 HX6 BKO6 hHeld ⊢
      obtain ⟨d0, d1, d2⟩ := hHeld
      have hfz6 := blk_frozen BKO6.out 0
      have hHeld := And.intro d0 (And.intro d1 d2)
      clear d0 d1 d2
      refine take_ (i := 0) (N := some 29) (v := ?_) (a' := ?_) #[true, false, false, false, false, false, false, false] rfl rfl (by kernel_rfl) (fun _ _ _ h => h) (Or.inl ⟨by rfl, ?_⟩) hHeld ?_ ?_
      rotate_left
      · rintro w' ⟨s0, s1, s2⟩
        go_simp
        with_reducible rfl
      rotate_left
      · simp only [Act.put, List.setIfInBounds_toArray, List.set_cons_zero, List.set_cons_succ, i64_w, i32_w]
        rfl
      refine take_ (i := 1) (N := some 30) (v := ?_) (a' := ?_) #[true, true, false, false, false, false, false, false] rfl rfl (by kernel_rfl) (fun _ _ _ h => h) (Or.inl ⟨by rfl, ?_⟩) hHeld ?_ ?_
      rotate_left
      · rintro w' ⟨s0, s1, s2⟩
        go_simp
        with_reducible rfl
      rotate_left
      · simp only [Act.put, List.setIfInBounds_toArray, List.set_cons_zero, List.set_cons_succ, i64_w, i32_w]
        rfl
      refine pure_ (i := 2) (N := some 31) (v := ?_) (a' := ?_) #[true, true, true, false, false, false, false, false] rfl rfl (by kernel_rfl) (fun _ _ _ h => h) (Or.inl ⟨by rfl, ?_⟩) ?_ ?_
      rotate_left
      · intro w'
        go_simp
        with_reducible rfl
      rotate_left
      · simp only [Act.put, List.setIfInBounds_toArray, List.set_cons_zero, List.set_cons_succ, i64_w, i32_w]
        rfl
      refine pure_ (i := 3) (N := some 32) (v := ?_) (a' := ?_) #[true, true, true, true, false, false, false, false] rfl rfl (by kernel_rfl) (fun _ _ _ h => h) (Or.inl ⟨by rfl, ?_⟩) ?_ ?_
      rotate_left
      · intro w'
        go_simp
        with_reducible rfl
      rotate_left
      · simp only [Act.put, List.setIfInBounds_toArray, List.set_cons_zero, List.set_cons_succ, i64_w, i32_w]
        rfl
      refine pure_ (i := 4) (N := some 33) (v := ?_) (a' := ?_) #[true, true, true, true, true, false, false, false] rfl rfl (by kernel_rfl) (fun _ _ _ h => h) (Or.inl ⟨by rfl, ?_⟩) ?_ ?_
      rotate_left
      · intro w'
        go_simp
        with_reducible rfl
      rotate_left
      · simp only [Act.put, List.setIfInBounds_toArray, List.set_cons_zero, List.set_cons_succ, i64_w, i32_w]
        rfl
      refine take_ (i := 5) (N := some 34) (v := ?_) (a' := ?_) #[true, true, true, true, true, true, false, false] rfl rfl (by kernel_rfl) (fun _ _ _ h => h) (Or.inl ⟨by rfl, ?_⟩) hHeld ?_ ?_
      rotate_left
      · rintro w' ⟨s0, s1, s2⟩
        go_simp
        with_reducible rfl
      rotate_left
      · simp only [Act.put, List.setIfInBounds_toArray, List.set_cons_zero, List.set_cons_succ, i64_w, i32_w]
        rfl
      refine one_ (i := 6) (N := some 35) #[true, true, true, true, true, true, true, false] rfl rfl (by kernel_rfl) (by decide) (fun K hK => ?_)
      refine goesV_ g lb #[.slice AL L.length cL, .int .i64 (rd l2 (q : Int))] (by rfl) rfl rfl rfl (by first | rfl | (simp only [List.map_toArray, List.map_cons, List.map_nil]; rfl)) eg ?_
      refine (HA.out w6 w.heap.size _ L (rd l2 (q : Int)) HLEN.out HB6.out.size HL6.out).mono ?_
      rintro e w7 ⟨v7, rfl, hr7, hb7⟩
      obtain ⟨A7, c7, e7⟩ := Kd.R_slice hr7
      subst e7
      have HR7 := Aside0.mk (Kd.R_lower hr7 HB6.out.size)
      have BKO7 := Aside0.mk (blk_below BKO6.out hb7)
      have HB7 := Aside0.mk (HB6.out.trans (hb7.mono HB6.out.size))
      have HX7 := Aside0.mk (HX6.out.trans (hb7.mono HX6.out.size))
      have hcz7 : w7.cell? ⟨go, 0, none⟩ = some (.slice AL L.length cL) := (blk_cell BKO7.out 0).trans rfl
      have hfz7 := blk_frozen BKO7.out 0
      refine ⟨_, rfl, ?_⟩
      obtain ⟨d0, d1, d2⟩ := hHeld
      refine hK.out _ _ ⟨(hb7.cell (World.block_lt_of_cell? _ _ d0)).trans d0, (hb7.cell (World.block_lt_of_cell? _ _ d1)).trans d1, (hb7.cell (World.block_lt_of_cell? _ _ d2)).trans d2⟩ (fun hHeld => ?_)
      clear d0 d1 d2 hr7 hb7
      clear hK K
      refine norm_ (a' := ?_) ?_ ?_
      rotate_left
      · show Act.put _ (some 35) _ = _
        simp only [Act.put, List.setIfInBounds_toArray, List.set_cons_zero, List.set_cons_succ, i64_w, i32_w]
        rfl
      refine last_ (i := 7) (N := none) #[true, true, true, true, true, true, true, true] rfl rfl (by kernel_rfl) (by decide) (fun K hK => ?_)
      refine skip_ (w1 := ?_) (by rfl) rfl ?_ ?_
      rotate_left
      · go_simp
        rfl
      refine hK.out _ _ ?_
      clear hK K
      refine done_ (by kernel_rfl) ?_
      try go_wp2
      go_roundg gg
      case measure => omega
      case rel =>
        refine ⟨add L (rd l2 (q : Int)), A7, c7, HN, ⟨blk_put BKO7.out 0 _ rfl⟩, ⟨Kd.R_set HR7.out BKO7.out (by intro x hx; simp [Kd.int, Kd.scalar] at hx; omega) 0 _⟩, ⟨below_set HB7.out (by have h_ := HGO.out; omega)⟩, ⟨below_set HX7.out (by rw [HS.out]; exact HGO.out)⟩⟩

/-! ### impl_CenterLine_1: function 87 -/
def impl_CenterLine_1.f (l0 : List Int) (a1 : Int) : Option (List Int) := (slices_Concat_int_int.f (([(([a1] : List Int)), l0, (([a1] : List Int))] : List (List Int)))).bind fun t146 => (some t146)
set_option maxHeartbeats 8000000 in
set_option maxRecDepth 100000 in
theorem impl_CenterLine_1.calls (P0_ : Nat → Prop) (A0 : Option Addr) (c0 : Nat) (l0 : List Int) (a1 : Int) (r : List Int) (w : World) (hs0 : Kd.V (Kd.int .i64) 3 w w.heap.size (fun k_ => P0_ k_) (.slice A0 l0.length c0) l0) (h : impl_CenterLine_1.f l0 a1 = some r) :
    Calls Try.prog 87 #[.slice A0 l0.length c0, .int .i64 a1] w fun e w' => ∃ v0_ : Value, e = .returned (v0_) ∧ Kd.R (Kd.int .i64) 3 w' w.heap.size (fun k_ => (w.heap.size ≤ k_)) v0_ r ∧ Below w.heap.size w w' := by
  have HO0 := Aside0.mk (show Kd.V (Kd.int .i64) 3 w w.heap.size (fun k_ => (P0_ k_ ∨ w.heap.size ≤ k_)) (.slice A0 l0.length c0) l0 from Kd.V_mono hs0 (fun k_ hk => .inl hk))
  have HB := Aside0.mk (Below.refl w.heap.size w)
  have H : ((slices_Concat_int_int.f (([(([a1] : List Int)), l0, (([a1] : List Int))] : List (List Int)))).bind fun t146 => (some t146)) = some r := h
  clear h
  obtain ⟨y137, hy137⟩ : ∃ y_ : List Int, y_ = (([a1] : List Int)) := ⟨_, rfl⟩
  replace H : ((slices_Concat_int_int.f (([y137, l0, (([a1] : List Int))] : List (List Int)))).bind fun t146 => (some t146)) = some r := by first | (rw [hy137]; with_reducible exact H) | (have H2_ := (Option.bind_some _ _).symm.trans H; rw [hy137]; with_reducible exact H2_) | (have H2_ := (Option.bind_some _ _).symm.trans H; with_reducible exact H2_) | with_reducible exact H | (rw [hy137]; exact H) | exact H
  have Ny137 := Aside0.mk hy137
  clear hy137
  obtain ⟨y140, hy140⟩ : ∃ y_ : List Int, y_ = (([a1] : List Int)) := ⟨_, rfl⟩
  replace H : ((slices_Concat_int_int.f (([y137, l0, y140] : List (List Int)))).bind fun t146 => (some t146)) = some r := by first | (rw [hy140]; with_reducible exact H) | (have H2_ := (Option.bind_some _ _).symm.trans H; rw [hy140]; with_reducible exact H2_) | (have H2_ := (Option.bind_some _ _).symm.trans H; with_reducible exact H2_) | with_reducible exact H | (rw [hy140]; exact H) | exact H
  have Ny140 := Aside0.mk hy140
  clear hy140
  obtain ⟨y143, hy143⟩ : ∃ y_ : List (List Int), y_ = (([y137, l0, y140] : List (List Int))) := ⟨_, rfl⟩
  replace H : ((slices_Concat_int_int.f y143).bind fun t146 => (some t146)) = some r := by first | (rw [hy143]; with_reducible exact H) | (have H2_ := (Option.bind_some _ _).symm.trans H; rw [hy143]; with_reducible exact H2_) | (have H2_ := (Option.bind_some _ _).symm.trans H; with_reducible exact H2_) | with_reducible exact H | (rw [hy143]; exact H) | exact H
  have Ny143 := Aside0.mk hy143
  clear hy143
  replace H := Option.bind_eq_some_iff.mp H
  obtain ⟨t146, A30, H⟩ := H
  replace H : (some t146) = some r := H
  have A3 := Aside0.mk A30
  clear A30
  obtain rfl := Option.some.inj H
  go_enter Try.func87, Try.ntmps87
  go_wp2_with (first | ((with_reducible refine gate_dst (N := 6) rfl ?_); refine Kd.R_lit (Kd.int .i64) _ 3 ?hg (N := 6) ?hd (xs := ([a1] : List Int)) (inner := [.int .i64 a1]) (ok := fun _ => True) (okp := fun _ => True) ?hr ?hp (fun _ hk => hk) trivial (Below.refl _ _) (Nat.le_refl _) (by simp) ?_; (case hd => rfl); (case hg => rfl); (case hr => first | (go_simp; done) | (go_simp; rfl)); (case hp => exact (Reps.one (show Kd.M (Kd.int .i64) _ _ _ a1 [.int .i64 a1] from rfl) (Reps.none _ _))); intro v138 w4 ho5 hb hg_ hnew_; clear hg_ hnew_; (first | rw [← Ny137.out] at ho5 | (simp only [Int.reduceToNat] at ho5; rw [← Ny137.out] at ho5)); have n0_ := Aside0.mk (Kd.V_elder' (by (with_reducible repeat (first | apply Kd.V_alloc | apply Kd.V_drewN | apply Kd.V_drew)); exact HO0.out) (Kd.R_base ho5) hb); have n1_ := Aside0.mk (Kd.R_lower (Kd.R_newM (M := fun k_ => (w.heap.size ≤ k_)) ho5 (below_size (by repeat (first | (with_reducible first | exact HB.out | apply below_alloc | apply pw_below_drewN | apply below_drew1) | exact HB.out))) (fun k_ h_ => h_)) (below_size (by repeat (first | (with_reducible first | exact HB.out | apply below_alloc | apply pw_below_drewN | apply below_drew1) | exact HB.out)))); have n2_ := Aside0.mk (below_step (by repeat (first | (with_reducible first | exact HB.out | apply below_alloc | apply pw_below_drewN | apply below_drew1) | exact HB.out)) hb); clear HO0; clear HB; have HO0 := n0_; have HO139 := n1_; have HB := n2_; clear n0_ n1_ n2_; clear hb ho5) | ((with_reducible refine gate_dst (N := 9) rfl ?_); refine Kd.R_lit (Kd.int .i64) _ 3 ?hg (N := 9) ?hd (xs := ([a1] : List Int)) (inner := [.int .i64 a1]) (ok := fun _ => True) (okp := fun _ => True) ?hr ?hp (fun _ hk => hk) trivial (Below.refl _ _) (Nat.le_refl _) (by simp) ?_; (case hd => rfl); (case hg => rfl); (case hr => first | (go_simp; done) | (go_simp; rfl)); (case hp => exact (Reps.one (show Kd.M (Kd.int .i64) _ _ _ a1 [.int .i64 a1] from rfl) (Reps.none _ _))); intro v141 w6 ho7 hb hg_ hnew_; clear hg_ hnew_; (first | rw [← Ny140.out] at ho7 | (simp only [Int.reduceToNat] at ho7; rw [← Ny140.out] at ho7)); have n0_ := Aside0.mk (Kd.V_elder' (by (with_reducible repeat (first | apply Kd.V_alloc | apply Kd.V_drewN | apply Kd.V_drew)); exact HO0.out) (Kd.R_base ho7) hb); have n1_ := Aside0.mk (Kd.R_elder' (by (with_reducible repeat (first | apply Kd.R_alloc | apply Kd.R_drewN | apply Kd.R_drew)); exact HO139.out) (Kd.R_base ho7) hb); have n2_ := Aside0.mk (Kd.R_lower (Kd.R_new' (Kd.R_newM (M := fun k_ => (w.heap.size ≤ k_)) ho7 (below_size (by repeat (first | (with_reducible first | exact HB.out | apply below_alloc | apply pw_below_drewN | apply below_drew1) | exact HB.out))) (fun k_ h_ => h_)) (Kd.R_lt (by (with_reducible repeat (first | apply Kd.R_alloc | apply Kd.R_drewN | apply Kd.R_drew)); exact HO139.out))) (below_size (by repeat (first | (with_reducible first | exact HB.out | apply below_alloc | apply pw_below_drewN | apply below_drew1) | exact HB.out)))); have n3_ := Aside0.mk (below_step (by repeat (first | (with_reducible first | exact HB.out | apply below_alloc | apply pw_below_drewN | apply below_drew1) | exact HB.out)) hb); clear HO0; clear HO139; clear HB; have HO0 := n0_; have HO139 := n1_; have HO142 := n2_; have HB := n3_; clear n0_ n1_ n2_ n3_; clear hb ho7; obtain ⟨Ao8, co8, eo8⟩ := Kd.R_slice HO139.out; subst eo8; obtain ⟨Ao9, co9, eo9⟩ := Kd.R_slice HO142.out; subst eo9) | ((with_reducible refine gate_dst (N := 10) rfl ?_); refine Kd.N_lit (Kd.slice 3 (Kd.int .i64)) _ 28 ?hg (N' := 10) ?hd (xs := ([y137, l0, y140] : List (List Int))) (inner := [.slice Ao8 y137.length co8, .slice A0 l0.length c0, .slice Ao9 y140.length co9]) (ok := (fun k_ => (P0_ k_ ∨ w.heap.size ≤ k_))) (okp := (fun k_ => (P0_ k_ ∨ w.heap.size ≤ k_))) ?hr ?hp (fun _ hk => hk) ((show ∀ k_, w6.heap.size ≤ k_ → (fun k_ => (P0_ k_ ∨ w.heap.size ≤ k_)) k_ from fun k_ hk => (.inr (Nat.le_trans (below_size (by repeat (first | (with_reducible first | exact HB.out | apply below_alloc | apply pw_below_drewN | apply below_drew1) | exact HB.out))) hk))) _ (Nat.le_refl _)) (Below.refl _ _) (Nat.le_refl _) (by simp) ?_; (case hd => rfl); (case hg => rfl); (case hr => first | (go_simp; done) | (go_simp; rfl)); (case hp => exact (Reps.one (show Kd.FK (Kd.slice 3 (Kd.int .i64)) _ _ y137 [.slice Ao8 y137.length co8] from (Kd.FK_slice_mk (Kd.R_reads' (Kd.R_mono (ok' := (fun k_ => (P0_ k_ ∨ w.heap.size ≤ k_))) (HO139.out) (fun k_ hk => (.inr (hk.1.1))))).2.1 (Kd.R_F (Kd.R_mono (ok' := (fun k_ => (P0_ k_ ∨ w.heap.size ≤ k_))) (HO139.out) (fun k_ hk => (.inr (hk.1.1))))))) (Reps.one (show Kd.FK (Kd.slice 3 (Kd.int .i64)) _ _ l0 [.slice A0 l0.length c0] from (Kd.FK_slice_mk (Kd.V_reads' (Kd.V_mono (ok' := (fun k_ => (P0_ k_ ∨ w.heap.size ≤ k_))) (HO0.out) (fun k_ hk => hk.1.1))).2.1 (Kd.V_F (Kd.V_mono (ok' := (fun k_ => (P0_ k_ ∨ w.heap.size ≤ k_))) (HO0.out) (fun k_ hk => hk.1.1))))) (Reps.one (show Kd.FK (Kd.slice 3 (Kd.int .i64)) _ _ y140 [.slice Ao9 y140.length co9] from (Kd.FK_slice_mk (Kd.R_reads' (Kd.R_mono (ok' := (fun k_ => (P0_ k_ ∨ w.heap.size ≤ k_))) (HO142.out) (fun k_ hk => (.inr (hk.1.1))))).2.1 (Kd.R_F (Kd.R_mono (ok' := (fun k_ => (P0_ k_ ∨ w.heap.size ≤ k_))) (HO142.out) (fun k_ hk => (.inr (hk.1.1))))))) (Reps.none _ _))))); intro v144 w10 ho11 hb hg_ hnew_; clear hg_ hnew_; (first | rw [← Ny143.out] at ho11 | (simp only [Int.reduceToNat] at ho11; rw [← Ny143.out] at ho11)); have n0_ := Aside0.mk (Kd.V_elder' (by (with_reducible repeat (first | apply Kd.V_alloc | apply Kd.V_drewN | apply Kd.V_drew)); exact HO0.out) (Kd.N_base ho11) hb); have n1_ := Aside0.mk (Kd.N_lower ho11 (below_size (by repeat (first | (with_reducible first | exact HB.out | apply below_alloc | apply pw_below_drewN | apply below_drew1) | exact HB.out)))); have n2_ := Aside0.mk (below_step (by repeat (first | (with_reducible first | exact HB.out | apply below_alloc | apply pw_below_drewN | apply below_drew1) | exact HB.out)) hb); clear HO0; clear HB; clear HO139; clear HO142; have HO0 := n0_; have HO145 := n1_; have HB := n2_; clear n0_ n1_ n2_; clear hb ho11; obtain ⟨Ao12, co12, eo12⟩ := Kd.N_slice HO145.out; subst eo12) | ((with_reducible refine gate_callee (f := 78) rfl ?_); refine goesL_ (some 11) rfl rfl Try.func78 (by kernel_rfl) rfl #[.slice Ao12 y143.length co12] rfl (by (try simp only [List.map_toArray, List.map_cons, List.map_nil]); first | done | rfl | (simp only [List.length_drop, List.length_take]; rfl)) ?_; (with_reducible refine (slices_Concat_int_int.calls _ _ y143 t146 _ ?side1 ?side2 A3.out).mono ?_); (case side1 => repeat (first | exact (Kd.N_reads' HO145.out).2.2 | (with_reducible refine Kd.C_alloc ?_ _) | (with_reducible refine Kd.C_drewN ?_ _) | (with_reducible refine Kd.C_drew ?_))); (case side2 => exact (Kd.N_reads' HO145.out).2.1); rintro e w13 ⟨v147, rfl, ho0, hb⟩; refine ⟨_, rfl, ?_⟩; have n0_ := Aside0.mk (Kd.V_elder' (by (with_reducible repeat (first | apply Kd.V_alloc | apply Kd.V_drewN | apply Kd.V_drew)); exact HO0.out) (Kd.R_base ho0) hb); have n1_ := Aside0.mk (Kd.N_elder' (by (with_reducible repeat (first | apply Kd.N_alloc | apply Kd.N_drewN | apply Kd.N_drew)); exact HO145.out) (Kd.R_base ho0) hb); have n2_ := Aside0.mk (Kd.R_lower (Kd.R_newM (M := fun k_ => (w.heap.size ≤ k_)) ho0 (below_size (by repeat (first | (with_reducible first | exact HB.out | apply below_alloc | apply pw_below_drewN | apply below_drew1) | exact HB.out))) (fun k_ h_ => h_)) (below_size (by repeat (first | (with_reducible first | exact HB.out | apply below_alloc | apply pw_below_drewN | apply below_drew1) | exact HB.out)))); have n3_ := Aside0.mk (below_step (by repeat (first | (with_reducible first | exact HB.out | apply below_alloc | apply pw_below_drewN | apply below_drew1) | exact HB.out)) hb); clear HO0; clear HO145; clear HB; have HO0 := n0_; have HO145 := n1_; have HO148 := n2_; have HB := n3_; clear n0_ n1_ n2_ n3_; (try clear hb); (try clear hb2); (try clear hk); (try clear hi); (try clear ho0)))
  go_ret
  exact ⟨_, by first | rfl | (simp only [i64_w, i32_w]; rfl) | (simp only [i64_w, i32_w, wrap64_zero, Int.sub_zero, Int.add_zero, Int.mul_zero, Int.zero_mul]; rfl) | (simp [errW_none, errW_some] <;> rfl) | (simp [*, errW_none, errW_some] <;> rfl), by (with_reducible repeat (first | apply Kd.R_alloc | apply Kd.R_drewN | apply Kd.R_drew)); exact Kd.R_mono HO148.out (fun _ hk => hk.1), by repeat (first | (with_reducible first | exact HB.out | apply below_alloc | apply pw_below_drewN | apply below_drew1) | exact HB.out)⟩

/-! ### impl_CenterLine: function 57 -/
def impl_CenterLine.f (k : Nat) (a b c : Int) (l0 l1 : List Int) : Option (List Int × Bool) := filF (fun L x => [x] ++ L ++ [x]) k a b c l0 l1
theorem impl_CenterLine.mono : ∀ a0 a1 a2 a3 a4 k, LeO (impl_CenterLine.f k a0 a1 a2 a3 a4) (impl_CenterLine.f (k + 1) a0 a1 a2 a3 a4) := fun _ _ _ _ _ _ => filF_mono _ _ _ _ _ _ _
set_option maxHeartbeats 2000000 in
theorem impl_CenterLine.calls (k : Nat) (a0_0 a0_1 a0_2 : Int) (A1 : Option Addr) (c1 : Nat) (l1 : List Int) (A2 : Option Addr) (c2 : Nat) (l2 : List Int) (r1 : List Int) (r2 : Bool) (w : World)
    (hr1 : Kd.C (Kd.int .i64) w A1 l1.length l1) (hc1 : l1.length ≤ c1) (hr2 : Kd.C (Kd.int .i64) w A2 l2.length l2) (hc2 : l2.length ≤ c2) (h : impl_CenterLine.f k a0_0 a0_1 a0_2 l1 l2 = some (r1, r2)) :
    Calls Try.prog 57 #[.agg #[.int .i64 a0_0, .int .i64 a0_1, .int .i64 a0_2], .slice A1 l1.length c1, .slice A2 l2.length c2] w fun e w' => ∃ v0_ : Value, e = .returned (.tuple #[v0_, .bool r2]) ∧ Kd.R (Kd.int .i64) 3 w' w.heap.size (fun _ => True) v0_ r1 ∧ Below w.heap.size w w' := by
  have hu25 := Try.underlying25
  have eg : ∀ args w, (callFunc 87 args).run Try.prog w = .ok (.enter 87 args) w := enters_of Try.func87 (by kernel_rfl) rfl
  have hb := below_alloc (Below.refl w.heap.size w) (.cells #[.int .i64 a0_0, .int .i64 a0_1, .int .i64 a0_2] 25)
  have hc := impl_filled.calls (fun L x => [x] ++ L ++ [x]) 87 #[] k a0_0 a0_1 a0_2 A1 c1 l1 A2 c2 l2 r1 r2 (w.alloc (.cells #[.int .i64 a0_0, .int .i64 a0_1, .int .i64 a0_2] 25)) eg (Kd.C_alloc hr1 _) hc1 (Kd.C_alloc hr2 _) hc2
    (fun W base v L x hl hbase hR => by
      obtain ⟨A, c, e⟩ := Kd.R_slice hR
      subst e
      have hf : impl_CenterLine_1.f L x = some ([x] ++ L ++ [x]) := by
        unfold impl_CenterLine_1.f slices_Concat_int_int.f
        rw [if_pos (by simp only [List.flatten_cons, List.flatten_nil, List.length_append, List.length_cons, List.length_nil]; omega)]
        simp
      refine (impl_CenterLine_1.calls (fun _ => True) A c L x ([x] ++ L ++ [x]) W (Kd.R_V hR) hf).mono ?_
      rintro e W' ⟨v', rfl, h1, h2⟩
      exact ⟨v', rfl, Kd.R_mono h1 (fun _ _ => trivial), h2⟩) h
  have HC := Aside0.mk hc
  have HB := Aside0.mk hb
  clear hc hb hr1 hr2 eg h
  go_enter Try.func57, Try.ntmps57
  go_wp2_with (go_at_call 86; refine HC.out.mono ?_; rintro e w' ⟨v0, rfl, hr, hb1⟩; have HR := Aside0.mk (Kd.R_lower hr HB.out.size); have HB2 := Aside0.mk (HB.out.trans (hb1.mono HB.out.size)); clear hr hb1)
  go_ret2
  exact ⟨_, rfl, HR.out, HB2.out⟩

/-! ### spec_l1In: function 65 -/
def spec_l1In.f (a0 : Int) (a1 : Int) (a2 : Int) : Option (Bool) := if a0 ≥ a1 then (some (decide (a0 ≤ a2))) else (some false)
set_option maxHeartbeats 8000000 in
set_option maxRecDepth 100000 in
theorem spec_l1In.calls (a0 : Int) (a1 : Int) (a2 : Int) (r : Bool) (w : World) (h : spec_l1In.f a0 a1 a2 = some r) :
    Calls Try.prog 65 #[.int .i64 a0, .int .i64 a1, .int .i64 a2] w fun e w' => e = .returned (.bool r) ∧ Drawn0 w w' := by
  have H : (if a0 ≥ a1 then (some (decide (a0 ≤ a2))) else (some false)) = some r := h
  clear h
  by_cases c4 : a0 ≥ a1
  · rw [if_pos c4] at H
    have c4b0 : decide (a1 ≤ a0) = true := decide_eq_true c4
    clear c4
    obtain rfl := Option.some.inj H
    go_enter Try.func65, Try.ntmps65
    go_wp2
    go_ret
    exact ⟨by first | rfl | (simp only [i64_w, i32_w, wrap64_zero, Int.sub_zero, Int.add_zero, Int.mul_zero, Int.zero_mul]; rfl) | (simp; done) | (simp [*]; done), by repeat (first | exact Drawn0.refl _ | apply Drawn0.step)⟩
  · rw [if_neg c4] at H
    have c4b0 : decide (a1 ≤ a0) = false := decide_eq_false c4
    clear c4
    obtain rfl := Option.some.inj H
    go_enter Try.func65, Try.ntmps65
    go_wp2
    go_ret
    exact ⟨by first | rfl | (simp only [i64_w, i32_w, wrap64_zero, Int.sub_zero, Int.add_zero, Int.mul_zero, Int.zero_mul]; rfl) | (simp; done) | (simp [*]; done), by repeat (first | exact Drawn0.refl _ | apply Drawn0.step)⟩

/-! ### spec_MeasureOk: function 23 -/
def spec_MeasureOk.f (a0_0 : Int) (a0_1 : Int) (a0_2 : Int) : Option (Bool) := (spec_l1In.f a0_0 1 2000).bind fun t150 => (if t150 = true then ((spec_l1In.f a0_1 1 100).bind fun t151 => (if t151 = true then ((spec_l1In.f a0_2 a0_1 100).bind fun t152 => (some t152)) else (some false))) else (some false))
set_option maxHeartbeats 8000000 in
set_option maxRecDepth 100000 in
theorem spec_MeasureOk.calls (a0_0 : Int) (a0_1 : Int) (a0_2 : Int) (r : Bool) (w : World) (h : spec_MeasureOk.f a0_0 a0_1 a0_2 = some r) :
    Calls Try.prog 23 #[.agg #[.int .i64 a0_0, .int .i64 a0_1, .int .i64 a0_2]] w fun e w' => e = .returned (.bool r) ∧ Below w.heap.size w w' := by
  have hu25 := Try.underlying25
  have HB := Aside0.mk (Below.refl w.heap.size w)
  have H : ((spec_l1In.f a0_0 1 2000).bind fun t150 => (if t150 = true then ((spec_l1In.f a0_1 1 100).bind fun t151 => (if t151 = true then ((spec_l1In.f a0_2 a0_1 100).bind fun t152 => (some t152)) else (some false))) else (some false))) = some r := h
  clear h
  replace H := Option.bind_eq_some_iff.mp H
  obtain ⟨t150, A20, H⟩ := H
  replace H : (if t150 = true then ((spec_l1In.f a0_1 1 100).bind fun t151 => (if t151 = true then ((spec_l1In.f a0_2 a0_1 100).bind fun t152 => (some t152)) else (some false))) else (some false)) = some r := H
  have A2 := Aside0.mk A20
  clear A20
  by_cases c3 : t150 = true
  · subst c3
    have H1 : ((spec_l1In.f a0_1 1 100).bind fun t151 => (if t151 = true then ((spec_l1In.f a0_2 a0_1 100).bind fun t152 => (some t152)) else (some false))) = some r := by rw [if_pos rfl] at H; exact H
    clear H
    have H := H1
    clear H1
    replace H := Option.bind_eq_some_iff.mp H
    obtain ⟨t151, A40, H⟩ := H
    replace H : (if t151 = true then ((spec_l1In.f a0_2 a0_1 100).bind fun t152 => (some t152)) else (some false)) = some r := H
    have A4 := Aside0.mk A40
    clear A40
    by_cases c5 : t151 = true
    · subst c5
      have H1 : ((spec_l1In.f a0_2 a0_1 100).bind fun t152 => (some t152)) = some r := by rw [if_pos rfl] at H; exact H
      clear H
      have H := H1
      clear H1
      replace H := Option.bind_eq_some_iff.mp H
      obtain ⟨t152, A60, H⟩ := H
      replace H : (some t152) = some r := H
      have A6 := Aside0.mk A60
      clear A60
      obtain rfl := Option.some.inj H
      go_enter Try.func23, Try.ntmps23
      go_wp2_with (first | ((with_reducible refine gate_dst (N := 1) rfl ?_); refine box_event ?hg (N := 1) ?hd (cs := #[.int .i64 a0_0, .int .i64 a0_1, .int .i64 a0_2]) (t := 25) ?hr ?_; (case hd => rfl); (case hg => rfl); (case hr => first | (go_simp; done) | (go_simp; rfl)); intro gb149 hg w7 hbox hb; have n0_ := Aside0.mk (below_step (by repeat (first | (with_reducible first | exact HB.out | apply below_alloc | apply pw_below_drewN | apply below_drew1) | exact HB.out)) hb); have n1_ := Aside0.mk (hbox); have n2_ := Aside0.mk ((by rw [hg]; exact (below_size (by repeat (first | (with_reducible first | exact HB.out | apply below_alloc | apply pw_below_drewN | apply below_drew1) | exact HB.out))) : w.heap.size ≤ gb149)); have n3_ := Aside0.mk ((by rw [hg]; exact (below_size (by repeat (first | (with_reducible first | exact HB.out | apply below_alloc | apply pw_below_drewN | apply below_drew1) | exact HB.out))) : w.heap.size ≤ gb149)); clear HB; have HB := n0_; have BK149 := n1_; have GW149 := n2_; have GE149 := n3_; clear n0_ n1_ n2_ n3_; clear hb hbox hg; have hcz8_0 : w7.cell? ⟨gb149, 0, none⟩ = some (.int .i64 a0_0) := (blk_cell BK149.out 0).trans rfl; have hcz8_1 : w7.cell? ⟨gb149, 1, none⟩ = some (.int .i64 a0_1) := (blk_cell BK149.out 1).trans rfl; have hcz8_2 : w7.cell? ⟨gb149, 2, none⟩ = some (.int .i64 a0_2) := (blk_cell BK149.out 2).trans rfl; have hfz8_0 := blk_frozen BK149.out 0; have hfz8_1 := blk_frozen BK149.out 1; have hfz8_2 := blk_frozen BK149.out 2) | ((with_reducible refine gate_callee (f := 65) rfl ?_); refine goesL_ (some 5) rfl rfl Try.func65 (by kernel_rfl) rfl #[.int .i64 a0_0, .int .i64 1, .int .i64 2000] rfl (by (try simp only [List.map_toArray, List.map_cons, List.map_nil]); first | done | rfl | (simp only [List.length_drop, List.length_take]; rfl)) ?_; (with_reducible refine (spec_l1In.calls a0_0 1 2000 true _ A2.out).mono ?_); rintro e w' ⟨rfl, ⟨nd, rfl⟩⟩; refine ⟨_, rfl, ?_⟩) | (go_at_call 65; (with_reducible refine (spec_l1In.calls a0_1 1 100 true _ A4.out).mono ?_); rintro e w' ⟨rfl, ⟨nd, rfl⟩⟩) | (go_at_call 65; (with_reducible refine (spec_l1In.calls a0_2 a0_1 100 t152 _ A6.out).mono ?_); rintro e w' ⟨rfl, ⟨nd, rfl⟩⟩))
      go_ret
      exact ⟨by first | rfl | (simp only [i64_w, i32_w]; rfl) | (simp only [i64_w, i32_w, wrap64_zero, Int.sub_zero, Int.add_zero, Int.mul_zero, Int.zero_mul]; rfl) | (simp [errW_none, errW_some] <;> rfl) | (simp [*, errW_none, errW_some] <;> rfl), by repeat (first | (with_reducible first | exact HB.out | apply below_alloc | apply pw_below_drewN | apply below_drew1 | refine below_set ?_ GE149.out) | exact HB.out)⟩
    · replace c5 := Bool.eq_false_iff.mpr c5
      subst c5
      have H1 : (some false) = some r := by rw [if_neg (show ¬ (false = true) by decide)] at H; exact H
      clear H
      have H := H1
      clear H1
      obtain rfl := Option.some.inj H
      go_enter Try.func23, Try.ntmps23
      go_wp2_with (first | ((with_reducible refine gate_dst (N := 1) rfl ?_); refine box_event ?hg (N := 1) ?hd (cs := #[.int .i64 a0_0, .int .i64 a0_1, .int .i64 a0_2]) (t := 25) ?hr ?_; (case hd => rfl); (case hg => rfl); (case hr => first | (go_simp; done) | (go_simp; rfl)); intro gb149 hg w9 hbox hb; have n0_ := Aside0.mk (below_step (by repeat (first | (with_reducible first | exact HB.out | apply below_alloc | apply pw_below_drewN | apply below_drew1) | exact HB.out)) hb); have n1_ := Aside0.mk (hbox); have n2_ := Aside0.mk ((by rw [hg]; exact (below_size (by repeat (first | (with_reducible first | exact HB.out | apply below_alloc | apply pw_below_drewN | apply below_drew1) | exact HB.out))) : w.heap.size ≤ gb149)); have n3_ := Aside0.mk ((by rw [hg]; exact (below_size (by repeat (first | (with_reducible first | exact HB.out | apply below_alloc | apply pw_below_drewN | apply below_drew1) | exact HB.out))) : w.heap.size ≤ gb149)); clear HB; have HB := n0_; have BK149 := n1_; have GW149 := n2_; have GE149 := n3_; clear n0_ n1_ n2_ n3_; clear hb hbox hg; have hcz10_0 : w9.cell? ⟨gb149, 0, none⟩ = some (.int .i64 a0_0) := (blk_cell BK149.out 0).trans rfl; have hcz10_1 : w9.cell? ⟨gb149, 1, none⟩ = some (.int .i64 a0_1) := (blk_cell BK149.out 1).trans rfl; have hcz10_2 : w9.cell? ⟨gb149, 2, none⟩ = some (.int .i64 a0_2) := (blk_cell BK149.out 2).trans rfl; have hfz10_0 := blk_frozen BK149.out 0; have hfz10_1 := blk_frozen BK149.out 1; have hfz10_2 := blk_frozen BK149.out 2) | ((with_reducible refine gate_callee (f := 65) rfl ?_); refine goesL_ (some 5) rfl rfl Try.func65 (by kernel_rfl) rfl #[.int .i64 a0_0, .int .i64 1, .int .i64 2000] rfl (by (try simp only [List.map_toArray, List.map_cons, List.map_nil]); first | done | rfl | (simp only [List.length_drop, List.length_take]; rfl)) ?_; (with_reducible refine (spec_l1In.calls a0_0 1 2000 true _ A2.out).mono ?_); rintro e w' ⟨rfl, ⟨nd, rfl⟩⟩; refine ⟨_, rfl, ?_⟩) | (go_at_call 65; (with_reducible refine (spec_l1In.calls a0_1 1 100 false _ A4.out).mono ?_); rintro e w' ⟨rfl, ⟨nd, rfl⟩⟩))
      go_ret
      exact ⟨by first | rfl | (simp only [i64_w, i32_w]; rfl) | (simp only [i64_w, i32_w, wrap64_zero, Int.sub_zero, Int.add_zero, Int.mul_zero, Int.zero_mul]; rfl) | (simp [errW_none, errW_some] <;> rfl) | (simp [*, errW_none, errW_some] <;> rfl), by repeat (first | (with_reducible first | exact HB.out | apply below_alloc | apply pw_below_drewN | apply below_drew1 | refine below_set ?_ GE149.out) | exact HB.out)⟩
  · replace c3 := Bool.eq_false_iff.mpr c3
    subst c3
    have H1 : (some false) = some r := by rw [if_neg (show ¬ (false = true) by decide)] at H; exact H
    clear H
    have H := H1
    clear H1
    obtain rfl := Option.some.inj H
    go_enter Try.func23, Try.ntmps23
    go_wp2_with (first | ((with_reducible refine gate_dst (N := 1) rfl ?_); refine box_event ?hg (N := 1) ?hd (cs := #[.int .i64 a0_0, .int .i64 a0_1, .int .i64 a0_2]) (t := 25) ?hr ?_; (case hd => rfl); (case hg => rfl); (case hr => first | (go_simp; done) | (go_simp; rfl)); intro gb149 hg w11 hbox hb; have n0_ := Aside0.mk (below_step (by repeat (first | (with_reducible first | exact HB.out | apply below_alloc | apply pw_below_drewN | apply below_drew1) | exact HB.out)) hb); have n1_ := Aside0.mk (hbox); have n2_ := Aside0.mk ((by rw [hg]; exact (below_size (by repeat (first | (with_reducible first | exact HB.out | apply below_alloc | apply pw_below_drewN | apply below_drew1) | exact HB.out))) : w.heap.size ≤ gb149)); have n3_ := Aside0.mk ((by rw [hg]; exact (below_size (by repeat (first | (with_reducible first | exact HB.out | apply below_alloc | apply pw_below_drewN | apply below_drew1) | exact HB.out))) : w.heap.size ≤ gb149)); clear HB; have HB := n0_; have BK149 := n1_; have GW149 := n2_; have GE149 := n3_; clear n0_ n1_ n2_ n3_; clear hb hbox hg; have hcz12_0 : w11.cell? ⟨gb149, 0, none⟩ = some (.int .i64 a0_0) := (blk_cell BK149.out 0).trans rfl; have hcz12_1 : w11.cell? ⟨gb149, 1, none⟩ = some (.int .i64 a0_1) := (blk_cell BK149.out 1).trans rfl; have hcz12_2 : w11.cell? ⟨gb149, 2, none⟩ = some (.int .i64 a0_2) := (blk_cell BK149.out 2).trans rfl; have hfz12_0 := blk_frozen BK149.out 0; have hfz12_1 := blk_frozen BK149.out 1; have hfz12_2 := blk_frozen BK149.out 2) | ((with_reducible refine gate_callee (f := 65) rfl ?_); refine goesL_ (some 5) rfl rfl Try.func65 (by kernel_rfl) rfl #[.int .i64 a0_0, .int .i64 1, .int .i64 2000] rfl (by (try simp only [List.map_toArray, List.map_cons, List.map_nil]); first | done | rfl | (simp only [List.length_drop, List.length_take]; rfl)) ?_; (with_reducible refine (spec_l1In.calls a0_0 1 2000 false _ A2.out).mono ?_); rintro e w' ⟨rfl, ⟨nd, rfl⟩⟩; refine ⟨_, rfl, ?_⟩))
    go_ret
    exact ⟨by first | rfl | (simp only [i64_w, i32_w]; rfl) | (simp only [i64_w, i32_w, wrap64_zero, Int.sub_zero, Int.add_zero, Int.mul_zero, Int.zero_mul]; rfl) | (simp [errW_none, errW_some] <;> rfl) | (simp [*, errW_none, errW_some] <;> rfl), by repeat (first | (with_reducible first | exact HB.out | apply below_alloc | apply pw_below_drewN | apply below_drew1 | refine below_set ?_ GE149.out) | exact HB.out)⟩

/-! ### spec_LineOk: function 26 -/
def spec_LineOk.l0 : Nat → List Int → List Int → Int → Int → Option (Bool)
  | 0, _, _, _, _ => none
  | k + 1, x0, x5, x6, x7 => if x7 < x6 then (if 0 ≤ x7 then (if x7 < (x5.length : Int) then ((spec_l1In.f (rd x5 x7) 0 60).bind fun t154 => (if t154 = true then (spec_LineOk.l0 k x0 x5 x6 (wrap64 (x7 + 1))) else (some false))) else (none)) else (none)) else (some (decide ((x0.length : Int) ≤ 120)))
def spec_LineOk.f (k : Nat) (l0 : List Int) : Option (Bool) := spec_LineOk.l0 k l0 l0 (l0.length : Int) 0
theorem spec_LineOk.mono_l : ∀ k, (∀ y0 y1 y2 y3, LeO (spec_LineOk.l0 k y0 y1 y2 y3) (spec_LineOk.l0 (k + 1) y0 y1 y2 y3))
  | 0 => fun _ _ _ _ r h => by simp [spec_LineOk.l0] at h
  | k + 1 => by
    have ih0 := spec_LineOk.mono_l k
    · intro y0 y1 y2 y3
      unfold spec_LineOk.l0
      repeat' first
      | (with_reducible exact ih0 _ _ _ _)
      | (with_reducible exact LeO.refl _)
      | (with_reducible exact LeO.none _)
      | (with_reducible refine LeO.ite ?_ ?_)
      | (with_reducible refine LeO.bind ?_ (fun _ => ?_))
      | exact ih0 _ _ _ _
      | exact LeO.none _
      | refine LeO.ite ?_ ?_
      | refine LeO.bind ?_ (fun _ => ?_)
theorem spec_LineOk.mono : ∀ a0 k, LeO (spec_LineOk.f k a0) (spec_LineOk.f (k + 1) a0) := by
  intro a0 k
  have ih0 := spec_LineOk.mono_l k
  unfold spec_LineOk.f
  repeat' first
      | (with_reducible exact ih0 _ _ _ _)
      | (with_reducible exact LeO.refl _)
      | (with_reducible exact LeO.none _)
      | (with_reducible refine LeO.ite ?_ ?_)
      | (with_reducible refine LeO.bind ?_ (fun _ => ?_))
      | exact ih0 _ _ _ _
      | exact LeO.none _
      | refine LeO.ite ?_ ?_
      | refine LeO.bind ?_ (fun _ => ?_)
set_option maxHeartbeats 8000000 in
set_option maxRecDepth 100000 in
theorem spec_LineOk.calls (k : Nat) (A0 : Option Addr) (c0 : Nat) (l0 : List Int) (r : Bool) (w : World) (hr0 : Kd.C (Kd.int .i64) w A0 l0.length l0) (hc0 : l0.length ≤ c0) (h : spec_LineOk.f k l0 = some r) :
    Calls Try.prog 26 #[.slice A0 l0.length c0] w fun e w' => e = .returned (.bool r) ∧ Drawn0 w w' := by
  have HR0 := Aside0.mk hr0
  have HC0 := Aside0.mk hc0
  clear hr0 hc0
  have H : (spec_LineOk.l0 k l0 l0 (l0.length : Int) 0) = some r := h
  clear h
  have H' := Aside0.mk H
  clear H
  go_enter Try.func26, Try.ntmps26
  go_wp2
  go_loopg [7] k (fun kq v7 w' => ∃ (x7_1 : Int), v7 = .int .i64 x7_1 ∧ Aside0 (spec_LineOk.l0 kq l0 l0 (l0.length : Int) x7_1 = some r) ∧ Aside0 (kq ≤ k) ∧ Drawn0 w w')
  case atStart => exact ⟨(0), (by first | rfl | (simp; done) | (simp [*]; done)), H', ⟨Nat.le_refl _⟩, by repeat (first | exact Drawn0.refl _ | apply Drawn0.step)⟩
  case round =>
    clear H'
    obtain ⟨x7_1, rfl, HA, HK1, ⟨m1, rfl⟩⟩ := hrel
    cases gk with
    | zero => exact absurd HA.out (by simp [spec_LineOk.l0])
    | succ k1 =>
      have H := HA.out
      clear HA
      simp only [spec_LineOk.l0] at H
      by_cases c2 : x7_1 < (l0.length : Int)
      · rw [if_pos c2] at H
        have c2b0 : decide (x7_1 < (l0.length : Int)) = true := decide_eq_true c2
        clear c2
        by_cases c3 : 0 ≤ x7_1
        · rw [if_pos c3] at H
          have c3b0 : decide (0 ≤ x7_1) = true := decide_eq_true c3
          clear c3
          by_cases c4 : x7_1 < (l0.length : Int)
          · rw [if_pos c4] at H
            have c4b0 : decide (x7_1 < (l0.length : Int)) = true := decide_eq_true c4
            clear c4
            replace H := Option.bind_eq_some_iff.mp H
            obtain ⟨t154, A50, H⟩ := H
            replace H : (if t154 = true then (spec_LineOk.l0 k1 l0 l0 (l0.length : Int) (wrap64 (x7_1 + 1))) else (some false)) = some r := H
            have A5 := Aside0.mk A50
            clear A50
            by_cases c6 : t154 = true
            · subst c6
              have H1 : (spec_LineOk.l0 k1 l0 l0 (l0.length : Int) (wrap64 (x7_1 + 1))) = some r := by rw [if_pos rfl] at H; exact H
              clear H
              have H := H1
              clear H1
              have H' := Aside0.mk H
              clear H
              have p153 : 0 ≤ (x7_1 : Int) := of_decide_eq_true (by first | (with_reducible assumption) | assumption)
              have q153 : x7_1 < (l0.length : Int) := of_decide_eq_true (by first | (with_reducible assumption) | assumption)
              obtain ⟨ad153, e153, hx153_0⟩ := Kd.at_int HR0.out x7_1 p153 q153
              cases e153
              replace p153 := eq_true p153
              replace q153 := eq_true q153
              go_wp2_with (first | ((with_reducible refine gate_callee (f := 65) rfl ?_); refine goesL_ (some 12) rfl rfl Try.func65 (by kernel_rfl) rfl #[.int .i64 (rd l0 x7_1), .int .i64 0, .int .i64 60] rfl (by (try simp only [List.map_toArray, List.map_cons, List.map_nil]); first | done | rfl | (simp only [List.length_drop, List.length_take]; rfl)) ?_; (with_reducible refine (spec_l1In.calls (rd l0 x7_1) 0 60 true _ A5.out).mono ?_); rintro e w' ⟨rfl, ⟨nd, rfl⟩⟩; refine ⟨_, rfl, ?_⟩))
              go_roundg k1
              case measure => have := HK1.out; omega
              case rel => exact ⟨(wrap64 (x7_1 + 1)), (by first | rfl | (simp; done) | (simp [*]; done)), H', ⟨by have := HK1.out; omega⟩, by repeat (first | exact Drawn0.refl _ | apply Drawn0.step)⟩
            · replace c6 := Bool.eq_false_iff.mpr c6
              subst c6
              have H1 : (some false) = some r := by rw [if_neg (show ¬ (false = true) by decide)] at H; exact H
              clear H
              have H := H1
              clear H1
              obtain rfl := Option.some.inj H
              have p153 : 0 ≤ (x7_1 : Int) := of_decide_eq_true (by first | (with_reducible assumption) | assumption)
              have q153 : x7_1 < (l0.length : Int) := of_decide_eq_true (by first | (with_reducible assumption) | assumption)
              obtain ⟨ad153, e153, hx153_0⟩ := Kd.at_int HR0.out x7_1 p153 q153
              cases e153
              replace p153 := eq_true p153
              replace q153 := eq_true q153
              go_wp2_with (first | ((with_reducible refine gate_callee (f := 65) rfl ?_); refine goesL_ (some 12) rfl rfl Try.func65 (by kernel_rfl) rfl #[.int .i64 (rd l0 x7_1), .int .i64 0, .int .i64 60] rfl (by (try simp only [List.map_toArray, List.map_cons, List.map_nil]); first | done | rfl | (simp only [List.length_drop, List.length_take]; rfl)) ?_; (with_reducible refine (spec_l1In.calls (rd l0 x7_1) 0 60 false _ A5.out).mono ?_); rintro e w' ⟨rfl, ⟨nd, rfl⟩⟩; refine ⟨_, rfl, ?_⟩))
              go_ret
              exact ⟨by first | rfl | (simp only [i64_w, i32_w, wrap64_zero, Int.sub_zero, Int.add_zero, Int.mul_zero, Int.zero_mul]; rfl) | (simp; done) | (simp [*]; done), by repeat (first | exact Drawn0.refl _ | apply Drawn0.step)⟩
          · rw [if_neg c4] at H
            exact absurd H (by simp)
        · rw [if_neg c3] at H
          exact absurd H (by simp)
      · rw [if_neg c2] at H
        have c2b0 : decide (x7_1 < (l0.length : Int)) = false := decide_eq_false c2
        clear c2
        obtain rfl := Option.some.inj H
        go_wp2
        go_ret
        exact ⟨by first | rfl | (simp only [i64_w, i32_w, wrap64_zero, Int.sub_zero, Int.add_zero, Int.mul_zero, Int.zero_mul]; rfl) | (simp; done) | (simp [*]; done), by repeat (first | exact Drawn0.refl _ | apply Drawn0.step)⟩

end Go.Proofs.Ytnkpblbofjchaaa.Q
