/- Contracts of Go functions over this translation: each call returns what the Lean function of the same name gives, and writes into no memory that was there. Written by a program of this claim's author (mp.py) over the kit's print. Conditions: those that each theorem names. -/
import Derived.Test.YtilbngklgjjblaaQ0
import Derived.Test.YtilbngklgjjblaaQ7
namespace Go.Proofs.Ytilbngklgjjblaa.Q
open Go.RowKit Go.Proofs.YtilbngklgjjblaaW.PrintWords Go.Proofs.YtilbngklgjjblaaW.PrintLast Go.Proofs.YtilbngklgjjblaaW.PrintMore
attribute [local go_sem] max2_int min2_int max_two min_two max_three min_three max_four min_four   -- for this text's walks alone
set_option linter.unusedVariables false
set_option linter.unusedSimpArgs false

/-! ### impl_Matrix: function 91 -/
/-- The cells of a list of matrices. -/
def flat2 (l : List S30) : List Value := l.flatMap fun x => [.int .i64 x.f0, .int .i64 x.f1]
theorem flat2_len (l : List S30) : (flat2 l).length = l.length * 2 := by
  induction l with
  | nil => rfl
  | cons a l ih => simp only [flat2, List.flatMap_cons, List.length_append, List.length_cons, List.length_nil] at ih ⊢; omega
theorem flat2_append (a b : List S30) : flat2 (a ++ b) = flat2 a ++ flat2 b := by simp [flat2]
theorem flat2_one (l : List S30) : ∀ u ∈ flat2 l, u.oneCell' = true := by
  intro u hu
  obtain ⟨x, _, hx⟩ := List.mem_flatMap.1 hu
  simp only [List.mem_cons, List.not_mem_nil, or_false] at hx
  rcases hx with rfl | rfl <;> rfl
theorem flat2_take (l : List S30) (n : Nat) : (flat2 l).take (n * 2) = flat2 (l.take n) := by
  induction l generalizing n with
  | nil => simp [flat2]
  | cons a l ih =>
    cases n with
    | zero => simp [flat2]
    | succ n =>
      have := ih n
      rw [show (n + 1) * 2 = n * 2 + 2 by omega]
      simp only [flat2, List.flatMap_cons, List.cons_append, List.nil_append, List.take_succ_cons] at this ⊢
      rw [this]
theorem flat2_drop (l : List S30) (n : Nat) : (flat2 l).drop (n * 2) = flat2 (l.drop n) := by
  induction l generalizing n with
  | nil => simp [flat2]
  | cons a l ih =>
    cases n with
    | zero => simp [flat2]
    | succ n =>
      have := ih n
      rw [show (n + 1) * 2 = n * 2 + 2 by omega]
      simp only [flat2, List.flatMap_cons, List.cons_append, List.nil_append, List.drop_succ_cons] at this ⊢
      rw [this]
theorem mats_reps {w : World} {base : Nat} {ok : Nat → Prop} : ∀ (l : List S30) (inner : List Value), Reps (k30.M w base ok) 2 l inner → inner = flat2 l
  | [], inner, h => List.eq_nil_of_length_eq_zero (by simpa using h.1)
  | x :: l, inner, h => by
    have h1 := k30_openM (h.2 0 x rfl)
    rw [Nat.zero_mul, List.drop_zero] at h1
    have h2 : Reps (k30.M w base ok) 2 l (inner.drop 2) := ⟨by rw [List.length_drop, h.1, List.length_cons]; omega, fun j p hj => by
      have := h.2 (j + 1) p (by simpa using hj)
      rw [List.drop_drop, show 2 + j * 2 = (j + 1) * 2 by omega]
      exact this⟩
    have h3 := mats_reps l _ h2
    rw [← List.take_append_drop 2 inner, h1, h3]
    rfl
theorem reps_mats {w : World} {base : Nat} {ok : Nat → Prop} (l : List S30) : Reps (k30.M w base ok) 2 l (flat2 l) := by
  refine ⟨flat2_len l, fun j p hj => ?_⟩
  obtain ⟨h1, rfl⟩ := List.getElem?_eq_some_iff.1 hj
  rw [flat2_drop, List.drop_eq_getElem_cons h1]
  exact k30_mkM _ _ _ _
theorem mat_open {w : World} {base : Nat} {ok : Nat → Prop} {v : Value} {l : List S30} (h : Kd.R k30 30 w base ok v l) :
    (v = .slice none 0 0 ∧ l = []) ∨ ∃ g cap cur, v = .slice (some ⟨g, 0, none⟩) l.length cap ∧ ok g ∧ base ≤ g ∧ w.heap[g]? = some (.cells cur 30 (0, 0)) ∧ l.length ≤ cap ∧ cap ≤ maxLen ∧ cur.size = cap * 2 ∧ cur.toList.take (l.length * 2) = flat2 l := by
  obtain ⟨h0, inner, ⟨_, ho⟩, hr⟩ := h
  have hi := mats_reps l inner hr
  rcases ho with ⟨h1, h2⟩ | ⟨g, cap, cur, h1, h2, h3, h4, h5, h6, h7⟩
  · exact Or.inl ⟨h1, List.length_eq_zero_iff.1 h2⟩
  · exact Or.inr ⟨g, cap, cur, h1, h0 g (by rw [h1]; rfl), h2, h3, h4, h5, h6, by rw [← hi, ← h7]; rfl⟩
theorem mat_shut {w : World} {base : Nat} {ok : Nat → Prop} {l : List S30} {g cap n : Nat} {cur : Array Value} (hn : n = l.length) (h0 : ok g) (h2 : base ≤ g) (h3 : w.heap[g]? = some (.cells cur 30 (0, 0))) (h4 : l.length ≤ cap) (h5 : cap ≤ maxLen) (h6 : cur.size = cap * 2) (h7 : cur.toList.take (l.length * 2) = flat2 l) :
    Kd.R k30 30 w base ok (.slice (some ⟨g, 0, none⟩) n cap) l := by
  subst hn
  refine ⟨fun k hk => ?_, flat2 l, ⟨flat2_len l, Or.inr ⟨g, cap, cur, rfl, h2, h3, h4, h5, h6, h7⟩⟩, reps_mats l⟩
  have : g = k := by simpa [Value.ownBlock] using hk
  subst this; exact h0
theorem run_copy_cells2 {P : Program} (w : World) (dT sT ty elem : TypeId) (b o dLen dCap : Nat) (a : Addr) (sLen sCap : Nat) (cs : List Value)
    (hu : P.underlying dT = some (.slice elem)) (hs : (P.info? elem).map (·.size) = some 2) (hn : cs.length = Nat.min sLen dLen * 2)
    (hsrc : ∀ j v, cs[j]? = some v → w.cell? (a.add j) = some v) (hc : ∀ j, j < cs.length → (w.cell? ⟨b, o + j, none⟩).isSome = true) (hf : ∀ j, j < cs.length → w.frozen? ⟨b, o + j, none⟩ = false) (h1 : ∀ v ∈ cs, v.oneCell' = true) :
    (Builtin.copy_ #[dT, sT] ty #[.slice (some ⟨b, o, none⟩) dLen dCap, .slice (some a) sLen sCap]).run P w = .ok (goInt (Nat.min sLen dLen : Nat)) (w.setCells b o cs) := by
  have hl := run_loadCells_list (P := P) w a cs hsrc
  have hst := run_storeCells_cells (P := P) b o cs 0 w (by simpa using hc) (by simpa using hf) h1
  cases hq : P.info? elem with
  | none => simp [hq] at hs
  | some i =>
    have hi : i.size = 2 := by simpa [hq] using hs
    rw [hn] at hl
    simp [Builtin.copy_, run_underlying hu, Builtin.lenOf, Builtin.firstCells, sizeOf, typeInfo, hq, hi, hl, hst]
/-- copy onto a row of matrices of one's own, from place j on. -/
theorem mat_copy_run {P : Program} {o : Oper} {a : Act} {w0 W : World} (base : Nat) (s x : Operand) (t t' : TypeId)
    (ho : o.op = .call { callee := .builtin .copy, args := #[s, x], argTypes := #[t, t'] }) (ht : P.underlying t = some (.slice 30)) (hinfo : (P.info? 30).map (·.size) = some 2)
    (g cap j m mc : Nat) (xs ys : List S30) (ad : Addr) (sl sc : Nat) (ok : Nat → Prop) (hs : a.eval s = .slice (some ⟨g, j * 2, none⟩) m mc) (hx : a.eval x = .slice (some ad) sl sc)
    (HO : Kd.R k30 30 W base ok (.slice (some ⟨g, 0, none⟩) xs.length cap) xs) (hj : j + m = xs.length) (hy : ys.length = Nat.min sl m) (hsrc : ∀ q u, (flat2 ys)[q]? = some u → W.cell? (ad.add q) = some u) (HB : Below base w0 W) :
    ∃ w1, (execOp a.eval o).run P W = .ok (.value (goInt (ys.length : Nat))) w1 ∧ Kd.R k30 30 w1 base ok (.slice (some ⟨g, 0, none⟩) xs.length cap) (xs.take j ++ ys ++ xs.drop (j + ys.length)) ∧ Below base w0 w1 := by
  have hml : ys.length ≤ m := by rw [hy]; exact Nat.min_le_right _ _
  rcases mat_open HO with ⟨h1, h2⟩ | ⟨g', cap', cur, h1, hok, hbase, hh, hnc, hcm, hcs, htk⟩
  · cases h1
  · injection h1 with e1 _ e3
    injection e1 with e1
    injection e1 with e1 _ _
    subst e1; subst e3
    have hlen := flat2_len ys
    have hr := run_copy_cells2 (P := P) W t t' o.type 30 g (j * 2) m mc ad sl sc (flat2 ys) ht hinfo (by rw [hlen, hy]) hsrc
      (fun q hq => by rw [cell_of_row W g _ cur 30 (0, 0) hh]; simp; omega) (fun q _ => blk_frozen hh _) (flat2_one ys)
    obtain ⟨cur', h3, h4, h5⟩ := setCells_row (flat2 ys) (j * 2) W cur hh (by omega)
    obtain ⟨s1, s2, s3, s4⟩ := setCells_same g (flat2 ys) (j * 2) W
    have hln : (xs.take j ++ ys ++ xs.drop (j + ys.length)).length = xs.length := by
      rw [List.length_append, List.length_append, List.length_take, List.length_drop]; omega
    refine ⟨W.setCells g (j * 2) (flat2 ys), ?_, mat_shut hln.symm hok hbase h3 (by omega) hcm (by rw [h4, hcs]) ?_, HB.trans ⟨s1, s2, s3, by rw [s4]; exact Nat.le_refl _, fun k hk => setCells_far _ _ k (by omega)⟩⟩
    · unfold execOp
      simp only [ho, resolve, invoke, builtin, Sem.run_bind, Sem.run_pure, Result.andThen_ok, List.map_toArray, List.map_cons, List.map_nil, hs, hx, hr]
      rw [← hy]
    · rw [h5, hln, hlen, ← Nat.add_mul]
      have htk2 : (cur.toList.take (xs.length * 2)).take (j * 2) = cur.toList.take (j * 2) := by rw [List.take_take, Nat.min_eq_left (by omega)]
      have hdr : cur.toList.drop ((j + ys.length) * 2) = (cur.toList.take (xs.length * 2)).drop ((j + ys.length) * 2) ++ cur.toList.drop (xs.length * 2) := by
        rw [← List.drop_append_of_le_length (by have h_ : cur.toList.length = cur.size := Array.length_toList; rw [List.length_take, h_, Nat.min_eq_left (show xs.length * 2 ≤ cur.size by rw [hcs]; omega)]; omega), List.take_append_drop]
      rw [← htk2, hdr, htk, flat2_take, flat2_drop, ← flat2_append, ← List.append_assoc, ← flat2_append]
      exact List.take_left' (by rw [flat2_len, hln])
theorem mat_copyL {P : Program} {ops : Array Oper} {rest : List Oper} {o : Oper} {a : Act} {Q : Exit → Act → World → Prop} {w0 W : World} (base : Nat) (s x : Operand) (t t' : TypeId)
    (ho : o.op = .call { callee := .builtin .copy, args := #[s, x], argTypes := #[t, t'] }) (ht : P.underlying t = some (.slice 30)) (hinfo : (P.info? 30).map (·.size) = some 2)
    (g cap j m mc : Nat) (xs ys : List S30) (ad : Addr) (sl sc : Nat) (ok : Nat → Prop) (hs : a.eval s = .slice (some ⟨g, j * 2, none⟩) m mc) (hx : a.eval x = .slice (some ad) sl sc)
    (HO : Kd.R k30 30 W base ok (.slice (some ⟨g, 0, none⟩) xs.length cap) xs) (hj : j + m = xs.length) (hy : ys.length = Nat.min sl m) (hsrc : ∀ q u, (flat2 ys)[q]? = some u → W.cell? (ad.add q) = some u) (HB : Below base w0 W) (hgd : o.guard = none)
    (h : ∀ w1, Kd.R k30 30 w1 base ok (.slice (some ⟨g, 0, none⟩) xs.length cap) (xs.take j ++ ys ++ xs.drop (j + ys.length)) → Below base w0 w1 → wpList P ops Q rest (a.put o.dst (goInt (ys.length : Nat))) w1) : wpList P ops Q (o :: rest) a W := by
  obtain ⟨w1, h1, h2, h3⟩ := mat_copy_run base s x t t' ho ht hinfo g cap j m mc xs ys ad sl sc ok hs hx HO hj hy hsrc HB
  refine wpList_plain hgd fun K hK => ?_
  unfold Oper.wp
  rw [h1]
  exact hK _ _ (h w1 h2 h3)
theorem mat_copyS {P : Program} {ops : Array Oper} {o : Oper} {a : Act} {Q : Exit → Act → World → Prop} {K : Act → World → Prop} {w0 W : World} (base : Nat) (s x : Operand) (t t' : TypeId) {N : Option Tmp} (hw : Region.wanted o (yielded ops a.tmps) = true) (hN : o.dst = N)
    (ho : o.op = .call { callee := .builtin .copy, args := #[s, x], argTypes := #[t, t'] }) (ht : P.underlying t = some (.slice 30)) (hinfo : (P.info? 30).map (·.size) = some 2)
    (g cap j m mc : Nat) (xs ys : List S30) (ad : Addr) (sl sc : Nat) (ok : Nat → Prop) (hs : a.eval s = .slice (some ⟨g, j * 2, none⟩) m mc) (hx : a.eval x = .slice (some ad) sl sc)
    (HO : Kd.R k30 30 W base ok (.slice (some ⟨g, 0, none⟩) xs.length cap) xs) (hj : j + m = xs.length) (hy : ys.length = Nat.min sl m) (hsrc : ∀ q u, (flat2 ys)[q]? = some u → W.cell? (ad.add q) = some u) (HB : Below base w0 W)
    (h : ∀ w1, Kd.R k30 30 w1 base ok (.slice (some ⟨g, 0, none⟩) xs.length cap) (xs.take j ++ ys ++ xs.drop (j + ys.length)) → Below base w0 w1 → K (a.put N (goInt (ys.length : Nat))) w1) : if Region.wanted o (yielded ops a.tmps) = true then Oper.wp P o a W K Q else K (a.put N undef) W := by
  obtain ⟨w1, h1, h2, h3⟩ := mat_copy_run base s x t t' ho ht hinfo g cap j m mc xs ys ad sl sc ok hs hx HO hj hy hsrc HB
  exact value_ hw hN h1 (h w1 h2 h3)
/-- slices.Repeat of one element. -/
def impl_Matrix.f (l0 : List S30) (a1 : Int) : Option (List S30) := if l0.length = 1 ∧ 0 ≤ a1 ∧ a1 ≤ 20 then some (List.replicate a1.toNat (l0.getD 0 z30)) else none
theorem u64_nat : ∀ n : Nat, n < 21 → IntKind.u64.wrap (n : Int) = (n : Int) := by decide
theorem i64_nat : ∀ n : Nat, n < 21 → IntKind.i64.wrap (n : Int) = (n : Int) := by decide
theorem mul_one_small : ∀ n : Nat, n < 21 → bits_Mul.f 1 (n : Int) = some (0, (n : Int)) := by decide +kernel
theorem made_mats (c nd : Nat) {w w1 : World} {v1 : Value} (ho1 : Kd.R k30 30 w1 (w.drewN nd).heap.size (fun _ => True) v1 (List.replicate (c : Int).toNat z30)) (hb1 : Below (w.drewN nd).heap.size (w.drewN nd) w1) (hat1 : ∃ b, v1.ownBlock = some b ∧ (w.drewN nd).heap.size ≤ b) :
    ∃ g cap, v1 = .slice (some ⟨g, 0, none⟩) c cap ∧ Kd.R k30 30 w1 w.heap.size (fun _ => True) (.slice (some ⟨g, 0, none⟩) (List.replicate c z30).length cap) (List.replicate c z30) ∧ Below w.heap.size w w1 := by
  rw [Int.toNat_natCast] at ho1
  have hs : (w.drewN nd).heap.size = w.heap.size := by simp
  rcases mat_open ho1 with ⟨h1, h2⟩ | ⟨g, cap, cur, h1, _⟩
  · obtain ⟨b, hb, _⟩ := hat1
    rw [h1] at hb; simp [Value.ownBlock] at hb
  · refine ⟨g, cap, by rw [h1, List.length_replicate], ?_, (pw_below_drewN (Below.refl w.heap.size w) nd).trans (hb1.mono (by rw [hs]; exact Nat.le_refl _))⟩
    rw [← h1]; exact Kd.R_lower ho1 (by rw [hs]; exact Nat.le_refl _)
theorem mat_cells {w : World} {base : Nat} {ok : Nat → Prop} {g n cap : Nat} {l : List S30} (h : Kd.R k30 30 w base ok (.slice (some ⟨g, 0, none⟩) n cap) l) : ∀ q u, (flat2 l)[q]? = some u → w.cell? ⟨g, q, none⟩ = some u := by
  intro q u hq
  rcases mat_open h with ⟨h1, _⟩ | ⟨g', cap', cur, h1, _, _, hh, _, _, _, ht⟩
  · cases h1
  · injection h1 with e1 _ _
    injection e1 with e1
    injection e1 with e1 _ _
    subst e1
    rw [cell_of_row w g q cur 30 (0, 0) hh]
    rw [← ht, List.getElem?_take] at hq
    split at hq
    · simpa using hq
    · cases hq
theorem flat_more (x : S30) (m n k : Nat) (hm : m ≤ n) (q : Nat) (u : Value) (h : (flat2 (List.replicate m x))[q]? = some u) : (flat2 (List.replicate n x ++ List.replicate k z30))[q]? = some u := by
  have e : List.replicate n x = List.replicate m x ++ List.replicate (n - m) x := by rw [List.replicate_append_replicate, show m + (n - m) = n by omega]
  rw [e, List.append_assoc, flat2_append, List.getElem?_append_left (List.getElem?_eq_some_iff.1 h).1]
  exact h
theorem rep_step (x : S30) (n c m : Nat) (hn : n ≤ c) (hm : m ≤ c - n) : (List.replicate n x ++ List.replicate (c - n) z30).take n ++ List.replicate m x ++ (List.replicate n x ++ List.replicate (c - n) z30).drop (n + m) = List.replicate (n + m) x ++ List.replicate (c - (n + m)) z30 := by
  rw [List.take_left' (by rw [List.length_replicate]), List.drop_append, List.drop_replicate, List.drop_replicate, List.length_replicate, List.replicate_append_replicate]
  rw [show n - (n + m) = 0 by omega, List.replicate_zero, List.nil_append, show c - n - (n + m - n) = c - (n + m) by omega]
theorem flat_min (x : S30) (c q : Nat) (u : Value) (h : (flat2 (List.replicate (Nat.min 1 c) x))[q]? = some u) : (flat2 [x])[q]? = some u := by
  cases c with
  | zero => simp [flat2] at h
  | succ c => rwa [show Nat.min 1 (c + 1) = 1 from Nat.min_eq_left (by omega)] at h
set_option maxHeartbeats 4000000 in
set_option maxRecDepth 100000 in
theorem impl_Matrix.calls (A0 : Option Addr) (c0 : Nat) (l0 : List S30) (a1 : Int) (r : List S30) (w : World) (hr0 : Kd.C k30 w A0 l0.length l0) (hc0 : l0.length ≤ c0) (h : impl_Matrix.f l0 a1 = some r) :
    Calls Try.prog 91 #[.slice A0 l0.length c0, .int .i64 a1] w fun e w' => ∃ v0_ : Value, e = .returned (v0_) ∧ Kd.R k30 30 w' w.heap.size (fun _ => True) v0_ r ∧ Below w.heap.size w w' := by
  unfold impl_Matrix.f at h
  by_cases hlim : l0.length = 1 ∧ 0 ≤ a1 ∧ a1 ≤ 20
  case neg => rw [if_neg hlim] at h; exact absurd h (by simp)
  rw [if_pos hlim] at h
  obtain rfl := Option.some.inj h
  clear h
  obtain ⟨hl, h1, h2⟩ := hlim
  obtain ⟨c, rfl⟩ := Int.eq_ofNat_of_zero_le h1
  obtain ⟨x, rfl⟩ := List.length_eq_one_iff.1 hl
  obtain ⟨ad, e1, hx0, hx1⟩ := at_T30 hr0 0 (by omega) (by simp)
  cases e1
  have hsrc : ∀ q u, (flat2 [x])[q]? = some u → w.cell? (ad.add q) = some u := by
    intro q u hq
    have hq2 : ([.int .i64 x.f0, .int .i64 x.f1] : List Value)[q]? = some u := hq
    cases q with
    | zero => simpa [rd_T30] using (show w.cell? (ad.add 0) = some u from by rw [← Option.some.inj hq2]; simpa [rd_T30] using hx0)
    | succ q =>
      cases q with
      | zero =>
        have e2 : Value.int .i64 x.f1 = u := Option.some.inj hq2
        have h3 : w.cell? ⟨(ad.add ((0 : Int).toNat * 2)).block, (ad.add ((0 : Int).toNat * 2)).off + 1, none⟩ = some (.int .i64 x.f1) := by simpa [rd_T30] using hx1
        rw [← e2, ← h3]
        rfl
      | succ q => simp at hq2
  have hu34 := Try.underlying34
  have HS := Aside0.mk hsrc
  have HB := Aside0.mk (Below.refl w.heap.size w)
  have HM := Aside0.mk (mul_one_small c (by omega))
  have hk1 : IntKind.u64.wrap (1 : Int) = 1 := by decide
  have hk2 : IntKind.u64.wrap (c : Int) = (c : Int) := u64_nat c (by omega)
  have hk3 : IntKind.i64.wrap (c : Int) = (c : Int) := i64_nat c (by omega)
  have hn0 : decide ((c : Int) < 0) = false := decide_eq_false (by omega)
  have hn1 : decide ((9223372036854775807 : Int) < (c : Int)) = false := decide_eq_false (by omega)
  have hc20 : c ≤ 20 := by omega
  clear hr0 hx0 hx1 hsrc h1 h2 hl hc0
  go_enter Try.func91, Try.ntmps91
  go_wp2_with (first | (go_at_call 112; refine (bits_Mul.calls 1 (c : Int) 0 (c : Int) _ HM.out).mono ?_; rintro e w' ⟨rfl, ⟨nd, rfl⟩⟩) | ((with_reducible refine gate_dst (N := 30) rfl ?_); refine Kd.R_make k30 _ 30 rfl (N := 30) rfl 34 _ _ rfl (c : Int) rfl rfl Try.underlying34 (.agg #[(.int .i64 0), (.int .i64 0)]) 16 info30 rfl (by decide) (by omega) z30 (ok := fun _ => True) (okp := fun _ => True) (k30_mkM _ _ _ z30) (fun _ hk => hk) trivial (Int.natCast_nonneg c) (by rw [Int.toNat_natCast]; omega) (Below.refl _ _) (Nat.le_refl _) ?_; intro v1 w1 ho1 hb1 hg1 hat1; obtain ⟨g, cap, e1, hro, hbb⟩ := made_mats c nd ho1 hb1 hat1; subst e1; have HO1 := Aside0.mk hro; have HB1 := Aside0.mk hbb; clear ho1 hb1 hg1 hat1 hro hbb) | ((with_reducible refine gate_builtin (b := .copy) (xs := #[.tmp 31, .tmp 32]) rfl ?_); refine mat_copyL (w0 := w) w.heap.size (.tmp 31) (.tmp 32) 34 34 rfl Try.underlying34 (by kernel_rfl) g cap 0 c _ (List.replicate c z30) (List.replicate (Nat.min 1 c) x) ad 1 c0 (fun _ => True) rfl rfl HO1.out (by simp) (by rw [List.length_replicate]) (fun q u hq => (HB1.out.cell (World.block_lt_of_cell? w _ (HS.out q u (flat_min x c q u hq)))).trans (HS.out q u (flat_min x c q u hq))) HB1.out rfl ?_; intro w2 ho2 hb2; rw [List.length_replicate] at ho2; have HO2 := Aside0.mk ho2; have HB2 := Aside0.mk hb2; rw [List.length_replicate]; clear ho2 hb2))
  have hE : List.take 0 (List.replicate c z30) ++ List.replicate (Nat.min 1 c) x ++ List.drop (0 + Nat.min 1 c) (List.replicate c z30) = List.replicate (Nat.min 1 c) x ++ List.replicate (c - Nat.min 1 c) z30 := by
    rw [List.take_zero, List.nil_append, Nat.zero_add, List.drop_replicate]
  have ho2 := HO2.out
  simp only [List.length_replicate] at ho2
  rw [hE] at ho2
  have HO3 := Aside0.mk ho2
  clear hE ho2
  go_loopg [8] c (fun gg s8 wx => ∃ n : Nat, n ≤ c ∧ c - n ≤ gg ∧ (0 < n ∨ c = 0) ∧ s8 = .int .i64 (n : Int) ∧ Aside0 (Kd.R k30 30 wx w.heap.size (fun _ => True) (.slice (some ⟨g, 0, none⟩) c cap) (List.replicate n x ++ List.replicate (c - n) z30)) ∧ Aside0 (Below w.heap.size w wx))
  case atStart => exact ⟨Nat.min 1 c, Nat.min_le_right _ _, by omega, by cases c with | zero => exact Or.inr rfl | succ c => exact Or.inl (by rw [show Nat.min 1 (c + 1) = 1 from Nat.min_eq_left (by omega)]; decide), rfl, HO3, HB2⟩
  case round =>
    clear HO3 HB2 HO2 HO1 HB1 HM
    obtain ⟨n, hn, hg, h0, rfl, HR, HBX⟩ := hrel
    by_cases hlt : n < c
    · have hd : decide ((n : Int) < (c : Int)) = true := decide_eq_true (by omega)
      have q1 : (0 ≤ (n : Int)) = True := eq_true (by omega)
      have q2 : ((n : Int) ≤ (c : Int)) = True := eq_true (by omega)
      cases gk with
      | zero => omega
      | succ gg =>
      obtain ⟨m, hm⟩ : ∃ m, m = Nat.min n (c - n) := ⟨_, rfl⟩
      have hm1 : m ≤ n := by rw [hm]; exact Nat.min_le_left _ _
      have hm2 : m ≤ c - n := by rw [hm]; exact Nat.min_le_right _ _
      have hm3 : 0 < m := by rw [hm]; exact Nat.lt_min.2 ⟨by omega, by omega⟩
      have hw : wrap64 ((n : Int) + (m : Int)) = ((n + m : Nat) : Int) := by unfold wrap64; omega
      have hlen : (List.replicate n x ++ List.replicate (c - n) z30).length = c := by simp; omega
      have hcap : c ≤ cap := by
        rcases mat_open HR.out with ⟨h1, _⟩ | ⟨g', cap', cur, h1, _, _, _, h2, _⟩
        · cases h1
        · injection h1 with _ e2 e3
          subst e3; omega
      have q3 : ((n : Int) ≤ (cap : Int)) = True := eq_true (by omega)
      have q4 : ((c : Int) ≤ (cap : Int)) = True := eq_true (by omega)
      have q5 : (cap = n) = False := eq_false (by omega)
      have HM := Aside0.mk hm
      have HL := Aside0.mk hlen
      have HW := Aside0.mk hw
      clear hm hlen hw
      have HR3 := Aside0.mk (Kd.R_drew HR.out)
      have HB3 := Aside0.mk (below_drew1 HBX.out)
      go_wp2_with fail
      refine start_ (n := 10) (S := fun w' => True) (ds := []) #[false, false, false, false, false, false, false, false, false, false] (by kernel_rfl) rfl rfl trivial (fun hHeld => ?_)
      generalize World.drew wr = w3 at HR3 HB3 ⊢
      refine pure_ (i := 0) (N := some 38) (v := ?_) (a' := ?_) #[true, false, false, false, false, false, false, false, false, false] rfl rfl (by kernel_rfl) (fun _ _ _ h => h) (Or.inl ⟨by rfl, ?_⟩) ?_ ?_
      rotate_left
      · intro w'
        go_simp
        with_reducible rfl
      rotate_left
      · simp only [Act.put, List.setIfInBounds_toArray, List.set_cons_zero, List.set_cons_succ, i64_w, i32_w]
        rfl
      refine pure_ (i := 1) (N := some 39) (v := ?_) (a' := ?_) #[true, true, false, false, false, false, false, false, false, false] rfl rfl (by kernel_rfl) (fun _ _ _ h => h) (Or.inl ⟨by rfl, ?_⟩) ?_ ?_
      rotate_left
      · intro w'
        go_simp
        with_reducible rfl
      rotate_left
      · simp only [Act.put, List.setIfInBounds_toArray, List.set_cons_zero, List.set_cons_succ, i64_w, i32_w]
        rfl
      refine pure_ (i := 2) (N := some 40) (v := ?_) (a' := ?_) #[true, true, true, false, false, false, false, false, false, false] rfl rfl (by kernel_rfl) (fun _ _ _ h => h) (Or.inl ⟨by rfl, ?_⟩) ?_ ?_
      rotate_left
      · intro w'
        go_simp
        with_reducible rfl
      rotate_left
      · simp only [Act.put, List.setIfInBounds_toArray, List.set_cons_zero, List.set_cons_succ, i64_w, i32_w]
        rfl
      refine pure_ (i := 3) (N := some 41) (v := ?_) (a' := ?_) #[true, true, true, true, false, false, false, false, false, false] rfl rfl (by kernel_rfl) (fun _ _ _ h => h) (Or.inl ⟨by rfl, ?_⟩) ?_ ?_
      rotate_left
      · intro w'
        go_simp
        with_reducible rfl
      rotate_left
      · simp only [Act.put, List.setIfInBounds_toArray, List.set_cons_zero, List.set_cons_succ, i64_w, i32_w]
        rfl
      refine pure_ (i := 4) (N := some 42) (v := ?_) (a' := ?_) #[true, true, true, true, true, false, false, false, false, false] rfl rfl (by kernel_rfl) (fun _ _ _ h => h) (Or.inl ⟨by rfl, ?_⟩) ?_ ?_
      rotate_left
      · intro w'
        go_simp
        with_reducible rfl
      rotate_left
      · simp only [Act.put, List.setIfInBounds_toArray, List.set_cons_zero, List.set_cons_succ, i64_w, i32_w]
        rfl
      refine pure_ (i := 5) (N := some 43) (v := ?_) (a' := ?_) #[true, true, true, true, true, true, false, false, false, false] rfl rfl (by kernel_rfl) (fun _ _ _ h => h) (Or.inl ⟨by rfl, ?_⟩) ?_ ?_
      rotate_left
      · intro w'
        go_simp
        with_reducible rfl
      rotate_left
      · simp only [Act.put, List.setIfInBounds_toArray, List.set_cons_zero, List.set_cons_succ, i64_w, i32_w]
        rfl
      refine pure_ (i := 6) (N := some 44) (v := ?_) (a' := ?_) #[true, true, true, true, true, true, true, false, false, false] rfl rfl (by kernel_rfl) (fun _ _ _ h => h) (Or.inl ⟨by rfl, ?_⟩) ?_ ?_
      rotate_left
      · intro w'
        go_simp
        with_reducible rfl
      rotate_left
      · simp only [Act.put, List.setIfInBounds_toArray, List.set_cons_zero, List.set_cons_succ, i64_w, i32_w]
        rfl
      refine one_ (i := 7) (N := some 45) #[true, true, true, true, true, true, true, true, false, false] rfl rfl (by kernel_rfl) (by decide) (fun K hK => ?_)
      refine mat_copyS (w0 := w) w.heap.size (.tmp 41) (.tmp 44) 34 34 (by rfl) rfl rfl Try.underlying34 (by kernel_rfl) g cap n (c - n) (cap - n) (List.replicate n x ++ List.replicate (c - n) z30) (List.replicate m x) ⟨g, 0, none⟩ n cap (fun _ => True) rfl rfl (by rw [HL.out]; exact HR3.out) (by rw [HL.out]; omega) (by rw [List.length_replicate]; exact HM.out) (fun q u hq => by rw [add_plain]; exact mat_cells HR3.out q u (flat_more x m n (c - n) hm1 q u hq)) HB3.out ?_
      intro w4 ho4 hb4
      rw [List.length_replicate, HL.out, rep_step x n c m (by omega) hm2] at ho4
      have HR4 := Aside0.mk ho4
      have HB4 := Aside0.mk hb4
      clear ho4 hb4
      rw [List.length_replicate]
      refine hK.out _ _ trivial (fun hHeld => ?_)
      clear hK K
      refine norm_ (a' := ?_) ?_ ?_
      rotate_left
      · show Act.put _ (some 45) _ = _
        simp only [Act.put, List.setIfInBounds_toArray, List.set_cons_zero, List.set_cons_succ, i64_w, i32_w]
        rfl
      refine pure_ (i := 8) (N := some 46) (v := ?_) (a' := ?_) #[true, true, true, true, true, true, true, true, true, false] rfl rfl (by kernel_rfl) (fun _ _ _ h => h) (Or.inl ⟨by rfl, ?_⟩) ?_ ?_
      rotate_left
      · intro w'
        go_simp
        with_reducible rfl
      rotate_left
      · simp only [Act.put, List.setIfInBounds_toArray, List.set_cons_zero, List.set_cons_succ, i64_w, i32_w]
        rfl
      refine pure_ (i := 9) (N := some 8) (v := ?_) (a' := ?_) #[true, true, true, true, true, true, true, true, true, true] rfl rfl (by kernel_rfl) (fun _ _ _ h => h) (Or.inl ⟨by rfl, ?_⟩) ?_ ?_
      rotate_left
      · intro w'
        go_simp
        with_reducible rfl
      rotate_left
      · simp only [Act.put, List.setIfInBounds_toArray, List.set_cons_zero, List.set_cons_succ, i64_w, i32_w]
        rfl
      refine done_ (by kernel_rfl) ?_
      try go_wp2
      go_roundg gg
      case measure => omega
      case rel => exact ⟨n + m, by omega, by omega, Or.inl (by omega), by first | rfl | rw [HW.out], HR4, HB4⟩
    · have hnc : n = c := by omega
      subst hnc
      have hd : decide ((n : Int) < (n : Int)) = false := by simp
      go_wp2_with fail
      go_ret
      refine ⟨_, rfl, ?_, HBX.out⟩
      have h_ := HR.out
      rw [Nat.sub_self, List.replicate_zero, List.append_nil] at h_
      rw [Int.toNat_natCast]
      exact h_

/-! ### impl_FillMagazine: function 51 -/
mutual
def impl_FillMagazine.j0 : Nat → Int → Bool → ByteArray → List Int → List Int → Option ((List (List (S30))) × Bool)
  | 0, _, _, _, _, _ => none
  | k + 1, x1, x19, x166000, x166001, x166002 => if x19 = true then (some (([] : List (List (S30))), false)) else (impl_FillMagazine.l0 k x1 (([] : List (List (S30)))) x166002 (x166002.length : Int) 0)
def impl_FillMagazine.l0 : Nat → Int → List (List (S30)) → List Int → Int → Int → Option ((List (List (S30))) × Bool)
  | 0, _, _, _, _, _ => none
  | k + 1, x1, x6, x22, x23, x24 => if x24 < x23 then (if 0 ≤ x24 then (if x24 < (x22.length : Int) then ((impl_Matrix.f (([(⟨x24, rd x22 x24⟩ : S30)] : List (S30))) x1).bind fun t174 => (if x6.length < 5864062014805 then (impl_FillMagazine.l0 k x1 (x6 ++ [t174]) x22 x23 (wrap64 (x24 + 1))) else (none))) else (none)) else (none)) else (some (x6, true))
end
def impl_FillMagazine.f (k : Nat) (a0_0 : ByteArray) (l0_1 : List Int) (l0_2 : List Int) (a1 : Int) : Option ((List (List (S30))) × Bool) := (impl_FontOk.f k a0_0 l0_1 l0_2).bind fun t166 => (if t166 = true then (if a1 < 0 then (impl_FillMagazine.j0 k a1 true a0_0 l0_1 l0_2) else (impl_FillMagazine.j0 k a1 (decide (a1 > 20)) a0_0 l0_1 l0_2)) else (impl_FillMagazine.j0 k a1 true a0_0 l0_1 l0_2))
theorem impl_FillMagazine.mono_l : ∀ k, (∀ y0 y1 y2 y3 y4, LeO (impl_FillMagazine.j0 k y0 y1 y2 y3 y4) (impl_FillMagazine.j0 (k + 1) y0 y1 y2 y3 y4)) ∧ (∀ y0 y1 y2 y3 y4, LeO (impl_FillMagazine.l0 k y0 y1 y2 y3 y4) (impl_FillMagazine.l0 (k + 1) y0 y1 y2 y3 y4))
  | 0 => ⟨fun _ _ _ _ _ r h => by simp [impl_FillMagazine.j0] at h, fun _ _ _ _ _ r h => by simp [impl_FillMagazine.l0] at h⟩
  | k + 1 => by
    obtain ⟨ih0, ih1⟩ := impl_FillMagazine.mono_l k
    refine ⟨?_, ?_⟩
    · intro y0 y1 y2 y3 y4
      unfold impl_FillMagazine.j0
      repeat' first
      | (with_reducible exact ih0 _ _ _ _ _)
      | (with_reducible exact ih1 _ _ _ _ _)
      | (with_reducible exact impl_FontOk.mono _ _ _ _)
      | (with_reducible exact LeO.refl _)
      | (with_reducible exact LeO.none _)
      | (with_reducible refine LeO.ite ?_ ?_)
      | (with_reducible refine LeO.bind ?_ (fun _ => ?_))
      | exact ih0 _ _ _ _ _
      | exact ih1 _ _ _ _ _
      | exact impl_FontOk.mono _ _ _ _
      | exact LeO.none _
      | refine LeO.ite ?_ ?_
      | refine LeO.bind ?_ (fun _ => ?_)
    · intro y0 y1 y2 y3 y4
      unfold impl_FillMagazine.l0
      repeat' first
      | (with_reducible exact ih0 _ _ _ _ _)
      | (with_reducible exact ih1 _ _ _ _ _)
      | (with_reducible exact impl_FontOk.mono _ _ _ _)
      | (with_reducible exact LeO.refl _)
      | (with_reducible exact LeO.none _)
      | (with_reducible refine LeO.ite ?_ ?_)
      | (with_reducible refine LeO.bind ?_ (fun _ => ?_))
      | exact ih0 _ _ _ _ _
      | exact ih1 _ _ _ _ _
      | exact impl_FontOk.mono _ _ _ _
      | exact LeO.none _
      | refine LeO.ite ?_ ?_
      | refine LeO.bind ?_ (fun _ => ?_)
theorem impl_FillMagazine.mono : ∀ a0 a1 a2 a3 k, LeO (impl_FillMagazine.f k a0 a1 a2 a3) (impl_FillMagazine.f (k + 1) a0 a1 a2 a3) := by
  intro a0 a1 a2 a3 k
  obtain ⟨ih0, ih1⟩ := impl_FillMagazine.mono_l k
  unfold impl_FillMagazine.f
  repeat' first
      | (with_reducible exact ih0 _ _ _ _ _)
      | (with_reducible exact ih1 _ _ _ _ _)
      | (with_reducible exact impl_FontOk.mono _ _ _ _)
      | (with_reducible exact LeO.refl _)
      | (with_reducible exact LeO.none _)
      | (with_reducible refine LeO.ite ?_ ?_)
      | (with_reducible refine LeO.bind ?_ (fun _ => ?_))
      | exact ih0 _ _ _ _ _
      | exact ih1 _ _ _ _ _
      | exact impl_FontOk.mono _ _ _ _
      | exact LeO.none _
      | refine LeO.ite ?_ ?_
      | refine LeO.bind ?_ (fun _ => ?_)
set_option maxHeartbeats 8000000 in
set_option maxRecDepth 100000 in
theorem impl_FillMagazine.calls (k : Nat) (a0_0 : ByteArray) (A0_1 : Option Addr) (c0_1 : Nat) (l0_1 : List Int) (A0_2 : Option Addr) (c0_2 : Nat) (l0_2 : List Int) (a1 : Int) (r1 : List (List (S30))) (r2 : Bool) (w : World) (hr0_1 : Kd.C (Kd.int .i64) w A0_1 l0_1.length l0_1) (hc0_1 : l0_1.length ≤ c0_1) (hr0_2 : Kd.C (Kd.int .i64) w A0_2 l0_2.length l0_2) (hc0_2 : l0_2.length ≤ c0_2) (h : impl_FillMagazine.f k a0_0 l0_1 l0_2 a1 = some (r1, r2)) :
    Calls Try.prog 51 #[.agg #[.string a0_0, .slice A0_1 l0_1.length c0_1, .slice A0_2 l0_2.length c0_2], .int .i64 a1] w fun e w' => ∃ v0_ : Value, e = .returned (.tuple #[v0_, .bool r2]) ∧ Kd.S (Kd.slice 30 k30) 34 w' w.heap.size (fun _ => True) v0_ r1 ∧ Below w.heap.size w w' := by
  have hu25 := Try.underlying25
  have hu30 := Try.underlying30
  have HR0_1 := Aside0.mk hr0_1
  have HC0_1 := Aside0.mk hc0_1
  clear hr0_1 hc0_1
  have HR0_2 := Aside0.mk hr0_2
  have HC0_2 := Aside0.mk hc0_2
  clear hr0_2 hc0_2
  have HB := Aside0.mk (Below.refl w.heap.size w)
  have H : ((impl_FontOk.f k a0_0 l0_1 l0_2).bind fun t166 => (if t166 = true then (if a1 < 0 then (impl_FillMagazine.j0 k a1 true a0_0 l0_1 l0_2) else (impl_FillMagazine.j0 k a1 (decide (a1 > 20)) a0_0 l0_1 l0_2)) else (impl_FillMagazine.j0 k a1 true a0_0 l0_1 l0_2))) = some (r1, r2) := h
  clear h
  have HC3 := Aside0.mk H
  clear H
  go_enter Try.func51, Try.ntmps51
  go_upto_region 1 with (first | ((with_reducible refine gate_dst (N := 2) rfl ?_); refine box_event ?hg (N := 2) ?hd (cs := #[.string a0_0, .slice A0_1 l0_1.length c0_1, .slice A0_2 l0_2.length c0_2]) (t := 25) ?hr ?_; (case hd => rfl); (case hg => rfl); (case hr => first | (go_simp; done) | (go_simp; rfl)); intro gb165 hg w4 hbox hb; have n0_ := Aside0.mk (below_step (by repeat (first | (with_reducible first | exact HB.out | apply below_alloc | apply pw_below_drewN | apply below_drew1) | exact HB.out)) hb); have n1_ := Aside0.mk (hbox); have n2_ := Aside0.mk ((by rw [hg]; exact (below_size (by repeat (first | (with_reducible first | exact HB.out | apply below_alloc | apply pw_below_drewN | apply below_drew1) | exact HB.out))) : w.heap.size ≤ gb165)); have n3_ := Aside0.mk ((by rw [hg]; exact (below_size (by repeat (first | (with_reducible first | exact HB.out | apply below_alloc | apply pw_below_drewN | apply below_drew1) | exact HB.out))) : w.heap.size ≤ gb165)); clear HB; have HB := n0_; have BK165 := n1_; have GW165 := n2_; have GE165 := n3_; clear n0_ n1_ n2_ n3_; clear hb hbox hg))
  (try simp only [Act.put, List.setIfInBounds_toArray, List.set_cons_zero, List.set_cons_succ])
  go_cut [19] (fun v19 wc => ∃ (kq : Nat) (x19_2 : Bool), v19 = .bool x19_2 ∧ Aside0 (impl_FillMagazine.j0 kq a1 x19_2 a0_0 l0_1 l0_2 = some (r1, r2)) ∧ Aside0 (kq ≤ k) ∧ Aside0 (wc.heap[gb165]? = some (.cells #[.string a0_0, (.slice A0_1 l0_1.length c0_1), (.slice A0_2 l0_2.length c0_2)] 25 (0, 0))) ∧ Aside0 (Below w.heap.size w wc))
  case first =>
    have H := HC3.out
    clear HC3
    replace H := Option.bind_eq_some_iff.mp H
    obtain ⟨t166, A50, H⟩ := H
    replace H : (if t166 = true then (if a1 < 0 then (impl_FillMagazine.j0 k a1 true a0_0 l0_1 l0_2) else (impl_FillMagazine.j0 k a1 (decide (a1 > 20)) a0_0 l0_1 l0_2)) else (impl_FillMagazine.j0 k a1 true a0_0 l0_1 l0_2)) = some (r1, r2) := H
    have A5 := Aside0.mk A50
    clear A50
    by_cases c6 : t166 = true
    · subst c6
      have H1 : (if a1 < 0 then (impl_FillMagazine.j0 k a1 true a0_0 l0_1 l0_2) else (impl_FillMagazine.j0 k a1 (decide (a1 > 20)) a0_0 l0_1 l0_2)) = some (r1, r2) := by rw [if_pos rfl] at H; exact H
      clear H
      have H := H1
      clear H1
      by_cases c7 : a1 < 0
      · rw [if_pos c7] at H
        have c7b0 : decide (a1 < 0) = true := decide_eq_true c7
        clear c7
        (first | rw [c7b0] | (simp only [i64_w, i32_w]; rw [c7b0]) | skip)
        have H' := Aside0.mk H
        clear H
        have hcz8_0 : w4.cell? ⟨gb165, 0, none⟩ = some (.string a0_0) := (blk_cell BK165.out 0).trans rfl
        have hcz8_1 : w4.cell? ⟨gb165, 1, none⟩ = some (.slice A0_1 l0_1.length c0_1) := (blk_cell BK165.out 1).trans rfl
        have hcz8_2 : w4.cell? ⟨gb165, 2, none⟩ = some (.slice A0_2 l0_2.length c0_2) := (blk_cell BK165.out 2).trans rfl
        have hfz8_0 := blk_frozen BK165.out 0
        have hfz8_1 := blk_frozen BK165.out 1
        have hfz8_2 := blk_frozen BK165.out 2
        go_wp2_with (first | ((with_reducible refine gate_callee (f := 31) rfl ?_); refine goesL_ (some 10) rfl rfl Try.func31 (by kernel_rfl) rfl #[.agg #[.string a0_0, .slice A0_1 l0_1.length c0_1, .slice A0_2 l0_2.length c0_2]] rfl (by (try simp only [List.map_toArray, List.map_cons, List.map_nil]); first | done | rfl | (simp only [List.length_drop, List.length_take]; rfl)) ?_; (with_reducible refine (impl_FontOk.calls k a0_0 _ _ l0_1 _ _ l0_2 true _ ?side1 ?side2 ?side3 ?side4 A5.out).mono ?_); (case side1 => repeat (first | exact (Kd.C_below HR0_1.out HB.out) | (with_reducible refine Kd.C_alloc ?_ _) | (with_reducible refine Kd.C_drewN ?_ _) | (with_reducible refine Kd.C_drew ?_))); (case side2 => exact HC0_1.out); (case side3 => repeat (first | exact (Kd.C_below HR0_2.out HB.out) | (with_reducible refine Kd.C_alloc ?_ _) | (with_reducible refine Kd.C_drewN ?_ _) | (with_reducible refine Kd.C_drew ?_))); (case side4 => exact HC0_2.out); rintro e w9 ⟨rfl, hb⟩; refine ⟨_, rfl, ?_⟩; have n0_ := Aside0.mk (blk_below (g := gb165) (o := .cells #[.string a0_0, .slice A0_1 l0_1.length c0_1, .slice A0_2 l0_2.length c0_2] 25 (0, 0)) (by (with_reducible repeat (first | refine blk_drewN ?_ _ | refine blk_drew ?_ | refine blk_alloc ?_ _)); exact BK165.out) hb); have n1_ := Aside0.mk (below_step (by repeat (first | (with_reducible first | exact HB.out | apply below_alloc | apply pw_below_drewN | apply below_drew1 | refine below_set ?_ GE165.out) | exact HB.out)) hb); clear BK165; clear HB; have BK165 := n0_; have HB := n1_; clear n0_ n1_; (try clear hb); (try clear hb2); (try clear hk); (try clear hi)))
        go_meet
        case rel => exact ⟨_, (true), (by first | rfl | (simp; done) | (simp [*]; done)), H', ⟨by first | omega | exact Nat.le_refl _⟩, ⟨by (with_reducible repeat (first | refine blk_drewN ?_ _ | refine blk_drew ?_ | refine blk_alloc ?_ _)); exact BK165.out⟩, ⟨by repeat (first | (with_reducible first | exact HB.out | apply below_alloc | apply pw_below_drewN | apply below_drew1 | refine below_set ?_ GE165.out) | exact HB.out)⟩⟩
      · rw [if_neg c7] at H
        have c7b0 : decide (a1 < 0) = false := decide_eq_false c7
        clear c7
        (first | rw [c7b0] | (simp only [i64_w, i32_w]; rw [c7b0]) | skip)
        have H' := Aside0.mk H
        clear H
        have hcz10_0 : w4.cell? ⟨gb165, 0, none⟩ = some (.string a0_0) := (blk_cell BK165.out 0).trans rfl
        have hcz10_1 : w4.cell? ⟨gb165, 1, none⟩ = some (.slice A0_1 l0_1.length c0_1) := (blk_cell BK165.out 1).trans rfl
        have hcz10_2 : w4.cell? ⟨gb165, 2, none⟩ = some (.slice A0_2 l0_2.length c0_2) := (blk_cell BK165.out 2).trans rfl
        have hfz10_0 := blk_frozen BK165.out 0
        have hfz10_1 := blk_frozen BK165.out 1
        have hfz10_2 := blk_frozen BK165.out 2
        go_wp2_with (first | ((with_reducible refine gate_callee (f := 31) rfl ?_); refine goesL_ (some 10) rfl rfl Try.func31 (by kernel_rfl) rfl #[.agg #[.string a0_0, .slice A0_1 l0_1.length c0_1, .slice A0_2 l0_2.length c0_2]] rfl (by (try simp only [List.map_toArray, List.map_cons, List.map_nil]); first | done | rfl | (simp only [List.length_drop, List.length_take]; rfl)) ?_; (with_reducible refine (impl_FontOk.calls k a0_0 _ _ l0_1 _ _ l0_2 true _ ?side1 ?side2 ?side3 ?side4 A5.out).mono ?_); (case side1 => repeat (first | exact (Kd.C_below HR0_1.out HB.out) | (with_reducible refine Kd.C_alloc ?_ _) | (with_reducible refine Kd.C_drewN ?_ _) | (with_reducible refine Kd.C_drew ?_))); (case side2 => exact HC0_1.out); (case side3 => repeat (first | exact (Kd.C_below HR0_2.out HB.out) | (with_reducible refine Kd.C_alloc ?_ _) | (with_reducible refine Kd.C_drewN ?_ _) | (with_reducible refine Kd.C_drew ?_))); (case side4 => exact HC0_2.out); rintro e w11 ⟨rfl, hb⟩; refine ⟨_, rfl, ?_⟩; have n0_ := Aside0.mk (blk_below (g := gb165) (o := .cells #[.string a0_0, .slice A0_1 l0_1.length c0_1, .slice A0_2 l0_2.length c0_2] 25 (0, 0)) (by (with_reducible repeat (first | refine blk_drewN ?_ _ | refine blk_drew ?_ | refine blk_alloc ?_ _)); exact BK165.out) hb); have n1_ := Aside0.mk (below_step (by repeat (first | (with_reducible first | exact HB.out | apply below_alloc | apply pw_below_drewN | apply below_drew1 | refine below_set ?_ GE165.out) | exact HB.out)) hb); clear BK165; clear HB; have BK165 := n0_; have HB := n1_; clear n0_ n1_; (try clear hb); (try clear hb2); (try clear hk); (try clear hi)))
        go_meet
        case rel => exact ⟨_, (decide (a1 > 20)), (by first | rfl | (simp; done) | (simp [*]; done)), H', ⟨by first | omega | exact Nat.le_refl _⟩, ⟨by (with_reducible repeat (first | refine blk_drewN ?_ _ | refine blk_drew ?_ | refine blk_alloc ?_ _)); exact BK165.out⟩, ⟨by repeat (first | (with_reducible first | exact HB.out | apply below_alloc | apply pw_below_drewN | apply below_drew1 | refine below_set ?_ GE165.out) | exact HB.out)⟩⟩
    · replace c6 := Bool.eq_false_iff.mpr c6
      subst c6
      have H1 : (impl_FillMagazine.j0 k a1 true a0_0 l0_1 l0_2) = some (r1, r2) := by rw [if_neg (show ¬ (false = true) by decide)] at H; exact H
      clear H
      have H := H1
      clear H1
      have H' := Aside0.mk H
      clear H
      have hcz12_0 : w4.cell? ⟨gb165, 0, none⟩ = some (.string a0_0) := (blk_cell BK165.out 0).trans rfl
      have hcz12_1 : w4.cell? ⟨gb165, 1, none⟩ = some (.slice A0_1 l0_1.length c0_1) := (blk_cell BK165.out 1).trans rfl
      have hcz12_2 : w4.cell? ⟨gb165, 2, none⟩ = some (.slice A0_2 l0_2.length c0_2) := (blk_cell BK165.out 2).trans rfl
      have hfz12_0 := blk_frozen BK165.out 0
      have hfz12_1 := blk_frozen BK165.out 1
      have hfz12_2 := blk_frozen BK165.out 2
      go_wp2_with (first | ((with_reducible refine gate_callee (f := 31) rfl ?_); refine goesL_ (some 10) rfl rfl Try.func31 (by kernel_rfl) rfl #[.agg #[.string a0_0, .slice A0_1 l0_1.length c0_1, .slice A0_2 l0_2.length c0_2]] rfl (by (try simp only [List.map_toArray, List.map_cons, List.map_nil]); first | done | rfl | (simp only [List.length_drop, List.length_take]; rfl)) ?_; (with_reducible refine (impl_FontOk.calls k a0_0 _ _ l0_1 _ _ l0_2 false _ ?side1 ?side2 ?side3 ?side4 A5.out).mono ?_); (case side1 => repeat (first | exact (Kd.C_below HR0_1.out HB.out) | (with_reducible refine Kd.C_alloc ?_ _) | (with_reducible refine Kd.C_drewN ?_ _) | (with_reducible refine Kd.C_drew ?_))); (case side2 => exact HC0_1.out); (case side3 => repeat (first | exact (Kd.C_below HR0_2.out HB.out) | (with_reducible refine Kd.C_alloc ?_ _) | (with_reducible refine Kd.C_drewN ?_ _) | (with_reducible refine Kd.C_drew ?_))); (case side4 => exact HC0_2.out); rintro e w13 ⟨rfl, hb⟩; refine ⟨_, rfl, ?_⟩; have n0_ := Aside0.mk (blk_below (g := gb165) (o := .cells #[.string a0_0, .slice A0_1 l0_1.length c0_1, .slice A0_2 l0_2.length c0_2] 25 (0, 0)) (by (with_reducible repeat (first | refine blk_drewN ?_ _ | refine blk_drew ?_ | refine blk_alloc ?_ _)); exact BK165.out) hb); have n1_ := Aside0.mk (below_step (by repeat (first | (with_reducible first | exact HB.out | apply below_alloc | apply pw_below_drewN | apply below_drew1 | refine below_set ?_ GE165.out) | exact HB.out)) hb); clear BK165; clear HB; have BK165 := n0_; have HB := n1_; clear n0_ n1_; (try clear hb); (try clear hb2); (try clear hk); (try clear hi)))
      go_meet
      case rel => exact ⟨_, (true), (by first | rfl | (simp; done) | (simp [*]; done)), H', ⟨by first | omega | exact Nat.le_refl _⟩, ⟨by (with_reducible repeat (first | refine blk_drewN ?_ _ | refine blk_drew ?_ | refine blk_alloc ?_ _)); exact BK165.out⟩, ⟨by repeat (first | (with_reducible first | exact HB.out | apply below_alloc | apply pw_below_drewN | apply below_drew1 | refine below_set ?_ GE165.out) | exact HB.out)⟩⟩
  case rest =>
    clear HC3
    try clear p2
    try clear c3
    try clear c5
    try clear c6
    try clear c7
    try clear c7b0
    try clear hcz10_0
    try clear hcz10_1
    try clear hcz10_2
    try clear hcz12_0
    try clear hcz12_1
    try clear hcz12_2
    try clear hcz8_0
    try clear hcz8_1
    try clear hcz8_2
    try clear hfz10_0
    try clear hfz10_1
    try clear hfz10_2
    try clear hfz12_0
    try clear hfz12_1
    try clear hfz12_2
    try clear hfz8_0
    try clear hfz8_1
    try clear hfz8_2
    obtain ⟨kq, x19_2, rfl, HA, HJ2, BK165, HB⟩ := hcut
    cases kq with
    | zero => exact absurd HA.out (by simp [impl_FillMagazine.j0])
    | succ kj2 =>
      have H := HA.out
      clear HA
      simp only [impl_FillMagazine.j0] at H
      by_cases c14 : x19_2 = true
      · subst c14
        have H1 : (some (([] : List (List (S30))), false)) = some (r1, r2) := by rw [if_pos rfl] at H; exact H
        clear H
        have H := H1
        clear H1
        simp only [Option.some.injEq, Prod.mk.injEq] at H
        obtain ⟨rfl, rfl⟩ := H
        go_wp2
        go_ret2
        exact ⟨_, by first | rfl | (simp only [i64_w, i32_w]; rfl) | (simp only [i64_w, i32_w, wrap64_zero, Int.sub_zero, Int.add_zero, Int.mul_zero, Int.zero_mul]; rfl) | (simp [errW_none, errW_some] <;> rfl) | (simp [*, errW_none, errW_some] <;> rfl), by first | exact Kd.S_nil _ _ _ _ _ | exact Kd.N_nil _ _ _ _ _ | exact Kd.V_nil _ _ _ _ _ | exact Kd.Q_nil _ _ _ _ _ | exact Kd.R_nil _ _ _ _ _, by repeat (first | (with_reducible first | exact HB.out | apply below_alloc | apply pw_below_drewN | apply below_drew1 | refine below_set ?_ GE165.out) | exact HB.out)⟩
      · replace c14 := Bool.eq_false_iff.mpr c14
        subst c14
        have H1 : (impl_FillMagazine.l0 kj2 a1 (([] : List (List (S30)))) l0_2 (l0_2.length : Int) 0) = some (r1, r2) := by rw [if_neg (show ¬ (false = true) by decide)] at H; exact H
        clear H
        have H := H1
        clear H1
        obtain ⟨y167, hy167⟩ : ∃ y_ : List (List (S30)), y_ = (([] : List (List (S30)))) := ⟨_, rfl⟩
        replace H : (impl_FillMagazine.l0 kj2 a1 y167 l0_2 (l0_2.length : Int) 0) = some (r1, r2) := by first | (rw [hy167]; with_reducible exact H) | (have H2_ := (Option.bind_some _ _).symm.trans H; rw [hy167]; with_reducible exact H2_) | (have H2_ := (Option.bind_some _ _).symm.trans H; with_reducible exact H2_) | with_reducible exact H | (rw [hy167]; exact H) | exact H
        have Ny167 := Aside0.mk hy167
        clear hy167
        have H' := Aside0.mk H
        clear H
        go_wp2_with (first | ((with_reducible refine gate_dst (N := 20) rfl ?_); refine Kd.S_lit (Kd.slice 30 k30) _ 34 ?hg (N := 20) ?hd (xs := ([] : List (List (S30)))) (inner := []) (ok := fun _ => True) (okp := fun _ => True) ?hr ?hp (fun _ hk => hk) trivial (Below.refl _ _) (Nat.le_refl _) (by simp) ?_; (case hd => rfl); (case hg => rfl); (case hr => first | (go_simp; done) | (go_simp; rfl)); (case hp => exact (Reps.none _ _)); intro v168 w15 ho16 hb hg_ hnew_; clear hg_ hnew_; (first | rw [← Ny167.out] at ho16 | (simp only [Int.reduceToNat] at ho16; rw [← Ny167.out] at ho16)); have n0_ := Aside0.mk (Kd.S_lower ho16 (below_size (by repeat (first | (with_reducible first | exact HB.out | apply below_alloc | apply pw_below_drewN | apply below_drew1 | refine below_set ?_ GE165.out) | exact HB.out)))); have n1_ := Aside0.mk (blk_below (g := gb165) (o := .cells #[.string a0_0, .slice A0_1 l0_1.length c0_1, .slice A0_2 l0_2.length c0_2] 25 (0, 0)) (by (with_reducible repeat (first | refine blk_drewN ?_ _ | refine blk_drew ?_ | refine blk_alloc ?_ _)); exact BK165.out) hb); have n2_ := Aside0.mk (below_step (by repeat (first | (with_reducible first | exact HB.out | apply below_alloc | apply pw_below_drewN | apply below_drew1 | refine below_set ?_ GE165.out) | exact HB.out)) hb); clear BK165; clear HB; have HO169 := n0_; have BK165 := n1_; have HB := n2_; clear n0_ n1_ n2_; clear hb ho16; have hcz17_0 : w15.cell? ⟨gb165, 0, none⟩ = some (.string a0_0) := (blk_cell BK165.out 0).trans rfl; have hcz17_1 : w15.cell? ⟨gb165, 1, none⟩ = some (.slice A0_1 l0_1.length c0_1) := (blk_cell BK165.out 1).trans rfl; have hcz17_2 : w15.cell? ⟨gb165, 2, none⟩ = some (.slice A0_2 l0_2.length c0_2) := (blk_cell BK165.out 2).trans rfl; have hfz17_0 := blk_frozen BK165.out 0; have hfz17_1 := blk_frozen BK165.out 1; have hfz17_2 := blk_frozen BK165.out 2))
        go_loopg [6, 24] kj2 (fun kq v6 v24 w' => ∃ (x6_2 : List (List (S30))) (x24_2 : Int), v24 = .int .i64 x24_2 ∧ Aside0 (impl_FillMagazine.l0 kq a1 x6_2 l0_2 (l0_2.length : Int) x24_2 = some (r1, r2)) ∧ Aside0 (kq ≤ kj2) ∧ Aside0 (Kd.S (Kd.slice 30 k30) 34 w' w.heap.size (fun _ => True) v6 x6_2) ∧ Aside0 (w'.heap[gb165]? = some (.cells #[.string a0_0, (.slice A0_1 l0_1.length c0_1), (.slice A0_2 l0_2.length c0_2)] 25 (0, 0))) ∧ Aside0 (Below w.heap.size w w'))
        case atStart => exact ⟨(y167), (0), (by first | rfl | (simp; done) | (simp [*]; done)), H', ⟨Nat.le_refl _⟩, ⟨by (with_reducible repeat (first | apply Kd.S_alloc | apply Kd.S_drewN | apply Kd.S_drew)); exact HO169.out⟩, ⟨by (with_reducible repeat (first | refine blk_drewN ?_ _ | refine blk_drew ?_ | refine blk_alloc ?_ _)); exact BK165.out⟩, ⟨by repeat (first | (with_reducible first | exact HB.out | apply below_alloc | apply pw_below_drewN | apply below_drew1 | refine below_set ?_ GE165.out) | exact HB.out)⟩⟩
        case round =>
          clear H'
          try clear c1
          try clear p2
          try clear c3
          try clear c5
          try clear c6
          try clear p6
          try clear c7
          try clear c7b0
          try clear c14
          try clear hcz10_0
          try clear hcz10_1
          try clear hcz10_2
          try clear hcz12_0
          try clear hcz12_1
          try clear hcz12_2
          try clear hcz17_0
          try clear hcz17_1
          try clear hcz17_2
          try clear hcz8_0
          try clear hcz8_1
          try clear hcz8_2
          try clear hfz10_0
          try clear hfz10_1
          try clear hfz10_2
          try clear hfz12_0
          try clear hfz12_1
          try clear hfz12_2
          try clear hfz17_0
          try clear hfz17_1
          try clear hfz17_2
          try clear hfz8_0
          try clear hfz8_1
          try clear hfz8_2
          try clear p2
          obtain ⟨x6_2, x24_2, rfl, HA, HK2, HO_6, BK165, HB⟩ := hrel
          cases gk with
          | zero => exact absurd HA.out (by simp [impl_FillMagazine.l0])
          | succ k2 =>
            have H := HA.out
            clear HA
            simp only [impl_FillMagazine.l0] at H
            by_cases c18 : x24_2 < (l0_2.length : Int)
            · rw [if_pos c18] at H
              have c18b0 : decide (x24_2 < (l0_2.length : Int)) = true := decide_eq_true c18
              clear c18
              by_cases c19 : 0 ≤ x24_2
              · rw [if_pos c19] at H
                have c19b0 : decide (0 ≤ x24_2) = true := decide_eq_true c19
                clear c19
                by_cases c20 : x24_2 < (l0_2.length : Int)
                · rw [if_pos c20] at H
                  have c20b0 : decide (x24_2 < (l0_2.length : Int)) = true := decide_eq_true c20
                  clear c20
                  obtain ⟨y171, hy171⟩ : ∃ y_ : List (S30), y_ = (([(⟨x24_2, rd l0_2 x24_2⟩ : S30)] : List (S30))) := ⟨_, rfl⟩
                  replace H : ((impl_Matrix.f y171 a1).bind fun t174 => (if x6_2.length < 5864062014805 then (impl_FillMagazine.l0 k2 a1 (x6_2 ++ [t174]) l0_2 (l0_2.length : Int) (wrap64 (x24_2 + 1))) else (none))) = some (r1, r2) := by first | (rw [hy171]; with_reducible exact H) | (have H2_ := (Option.bind_some _ _).symm.trans H; rw [hy171]; with_reducible exact H2_) | (have H2_ := (Option.bind_some _ _).symm.trans H; with_reducible exact H2_) | with_reducible exact H | (rw [hy171]; exact H) | exact H
                  have Ny171 := Aside0.mk hy171
                  clear hy171
                  replace H := Option.bind_eq_some_iff.mp H
                  obtain ⟨t174, A210, H⟩ := H
                  replace H : (if x6_2.length < 5864062014805 then (impl_FillMagazine.l0 k2 a1 (x6_2 ++ [t174]) l0_2 (l0_2.length : Int) (wrap64 (x24_2 + 1))) else (none)) = some (r1, r2) := H
                  have A21 := Aside0.mk A210
                  clear A210
                  by_cases c22 : x6_2.length < 5864062014805
                  · rw [if_pos c22] at H
                    have LMc22 := Aside0.mk c22
                    clear c22
                    obtain ⟨y177, hy177⟩ : ∃ y_ : List (List (S30)), y_ = (x6_2 ++ [t174]) := ⟨_, rfl⟩
                    replace H : (impl_FillMagazine.l0 k2 a1 y177 l0_2 (l0_2.length : Int) (wrap64 (x24_2 + 1))) = some (r1, r2) := by first | (rw [hy177]; with_reducible exact H) | (have H2_ := (Option.bind_some _ _).symm.trans H; rw [hy177]; with_reducible exact H2_) | (have H2_ := (Option.bind_some _ _).symm.trans H; with_reducible exact H2_) | with_reducible exact H | (rw [hy177]; exact H) | exact H
                    have Ny177 := Aside0.mk hy177
                    clear hy177
                    have H' := Aside0.mk H
                    clear H
                    have p170 : 0 ≤ (x24_2 : Int) := of_decide_eq_true (by first | (with_reducible assumption) | assumption)
                    have q170 : x24_2 < (l0_2.length : Int) := of_decide_eq_true (by first | (with_reducible assumption) | assumption)
                    obtain ⟨ad170, e170, hx170_0⟩ := Kd.at_int HR0_2.out x24_2 p170 q170
                    cases e170
                    replace hx170_0 := (HB.out.cell (World.block_lt_of_cell? w _ hx170_0)).trans hx170_0
                    replace p170 := eq_true p170
                    replace q170 := eq_true q170
                    go_wp2_with (first | ((with_reducible refine gate_dst (N := 33) rfl ?_); refine Kd.R_lit k30 _ 30 ?hg (N := 33) ?hd (xs := ([(⟨x24_2, rd l0_2 x24_2⟩ : S30)] : List (S30))) (inner := [.int .i64 x24_2, .int .i64 (rd l0_2 x24_2)]) (ok := fun _ => True) (okp := fun _ => True) ?hr ?hp (fun _ hk => hk) trivial (Below.refl _ _) (Nat.le_refl _) (by simp) ?_; (case hd => rfl); (case hg => rfl); (case hr => first | (go_simp; done) | (go_simp; rfl)); (case hp => exact (Reps.c2 (show Kd.M k30 _ _ _ (⟨x24_2, rd l0_2 x24_2⟩ : S30) [.int .i64 x24_2, .int .i64 (rd l0_2 x24_2)] from (k30_mkM _ _ _ (⟨x24_2, rd l0_2 x24_2⟩ : S30) )) (Reps.none _ _))); intro v172 w23 ho24 hb hg_ hnew_; clear hg_ hnew_; (first | rw [← Ny171.out] at ho24 | (simp only [Int.reduceToNat] at ho24; rw [← Ny171.out] at ho24)); have n0_ := Aside0.mk (Kd.S_elder' (by (with_reducible repeat (first | apply Kd.S_alloc | apply Kd.S_drewN | apply Kd.S_drew)); exact HO_6.out) (Kd.R_base ho24) hb); have n1_ := Aside0.mk (Kd.R_lower ho24 (below_size (by repeat (first | (with_reducible first | exact HB.out | apply below_alloc | apply pw_below_drewN | apply below_drew1 | refine below_set ?_ GE165.out) | exact HB.out)))); have n2_ := Aside0.mk (blk_below (g := gb165) (o := .cells #[.string a0_0, .slice A0_1 l0_1.length c0_1, .slice (some ad170) l0_2.length c0_2] 25 (0, 0)) (by (with_reducible repeat (first | refine blk_drewN ?_ _ | refine blk_drew ?_ | refine blk_alloc ?_ _)); exact BK165.out) hb); have n3_ := Aside0.mk (below_step (by repeat (first | (with_reducible first | exact HB.out | apply below_alloc | apply pw_below_drewN | apply below_drew1 | refine below_set ?_ GE165.out) | exact HB.out)) hb); clear HO_6; clear BK165; clear HB; have HO_6 := n0_; have HO173 := n1_; have BK165 := n2_; have HB := n3_; clear n0_ n1_ n2_ n3_; clear hb ho24; obtain ⟨Ao25, co25, eo25⟩ := Kd.R_slice HO173.out; subst eo25) | ((with_reducible refine gate_callee (f := 91) rfl ?_); refine goesL_ (some 35) rfl rfl Try.func91 (by kernel_rfl) rfl #[.slice Ao25 y171.length co25, .int .i64 a1] rfl (by (try simp only [List.map_toArray, List.map_cons, List.map_nil]); first | done | rfl | (simp only [List.length_drop, List.length_take]; rfl)) ?_; (with_reducible refine (impl_Matrix.calls _ _ y171 a1 t174 _ ?side1 ?side2 A21.out).mono ?_); (case side1 => repeat (first | exact (Kd.R_reads' HO173.out).2.2 | (with_reducible refine Kd.C_alloc ?_ _) | (with_reducible refine Kd.C_drewN ?_ _) | (with_reducible refine Kd.C_drew ?_))); (case side2 => exact (Kd.R_reads' HO173.out).2.1); rintro e w26 ⟨v175, rfl, ho0, hb⟩; refine ⟨_, rfl, ?_⟩; have n0_ := Aside0.mk (Kd.S_elder' (by (with_reducible repeat (first | apply Kd.S_alloc | apply Kd.S_drewN | apply Kd.S_drew)); exact HO_6.out) (Kd.R_base ho0) hb); have n1_ := Aside0.mk (Kd.R_elder' (by (with_reducible repeat (first | apply Kd.R_alloc | apply Kd.R_drewN | apply Kd.R_drew)); exact HO173.out) (Kd.R_base ho0) hb); have n2_ := Aside0.mk (Kd.R_lower (Kd.R_new' ho0 (Kd.R_lt (by (with_reducible repeat (first | apply Kd.R_alloc | apply Kd.R_drewN | apply Kd.R_drew)); exact HO173.out))) (below_size (by repeat (first | (with_reducible first | exact HB.out | apply below_alloc | apply pw_below_drewN | apply below_drew1 | refine below_set ?_ GE165.out) | exact HB.out)))); have n3_ := Aside0.mk (blk_below (g := gb165) (o := .cells #[.string a0_0, .slice A0_1 l0_1.length c0_1, .slice (some ad170) l0_2.length c0_2] 25 (0, 0)) (by (with_reducible repeat (first | refine blk_drewN ?_ _ | refine blk_drew ?_ | refine blk_alloc ?_ _)); exact BK165.out) hb); have n4_ := Aside0.mk (below_step (by repeat (first | (with_reducible first | exact HB.out | apply below_alloc | apply pw_below_drewN | apply below_drew1 | refine below_set ?_ GE165.out) | exact HB.out)) hb); clear HO_6; clear HO173; clear BK165; clear HB; have HO_6 := n0_; have HO173 := n1_; have HO176 := n2_; have BK165 := n3_; have HB := n4_; clear n0_ n1_ n2_ n3_ n4_; (try clear hb); (try clear hb2); (try clear hk); (try clear hi); (try clear ho0); obtain ⟨Ao28, co28, eo28⟩ := Kd.R_slice HO176.out; subst eo28) | ((with_reducible refine gate_builtin (b := .append) (xs := #[.tmp 29, .tmp 36]) rfl ?_); at_builtin; refine Kd.S_append (Kd.slice 30 k30) (w0 := w) w.heap.size rfl (.tmp 29) (.tmp 36) 26 34 (.slice none 0 0) 24 rfl Try.underlying26 info34 rfl (by decide) (by omega) u6 x6_2 t174 [.slice Ao28 t174.length co28] (fun k_ => some k_ ≠ (.slice Ao25 y171.length co25 : Value).ownBlock) (fun k_ => some k_ = (.slice Ao28 t174.length co28 : Value).ownBlock) rfl rfl ?aP (fun k_ hk_ => ((Kd.R_mono (ok' := fun k_ => ((fun k_ => some k_ ≠ (.slice Ao25 y171.length co25 : Value).ownBlock)) k_ ∧ some k_ ≠ (u6 : Value).ownBlock) (Kd.R_apart' (HO176.out) (Kd.S_typed HO_6.out) (by decide)) (fun k_ hk => ⟨hk.1.2, hk.2⟩))).1 k_ hk_.symm) ?aF ?aO ?aB ?aS ?aL ?_; (case aP => exact Kd.M_row (Kd.R_mono (Kd.R_tight rfl (Kd.R_mono (ok' := fun k_ => ((fun k_ => some k_ ≠ (.slice Ao25 y171.length co25 : Value).ownBlock)) k_ ∧ some k_ ≠ (u6 : Value).ownBlock) (Kd.R_apart' (HO176.out) (Kd.S_typed HO_6.out) (by decide)) (fun k_ hk => ⟨hk.1.2, hk.2⟩))) (fun _ h_ => h_))); (case aB => exact (by repeat (first | (with_reducible first | exact HB.out | apply below_alloc | apply pw_below_drewN | apply below_drew1 | refine below_set ?_ GE165.out) | exact HB.out))); (case aF => exact (fun k_ hk => Kd.fresh' (Kd.R_lt (by (with_reducible repeat (first | apply Kd.R_alloc | apply Kd.R_drewN | apply Kd.R_drew)); exact HO173.out)) k_ hk)); (case aO => exact (by (with_reducible repeat (first | apply Kd.S_alloc | apply Kd.S_drewN | apply Kd.S_drew)); exact Kd.S_mono HO_6.out (fun k_ hk => ⟨hk.1.2, fun e_ => hk.2 e_⟩))); (case aS => exact (below_size (by repeat (first | (with_reducible first | exact HB.out | apply below_alloc | apply pw_below_drewN | apply below_drew1 | refine below_set ?_ GE165.out) | exact HB.out)))); (case aL => have := LMc22.out; omega); intro v178 w27 ho hb hg hat; rw [← Ny177.out] at ho; have n0_ := Aside0.mk (blk_grown (g := gb165) (o := .cells #[.string a0_0, .slice A0_1 l0_1.length c0_1, .slice (some ad170) l0_2.length c0_2] 25 (0, 0)) (by (with_reducible repeat (first | refine blk_drewN ?_ _ | refine blk_drew ?_ | refine blk_alloc ?_ _)); exact BK165.out) hg (Kd.S_ne HO_6.out BK165.out (by decide))); have n1_ := Aside0.mk (Kd.R_over' (by (with_reducible repeat (first | apply Kd.R_alloc | apply Kd.R_drewN | apply Kd.R_drew)); exact HO173.out) (Kd.S_typed (by (with_reducible repeat (first | apply Kd.S_alloc | apply Kd.S_drewN | apply Kd.S_drew)); exact HO_6.out)) (by decide) hg); have n2_ := Aside0.mk (hb); have n3_ := Aside0.mk (ho); clear BK165; clear HO173; clear HB; clear HO_6; clear HO176; have BK165 := n0_; have HO173 := n1_; have HB := n2_; have HO179 := n3_; clear n0_ n1_ n2_ n3_; clear ho hb hg hat))
                    go_roundg k2
                    case measure => have := HJ2.out; have := HK2.out; omega
                    case rel => exact ⟨(y177), (wrap64 (x24_2 + 1)), (by first | rfl | (simp; done) | (simp [*]; done)), H', ⟨by have := HJ2.out; have := HK2.out; omega⟩, ⟨by (with_reducible repeat (first | apply Kd.S_alloc | apply Kd.S_drewN | apply Kd.S_drew)); exact Kd.S_mono HO179.out (fun _ hk => trivial)⟩, ⟨by (with_reducible repeat (first | refine blk_drewN ?_ _ | refine blk_drew ?_ | refine blk_alloc ?_ _)); exact BK165.out⟩, ⟨by repeat (first | (with_reducible first | exact HB.out | apply below_alloc | apply pw_below_drewN | apply below_drew1 | refine below_set ?_ GE165.out) | exact HB.out)⟩⟩
                  · rw [if_neg c22] at H
                    exact absurd H (by simp)
                · rw [if_neg c20] at H
                  exact absurd H (by simp)
              · rw [if_neg c19] at H
                exact absurd H (by simp)
            · rw [if_neg c18] at H
              have c18b0 : decide (x24_2 < (l0_2.length : Int)) = false := decide_eq_false c18
              clear c18
              simp only [Option.some.injEq, Prod.mk.injEq] at H
              obtain ⟨rfl, rfl⟩ := H
              go_wp2
              go_ret2
              exact ⟨_, by first | rfl | (simp only [i64_w, i32_w]; rfl) | (simp only [i64_w, i32_w, wrap64_zero, Int.sub_zero, Int.add_zero, Int.mul_zero, Int.zero_mul]; rfl) | (simp [errW_none, errW_some] <;> rfl) | (simp [*, errW_none, errW_some] <;> rfl), by (with_reducible repeat (first | apply Kd.S_alloc | apply Kd.S_drewN | apply Kd.S_drew)); exact HO_6.out, by repeat (first | (with_reducible first | exact HB.out | apply below_alloc | apply pw_below_drewN | apply below_drew1 | refine below_set ?_ GE165.out) | exact HB.out)⟩

end Go.Proofs.Ytilbngklgjjblaa.Q
