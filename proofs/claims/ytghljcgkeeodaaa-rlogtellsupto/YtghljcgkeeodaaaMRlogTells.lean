import Derived.Test.YtghljcgkeeodaaaKTells7
set_option linter.all false
set_option linter.unusedVariables false
set_option linter.unusedSimpArgs false
set_option maxRecDepth 10000
set_option maxHeartbeats 1000000
namespace Go.Proofs.Ytghljcgkeeodaaa.Abs
open Go.Abs
attribute [local congr] ite_congr
theorem refFrom_is (i : Nat) (most : Int) : ∀ (r acc : List Ent), refFrom i most acc r = acc ++ (r.filter fun e => decide (i ≤ e.i)).take (most - acc.length).toNat := by
  intro r
  induction r with
  | nil => intro acc; simp [refFrom]
  | cons e r ih =>
    intro acc
    simp only [refFrom]
    rw [ih]
    by_cases h1 : i ≤ e.i
    · rw [List.filter_cons_of_pos (by simpa using h1)]
      by_cases h2 : (acc.length : Int) < most
      · rw [if_pos ⟨h1, h2⟩]
        have h3 : (most - acc.length).toNat = (most - (acc ++ [e]).length).toNat + 1 := by simp; omega
        rw [h3, List.take_succ_cons]; simp
      · rw [if_neg (fun q => h2 q.2)]
        have h3 : (most - acc.length).toNat = 0 := by omega
        rw [h3]; simp
    · rw [if_neg (fun q => h1 q.1), List.filter_cons_of_neg (by simpa using h1)]
theorem fine_filter2 : ∀ (es : List Ent) (n u k : Nat), fineGo n u es = true → (es.filter fun x => decide (n + 1 + k ≤ x.i)) = es.drop k := by
  intro es
  induction es with
  | nil => intro n u k _; simp
  | cons x r ih =>
    intro n u k h
    obtain ⟨h1, h2, _, _⟩ := fineGo_nth _ _ _ h x r rfl
    cases k with
    | zero =>
      rw [List.drop_zero, List.filter_eq_self]
      intro e he
      have := fine_mem _ _ _ h e he
      simp; omega
    | succ k =>
      have := ih (n + 1) x.t k h2
      rw [List.filter_cons_of_neg (by simp; omega), List.drop_succ_cons, show n + 1 + (k + 1) = n + 1 + 1 + k by omega, this]
theorem fine_lo (es : List Ent) (n u i : Nat) (h : fineGo n u es = true) (hi : i ≤ n + 1) : (es.filter fun x => decide (i ≤ x.i)) = es := by
  rw [List.filter_eq_self]
  intro e he
  have := fine_mem _ _ _ h e he
  simp; omega
theorem from_same (l : Lg) (hok : logOk l = true) (i : Nat) (most : Int) : refFrom i most [] l.es = fromOf l i most := by
  have hf : fineGo l.b l.t l.es = true := by simp [logOk] at hok; exact hok.2.2
  rw [refFrom_is]
  unfold fromOf behindN
  simp only [List.nil_append, List.length_nil]
  have h0 : (most - ((0 : Nat) : Int)).toNat = most.toNat := by omega
  rw [h0]
  by_cases h1 : i ≤ l.b + 1
  · rw [fine_lo _ _ _ _ hf h1]
    have : min (max (i - 1) l.b - l.b) l.es.length = 0 := by omega
    rw [this]; rfl
  · have := fine_filter2 l.es l.b l.t (i - l.b - 1) hf
    rw [show l.b + 1 + (i - l.b - 1) = i by omega] at this
    rw [this]
    by_cases h2 : i - l.b - 1 ≤ l.es.length
    · have : min (max (i - 1) l.b - l.b) l.es.length = i - l.b - 1 := by omega
      rw [this]
    · have : min (max (i - 1) l.b - l.b) l.es.length = l.es.length := by omega
      rw [this, List.drop_of_length_le (by omega), List.drop_of_length_le (by omega)]
theorem cut_same (l : Lg) (hok : logOk l = true) (i : Nat) : refCut l i = cutOf l i := by
  have hf : fineGo l.b l.t l.es = true := by simp [logOk] at hok; exact hok.2.2
  unfold refCut cutOf
  rw [refTerm_is l hok]
  by_cases h1 : (termOf l i).2 = true
  · rw [if_pos h1, if_pos h1]
    have hb : l.b ≤ i := by
      rcases Nat.lt_or_ge i l.b with q | q
      · rw [term_lo l i q] at h1; cases h1
      · exact q
    rw [term_is l i hb] at h1
    have hle : i ≤ l.b + l.es.length := by simpa using h1
    have := fine_filter2 l.es l.b l.t (i - l.b) hf
    rw [show l.b + 1 + (i - l.b) = i + 1 by omega] at this
    have e1 : (l.es.filter fun e => decide (i < e.i)) = l.es.drop (i - l.b) := this
    have e2 : behindN l i = i - l.b := by unfold behindN; omega
    rw [e1, e2]
  · rw [if_neg h1, if_neg h1]
theorem add_same (l : Lg) (hok : logOk l = true) (k : Nat) (d : List UInt8) : refAdd l k d = addOf l k d := by
  have hf : fineGo l.b l.t l.es = true := by simp [logOk] at hok; exact hok.2.2
  unfold refAdd addOf
  rw [refLast_is l hf]
theorem tells_eq (b t : Nat) (nl : Bool) (sz : Nat) (es : List Ent) (rm : Bool) (I T : Nat) (most : Int) (n3 : Bool) (ys : List Int) (r3 : Bool)
    (hsz : sz = 3 ∨ es.length = 0) (hnl : nl = true → es.length = 0) (hb : b + es.length < 10000) (hI : I < 18446744073709551616) (hok : logOk ⟨b, t, es⟩ = true) (h : AH) :
    pureK h (call cfg 27 [.agg [.int .u64 b, .int .u64 t, .slice nl sz (es.map aE) (rmB rm)], .agg [.int .u64 I, .int .u64 T, .int .i64 most, .slice n3 1 (ys.map aI) (rmB r3)]] ⟨[], []⟩) = some (.bool true, h) := by
  have hf : fineGo b t es = true := by simp [logOk] at hok; exact hok.2.2
  have hI2 : lastI ⟨b, t, es⟩ = ((b + es.length : Nat) : Int) := by
    unfold lastI
    split
    · rename_i h; simp at h; subst h; simp
    · rw [wrapU64] <;> push_cast <;> omega
  have hrl : refLastI ⟨b, t, es⟩ = b + es.length := refLast_is _ hf
  have e1 := fun h => last_eq b t nl sz es rm hsz (by omega) h
  have e2 := fun h => refLast_eq b t nl sz es rm hsz (by omega) h
  have e3 := fun h => term_eq b t nl sz es rm I hsz (by omega) (by omega) hI h
  have e4 := fun h => refTerm_eq b t nl sz es rm I hsz (by omega) h
  obtain ⟨fn, fz, fc, f1, f2, e5⟩ := from_eq b t nl sz es rm I most hsz hnl (by omega) hI (by omega)
  have e6 := fun h => refFrom_eq b t nl sz es rm I most hsz (by omega) h
  obtain ⟨an, az, ac, a1, a2, e7⟩ := add_eq b t nl sz es rm T [100] hsz hnl (by omega) (by omega)
  obtain ⟨bn, bz, bc, b1, e8⟩ := refAdd_eq b t nl sz es rm T [100] hsz (by omega) (by omega)
  obtain ⟨cn, cz, cc, c1, c2, e9⟩ := cut_eq b t nl sz es rm I hsz hnl (by omega) hI (by omega)
  obtain ⟨dn, dz, dc, d1, e10⟩ := refCut_eq b t nl sz es rm I hsz (by omega)
  have e11 := fun h => check_eq b t nl sz es rm hsz (by omega) h
  have e12 := fun h => newer_eq b t nl sz es rm I T hsz (by omega) h
  have e13 := fun h => refNewer_eq b t nl sz es rm I T hsz (by omega) h
  have l1 : (fromOf ⟨b, t, es⟩ I most).length ≤ es.length := by unfold fromOf; simp; omega
  have l2 : (addOf ⟨b, t, es⟩ T [100]).es.length ≤ es.length + 1 := by unfold addOf; split <;> simp
  have l3 : (cutOf ⟨b, t, es⟩ I).1.es.length ≤ es.length := by unfold cutOf; split <;> simp
  have s6 := from_same ⟨b, t, es⟩ hok I most
  dsimp only at s6
  rw [s6] at e6
  rw [add_same _ hok] at e8 b1
  rw [cut_same _ hok] at e10 d1
  rw [refTerm_is _ hok] at e4
  rw [hok] at e11
  rw [hI2] at e1 e12
  rw [hrl] at e2 e13
  have hnw : decide (T > lastT ⟨b, t, es⟩ ∨ T = lastT ⟨b, t, es⟩ ∧ (I : Int) ≥ ((b + es.length : Nat) : Int)) = decide (T > lastT ⟨b, t, es⟩ ∨ T = lastT ⟨b, t, es⟩ ∧ I ≥ b + es.length) := by
    apply decide_eq_decide.2
    constructor <;> rintro (q | ⟨q1, q2⟩)
    · exact .inl q
    · exact .inr ⟨q1, by omega⟩
    · exact .inl q
    · exact .inr ⟨q1, by omega⟩
  rw [hnw] at e12
  generalize decide (T > lastT ⟨b, t, es⟩ ∨ T = lastT ⟨b, t, es⟩ ∧ I ≥ b + es.length) = nw at e12 e13
  have s1 := fun h => se_eq (fromOf ⟨b, t, es⟩ I most) (fromOf ⟨b, t, es⟩ I most) fn fz fc (fromOf ⟨b, t, es⟩ I most).isEmpty (szB 3 (fromOf ⟨b, t, es⟩ I most).isEmpty) (fromOf ⟨b, t, es⟩ I most).isEmpty f1 (szB_or 3 _) (by omega) (by omega) h
  generalize fromOf ⟨b, t, es⟩ I most = F at *
  generalize addOf ⟨b, t, es⟩ T [100] = A at *
  generalize cutOf ⟨b, t, es⟩ I = CC at *
  obtain ⟨X, ok⟩ := CC
  dsimp only at *
  have s2 := fun h => refSame_eq A.b A.t A.b A.t A.es A.es an az ac bn bz bc a1 b1 (by omega) (by omega) h
  have s3 := fun h => refSame_eq X.b X.t X.b X.t X.es X.es cn cz cc dn dz dc c1 d1 (by omega) (by omega) h
  generalize termOf ⟨b, t, es⟩ I = rt at *
  push_cast at e1 e2
  rw [cf_27 _ _ (by simp)]
  simp (maxSteps := 1000000) (disch := first | omega | (simp only [List.length_map, List.length_append, List.length_cons, List.length_nil]; omega) | (simp only [List.length_map, List.length_append, List.length_cons, List.length_nil]; done) | fail) [-List.map_take, -List.map_drop, ic27, go_sem, e1, e2, e3, e4, e5, e6, e7, e8, e9, e10, e11, e12, e13, s1, s2, s3]
theorem sh_log {n : Nat} {x : AV} (h : ShE (aggOf (lookT tab) 31) (Sh (lookT tab) (n + 4) 31) x) : ∃ (b t : Nat) (nl : Bool) (l : List Ent), x = .agg [.int .u64 b, .int .u64 t, .slice nl 3 (l.map aE) (rmB false)] ∧ b < 18446744073709551616 ∧ t < 18446744073709551616 := by
  obtain ⟨cs, rfl, h1⟩ := she_agg h
  obtain ⟨_, _, rfl, h2, _, _, rfl, h3, _, _, rfl, h4, rfl⟩ := sh_struct ty_31 h1
  obtain ⟨b, rfl, hb⟩ := sh_u64 ty_23 h2
  obtain ⟨t, rfl, ht⟩ := sh_u64 ty_23 h3
  obtain ⟨nl, es, rfl, _, h6⟩ := sh_slice ty_26 ty_41 h4
  obtain ⟨l, rfl, _⟩ := list_of (f := aE) (q := fun _ => True) (fun y hy => by
    obtain ⟨cs, rfl, k1⟩ := she_agg (h6 y hy)
    obtain ⟨_, _, rfl, k2, _, _, rfl, k3, _, _, rfl, k4, rfl⟩ := sh_struct ty_41 k1
    obtain ⟨i, rfl, hi⟩ := sh_u64 ty_23 k2
    obtain ⟨t, rfl, ht⟩ := sh_u64 ty_23 k3
    obtain ⟨d, rfl⟩ := sh_str ty_9 k4
    exact ⟨⟨i, t, d⟩, rfl, trivial⟩)
  exact ⟨b, t, nl, l, rfl, hb, ht⟩
theorem RlogTells_main (xs : List AV) (hs : ShL (lookT tab) 8 [22, 31, 25] xs) (hb : bulkL xs ≤ 1048576) : ∃ h', call cfg 8 xs AH.empty = some (.bool true, h') := by
  obtain ⟨x1, _, rfl, s1, x2, _, rfl, s2, x3, _, rfl, s3, rfl⟩ := hs
  obtain ⟨n1, l1, rfl, _⟩ := sh_ints s1
  obtain ⟨rb, rt, n4, raw, rfl, _, _⟩ := sh_log s2
  obtain ⟨I0, T0, most, n3, ys, rfl, hI0, _⟩ := sh_ask s3
  refine pureK_bool (h := ⟨[], []⟩) (h1 := ⟨[], []⟩) ?_
  obtain ⟨m1, z1, c1, k1, k1', e1⟩ := made_eq l1 n1 false most
  obtain ⟨p1, p2, _, _⟩ := made_small l1 most
  have hok := made_ok l1 most
  obtain ⟨I, T, hI, hT, en⟩ := near_eq I0 T0 most n3 ys false
  generalize madeL l1 most = L at *
  obtain ⟨b, t, es⟩ := L
  dsimp only at *
  have et1 := fun h => tells_eq b t m1 z1 es c1 I0 T0 most n3 ys false k1 k1' (by omega) hI0 hok h
  have et2 := fun h => tells_eq b t m1 z1 es c1 I T most n3 ys false k1 k1' (by omega) (by omega) hok h
  have key : ∀ ra : List Ent, ra.length ≤ 9 → (∀ h, pureK h (call cfg 16 [.agg [.int .u64 rb, .int .u64 rt, .slice n4 3 (ra.map aE) (rmB false)]] ⟨[], []⟩) = some (.bool (logOk ⟨rb, rt, ra⟩), h)) ∧
      (∀ h, pureK h (call cfg 26 [.agg [.int .u64 rb, .int .u64 rt, .slice n4 3 (ra.map aE) (rmB false)]] ⟨[], []⟩) = some (.bool (logOk ⟨rb, rt, ra⟩), h)) ∧
      (∀ h, pureK h (call cfg 23 [.agg [.int .u64 rb, .int .u64 rt, .slice n4 3 (ra.map aE) (rmB false)], .agg [.int .u64 b, .int .u64 t, .slice m1 z1 (es.map aE) (rmB c1)]] ⟨[], []⟩) = some (.bool (decide (rb = b ∧ rt = t ∧ ra = es)), h)) ∧
      (∀ h, pureK h (call cfg 17 [.agg [.int .u64 rb, .int .u64 rt, .slice n4 3 (ra.map aE) (rmB false)], .agg [.int .u64 b, .int .u64 t, .slice m1 z1 (es.map aE) (rmB c1)]] ⟨[], []⟩) = some (.bool (decide (rb = b ∧ rt = t ∧ ra = es)), h)) :=
    fun ra hra => ⟨fun h => check_eq rb rt n4 3 ra false (.inl rfl) (by omega) h, fun h => refCheckL_eq rb rt n4 3 ra false (.inl rfl) (by omega) h,
      fun h => rlogSame_eq rb rt b t ra es n4 3 false m1 z1 c1 (.inl rfl) k1 (by omega) (by omega) h, fun h => refSame_eq rb rt b t ra es n4 3 false m1 z1 c1 (.inl rfl) k1 (by omega) (by omega) h⟩
  rw [empty_eq, cf_8 _ _ (by simp)]
  by_cases h5 : raw.length > 9
  · obtain ⟨g1, g2, g3, g4⟩ := key (raw.take 9) (by rw [List.length_take]; omega)
    generalize logOk ⟨rb, rt, raw.take 9⟩ = v at *
    generalize decide (rb = b ∧ rt = t ∧ raw.take 9 = es) = w at *
    simp (maxSteps := 1000000) (disch := first | omega | (simp only [List.length_map, List.length_append, List.length_cons, List.length_nil]; omega) | (simp only [List.length_map, List.length_append, List.length_cons, List.length_nil]; done) | fail) [-List.map_take, -List.map_drop, ic8, go_sem, awake_eq, e1, en, et1, et2, g1, g2, g3, g4]
  · obtain ⟨g1, g2, g3, g4⟩ := key raw (by omega)
    generalize logOk ⟨rb, rt, raw⟩ = v at *
    generalize decide (rb = b ∧ rt = t ∧ raw = es) = w at *
    simp (maxSteps := 1000000) (disch := first | omega | (simp only [List.length_map, List.length_append, List.length_cons, List.length_nil]; omega) | (simp only [List.length_map, List.length_append, List.length_cons, List.length_nil]; done) | fail) [-List.map_take, -List.map_drop, ic8, go_sem, awake_eq, e1, en, et1, et2, g1, g2, g3, g4]

end Go.Proofs.Ytghljcgkeeodaaa.Abs
