import Derived.Test.YtghljcgkeeodaaaKPl7b
set_option linter.all false
set_option linter.unusedVariables false
set_option linter.unusedSimpArgs false
set_option maxRecDepth 10000
set_option maxHeartbeats 1000000
namespace Go.Proofs.Ytghljcgkeeodaaa.Abs
open Go.Abs
attribute [local congr] ite_congr
section
variable (I0 T0 : Nat) (I T : Nat) (most : Int) (n3 : Bool) (ys : List Int) (r3 : Bool) (b t : Nat) (nl : Bool) (sz : Nat) (es : List Ent) (rm : Bool) (own : Nat) (mnl : Bool) (msz : Nat) (more : List Ent) (mrm : Bool) (xnl : Bool) (xsz : Nat) (xes : List Ent) (xrm : Bool) (n : Nat)
def agH : AH := ⟨[askB I0 T0 most n3 ys r3, lgB b t nl sz es rm, askB I T most n3 ys r3, lgB b t xnl xsz xes xrm], []⟩
def agSt (all : Bool) (l2 : List (Nat × AV)) : St :=
  ⟨ofList ((5, .bool true) :: (6, .ptr 1 0) :: (7, .ptr 2 0) :: (8, .int .u64 own) :: (10, .slice mnl msz (more.map aE) (rmB mrm)) :: (11, .ptr 3 0) :: (12, .int .u64 n) :: (14, .bool all) :: l2), agH I0 T0 I T most n3 ys r3 b t nl sz es rm xnl xsz xes xrm⟩
theorem ag_loop (hsz : sz = 3 ∨ es.length = 0) (hes : es.length < 1048576) (hm : msz = 3 ∨ more.length = 0) (hml : more.length < 1048576) (hx : xsz = 3 ∨ xes.length = 0) (hxl : xes.length < 1048576)
    (hlok : logOk ⟨b, t, es⟩ = true) (hxok : logOk ⟨b, t, xes⟩ = true) (hag : agrees ⟨b, t, xes⟩ more) : ∀ (r : List Ent) (i : Nat) (all : Bool), more.drop i = r → i ≤ more.length →
    ∃ q, run cfg 0 (.loop ic4l0) (agSt I0 T0 I T most n3 ys r3 b t nl sz es rm own mnl msz more mrm xnl xsz xes xrm n all [(15, .int .i64 i)]) =
      some (.exit 0, agSt I0 T0 I T most n3 ys r3 b t nl sz es rm own mnl msz more mrm xnl xsz xes xrm n (all && r.all fun e => (termOf ⟨b, t, es⟩ e.i).2 && decide ((termOf ⟨b, t, es⟩ e.i).1 = e.t)) q) := by
  intro r
  induction r with
  | nil =>
    intro i all hr hi
    have : i = more.length := by have := drop_nil hr; omega
    subst this
    refine ⟨[(15, .int .i64 more.length), (82, .bool false)], ?_⟩
    rw [run_loop']
    simp (maxSteps := 1000000) (disch := first | omega | (simp only [List.length_map, List.length_append, List.length_cons, List.length_nil]; omega) | (simp only [List.length_map, List.length_append, List.length_cons, List.length_nil]; done) | fail) [-List.map_take, -List.map_drop, ic4l0, go_sem, agSt]
  | cons e r ih =>
    intro i all hr hi
    obtain ⟨h1, h2, h3⟩ := drop_cons hr
    obtain ⟨_, he⟩ := List.getElem?_eq_some_iff.1 h2
    have h4 : msz = 3 := by omega
    subst h4
    have hmem : e ∈ more := List.mem_of_getElem? h2
    have ha := hag e hmem
    have e1 := fun h => refTerm_eq b t nl sz es rm e.i hsz (by omega) h
    rw [refTerm_is _ hlok] at e1
    have e2 := fun h => refTerm_eq b t xnl xsz xes xrm e.i hx (by omega) h
    rw [refTerm_is _ hxok, ha] at e2
    obtain ⟨q, eq⟩ := ih (i + 1) (all && ((termOf ⟨b, t, es⟩ e.i).2 && decide ((termOf ⟨b, t, es⟩ e.i).1 = e.t))) h3 (by omega)
    refine ⟨q, ?_⟩
    rw [run_loop']
    have key : run cfg 0 ic4l0 (agSt I0 T0 I T most n3 ys r3 b t nl sz es rm own mnl 3 more mrm xnl xsz xes xrm n all [(15, .int .i64 i)]) = some (.normal, agSt I0 T0 I T most n3 ys r3 b t nl sz es rm own mnl 3 more mrm xnl xsz xes xrm n (all && ((termOf ⟨b, t, es⟩ e.i).2 && decide ((termOf ⟨b, t, es⟩ e.i).1 = e.t))) [(15, .int .i64 (i + 1 : Nat))]) := by
      cases all <;> cases hb1 : (termOf ⟨b, t, es⟩ e.i).2 <;> by_cases hb2 : (termOf ⟨b, t, es⟩ e.i).1 = e.t
      all_goals rw [hb1] at e1
      all_goals simp (maxSteps := 1000000) (disch := first | omega | (simp only [List.length_map, List.length_append, List.length_cons, List.length_nil]; omega) | (simp only [List.length_map, List.length_append, List.length_cons, List.length_nil]; done) | fail) [-List.map_take, -List.map_drop, ic4l0, go_sem, agSt, agH, askB, lgB, he, aE, e1, e2, hb2]
    rw [key, loopK_normal, eq]
    simp [Bool.and_assoc]
def ag2Keep (l : List Ent) (x : List Ent) (k : Nat) : Prop := x.take k = l.take k
theorem ag_loop2 (hsz : sz = 3 ∨ es.length = 0) (hes : es.length < 1048576) (hx : xsz = 3 ∨ xes.length = 0) (hxl : xes.length < 1048576) (hlok : fineGo b t es = true) (hI : I < 1000) (hbI : b ≤ I) (hIx : I ≤ b + xes.length)
    (hk : xes.take (I - b) = es.take (I - b)) (all : Bool) : ∀ (r : List Ent) (i : Nat) (y : List (Nat × AV)), es.drop i = r → i ≤ es.length →
    ∃ q, run cfg 0 (.loop ic4l1) (agSt I0 T0 I T most n3 ys r3 b t nl sz es rm own mnl msz more mrm xnl xsz xes xrm n all [(21, .int .i64 i)]) =
      some (.exit 2, agSt I0 T0 I T most n3 ys r3 b t nl sz es rm own mnl msz more mrm xnl xsz xes xrm n all q) := by
  intro r
  induction r with
  | nil =>
    intro i y hr hi
    have : i = es.length := by have := drop_nil hr; omega
    subst this
    refine ⟨[(21, .int .i64 es.length), (125, .bool false)], ?_⟩
    rw [run_loop']
    simp (maxSteps := 1000000) (disch := first | omega | (simp only [List.length_map, List.length_append, List.length_cons, List.length_nil]; omega) | (simp only [List.length_map, List.length_append, List.length_cons, List.length_nil]; done) | fail) [-List.map_take, -List.map_drop, ic4l1, go_sem, agSt, agH, lgB]
  | cons e r ih =>
    intro i y hr hi
    obtain ⟨h1, h2, h3⟩ := drop_cons hr
    obtain ⟨_, he⟩ := List.getElem?_eq_some_iff.1 h2
    have h4 : sz = 3 := by omega
    subst h4
    obtain ⟨q, eq⟩ := ih (i + 1) [] h3 (by omega)
    refine ⟨q, ?_⟩
    have hei : e.i = b + i + 1 := by
      have := fine_app (es.take i) b t (es.drop i)
      rw [List.take_append_drop, hlok, hr] at this
      simp [fineGo] at this
      have h5 : (es.take i).length = i := by rw [List.length_take]; omega
      omega
    rw [run_loop']
    have key : run cfg 0 ic4l1 (agSt I0 T0 I T most n3 ys r3 b t nl 3 es rm own mnl msz more mrm xnl xsz xes xrm n all [(21, .int .i64 i)]) = some (.normal, agSt I0 T0 I T most n3 ys r3 b t nl 3 es rm own mnl msz more mrm xnl xsz xes xrm n all [(21, .int .i64 (i + 1 : Nat))]) := by
      by_cases hc : e.i ≤ I
      · have hlt : i < xes.length := by omega
        have hxs : xsz = 3 := by omega
        subst hxs
        have hxe : xes[i] = e := by
          have h6 : i < I - b := by omega
          have h7 := congrArg (fun l => l[i]?) hk
          simp only [List.getElem?_take, h6, if_true] at h7
          rw [h2, List.getElem?_eq_getElem hlt] at h7
          exact Option.some.inj h7
        have hcmp := aE_cmp e e
        simp (maxSteps := 1000000) (disch := first | omega | (simp only [List.length_map, List.length_append, List.length_cons, List.length_nil]; omega) | (simp only [List.length_map, List.length_append, List.length_cons, List.length_nil]; done) | fail) [-List.map_take, -List.map_drop, ic4l1, go_sem, agSt, agH, askB, lgB, he, hxe, aE, hc, hcmp]
      · simp (maxSteps := 1000000) (disch := first | omega | (simp only [List.length_map, List.length_append, List.length_cons, List.length_nil]; omega) | (simp only [List.length_map, List.length_append, List.length_cons, List.length_nil]; done) | fail) [-List.map_take, -List.map_drop, ic4l1, go_sem, agSt, agH, askB, lgB, he, aE, hc]
    rw [key, loopK_normal, eq]
end
theorem sh_ask {n : Nat} {x : AV} (h : ShE (aggOf (lookT tab) 25) (Sh (lookT tab) (n + 3) 25) x) : ∃ (i t : Nat) (m : Int) (nl : Bool) (l : List Int), x = .agg [.int .u64 i, .int .u64 t, .int .i64 m, .slice nl 1 (l.map aI) (rmB false)] ∧ i < 18446744073709551616 ∧ t < 18446744073709551616 := by
  obtain ⟨cs, rfl, h1⟩ := she_agg h
  obtain ⟨_, _, rfl, h2, _, _, rfl, h3, _, _, rfl, h4, _, _, rfl, h5, rfl⟩ := sh_struct ty_25 h1
  obtain ⟨i, rfl, hi⟩ := sh_u64 ty_23 h2
  obtain ⟨t, rfl, ht⟩ := sh_u64 ty_23 h3
  obtain ⟨m, rfl, _⟩ := sh_i64 ty_3 h4
  obtain ⟨nl, es, rfl, _, h6⟩ := sh_slice ty_22 ty_3 h5
  obtain ⟨l, rfl, _⟩ := list_of (f := aI) (q := fun _ => True) (fun y hy => by
    obtain ⟨m, k1, _⟩ := sh_i64 ty_3 (she_one (h6 y hy))
    exact ⟨m, by simpa [aI] using k1, trivial⟩)
  exact ⟨i, t, m, nl, l, rfl, hi, ht⟩
theorem RlogAgrees_main (xs : List AV) (hs : ShL (lookT tab) 8 [22, 25] xs) (hb : bulkL xs ≤ 1048576) : ∃ h', call cfg 4 xs AH.empty = some (.bool true, h') := by
  obtain ⟨x1, _, rfl, s1, x2, _, rfl, s2, rfl⟩ := hs
  obtain ⟨n1, l1, rfl, _⟩ := sh_ints s1
  obtain ⟨I0, T0, most, n3, ys, rfl, _, _⟩ := sh_ask s2
  refine pureK_bool (h := ⟨[], []⟩) (h1 := ⟨[], []⟩) ?_
  obtain ⟨m1, z1, c1, k1, k1', e1⟩ := made_eq l1 n1 false most
  obtain ⟨p1, p2, p3, p4⟩ := made_small l1 most
  have hok := made_ok l1 most
  have htm : ∀ e ∈ (madeL l1 most).es, e.t ≤ 25 := fun e he => by have := madeGo_term _ _ _ _ e he; omega
  have ht1 : (madeL l1 most).t ≤ 1 := by simp only [madeL]; split <;> omega
  obtain ⟨I, T, hI, hT, en⟩ := near_eq I0 T0 most n3 ys false
  generalize madeL l1 most = L at *
  obtain ⟨b, t, es⟩ := L
  dsimp only at *
  have hfl : fineGo b t es = true := by simp [logOk] at hok; exact hok.2.2
  have er := fun h => refTerm_eq b t m1 z1 es c1 I k1 (by omega) h
  rw [refTerm_is _ hok] at er
  rw [empty_eq, cf_4 _ _ (by simp)]
  cases his : (termOf ⟨b, t, es⟩ I).2 with
  | false =>
    rw [his] at er
    simp (maxSteps := 1000000) (disch := first | omega | (simp only [List.length_map, List.length_append, List.length_cons, List.length_nil]; omega) | (simp only [List.length_map, List.length_append, List.length_cons, List.length_nil]; done) | fail) [-List.map_take, -List.map_drop, ic4, go_sem, awake_eq, e1, en, er]
  | true =>
    rw [his] at er
    have hbI : b ≤ I := by
      rcases Nat.lt_or_ge I b with q | q
      · rw [term_lo _ _ q] at his; cases his
      · exact q
    have hIl : I ≤ b + es.length := by
      rw [term_is _ _ hbI] at his; simpa using his
    obtain ⟨u, hu⟩ : ∃ u, (termOf ⟨b, t, es⟩ I).1 = u := ⟨_, rfl⟩
    have hu2 : u ≤ 1000 := by
      rw [← hu]; unfold termOf
      split
      · dsimp only; omega
      · split
        · rename_i q; have := htm _ (List.getElem_mem q.2); dsimp only at this ⊢; omega
        · dsimp only; omega
    rw [hu] at er
    obtain ⟨T1, hT1⟩ : ∃ T1, T1 = if u = 0 then 1 else u := ⟨_, rfl⟩
    obtain ⟨mnl, msz, mc, w1, w2, em⟩ := more_eq I T1 most n3 ys false
    have hml := moreGo_len I ys 0 T1
    have hmf := moreGo_fine I (by omega) ys 0 T1 (by split at hT1 <;> omega) (by split at hT1 <;> omega) u (by split at hT1 <;> omega)
    rw [Nat.add_zero] at hmf
    generalize moreGo I ys 0 T1 = more at *
    obtain ⟨q1, q2, q3, q4, q5, q6⟩ := putGo_all ⟨b, t, es⟩ hfl more I u hmf hbI hIl hu
    have hmok : logOk ⟨I, u, more⟩ = true := by simp [logOk, hmf]; omega
    have hput : putOf ⟨b, t, es⟩ I u more = (putGo ⟨b, t, es⟩ more, I + more.length, true) := by
      unfold putOf
      rw [if_neg (by simp [hmok]), if_neg (by dsimp only; omega), if_neg (by rintro ⟨_, h⟩; exact h hu)]
    obtain ⟨xnl, xsz, xc, v1, v2, ep⟩ := put_eq b t m1 z1 es c1 I u mnl msz more mc (by omega) k1 (by omega) (by omega) (by omega) w1 k1'
    rw [hput] at ep v1 v2
    have hhd := putGo_head ⟨b, t, es⟩ more
    have hsame : agrees ⟨b, t, es⟩ more → putGo ⟨b, t, es⟩ more = ⟨b, t, es⟩ := putGo_same ⟨b, t, es⟩ more
    have hsame2 := putGo_same (putGo ⟨b, t, es⟩ more) more q1
    dsimp only at *
    generalize hX : putGo ⟨b, t, es⟩ more = X at *
    obtain ⟨xb, xt, xes⟩ := X
    dsimp only at *
    have hhd' : b = xb ∧ t = xt := ⟨hhd.1.symm, hhd.2.symm⟩
    clear hhd
    obtain ⟨rfl, rfl⟩ := hhd'
    have hxok : logOk ⟨b, t, xes⟩ = true := by simp [logOk] at hok ⊢; exact ⟨hok.1, hok.2.1, q2⟩
    have exk := fun h => check_eq b t xnl xsz xes xc v1 (by omega) h
    rw [hxok] at exk
    have hput2 : putOf ⟨b, t, xes⟩ I u more = (⟨b, t, xes⟩, I + more.length, true) := by
      unfold putOf
      rw [if_neg (by simp [hmok]), if_neg (by dsimp only; omega), if_neg (by rintro ⟨_, h⟩; exact h (by rw [q3 I (Nat.le_refl _)]; exact hu)), hsame2]
    obtain ⟨ynl, ysz, yc, v3, v4, ep2⟩ := put_eq b t xnl xsz xes xc I u mnl msz more mc (by omega) v1 (by omega) (by omega) (by omega) w1 v2
    rw [hput2] at ep2 v3 v4
    dsimp only at *
    have es1 := fun h => refSame_eq b t b t xes xes ynl ysz yc xnl xsz xc v3 v1 (by omega) (by omega) h
    have es2 := fun h => refSame_eq b t b t xes es xnl xsz xc m1 z1 c1 v1 k1 (by omega) (by omega) h
    obtain ⟨r1, g1⟩ := ag_loop I0 T0 I T1 most n3 ys false b t m1 z1 es c1 u mnl msz more mc xnl xsz xes xc (I + more.length) k1 (by omega) w1 (by omega) v1 (by omega) hok hxok q1 more 0 true (by simp) (by omega)
    generalize hall : (true && more.all fun e => (termOf ⟨b, t, es⟩ e.i).2 && decide ((termOf ⟨b, t, es⟩ e.i).1 = e.t)) = all at g1
    have hall2 : all = true → xes = es := by
      rintro rfl
      have : agrees ⟨b, t, es⟩ more := by
        intro e he
        simp at hall
        have := hall e he
        exact Prod.ext this.2 this.1
      have := hsame this
      simpa using this
    obtain ⟨r2, g2⟩ := ag_loop2 I0 T0 I T1 most n3 ys false b t m1 z1 es c1 u mnl msz more mc xnl xsz xes xc (I + more.length) k1 (by omega) v1 (by omega) hfl (by omega) hbI q5 q4 all es 0 [] (by simp) (by omega)
    simp [agSt, agH, askB, lgB] at g1 g2
    push_cast at ep ep2
    have es2' : all = true → ∀ h, pureK h (call cfg 17 [.agg [.int .u64 b, .int .u64 t, .slice xnl xsz (xes.map aE) (rmB xc)], .agg [.int .u64 b, .int .u64 t, .slice m1 z1 (es.map aE) (rmB c1)]] ⟨[], []⟩) = some (.bool true, h) := by
      intro ha h
      rw [es2 h, decide_eq_true ⟨rfl, rfl, hall2 ha⟩]
    by_cases hu0 : u = 0
    · subst hu0
      simp only [if_true] at hT1
      subst hT1
      simp only [Int.ofNat_zero, Int.ofNat_one] at er em ep g1 g2 ep2
      cases all with
      | true => simp (maxSteps := 1000000) (disch := first | omega | (simp only [List.length_map, List.length_append, List.length_cons, List.length_nil]; omega) | (simp only [List.length_map, List.length_append, List.length_cons, List.length_nil]; done) | fail) [-List.map_take, -List.map_drop, ic4, go_sem, awake_eq, e1, en, er, em, ep, exk, g1, g2, ep2, es1, es2' rfl]
      | false =>
        generalize decide (b = b ∧ t = t ∧ xes = es) = w at es2
        simp (maxSteps := 1000000) (disch := first | omega | (simp only [List.length_map, List.length_append, List.length_cons, List.length_nil]; omega) | (simp only [List.length_map, List.length_append, List.length_cons, List.length_nil]; done) | fail) [-List.map_take, -List.map_drop, ic4, go_sem, awake_eq, e1, en, er, em, ep, exk, g1, g2, ep2, es1, es2]
    · rw [if_neg hu0] at hT1
      subst hT1
      cases all with
      | true => simp (maxSteps := 1000000) (disch := first | omega | (simp only [List.length_map, List.length_append, List.length_cons, List.length_nil]; omega) | (simp only [List.length_map, List.length_append, List.length_cons, List.length_nil]; done) | fail) [-List.map_take, -List.map_drop, ic4, go_sem, awake_eq, e1, en, er, em, ep, exk, g1, g2, ep2, es1, es2' rfl]
      | false =>
        generalize decide (b = b ∧ t = t ∧ xes = es) = w at es2
        simp (maxSteps := 1000000) (disch := first | omega | (simp only [List.length_map, List.length_append, List.length_cons, List.length_nil]; omega) | (simp only [List.length_map, List.length_append, List.length_cons, List.length_nil]; done) | fail) [-List.map_take, -List.map_drop, ic4, go_sem, awake_eq, e1, en, er, em, ep, exk, g1, g2, ep2, es1, es2]

end Go.Proofs.Ytghljcgkeeodaaa.Abs
