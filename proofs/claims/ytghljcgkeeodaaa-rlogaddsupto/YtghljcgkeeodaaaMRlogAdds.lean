import Derived.Test.YtghljcgkeeodaaaKAdd7
set_option linter.all false
set_option linter.unusedVariables false
set_option linter.unusedSimpArgs false
set_option maxRecDepth 10000
set_option maxHeartbeats 1000000
namespace Go.Proofs.Ytghljcgkeeodaaa.Abs
open Go.Abs
attribute [local congr] ite_congr
theorem fine_snoc (x : Ent) : ∀ (es : List Ent) (n u : Nat), fineGo n u (es ++ [x]) = (fineGo n u es && (entOk x && (decide (x.i = n + es.length + 1) && decide (lastT ⟨n, u, es⟩ ≤ x.t)))) := by
  intro es
  induction es with
  | nil => intro n u; simp [fineGo, lastT]; rfl
  | cons e r ih =>
    intro n u
    have hl : lastT ⟨n, u, e :: r⟩ = lastT ⟨n + 1, e.t, r⟩ := by
      unfold lastT
      cases r with
      | nil => rfl
      | cons y r => rw [List.getLast?_cons_cons]; simp only [List.getLast?_eq_some_getLast (List.cons_ne_nil y r)]
    simp only [List.cons_append, fineGo, ih, hl, List.length_cons, Bool.and_assoc]
    have e1 : n + 1 + r.length + 1 = n + (r.length + 1) + 1 := by omega
    rw [e1]
theorem add_no (l : Lg) (k : Nat) (d : List UInt8) (h : k < lastT l ∨ k = 0) : addOf l k d = l := by
  unfold addOf
  rw [if_neg]
  simp only [logOk, Bool.and_eq_true, decide_eq_true_eq, fine_snoc, entOk]
  rintro ⟨_, _, _, ⟨_, _, h1, _, _⟩, _, h2⟩
  have e : lastT ⟨l.b, l.t, l.es⟩ = lastT l := rfl
  omega
theorem add_yes (l : Lg) (k : Nat) (d : List UInt8) (h : lastT l ≤ k) (h0 : 1 ≤ k) (h1 : k ≤ 1099511627776) (h2 : l.b + l.es.length < 1099511627776) (hd : d.length ≤ 60) (hok : logOk l = true) :
    addOf l k d = ⟨l.b, l.t, l.es ++ [⟨l.b + l.es.length + 1, k, d⟩]⟩ ∧ logOk ⟨l.b, l.t, l.es ++ [⟨l.b + l.es.length + 1, k, d⟩]⟩ = true := by
  have e : logOk ⟨l.b, l.t, l.es ++ [⟨l.b + l.es.length + 1, k, d⟩]⟩ = true := by
    simp only [logOk, Bool.and_eq_true, decide_eq_true_eq, fine_snoc, entOk] at hok ⊢
    exact ⟨hok.1, hok.2.1, hok.2.2, ⟨by omega, by omega, h0, h1, hd⟩, trivial, h⟩
  exact ⟨by unfold addOf; rw [if_pos e], e⟩
theorem RlogAdds_main (xs : List AV) (hs : ShL (lookT tab) 8 [22, 3, 23] xs) (hb : bulkL xs ≤ 1048576) : ∃ h', call cfg 7 xs AH.empty = some (.bool true, h') := by
  obtain ⟨x1, _, rfl, s1, x2, _, rfl, s2, x3, _, rfl, s3, rfl⟩ := hs
  obtain ⟨n1, l1, rfl, _⟩ := sh_ints s1
  obtain ⟨base, rfl, _⟩ := sh_int s2
  obtain ⟨m, hm, _⟩ := sh_u64 ty_23 (she_one s3)
  obtain rfl : x3 = .int .u64 m := by simpa using hm
  refine pureK_bool (h := ⟨[], []⟩) (h1 := ⟨[], []⟩) ?_
  obtain ⟨m1, z1, c1, k1, k1', e1⟩ := made_eq l1 n1 false base
  obtain ⟨p1, p2, p3, p4⟩ := made_small l1 base
  have hok := made_ok l1 base
  obtain ⟨k, hk, hk2⟩ := bits_andU m 63 (by omega)
  have hk' : bits2 .and .u64 m 63 = k := hk
  generalize madeL l1 base = L at *
  obtain ⟨b, t, es⟩ := L
  dsimp only at *
  have el := fun h => last_eq b t m1 z1 es c1 k1 (by omega) h
  rw [p4] at el
  obtain ⟨xnl, xsz, xc, j1, j2, ea⟩ := add_eq b t m1 z1 es c1 k [110, 101, 119] k1 k1' (by omega) (by omega)
  rw [empty_eq, cf_7 _ _ (by simp)]
  by_cases hc : k < lastT ⟨b, t, es⟩ ∨ k = 0
  · have hno := add_no ⟨b, t, es⟩ k [110, 101, 119] hc
    rw [hno] at ea j1 j2
    have hsame := fun h => rlogSame_eq b t b t es es xnl xsz xc m1 z1 c1 j1 k1 (by omega) (by omega) h
    push_cast at el ea hsame
    by_cases hc1 : k < lastT ⟨b, t, es⟩
    · simp (maxSteps := 1000000) (disch := first | omega | (simp only [List.length_map, List.length_append, List.length_cons, List.length_nil]; omega) | (simp only [List.length_map, List.length_append, List.length_cons, List.length_nil]; done) | fail) [-List.map_take, -List.map_drop, ic7, go_sem, awake_eq, e1, hk', el, ea, hsame]
    · have hc2 : k = 0 := hc.resolve_left hc1
      subst hc2
      simp only [Int.ofNat_zero] at hk' ea
      simp (maxSteps := 1000000) (disch := first | omega | (simp only [List.length_map, List.length_append, List.length_cons, List.length_nil]; omega) | (simp only [List.length_map, List.length_append, List.length_cons, List.length_nil]; done) | fail) [-List.map_take, -List.map_drop, ic7, go_sem, awake_eq, e1, hk', el, ea, hsame]
  · obtain ⟨hy, hyok⟩ := add_yes ⟨b, t, es⟩ k [110, 101, 119] (by omega) (by omega) (by omega) (by dsimp only; omega) (by decide) hok
    dsimp only at hy hyok
    rw [hy] at ea j1 j2
    have j3 : xsz = 3 := by simpa using j1
    subst j3
    have j4 : xnl = false := by cases xnl with | false => rfl | true => have := j2 rfl; simp at this
    subst j4
    generalize hE : (⟨b + es.length + 1, k, [110, 101, 119]⟩ : Ent) = E at *
    have hse := fun h => se_eq es es false 3 false m1 z1 c1 (.inl rfl) k1 (by omega) (by omega) h
    obtain ⟨fnl, fsz, fc, f1, f2, ef⟩ := from_eq b t false 3 (es ++ [E]) xc (b + es.length + 1) 5 (.inl rfl) (fun h => by cases h) (by omega) (by omega) (by simp; omega)
    have hfr : fromOf ⟨b, t, es ++ [E]⟩ (b + es.length + 1) 5 = [E] := by
      unfold fromOf behindN
      dsimp only
      have : min (max (b + es.length + 1 - 1) b - b) (es ++ [E]).length = es.length := by simp
      rw [this]; simp
    rw [hfr] at ef f1 f2
    have f3 : fsz = 3 := by simpa using f1
    subst f3
    have eck := fun h => check_eq b t false 3 (es ++ [E]) xc (.inl rfl) (by simp; omega) h
    rw [hyok] at eck
    have hget : (es.map aE ++ [aE E])[es.length]'(by simp) = aE E := by simp
    have htk : (es.map aE ++ [aE E]).take es.length = es.map aE := List.take_left' (by simp)
    have hEi : ((b : Int) + es.length + 1) = (E.i : Int) := by rw [← hE]; dsimp only; omega
    have hEt : E.t = k := by rw [← hE]
    have hEd : E.d = [110, 101, 119] := by rw [← hE]
    have hcmp := aE_cmp E E
    have hlt : ¬ k < lastT ⟨b, t, es⟩ := fun q => hc (.inl q)
    have hk0 : ¬ k = 0 := fun q => hc (.inr q)
    push_cast at el ea ef eck hse
    simp only [List.map_append, List.map_cons, List.map_nil] at ea ef eck
    rw [hEi] at ef
    generalize lastT ⟨b, t, es⟩ = u at *
    simp (maxSteps := 1000000) (disch := first | omega | (simp only [List.length_map, List.length_append, List.length_cons, List.length_nil]; omega) | (simp only [List.length_map, List.length_append, List.length_cons, List.length_nil]; done) | fail) [-List.map_take, -List.map_drop, ic7, go_sem, awake_eq, e1, hk', el, ea, hse, ef, eck, hget, htk, hEi, hEt, hEd, hcmp]

end Go.Proofs.Ytghljcgkeeodaaa.Abs
