import Derived.Test.YtghljcgkeeodaaaKPl7c
set_option linter.all false
set_option linter.unusedVariables false
set_option linter.unusedSimpArgs false
set_option maxRecDepth 10000
set_option maxHeartbeats 1000000
namespace Go.Proofs.Ytghljcgkeeodaaa.Abs
open Go.Abs
attribute [local congr] ite_congr
theorem putGo_len (l : Lg) : ∀ r, (putGo l r).es.length ≤ l.es.length + r.length := by
  intro r
  induction r with
  | nil => simp [putGo]
  | cons e r ih =>
    simp only [putGo]
    split
    · simp; omega
    · simp [List.length_take]; omega
theorem putOf_len (l : Lg) (i u : Nat) (more : List Ent) : (putOf l i u more).1.es.length ≤ l.es.length + more.length ∧ (putOf l i u more).1.b = l.b ∧ (putOf l i u more).1.t = l.t := by
  unfold putOf
  split
  · exact ⟨by dsimp only; omega, rfl, rfl⟩
  · split
    · exact ⟨by dsimp only; omega, rfl, rfl⟩
    · split
      · exact ⟨by dsimp only; omega, rfl, rfl⟩
      · exact ⟨putGo_len _ _, putGo_head _ _⟩
theorem puts_eq (b t : Nat) (nl : Bool) (sz : Nat) (es : List Ent) (rm : Bool) (I T : Nat) (most : Int) (n3 : Bool) (ys : List Int) (r3 : Bool) (n2 : Bool) (s2 : Nat) (more : List Ent) (r2 : Bool)
    (hsz : sz = 3 ∨ es.length = 0) (hnl : nl = true → es.length = 0) (hb : b + es.length < 10000) (hI : I < 18446744073709551616) (hm : more.length < 10000) (h2 : s2 = 3 ∨ more.length = 0) (hok : logOk ⟨b, t, es⟩ = true) (h : AH) :
    pureK h (call cfg 11 [.agg [.int .u64 b, .int .u64 t, .slice nl sz (es.map aE) (rmB rm)], .agg [.int .u64 I, .int .u64 T, .int .i64 most, .slice n3 1 (ys.map aI) (rmB r3)], .slice n2 s2 (more.map aE) (rmB r2)] ⟨[], []⟩) = some (.bool true, h) := by
  obtain ⟨xnl, xsz, xc, v1, v2, ep⟩ := put_eq b t nl sz es rm I T n2 s2 more r2 hI hsz (by omega) (by omega) (by omega) h2 hnl
  obtain ⟨ynl, ysz, yc, w1, w2, eq⟩ := refPut_eq b t nl sz es rm I T n2 s2 more r2 hI hsz (by omega) hm h2 hnl
  have hp := put_is ⟨b, t, es⟩ hok I T more
  obtain ⟨hlen, _, _⟩ := putOf_len ⟨b, t, es⟩ I T more
  rw [hp] at eq w1 w2
  dsimp only at hlen
  generalize putOf ⟨b, t, es⟩ I T more = R at *
  obtain ⟨X, n, ok⟩ := R
  dsimp only at *
  have hs := fun h => refSame_eq b t b t X.es X.es xnl xsz xc ynl ysz yc v1 w1 (by omega) (by omega) h
  rw [cf_11 _ _ (by simp)]
  simp (maxSteps := 1000000) (disch := first | omega | (simp only [List.length_map, List.length_append, List.length_cons, List.length_nil]; omega) | (simp only [List.length_map, List.length_append, List.length_cons, List.length_nil]; done) | fail) [-List.map_take, -List.map_drop, ic11, go_sem, ep, eq, hs]
theorem sh_ents {n : Nat} {x : AV} (h : ShE (aggOf (lookT tab) 26) (Sh (lookT tab) (n + 3) 26) x) : ∃ (nl : Bool) (l : List Ent), x = .slice nl 3 (l.map aE) (rmB false) ∧ (nl = true → l.length = 0) ∧ ∀ e ∈ l, e.i < 18446744073709551616 ∧ e.t < 18446744073709551616 := by
  obtain ⟨nl, es, h1, h2, h3⟩ := sh_slice ty_26 ty_41 (she_one h)
  obtain ⟨l, h4, h5⟩ := list_of (f := aE) (q := fun e => e.i < 18446744073709551616 ∧ e.t < 18446744073709551616) (fun y hy => by
    obtain ⟨cs, rfl, k1⟩ := she_agg (h3 y hy)
    obtain ⟨_, _, rfl, k2, _, _, rfl, k3, _, _, rfl, k4, rfl⟩ := sh_struct ty_41 k1
    obtain ⟨i, rfl, hi⟩ := sh_u64 ty_23 k2
    obtain ⟨t, rfl, ht⟩ := sh_u64 ty_23 k3
    obtain ⟨d, rfl⟩ := sh_str ty_9 k4
    exact ⟨⟨i, t, d⟩, rfl, hi, ht⟩)
  exact ⟨nl, l, by have h6 : x = .slice nl 3 (l.map aE) .unk := by simpa [h4] using h1
                   exact h6, fun q => by have := h2 q; rw [h4] at this; simpa using this, h5⟩
theorem RlogPuts_main (xs : List AV) (hs : ShL (lookT tab) 8 [22, 25, 26] xs) (hb : bulkL xs ≤ 1048576) : ∃ h', call cfg 3 xs AH.empty = some (.bool true, h') := by
  obtain ⟨x1, _, rfl, s1, x2, _, rfl, s2, x3, _, rfl, s3, rfl⟩ := hs
  obtain ⟨n1, l1, rfl, _⟩ := sh_ints s1
  obtain ⟨I0, T0, most, n3, ys, rfl, hI0, _⟩ := sh_ask s2
  obtain ⟨n4, raw, rfl, hnl4, _⟩ := sh_ents s3
  refine pureK_bool (h := ⟨[], []⟩) (h1 := ⟨[], []⟩) ?_
  obtain ⟨m1, z1, c1, k1, k1', e1⟩ := made_eq l1 n1 false most
  obtain ⟨p1, p2, _, _⟩ := made_small l1 most
  have hok := made_ok l1 most
  obtain ⟨I, T, hI, hT, en⟩ := near_eq I0 T0 most n3 ys false
  generalize madeL l1 most = L at *
  obtain ⟨b, t, es⟩ := L
  dsimp only at *
  obtain ⟨q1, q2, q3, q4, _, em1⟩ := more_eq I0 T0 most n3 ys false
  obtain ⟨r1, r2, r3, r4, _, em2⟩ := more_eq I T most n3 ys false
  have hm1 := moreGo_len I0 ys 0 T0
  have hm2 := moreGo_len I ys 0 T
  have ep1 := fun h => puts_eq b t m1 z1 es c1 I0 T0 most n3 ys false q1 q2 (moreGo I0 ys 0 T0) q3 k1 k1' (by omega) hI0 (by omega) q4 hok h
  have ep2 := fun h => puts_eq b t m1 z1 es c1 I T most n3 ys false r1 r2 (moreGo I ys 0 T) r3 k1 k1' (by omega) (by omega) (by omega) r4 hok h
  have ep3 := fun h => puts_eq b t m1 z1 es c1 I T most n3 ys false n4 3 (raw.take 5) false k1 k1' (by omega) (by omega) (by rw [List.length_take]; omega) (.inl rfl) hok h
  rw [empty_eq, cf_3 _ _ (by simp)]
  by_cases h5 : raw.length > 5
  · simp (maxSteps := 1000000) (disch := first | omega | (simp only [List.length_map, List.length_append, List.length_cons, List.length_nil]; omega) | (simp only [List.length_map, List.length_append, List.length_cons, List.length_nil]; done) | fail) [-List.map_take, -List.map_drop, ic3, go_sem, awake_eq, e1, en, em1, em2, ep1, ep2, ep3]
  · rw [List.take_of_length_le (by omega)] at ep3
    simp (maxSteps := 1000000) (disch := first | omega | (simp only [List.length_map, List.length_append, List.length_cons, List.length_nil]; omega) | (simp only [List.length_map, List.length_append, List.length_cons, List.length_nil]; done) | fail) [-List.map_take, -List.map_drop, ic3, go_sem, awake_eq, e1, en, em1, em2, ep1, ep2, ep3]

end Go.Proofs.Ytghljcgkeeodaaa.Abs
