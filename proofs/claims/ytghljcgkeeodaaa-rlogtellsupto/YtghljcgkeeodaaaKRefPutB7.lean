import Derived.Test.YtghljcgkeeodaaaKRefPut7
set_option linter.all false
set_option linter.unusedVariables false
set_option linter.unusedSimpArgs false
set_option maxRecDepth 10000
set_option maxHeartbeats 1000000
namespace Go.Proofs.Ytghljcgkeeodaaa.Abs
open Go.Abs
attribute [local congr] ite_congr
def refLastI (l : Lg) : Nat := match l.es.getLast? with | some e => e.i | none => l.b
theorem refLast_eq (b t : Nat) (nl : Bool) (sz : Nat) (es : List Ent) (rm : Bool) (hsz : sz = 3 ∨ es.length = 0) (hn : es.length < 9223372036854775808) (h : AH) :
    pureK h (call cfg 38 [.agg [.int .u64 b, .int .u64 t, .slice nl sz (es.map aE) (rmB rm)]] ⟨[], []⟩) = some (.agg [.int .u64 (refLastI ⟨b, t, es⟩), .int .u64 (lastT ⟨b, t, es⟩)], h) := by
  rw [cf_38 _ _ (by simp)]
  cases hes : es.getLast? with
  | none =>
    have : es = [] := List.getLast?_eq_none_iff.1 hes
    subst this
    simp (maxSteps := 1000000) (disch := first | omega | (simp only [List.length_map, List.length_append, List.length_cons, List.length_nil]; omega) | (simp only [List.length_map, List.length_append, List.length_cons, List.length_nil]; done) | fail) [-List.map_take, -List.map_drop, ic38, go_sem, refLastI, lastT]
  | some e =>
    have hne : es ≠ [] := by rintro rfl; cases hes
    have hpos : 0 < es.length := List.length_pos_iff.2 hne
    have h3 : sz = 3 := by omega
    subst h3
    have hl : es[es.length - 1]? = some e := by rw [get_last _ hne]; exact hes
    obtain ⟨_, hl⟩ := List.getElem?_eq_some_iff.1 hl
    simp (maxSteps := 1000000) (disch := first | omega | (simp only [List.length_map, List.length_append, List.length_cons, List.length_nil]; omega) | (simp only [List.length_map, List.length_append, List.length_cons, List.length_nil]; done) | fail) [-List.map_take, -List.map_drop, ic38, go_sem, refLastI, lastT, hes, hl, aE]
def refHint (index own : Nat) : Nat → List Ent → Nat
  | h, [] => h
  | h, e :: r => refHint index own (if e.i < index ∧ e.t ≠ own then e.i else h) r
def rhSt (b t : Nat) (nl : Bool) (sz : Nat) (es : List Ent) (rm : Bool) (index own : Nat) (pb : Option Blk) (g : List (Option Blk)) (hint k : Nat) : St :=
  ⟨ofList [(1, .int .u64 index), (4, .ptr 0 0), (8, .ptr 1 0), (11, .int .u64 own), (13, .int .u64 hint), (14, .int .i64 k)], ⟨lgB b t nl sz es rm :: gotB :: pb :: g, []⟩⟩
theorem rh_loop (b t : Nat) (nl : Bool) (sz : Nat) (es : List Ent) (rm : Bool) (index own : Nat) (pb : Option Blk) (hsz : sz = 3 ∨ es.length = 0) (hl : es.length < 1048576) : ∀ (r : List Ent) (k hint : Nat) (g : List (Option Blk)), es.drop k = r → k ≤ es.length →
    ∃ q g', run cfg 0 (.loop ic28l0) (rhSt b t nl sz es rm index own pb g hint k) = some (.exit 0, ⟨ofList ([(1, .int .u64 index), (4, .ptr 0 0), (8, .ptr 1 0), (11, .int .u64 own), (13, .int .u64 (refHint index own hint r))] ++ q), ⟨lgB b t nl sz es rm :: gotB :: pb :: g', []⟩⟩) := by
  intro r
  induction r with
  | nil =>
    intro k hint g hr hk
    have : k = es.length := by have := drop_nil hr; omega
    subst this
    refine ⟨[(14, .int .i64 es.length), (60, .bool false)], g, ?_⟩
    rw [run_loop']
    simp (maxSteps := 1000000) (disch := first | omega | (simp only [List.length_map, List.length_append, List.length_cons, List.length_nil]; omega) | (simp only [List.length_map, List.length_append, List.length_cons, List.length_nil]; done) | fail) [-List.map_take, -List.map_drop, ic28l0, go_sem, rhSt, lgB, refHint]
  | cons e r ih =>
    intro k hint g hr hk
    obtain ⟨k1, k2, k3⟩ := drop_cons hr
    obtain ⟨_, he⟩ := List.getElem?_eq_some_iff.1 k2
    have h4 : sz = 3 := by omega
    subst h4
    obtain ⟨q, g', eq⟩ := ih (k + 1) (if e.i < index ∧ e.t ≠ own then e.i else hint) (g ++ [entB e]) k3 (by omega)
    refine ⟨q, g', ?_⟩
    have key : run cfg 0 ic28l0 (rhSt b t nl 3 es rm index own pb g hint k) = some (.normal, rhSt b t nl 3 es rm index own pb (g ++ [entB e]) (if e.i < index ∧ e.t ≠ own then e.i else hint) (k + 1)) := by
      by_cases h1 : e.i < index
      · by_cases h2 : e.t = own
        · simp (maxSteps := 1000000) (disch := first | omega | (simp only [List.length_map, List.length_append, List.length_cons, List.length_nil]; omega) | (simp only [List.length_map, List.length_append, List.length_cons, List.length_nil]; done) | fail) [-List.map_take, -List.map_drop, ic28l0, go_sem, rhSt, lgB, entB, he, aE, h1, h2]
        · simp (maxSteps := 1000000) (disch := first | omega | (simp only [List.length_map, List.length_append, List.length_cons, List.length_nil]; omega) | (simp only [List.length_map, List.length_append, List.length_cons, List.length_nil]; done) | fail) [-List.map_take, -List.map_drop, ic28l0, go_sem, rhSt, lgB, entB, he, aE, h1, h2]
      · simp (maxSteps := 1000000) (disch := first | omega | (simp only [List.length_map, List.length_append, List.length_cons, List.length_nil]; omega) | (simp only [List.length_map, List.length_append, List.length_cons, List.length_nil]; done) | fail) [-List.map_take, -List.map_drop, ic28l0, go_sem, rhSt, lgB, entB, he, aE, h1]
    rw [run_loop', key, loopK_normal, eq]
    rfl
def refPutOf (l : Lg) (index term : Nat) (more : List Ent) : Lg × Nat × Bool :=
  if logOk ⟨index, term, more⟩ = false then (l, 0, false)
  else if index > refLastI l then (l, refLastI l, false)
  else if (refTermOf l index).2 = true ∧ (refTermOf l index).1 ≠ term then (l, refHint index (refTermOf l index).1 l.b l.es, false)
  else (refPutGo l more, index + more.length, true)
theorem refPut_eq (b t : Nat) (nl : Bool) (sz : Nat) (es : List Ent) (rm : Bool) (index term : Nat) (n2 : Bool) (s2 : Nat) (more : List Ent) (r2 : Bool) (hi : index < 18446744073709551616)
    (hsz : sz = 3 ∨ es.length = 0) (hn : es.length < 1000000) (hm : more.length < 10000) (h2 : s2 = 3 ∨ more.length = 0) (hnl : nl = true → es.length = 0) :
    ∃ nl' sz' c, (sz' = 3 ∨ (refPutOf ⟨b, t, es⟩ index term more).1.es.length = 0) ∧ (nl' = true → (refPutOf ⟨b, t, es⟩ index term more).1.es.length = 0) ∧
    ∀ h, pureK h (call cfg 28 [.agg [.int .u64 b, .int .u64 t, .slice nl sz (es.map aE) (rmB rm)], .int .u64 index, .int .u64 term, .slice n2 s2 (more.map aE) (rmB r2)] ⟨[], []⟩) =
      some (.agg [.int .u64 b, .int .u64 t, .slice nl' sz' ((refPutOf ⟨b, t, es⟩ index term more).1.es.map aE) (rmB c), .int .u64 (refPutOf ⟨b, t, es⟩ index term more).2.1, .bool (refPutOf ⟨b, t, es⟩ index term more).2.2], h) := by
  have hl := fun h => refLast_eq b t nl sz es rm hsz (by omega) h
  have hck := fun h => refCheckL_eq index term n2 s2 more r2 h2 (by omega) h
  have ht := fun h => refTerm_eq b t nl sz es rm index hsz (by omega) h
  cases hok : logOk ⟨index, term, more⟩ with
  | false =>
    have ep : refPutOf ⟨b, t, es⟩ index term more = (⟨b, t, es⟩, 0, false) := by unfold refPutOf; rw [if_pos hok]
    rw [ep]
    refine ⟨nl, sz, rm, hsz, hnl, fun h => ?_⟩
    rw [cf_28 _ _ (by simp)]
    simp (maxSteps := 1000000) (disch := first | omega | (simp only [List.length_map, List.length_append, List.length_cons, List.length_nil]; omega) | (simp only [List.length_map, List.length_append, List.length_cons, List.length_nil]; done) | fail) [-List.map_take, -List.map_drop, ic28, go_sem, hck, hok]
  | true =>
    have hidx : index ≤ 1099511627776 := by simp [logOk] at hok; omega
    by_cases h1 : index > refLastI ⟨b, t, es⟩
    · have ep : refPutOf ⟨b, t, es⟩ index term more = (⟨b, t, es⟩, refLastI ⟨b, t, es⟩, false) := by unfold refPutOf; rw [if_neg (by simp [hok]), if_pos h1]
      rw [ep]
      refine ⟨nl, sz, rm, hsz, hnl, fun h => ?_⟩
      rw [cf_28 _ _ (by simp)]
      simp (maxSteps := 1000000) (disch := first | omega | (simp only [List.length_map, List.length_append, List.length_cons, List.length_nil]; omega) | (simp only [List.length_map, List.length_append, List.length_cons, List.length_nil]; done) | fail) [-List.map_take, -List.map_drop, ic28, go_sem, hck, hok, hl, h1]
    · by_cases h3 : (refTermOf ⟨b, t, es⟩ index).2 = true ∧ (refTermOf ⟨b, t, es⟩ index).1 ≠ term
      · have ep : refPutOf ⟨b, t, es⟩ index term more = (⟨b, t, es⟩, refHint index (refTermOf ⟨b, t, es⟩ index).1 b es, false) := by unfold refPutOf; rw [if_neg (by simp [hok]), if_neg h1, if_pos h3]
        rw [ep]
        obtain ⟨q, g', eh⟩ := rh_loop b t nl sz es rm index (refTermOf ⟨b, t, es⟩ index).1 (some ⟨false, [.int .u64 (refLastI ⟨b, t, es⟩), .int .u64 (lastT ⟨b, t, es⟩)]⟩) hsz (by omega) es 0 b [] (by simp) (by omega)
        simp [rhSt, lgB, gotB] at eh
        refine ⟨nl, sz, rm, hsz, hnl, fun h => ?_⟩
        rw [cf_28 _ _ (by simp)]
        simp (maxSteps := 1000000) (disch := first | omega | (simp only [List.length_map, List.length_append, List.length_cons, List.length_nil]; omega) | (simp only [List.length_map, List.length_append, List.length_cons, List.length_nil]; done) | fail) [-List.map_take, -List.map_drop, ic28, go_sem, hck, hok, hl, h1, ht, h3, eh]
      · obtain ⟨onl', osz', o', oc', g', T', q, j1, j2, j3, j4, eq⟩ := rp_loop (some ⟨false, [.int .u64 (refLastI ⟨b, t, es⟩), .int .u64 (lastT ⟨b, t, es⟩)]⟩) b t nl sz es rm index n2 s2 more r2 h2 hm more 0 nl sz es none rm [] [] (by simp) (by omega) hsz hnl (by omega)
        have ep : refPutOf ⟨b, t, es⟩ index term more = (refPutGo ⟨b, t, es⟩ more, index + more.length, true) := by
          unfold refPutOf; rw [if_neg (by simp [hok]), if_neg h1, if_neg h3]
        rw [ep]
        refine ⟨onl', osz', o'.isNone && oc', j1, j2, fun h => ?_⟩
        simp [rpSt, lgB, gotB, outB] at eq
        simp only [show rmX none rm = rmB rm from rfl] at eq
        rw [cf_28 _ _ (by simp)]
        generalize hrt : refTermOf ⟨b, t, es⟩ index = rt at *
        obtain ⟨v, w⟩ := rt
        cases w with
        | false => simp (maxSteps := 1000000) (disch := first | omega | (simp only [List.length_map, List.length_append, List.length_cons, List.length_nil]; omega) | (simp only [List.length_map, List.length_append, List.length_cons, List.length_nil]; done) | fail) [-List.map_take, -List.map_drop, ic28, go_sem, hck, hok, hl, h1, ht, eq]
        | true =>
          have hv : v = term := Classical.byContradiction fun q => h3 ⟨rfl, q⟩
          subst hv
          simp (maxSteps := 1000000) (disch := first | omega | (simp only [List.length_map, List.length_append, List.length_cons, List.length_nil]; omega) | (simp only [List.length_map, List.length_append, List.length_cons, List.length_nil]; done) | fail) [-List.map_take, -List.map_drop, ic28, go_sem, hck, hok, hl, h1, ht, eq]

end Go.Proofs.Ytghljcgkeeodaaa.Abs
