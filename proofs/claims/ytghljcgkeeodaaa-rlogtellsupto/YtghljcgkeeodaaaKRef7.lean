import Derived.Test.YtghljcgkeeodaaaKPl7
set_option linter.all false
set_option linter.unusedVariables false
set_option linter.unusedSimpArgs false
set_option maxRecDepth 10000
set_option maxHeartbeats 1000000
namespace Go.Proofs.Ytghljcgkeeodaaa.Abs
open Go.Abs
attribute [local congr] ite_congr
def findT (i : Nat) : List Ent → Nat × Bool
  | [] => (0, false)
  | e :: r => if e.i = i then (e.t, true) else findT i r
def refTermOf (l : Lg) (i : Nat) : Nat × Bool := if i = l.b then (l.t, true) else findT i l.es
def rtSt (b t : Nat) (nl : Bool) (sz : Nat) (es : List Ent) (rm : Bool) (i k : Nat) : St := ⟨ofList [(1, .int .u64 i), (2, .ptr 0 0), (6, .int .i64 k)], ⟨[lgB b t nl sz es rm], []⟩⟩
theorem rt_loop (b t : Nat) (nl : Bool) (sz : Nat) (es : List Ent) (rm : Bool) (i : Nat) (hsz : sz = 3 ∨ es.length = 0) (hl : es.length < 9223372036854775807) : ∀ (r : List Ent) (k : Nat), es.drop k = r → k ≤ es.length →
    run cfg 0 (.loop ic14l0) (rtSt b t nl sz es rm i k) = if (findT i r).2 then some (.ret, ⟨ofList [(4, .int .u64 (findT i r).1), (5, .bool true)], ⟨[], []⟩⟩) else
      some (.exit 0, ⟨ofList [(1, .int .u64 i), (2, .ptr 0 0), (6, .int .i64 es.length), (17, .bool false)], ⟨[lgB b t nl sz es rm], []⟩⟩) := by
  intro r
  induction r with
  | nil =>
    intro k hr hk
    have : k = es.length := by have := drop_nil hr; omega
    subst this
    rw [run_loop']
    simp (maxSteps := 1000000) (disch := first | omega | (simp only [List.length_map, List.length_append, List.length_cons, List.length_nil]; omega) | (simp only [List.length_map, List.length_append, List.length_cons, List.length_nil]; done) | fail) [-List.map_take, -List.map_drop, ic14l0, go_sem, rtSt, lgB, findT]
  | cons e r ih =>
    intro k hr hk
    obtain ⟨h1, h2, h3⟩ := drop_cons hr
    obtain ⟨_, he⟩ := List.getElem?_eq_some_iff.1 h2
    have h4 : sz = 3 := by omega
    subst h4
    have := ih (k + 1) h3 (by omega)
    rw [run_loop']
    by_cases hc : e.i = i
    · simp (maxSteps := 1000000) (disch := first | omega | (simp only [List.length_map, List.length_append, List.length_cons, List.length_nil]; omega) | (simp only [List.length_map, List.length_append, List.length_cons, List.length_nil]; done) | fail) [-List.map_take, -List.map_drop, ic14l0, go_sem, rtSt, lgB, findT, he, aE, hc]
    · simp only [rtSt, lgB] at this
      simp (maxSteps := 1000000) (disch := first | omega | (simp only [List.length_map, List.length_append, List.length_cons, List.length_nil]; omega) | (simp only [List.length_map, List.length_append, List.length_cons, List.length_nil]; done) | fail) [-List.map_take, -List.map_drop, ic14l0, go_sem, rtSt, lgB, findT, he, aE, hc]
      simpa [ic14l0] using this
theorem refTerm_eq (b t : Nat) (nl : Bool) (sz : Nat) (es : List Ent) (rm : Bool) (i : Nat) (hsz : sz = 3 ∨ es.length = 0) (hl : es.length < 9223372036854775807) (h : AH) :
    pureK h (call cfg 14 [.agg [.int .u64 b, .int .u64 t, .slice nl sz (es.map aE) (rmB rm)], .int .u64 i] ⟨[], []⟩) = some (.tup [.int .u64 (refTermOf ⟨b, t, es⟩ i).1, .bool (refTermOf ⟨b, t, es⟩ i).2], h) := by
  rw [cf_14 _ _ (by simp)]
  by_cases h1 : i = b
  · subst h1
    simp (maxSteps := 1000000) (disch := first | omega | (simp only [List.length_map, List.length_append, List.length_cons, List.length_nil]; omega) | (simp only [List.length_map, List.length_append, List.length_cons, List.length_nil]; done) | fail) [-List.map_take, -List.map_drop, ic14, go_sem, refTermOf]
  · have e := rt_loop b t nl sz es rm i hsz hl es 0 (by simp) (by omega)
    have h0 : (findT i es).2 = false → (findT i es).1 = 0 := by
      clear e
      induction es with
      | nil => intro _; rfl
      | cons x r ih =>
        unfold findT
        split
        · intro h; cases h
        · exact ih (by simp at hsz ⊢; omega) (by simp at hl; omega)
    simp [rtSt, lgB] at e
    cases h2 : (findT i es).2 with
    | true =>
      simp [h2] at e
      simp (maxSteps := 1000000) (disch := first | omega | (simp only [List.length_map, List.length_append, List.length_cons, List.length_nil]; omega) | (simp only [List.length_map, List.length_append, List.length_cons, List.length_nil]; done) | fail) [-List.map_take, -List.map_drop, ic14, go_sem, refTermOf, h1, e, h2]
    | false =>
      simp [h2] at e
      simp (maxSteps := 1000000) (disch := first | omega | (simp only [List.length_map, List.length_append, List.length_cons, List.length_nil]; omega) | (simp only [List.length_map, List.length_append, List.length_cons, List.length_nil]; done) | fail) [-List.map_take, -List.map_drop, ic14, go_sem, refTermOf, h1, e, h2, h0 h2]
theorem findT_eq : ∀ (es : List Ent) (n u : Nat), fineGo n u es = true → ∀ i, n < i → findT i es = termOf ⟨n, u, es⟩ i := by
  intro es
  induction es with
  | nil => intro n u _ i hi; simp [findT, termOf]; omega
  | cons e r ih =>
    intro n u h i hi
    obtain ⟨h1, h2, _, _⟩ := fineGo_nth _ _ _ h e r rfl
    unfold findT
    by_cases hc : e.i = i
    · rw [if_pos hc, termOf, if_neg (by dsimp only; omega), dif_pos (by dsimp only; simp; omega)]
      have : i - n - 1 = 0 := by omega
      simp [this]
    · rw [if_neg hc, ih (n + 1) e.t h2 i (by omega)]
      rw [termOf, if_neg (by dsimp only; omega)]
      conv => rhs; rw [termOf, if_neg (by dsimp only; omega)]
      dsimp only
      by_cases h4 : n < i ∧ i - n - 1 < (e :: r).length
      · rw [dif_pos h4, dif_pos (by simp at h4; omega)]
        have : i - n - 1 = (i - (n + 1) - 1) + 1 := by omega
        simp only [this, List.getElem_cons_succ]
      · rw [dif_neg h4, dif_neg (by simp at h4; omega)]
theorem findT_lo : ∀ (es : List Ent) (n u : Nat), fineGo n u es = true → ∀ i, i ≤ n → findT i es = (0, false) := by
  intro es
  induction es with
  | nil => intro n u _ i hi; rfl
  | cons e r ih =>
    intro n u h i hi
    obtain ⟨h1, h2, _, _⟩ := fineGo_nth _ _ _ h e r rfl
    unfold findT
    rw [if_neg (by omega), ih (n + 1) e.t h2 i (by omega)]
theorem refTerm_is (l : Lg) (h : logOk l = true) (i : Nat) : refTermOf l i = termOf l i := by
  have hf : fineGo l.b l.t l.es = true := by simp [logOk] at h; exact h.2.2
  unfold refTermOf
  by_cases h1 : i = l.b
  · rw [if_pos h1, termOf, if_pos h1]
  · rw [if_neg h1]
    by_cases h2 : l.b < i
    · exact findT_eq l.es l.b l.t hf i h2
    · rw [findT_lo l.es l.b l.t hf i (by omega), term_lo l i (by omega)]
/-! the document's check -/
def rcSt (b t : Nat) (nl : Bool) (sz : Nat) (es : List Ent) (rm : Bool) (u k : Nat) : St := ⟨ofList [(1, .ptr 0 0), (3, .int .u64 u), (4, .int .i64 k)], ⟨[lgB b t nl sz es rm], []⟩⟩
theorem rc_loop (b t : Nat) (nl : Bool) (sz : Nat) (es : List Ent) (rm : Bool) (hsz : sz = 3 ∨ es.length = 0) (hl : es.length < 9223372036854775807) (hb : b + es.length < 18446744073709551615) : ∀ (r : List Ent) (k u : Nat), es.drop k = r → k ≤ es.length →
    (∃ q w, fineGo (b + k) u r = false ∧ run cfg 0 (.loop ic26l0) (rcSt b t nl sz es rm u k) = some (.ret, ⟨ofList ((2, .bool false) :: q), w⟩)) ∨
    (∃ q w, fineGo (b + k) u r = true ∧ run cfg 0 (.loop ic26l0) (rcSt b t nl sz es rm u k) = some (.exit 0, ⟨ofList q, w⟩)) := by
  intro r
  induction r with
  | nil =>
    intro k u hr hk
    have : k = es.length := by have := drop_nil hr; omega
    subst this
    refine .inr ⟨[(1, .ptr 0 0), (3, .int .u64 u), (4, .int .i64 es.length), (21, .bool false)], ⟨[lgB b t nl sz es rm], []⟩, rfl, ?_⟩
    rw [run_loop']
    simp (maxSteps := 1000000) (disch := first | omega | (simp only [List.length_map, List.length_append, List.length_cons, List.length_nil]; omega) | (simp only [List.length_map, List.length_append, List.length_cons, List.length_nil]; done) | fail) [-List.map_take, -List.map_drop, ic26l0, go_sem, rcSt, lgB]
  | cons e r ih =>
    intro k u hr hk
    obtain ⟨h1, h2, h3⟩ := drop_cons hr
    obtain ⟨_, he⟩ := List.getElem?_eq_some_iff.1 h2
    have h4 : sz = 3 := by omega
    subst h4
    have ih' := ih (k + 1) e.t h3 (by omega)
    have hck := fun h => refCheck_eq e h
    rw [run_loop']
    cases ho : entOk e with
    | false =>
      refine .inl ⟨[], ⟨[lgB b t nl 3 es rm, some ⟨false, [.int .u64 e.i, .int .u64 e.t, .str (bs e.d)]⟩], []⟩, by simp [fineGo, ho], ?_⟩
      rw [ho] at hck
      simp (maxSteps := 1000000) (disch := first | omega | (simp only [List.length_map, List.length_append, List.length_cons, List.length_nil]; omega) | (simp only [List.length_map, List.length_append, List.length_cons, List.length_nil]; done) | fail) [-List.map_take, -List.map_drop, ic26l0, go_sem, rcSt, lgB, he, aE, hck]
    | true =>
      rw [ho] at hck
      by_cases h5 : e.i = b + k + 1
      · by_cases h6 : u ≤ e.t
        · have hf : fineGo (b + k) u (e :: r) = fineGo (b + (k + 1)) e.t r := by simp [fineGo, ho, h5, h6, Nat.add_assoc]
          rw [hf]
          have e1 : loopK cfg 0 ic26l0 (run cfg 0 ic26l0 (rcSt b t nl 3 es rm u k)) = run cfg 0 (.loop ic26l0) (rcSt b t nl 3 es rm e.t (k + 1)) := by
            have h5' : (e.i : Int) = b + 1 + k := by omega
            simp (maxSteps := 1000000) (disch := first | omega | (simp only [List.length_map, List.length_append, List.length_cons, List.length_nil]; omega) | (simp only [List.length_map, List.length_append, List.length_cons, List.length_nil]; done) | fail) [-List.map_take, -List.map_drop, ic26l0, go_sem, rcSt, lgB, he, aE, hck]
          rw [e1]; exact ih'
        · refine .inl ⟨[], ⟨[lgB b t nl 3 es rm, some ⟨false, [.int .u64 e.i, .int .u64 e.t, .str (bs e.d)]⟩], []⟩, by simp [fineGo, h6], ?_⟩
          have h5' : (e.i : Int) = b + 1 + k := by omega
          simp (maxSteps := 1000000) (disch := first | omega | (simp only [List.length_map, List.length_append, List.length_cons, List.length_nil]; omega) | (simp only [List.length_map, List.length_append, List.length_cons, List.length_nil]; done) | fail) [-List.map_take, -List.map_drop, ic26l0, go_sem, rcSt, lgB, he, aE, hck]
      · refine .inl ⟨[], ⟨[lgB b t nl 3 es rm, some ⟨false, [.int .u64 e.i, .int .u64 e.t, .str (bs e.d)]⟩], []⟩, by simp [fineGo, h5], ?_⟩
        have h5' : ¬ (e.i : Int) = b + 1 + k := by omega
        simp (maxSteps := 1000000) (disch := first | omega | (simp only [List.length_map, List.length_append, List.length_cons, List.length_nil]; omega) | (simp only [List.length_map, List.length_append, List.length_cons, List.length_nil]; done) | fail) [-List.map_take, -List.map_drop, ic26l0, go_sem, rcSt, lgB, he, aE, hck]
theorem refCheckL_eq (b t : Nat) (nl : Bool) (sz : Nat) (es : List Ent) (rm : Bool) (hsz : sz = 3 ∨ es.length = 0) (hl : es.length < 4611686018427387904) (h : AH) :
    pureK h (call cfg 26 [.agg [.int .u64 b, .int .u64 t, .slice nl sz (es.map aE) (rmB rm)]] ⟨[], []⟩) = some (.bool (logOk ⟨b, t, es⟩), h) := by
  rw [cf_26 _ _ (by simp)]
  by_cases hb : b ≤ 1099511627776
  · by_cases ht : t ≤ 1099511627776
    · rcases rc_loop b t nl sz es rm hsz (by omega) (by omega) es 0 t (by simp) (by omega) with ⟨q, w, h1, e⟩ | ⟨q, w, h1, e⟩
      · simp [rcSt, lgB] at e h1
        simp (maxSteps := 1000000) (disch := first | omega | (simp only [List.length_map, List.length_append, List.length_cons, List.length_nil]; omega) | (simp only [List.length_map, List.length_append, List.length_cons, List.length_nil]; done) | fail) [-List.map_take, -List.map_drop, ic26, go_sem, e, logOk, h1]
      · simp [rcSt, lgB] at e h1
        simp (maxSteps := 1000000) (disch := first | omega | (simp only [List.length_map, List.length_append, List.length_cons, List.length_nil]; omega) | (simp only [List.length_map, List.length_append, List.length_cons, List.length_nil]; done) | fail) [-List.map_take, -List.map_drop, ic26, go_sem, e, logOk, h1]

    · simp (maxSteps := 1000000) (disch := first | omega | (simp only [List.length_map, List.length_append, List.length_cons, List.length_nil]; omega) | (simp only [List.length_map, List.length_append, List.length_cons, List.length_nil]; done) | fail) [-List.map_take, -List.map_drop, ic26, go_sem, logOk]
  · simp (maxSteps := 1000000) (disch := first | omega | (simp only [List.length_map, List.length_append, List.length_cons, List.length_nil]; omega) | (simp only [List.length_map, List.length_append, List.length_cons, List.length_nil]; done) | fail) [-List.map_take, -List.map_drop, ic26, go_sem, logOk]

end Go.Proofs.Ytghljcgkeeodaaa.Abs
