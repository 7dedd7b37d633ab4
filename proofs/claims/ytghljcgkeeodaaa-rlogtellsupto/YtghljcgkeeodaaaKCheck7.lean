import Derived.Test.YtghljcgkeeodaaaKLog
set_option linter.all false
set_option linter.unusedVariables false
set_option linter.unusedSimpArgs false
set_option maxRecDepth 10000
set_option maxHeartbeats 1000000
namespace Go.Proofs.Ytghljcgkeeodaaa.Abs
open Go.Abs
attribute [local congr] ite_congr
/-- are a log's entries in order? -/
def fineGo : Nat → Nat → List Ent → Bool
  | _, _, [] => true
  | n, t, e :: r => entOk e && (decide (e.i = n + 1) && (decide (t ≤ e.t) && fineGo (n + 1) e.t r))
def logOk (l : Lg) : Bool := decide (l.b ≤ 1099511627776) && (decide (l.t ≤ 1099511627776) && fineGo l.b l.t l.es)
def badE (n t : Nat) (e : Ent) : Bool := !(entOk e && (decide (e.i = n + 1) && decide (t ≤ e.t)))
/-- a slice's parts, as a block of a log -/
def lgB (b t : Nat) (nl : Bool) (sz : Nat) (es : List Ent) (rm : Bool) : Option Blk := some ⟨false, [.int .u64 b, .int .u64 t, .slice nl sz (es.map aE) (rmB rm)]⟩
def ckH (b t : Nat) (nl : Bool) (sz : Nat) (es : List Ent) (rm : Bool) (n u : Nat) : AH := ⟨[lgB b t nl sz es rm, some ⟨false, [.int .u64 n]⟩, some ⟨false, [.int .u64 u]⟩], []⟩
theorem closure_eq (b t : Nat) (nl : Bool) (sz : Nat) (es : List Ent) (rm : Bool) (n u : Nat) (e : Ent) (hn : n < 18446744073709551615) :
    call cfg 31 [.agg [.int .u64 e.i, .int .u64 e.t, .str (bs e.d)], .ptr 1 0, .ptr 2 0] (ckH b t nl sz es rm n u) = some (.bool (badE n u e), ckH b t nl sz es rm (n + 1) e.t) := by
  rw [cf_31 _ _ (by simp)]
  simp (maxSteps := 1000000) (disch := first | omega | (simp only [List.length_map, List.length_append, List.length_cons, List.length_nil]; omega) | (simp only [List.length_map, List.length_append, List.length_cons, List.length_nil]; done) | fail) [-List.map_take, -List.map_drop, ic31, go_sem, ckH, lgB, entCheck_eq]
  cases hE : entOk e <;> (repeat' split) <;> (refine boolGoal ?_; simp [badE, hE] <;> omega)
def ckF : AV := .func (.func 31) [] [.ptr 1 0, .ptr 2 0]
def ixSt (b t : Nat) (nl : Bool) (sz : Nat) (es : List Ent) (rm : Bool) (n u i : Nat) : St :=
  ⟨ofList [(0, .slice nl sz (es.map aE) (rmB rm)), (1, ckF), (7, .int .i64 es.length), (8, .int .i64 i)], ckH b t nl sz es rm n u⟩
theorem ix_round (b t : Nat) (nl : Bool) (es : List Ent) (rm : Bool) (n u i : Nat) (e : Ent) (he : es[i]? = some e) (hn : n < 18446744073709551615) (hl : es.length < 9223372036854775808) :
    run cfg 3 ic44l0 (ixSt b t nl 3 es rm n u i) = if badE n u e then some (.ret, ⟨ofList [(4, .int .i64 i)], ckH b t nl 3 es rm (n + 1) e.t⟩) else some (.normal, ixSt b t nl 3 es rm (n + 1) e.t (i + 1)) := by
  obtain ⟨hi, he⟩ := List.getElem?_eq_some_iff.1 he
  have hc := closure_eq b t nl 3 es rm n u e hn
  simp (maxSteps := 1000000) (disch := first | omega | (simp only [List.length_map, List.length_append, List.length_cons, List.length_nil]; omega) | (simp only [List.length_map, List.length_append, List.length_cons, List.length_nil]; done) | fail) [-List.map_take, -List.map_drop, ic44l0, go_sem, ixSt, ckF, he, hc, aE]
theorem ix_end (b t : Nat) (nl : Bool) (sz : Nat) (es : List Ent) (rm : Bool) (n u : Nat) :
    run cfg 3 ic44l0 (ixSt b t nl sz es rm n u es.length) = some (.exit 0, ⟨ofList [(0, .slice nl sz (es.map aE) (rmB rm)), (1, ckF), (7, .int .i64 es.length), (8, .int .i64 es.length), (9, .bool false)], ckH b t nl sz es rm n u⟩) := by
  simp (maxSteps := 1000000) (disch := first | omega | (simp only [List.length_map, List.length_append, List.length_cons, List.length_nil]; omega) | (simp only [List.length_map, List.length_append, List.length_cons, List.length_nil]; done) | fail) [-List.map_take, -List.map_drop, ic44l0, go_sem, ixSt, ckF]
theorem fine_bad (n u : Nat) (e : Ent) (r : List Ent) : fineGo n u (e :: r) = (!badE n u e && fineGo (n + 1) e.t r) := by
  simp only [fineGo, badE, Bool.not_not, Bool.and_assoc]
theorem ix_loop (b t : Nat) (nl : Bool) (sz : Nat) (es : List Ent) (rm : Bool) (hsz : sz = 3 ∨ es.length = 0) (hl : es.length < 4611686018427387904) : ∀ (r : List Ent) (i n u : Nat), es.drop i = r → i ≤ es.length → n + r.length < 18446744073709551615 →
    (fineGo n u r = false ∧ ∃ (k : Nat) (n' u' : Nat), run cfg 3 (.loop ic44l0) (ixSt b t nl sz es rm n u i) = some (.ret, ⟨ofList [(4, .int .i64 k)], ckH b t nl sz es rm n' u'⟩)) ∨
    (fineGo n u r = true ∧ ∃ (n' u' : Nat), run cfg 3 (.loop ic44l0) (ixSt b t nl sz es rm n u i) = some (.exit 0, ⟨ofList [(0, .slice nl sz (es.map aE) (rmB rm)), (1, ckF), (7, .int .i64 es.length), (8, .int .i64 es.length), (9, .bool false)], ckH b t nl sz es rm n' u'⟩)) := by
  intro r
  induction r with
  | nil =>
    intro i n u hr hi hn
    have : i = es.length := by have := drop_nil hr; omega
    subst this
    refine .inr ⟨rfl, n, u, ?_⟩
    rw [run_loop, ix_end]; rfl
  | cons e r ih =>
    intro i n u hr hi hn
    obtain ⟨h1, h2, h3⟩ := drop_cons hr
    have h4 : sz = 3 := by omega
    subst h4
    rw [run_loop, ix_round b t nl es rm n u i e h2 (by simp at hn; omega) (by omega), fine_bad]
    cases hb : badE n u e with
    | true => exact .inl ⟨by simp, i, n + 1, e.t, by simp [ob_some, andThen]⟩
    | false =>
      simp only [Bool.false_eq_true, if_false, ob_some, andThen, Bool.not_false, Bool.true_and]
      exact ih (i + 1) (n + 1) e.t h3 (by omega) (by simp at hn; omega)
theorem contains_eq (b t : Nat) (nl : Bool) (sz : Nat) (es : List Ent) (rm : Bool) (hsz : sz = 3 ∨ es.length = 0) (hl : es.length < 4611686018427387904) (hb : b + es.length < 18446744073709551615) :
    ∃ n' u', call cfg 33 [.slice nl sz (es.map aE) (rmB rm), ckF] (ckH b t nl sz es rm b t) = some (.bool (!fineGo b t es), ckH b t nl sz es rm n' u') := by
  rcases ix_loop b t nl sz es rm hsz hl es 0 b t (by simp) (by omega) hb with ⟨h1, k, n', u', e⟩ | ⟨h1, n', u', e⟩
  · refine ⟨n', u', ?_⟩
    have h2 : call cfg 44 [.slice nl sz (es.map aE) (rmB rm), ckF] (ckH b t nl sz es rm b t) = some (.int .i64 k, ckH b t nl sz es rm n' u') := by
      rw [cf_44 _ _ (by simp)]
      simp [ixSt, ckH, lgB] at e
      rcases hsz with rfl | h0
      · simp (maxSteps := 1000000) (disch := first | omega | (simp only [List.length_map, List.length_append, List.length_cons, List.length_nil]; omega) | (simp only [List.length_map, List.length_append, List.length_cons, List.length_nil]; done) | fail) [-List.map_take, -List.map_drop, ic44, go_sem, ckH, lgB, e]
      · rw [List.length_eq_zero_iff.1 h0] at h1; simp [fineGo] at h1
    rw [cf_33 _ _ (by simp)]
    simp (maxSteps := 1000000) (disch := first | omega | (simp only [List.length_map, List.length_append, List.length_cons, List.length_nil]; omega) | (simp only [List.length_map, List.length_append, List.length_cons, List.length_nil]; done) | fail) [-List.map_take, -List.map_drop, ic33, go_sem, h2, h1]
  · refine ⟨n', u', ?_⟩
    have h2 : call cfg 44 [.slice nl sz (es.map aE) (rmB rm), ckF] (ckH b t nl sz es rm b t) = some (.int .i64 (-1), ckH b t nl sz es rm n' u') := by
      rw [cf_44 _ _ (by simp)]
      simp [ixSt, ckH, lgB] at e
      simp (maxSteps := 1000000) (disch := first | omega | (simp only [List.length_map, List.length_append, List.length_cons, List.length_nil]; omega) | (simp only [List.length_map, List.length_append, List.length_cons, List.length_nil]; done) | fail) [-List.map_take, -List.map_drop, ic44, go_sem, ckH, lgB, e]
    rw [cf_33 _ _ (by simp)]
    simp (maxSteps := 1000000) (disch := first | omega | (simp only [List.length_map, List.length_append, List.length_cons, List.length_nil]; omega) | (simp only [List.length_map, List.length_append, List.length_cons, List.length_nil]; done) | fail) [-List.map_take, -List.map_drop, ic33, go_sem, h2, h1]
theorem check_eq (b t : Nat) (nl : Bool) (sz : Nat) (es : List Ent) (rm : Bool) (hsz : sz = 3 ∨ es.length = 0) (hl : es.length < 4611686018427387904) (h : AH) :
    pureK h (call cfg 16 [.agg [.int .u64 b, .int .u64 t, .slice nl sz (es.map aE) (rmB rm)]] ⟨[], []⟩) = some (.bool (logOk ⟨b, t, es⟩), h) := by
  rw [cf_16 _ _ (by simp)]
  by_cases hb : b ≤ 1099511627776
  · obtain ⟨n', u', e⟩ := contains_eq b t nl sz es rm hsz hl (by omega)
    simp [ckH, lgB, ckF] at e
    simp (maxSteps := 1000000) (disch := first | omega | (simp only [List.length_map, List.length_append, List.length_cons, List.length_nil]; omega) | (simp only [List.length_map, List.length_append, List.length_cons, List.length_nil]; done) | fail) [-List.map_take, -List.map_drop, ic16, go_sem, e]
    cases hF : fineGo b t es <;> (repeat' split) <;> (refine boolGoal ?_; simp [logOk, hF] <;> omega)
  · by_cases hlt : b < t
    · simp (maxSteps := 1000000) (disch := first | omega | (simp only [List.length_map, List.length_append, List.length_cons, List.length_nil]; omega) | (simp only [List.length_map, List.length_append, List.length_cons, List.length_nil]; done) | fail) [-List.map_take, -List.map_drop, ic16, go_sem, hlt]
      simp [logOk]; omega
    · simp (maxSteps := 1000000) (disch := first | omega | (simp only [List.length_map, List.length_append, List.length_cons, List.length_nil]; omega) | (simp only [List.length_map, List.length_append, List.length_cons, List.length_nil]; done) | fail) [-List.map_take, -List.map_drop, ic16, go_sem, hlt]
      simp [logOk]; omega

end Go.Proofs.Ytghljcgkeeodaaa.Abs
