import Derived.Test.YtghljcgkeeodaaaKEnt
set_option linter.all false
set_option linter.unusedVariables false
set_option linter.unusedSimpArgs false
set_option maxRecDepth 10000
set_option maxHeartbeats 1000000
namespace Go.Proofs.Ytghljcgkeeodaaa.Abs
open Go.Abs
attribute [local congr] ite_congr
structure Lg where
  b : Nat
  t : Nat
  es : List Ent
  deriving DecidableEq
/-- a log's last index and term -/
def lastI (l : Lg) : Int := if l.es = [] then l.b else IntKind.u64.wrap (l.b + l.es.length)
def lastT (l : Lg) : Nat := match l.es.getLast? with | some e => e.t | none => l.t
theorem get_last {α : Type} (l : List α) (h : l ≠ []) : l[l.length - 1]? = l.getLast? := by rw [List.getLast?_eq_getElem?]
theorem last_eq (b t : Nat) (nl : Bool) (sz : Nat) (es : List Ent) (rm : Bool) (hsz : sz = 3 ∨ es.length = 0) (hn : es.length < 9223372036854775808) (h : AH) :
    pureK h (call cfg 18 [.agg [.int .u64 b, .int .u64 t, .slice nl sz (es.map aE) (rmB rm)]] ⟨[], []⟩) = some (.tup [.int .u64 (lastI ⟨b, t, es⟩), .int .u64 (lastT ⟨b, t, es⟩)], h) := by
  rw [cf_18 _ _ (by simp)]
  cases hes : es.getLast? with
  | none =>
    have : es = [] := List.getLast?_eq_none_iff.1 hes
    subst this
    simp (maxSteps := 1000000) (disch := first | omega | (simp only [List.length_map, List.length_append, List.length_cons, List.length_nil]; omega) | (simp only [List.length_map, List.length_append, List.length_cons, List.length_nil]; done) | fail) [-List.map_take, -List.map_drop, ic18, go_sem, lastI, lastT]
  | some e =>
    have hne : es ≠ [] := by rintro rfl; cases hes
    have hpos : 0 < es.length := List.length_pos_iff.2 hne
    have h3 : sz = 3 := by omega
    subst h3
    have hl : es[es.length - 1]? = some e := by rw [get_last _ hne]; exact hes
    obtain ⟨_, hl⟩ := List.getElem?_eq_some_iff.1 hl
    simp (maxSteps := 1000000) (disch := first | omega | (simp only [List.length_map, List.length_append, List.length_cons, List.length_nil]; omega) | (simp only [List.length_map, List.length_append, List.length_cons, List.length_nil]; done) | fail) [-List.map_take, -List.map_drop, ic18, go_sem, lastI, lastT, hes, hne, hl, aE]
/-- an entry's term -/
def termOf (l : Lg) (i : Nat) : Nat × Bool := if i = l.b then (l.t, true) else if h : l.b < i ∧ i - l.b - 1 < l.es.length then ((l.es[i - l.b - 1]'h.2).t, true) else (0, false)
theorem term_eq (b t : Nat) (nl : Bool) (sz : Nat) (es : List Ent) (rm : Bool) (i : Nat) (hsz : sz = 3 ∨ es.length = 0) (hb : b + es.length < 18446744073709551616) (hn : es.length < 9223372036854775808) (hi : i < 18446744073709551616) (h : AH) :
    pureK h (call cfg 21 [.agg [.int .u64 b, .int .u64 t, .slice nl sz (es.map aE) (rmB rm)], .int .u64 i] ⟨[], []⟩) = some (.tup [.int .u64 (termOf ⟨b, t, es⟩ i).1, .bool (termOf ⟨b, t, es⟩ i).2], h) := by
  rw [cf_21 _ _ (by simp)]
  have hl := fun rm => last_eq b t nl sz es rm hsz hn
  have hI : lastI ⟨b, t, es⟩ = ((b + es.length : Nat) : Int) := by
    unfold lastI
    split
    · rename_i h; simp at h; subst h; simp
    · rw [wrapU64] <;> push_cast <;> omega
  rw [hI] at hl
  by_cases h1 : i = b
  · subst h1
    simp (maxSteps := 1000000) (disch := first | omega | (simp only [List.length_map, List.length_append, List.length_cons, List.length_nil]; omega) | (simp only [List.length_map, List.length_append, List.length_cons, List.length_nil]; done) | fail) [-List.map_take, -List.map_drop, ic21, go_sem, hl, termOf]
  · by_cases h2 : b < i ∧ i - b - 1 < es.length
    · have h3 : sz = 3 := by omega
      subst h3
      obtain ⟨e, he⟩ : ∃ e, es[i - b - 1]'h2.2 = e := ⟨_, rfl⟩
      have ht : ((i : Int) - (b : Int) - 1).toNat = i - b - 1 := by omega
      simp (maxSteps := 1000000) (disch := first | omega | (simp only [List.length_map, List.length_append, List.length_cons, List.length_nil]; omega) | (simp only [List.length_map, List.length_append, List.length_cons, List.length_nil]; done) | fail) [-List.map_take, -List.map_drop, ic21, go_sem, hl, termOf, h1, ht, aE, h2]
    · simp (maxSteps := 1000000) (disch := first | omega | (simp only [List.length_map, List.length_append, List.length_cons, List.length_nil]; omega) | (simp only [List.length_map, List.length_append, List.length_cons, List.length_nil]; done) | fail) [-List.map_take, -List.map_drop, ic21, go_sem, hl, termOf, h1, h2]
      trace_state
theorem newer_eq (b t : Nat) (nl : Bool) (sz : Nat) (es : List Ent) (rm : Bool) (i u : Nat) (hsz : sz = 3 ∨ es.length = 0) (hn : es.length < 9223372036854775808) (h : AH) :
    pureK h (call cfg 19 [.agg [.int .u64 b, .int .u64 t, .slice nl sz (es.map aE) (rmB rm)], .int .u64 i, .int .u64 u] ⟨[], []⟩) =
      some (.bool (decide (u > lastT ⟨b, t, es⟩ ∨ u = lastT ⟨b, t, es⟩ ∧ (i : Int) ≥ lastI ⟨b, t, es⟩)), h) := by
  rw [cf_19 _ _ (by simp)]
  have hl := fun rm => last_eq b t nl sz es rm hsz hn
  simp (maxSteps := 1000000) (disch := first | omega | (simp only [List.length_map, List.length_append, List.length_cons, List.length_nil]; omega) | (simp only [List.length_map, List.length_append, List.length_cons, List.length_nil]; done) | fail) [-List.map_take, -List.map_drop, ic19, go_sem, hl]
  (repeat' split) <;> (refine boolGoal ?_; simp [] <;> omega)

end Go.Proofs.Ytghljcgkeeodaaa.Abs
