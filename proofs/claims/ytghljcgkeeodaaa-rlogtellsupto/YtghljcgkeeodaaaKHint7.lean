import Derived.Test.YtghljcgkeeodaaaKPut7
set_option linter.all false
set_option linter.unusedVariables false
set_option linter.unusedSimpArgs false
set_option maxRecDepth 10000
set_option maxHeartbeats 1000000
namespace Go.Proofs.Ytghljcgkeeodaaa.Abs
open Go.Abs
attribute [local congr] ite_congr
def hintOf (l : Lg) (own : Nat) : Nat → Nat
  | 0 => l.b
  | i + 1 => if l.b < i + 1 then (if (termOf l i).1 = own then hintOf l own i else i) else l.b
def hintSt (b t : Nat) (nl : Bool) (sz : Nat) (es : List Ent) (rm : Bool) (own i : Nat) (x : List (Nat × AV)) : St := ⟨ofList ((2, .int .u64 own) :: (3, .ptr 0 0) :: (7, .int .u64 i) :: x), ⟨[lgB b t nl sz es rm], []⟩⟩
theorem hint_loop (b t : Nat) (nl : Bool) (sz : Nat) (es : List Ent) (rm : Bool) (own : Nat) (hsz : sz = 3 ∨ es.length = 0) (hb : b + es.length < 18446744073709551616) (hn : es.length < 9223372036854775808) : ∀ (i : Nat) (x : List (Nat × AV)), i < 18446744073709551616 →
    (∃ k : Nat, hintOf ⟨b, t, es⟩ own i = b ∧ run cfg 0 (.loop ic29l0) (hintSt b t nl sz es rm own i x) = some (.exit 0, ⟨ofList [(2, .int .u64 own), (3, .ptr 0 0), (7, .int .u64 k), (14, .bool false)], ⟨[lgB b t nl sz es rm], []⟩⟩)) ∨
    run cfg 0 (.loop ic29l0) (hintSt b t nl sz es rm own i x) = some (.ret, ⟨ofList [(6, .int .u64 (hintOf ⟨b, t, es⟩ own i))], ⟨[lgB b t nl sz es rm], []⟩⟩) := by
  intro i
  induction i with
  | zero =>
    intro x hi
    refine .inl ⟨0, rfl, ?_⟩
    simp (maxSteps := 1000000) (disch := first | omega | (simp only [List.length_map, List.length_append, List.length_cons, List.length_nil]; omega) | (simp only [List.length_map, List.length_append, List.length_cons, List.length_nil]; done) | fail) [-List.map_take, -List.map_drop, run_loop', ic29l0, go_sem, hintSt, lgB]
  | succ i ih =>
    intro x hi
    have ih := ih [(25, .bool false)] (by omega)
    by_cases h1 : b < i + 1
    · have ht := term_eq b t nl sz es rm i hsz hb hn (by omega)
      by_cases h2 : (termOf ⟨b, t, es⟩ i).1 = own
      · have e : run cfg 0 (.loop ic29l0) (hintSt b t nl sz es rm own (i + 1) x) = run cfg 0 (.loop ic29l0) (hintSt b t nl sz es rm own i [(25, .bool false)]) := by
          rw [run_loop']
          simp (maxSteps := 1000000) (disch := first | omega | (simp only [List.length_map, List.length_append, List.length_cons, List.length_nil]; omega) | (simp only [List.length_map, List.length_append, List.length_cons, List.length_nil]; done) | fail) [-List.map_take, -List.map_drop, ic29l0, go_sem, hintSt, lgB, ht, h2]
        simp only [hintOf, h1, h2, if_true]
        rw [e]; exact ih
      · refine .inr ?_
        rw [run_loop']
        simp (maxSteps := 1000000) (disch := first | omega | (simp only [List.length_map, List.length_append, List.length_cons, List.length_nil]; omega) | (simp only [List.length_map, List.length_append, List.length_cons, List.length_nil]; done) | fail) [-List.map_take, -List.map_drop, ic29l0, go_sem, hintSt, lgB, ht, h2, hintOf]
    · refine .inl ⟨i + 1, by simp [hintOf, h1], ?_⟩
      rw [run_loop']
      simp (maxSteps := 1000000) (disch := first | omega | (simp only [List.length_map, List.length_append, List.length_cons, List.length_nil]; omega) | (simp only [List.length_map, List.length_append, List.length_cons, List.length_nil]; done) | fail) [-List.map_take, -List.map_drop, ic29l0, go_sem, hintSt, lgB]
theorem hint_eq (b t : Nat) (nl : Bool) (sz : Nat) (es : List Ent) (rm : Bool) (i own : Nat) (hsz : sz = 3 ∨ es.length = 0) (hb : b + es.length < 18446744073709551616) (hn : es.length < 9223372036854775808) (hi : i < 18446744073709551616) (h : AH) :
    pureK h (call cfg 29 [.agg [.int .u64 b, .int .u64 t, .slice nl sz (es.map aE) (rmB rm)], .int .u64 i, .int .u64 own] ⟨[], []⟩) = some (.int .u64 (hintOf ⟨b, t, es⟩ own i), h) := by
  rw [cf_29 _ _ (by simp)]
  rcases hint_loop b t nl sz es rm own hsz hb hn i [] hi with ⟨k, h1, e⟩ | e
  · simp [hintSt, lgB] at e
    simp (maxSteps := 1000000) (disch := first | omega | (simp only [List.length_map, List.length_append, List.length_cons, List.length_nil]; omega) | (simp only [List.length_map, List.length_append, List.length_cons, List.length_nil]; done) | fail) [-List.map_take, -List.map_drop, ic29, go_sem, e, h1]
  · simp [hintSt, lgB] at e
    simp (maxSteps := 1000000) (disch := first | omega | (simp only [List.length_map, List.length_append, List.length_cons, List.length_nil]; omega) | (simp only [List.length_map, List.length_append, List.length_cons, List.length_nil]; done) | fail) [-List.map_take, -List.map_drop, ic29, go_sem, e]

end Go.Proofs.Ytghljcgkeeodaaa.Abs
