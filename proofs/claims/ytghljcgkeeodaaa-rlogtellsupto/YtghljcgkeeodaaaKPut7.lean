import Derived.Test.YtghljcgkeeodaaaKCheck7
set_option linter.all false
set_option linter.unusedVariables false
set_option linter.unusedSimpArgs false
set_option maxRecDepth 10000
set_option maxHeartbeats 1000000
namespace Go.Proofs.Ytghljcgkeeodaaa.Abs
open Go.Abs
attribute [local congr] ite_congr
/-- slices.Concat of rows of entries -/
def aRow (p : Bool × Nat × List Ent × Bool) : AV := .slice p.1 p.2.1 (p.2.2.1.map aE) (rmB p.2.2.2)
theorem aRow_strip (p : Bool × Nat × List Ent × Bool) : (aRow p).strip = aRow p := by simp [aRow, go_sem]
theorem aRow_refs (nb nt : Nat) (p : Bool × Nat × List Ent × Bool) : (aRow p).refs nb nt = true := by simp [aRow, go_sem]
theorem concat2_eq (n1 n2 : Bool) (s1 s2 : Nat) (l1 l2 : List Ent) (r1 r2 : Bool) (h1 : s1 = 3 ∨ l1.length = 0) (h2 : s2 = 3 ∨ l2.length = 0) (hl : l1.length + l2.length < 1099511627776) (rm : Bool) :
    ∃ nl sz c, (sz = 3 ∨ (l1 ++ l2).length = 0) ∧ (nl = true → (l1 ++ l2).length = 0) ∧ ∀ h, pureK h (call cfg 30 [.slice false 1 [.slice n1 s1 (l1.map aE) (rmB r1), .slice n2 s2 (l2.map aE) (rmB r2)] (rmB rm)] ⟨[], []⟩) = some (.slice nl sz ((l1 ++ l2).map aE) (rmB c), h) := by
  by_cases h0 : l1.length + l2.length = 0
  · have e1 : l1 = [] := List.length_eq_zero_iff.1 (by omega)
    have e2 : l2 = [] := List.length_eq_zero_iff.1 (by omega)
    subst e1; subst e2
    refine ⟨true, 3, true, .inl rfl, fun _ => rfl, fun h => ?_⟩
    have hg := fun h => (call_prim pr_43 [.slice true 0 [] .full, .int .i64 0] h).trans (growP_zero 3 32 0 .full h)
    rw [cf_30 _ _ (by simp)]
    simp (maxSteps := 1000000) (disch := first | omega | (simp only [List.length_map, List.length_append, List.length_cons, List.length_nil]; omega) | (simp only [List.length_map, List.length_append, List.length_cons, List.length_nil]; done) | fail) [-List.map_take, -List.map_drop, ic30, go_sem, run_loop', ic30l0, ic30l1, hg]

  · refine ⟨false, 3, false, .inl rfl, (fun h => by cases h), fun h => ?_⟩
    have hg := fun h => (call_prim pr_43 [.slice true 0 [] .full, .int .i64 (l1.length + l2.length)] h).trans (growP_eq 3 32 0 .full (l1.length + l2.length) h (by omega) (by omega) (by omega))
    rw [cf_30 _ _ (by simp)]
    simp (maxSteps := 1000000) (disch := first | omega | (simp only [List.length_map, List.length_append, List.length_cons, List.length_nil]; omega) | (simp only [List.length_map, List.length_append, List.length_cons, List.length_nil]; done) | fail) [-List.map_take, -List.map_drop, ic30, go_sem, run_loop', ic30l0, ic30l1, hg]


end Go.Proofs.Ytghljcgkeeodaaa.Abs
