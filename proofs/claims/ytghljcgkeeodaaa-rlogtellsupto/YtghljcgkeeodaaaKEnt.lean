import Derived.Test.YtghljcgkeeodaaaFF
set_option linter.all false
set_option linter.unusedVariables false
set_option linter.unusedSimpArgs false
set_option maxRecDepth 10000
set_option maxHeartbeats 1000000
namespace Go.Proofs.Ytghljcgkeeodaaa.Abs
open Go.Abs
attribute [local congr] ite_congr
structure Ent where
  i : Nat
  t : Nat
  d : List UInt8
  deriving DecidableEq
def aE (e : Ent) : AV := .agg [.int .u64 e.i, .int .u64 e.t, .str (bs e.d)]
theorem aE_strip (e : Ent) : (aE e).strip = aE e := by simp [aE, go_sem]
theorem aE_refs (nb nt : Nat) (e : Ent) : (aE e).refs nb nt = true := by simp [aE, go_sem]
theorem aE_cells (e : Ent) : (aE e).cells = [.int .u64 e.i, .int .u64 e.t, .str (bs e.d)] := rfl
theorem aEs_strip (l : List Ent) : stripAll (l.map aE) = l.map aE := strip_map aE_strip l
theorem aEs_refs (nb nt : Nat) (l : List Ent) : refsAll nb nt (l.map aE) = true := refs_map (aE_refs nb nt) l
attribute [go_sem] aE_strip aE_refs aE_cells aEs_strip aEs_refs
/-- may it be? -/
def entOk (e : Ent) : Bool := decide (1 ≤ e.i ∧ e.i ≤ 1099511627776 ∧ 1 ≤ e.t ∧ e.t ≤ 1099511627776 ∧ e.d.length ≤ 60)
theorem entCheck_eq (e : Ent) (h : AH) : pureK h (call cfg 32 [.agg [.int .u64 e.i, .int .u64 e.t, .str (bs e.d)]] ⟨[], []⟩) = some (.bool (entOk e), h) := by
  rw [cf_32 _ _ (by simp)]
  simp (maxSteps := 1000000) (disch := first | omega | (simp only [List.length_map, List.length_append, List.length_cons, List.length_nil]; omega) | (simp only [List.length_map, List.length_append, List.length_cons, List.length_nil]; done) | fail) [-List.map_take, -List.map_drop, ic32, go_sem]
  (repeat' split) <;> (refine boolGoal ?_; simp [entOk] <;> omega)
theorem refCheck_eq (e : Ent) (h : AH) : pureK h (call cfg 37 [.agg [.int .u64 e.i, .int .u64 e.t, .str (bs e.d)]] ⟨[], []⟩) = some (.bool (entOk e), h) := by
  rw [cf_37 _ _ (by simp)]
  simp (maxSteps := 1000000) (disch := first | omega | (simp only [List.length_map, List.length_append, List.length_cons, List.length_nil]; omega) | (simp only [List.length_map, List.length_append, List.length_cons, List.length_nil]; done) | fail) [-List.map_take, -List.map_drop, ic37, go_sem]
  (repeat' split) <;> (refine boolGoal ?_; simp [entOk] <;> omega)

end Go.Proofs.Ytghljcgkeeodaaa.Abs
