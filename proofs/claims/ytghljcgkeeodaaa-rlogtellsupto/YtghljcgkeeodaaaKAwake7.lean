import Derived.Test.YtghljcgkeeodaaaKPutB7
import Derived.Test.YtghljcgkeeodaaaKMade7
set_option linter.all false
set_option linter.unusedVariables false
set_option linter.unusedSimpArgs false
set_option maxRecDepth 10000
set_option maxHeartbeats 1000000
namespace Go.Proofs.Ytghljcgkeeodaaa.Abs
open Go.Abs
attribute [local congr] ite_congr
theorem awake_eq (h : AH) : pureK h (call cfg 9 [] ⟨[], []⟩) = some (.bool true, h) := by
  obtain ⟨n1, s1, c1, h1, hn1, e1⟩ := made_eq [0, 0, 0] false true 0
  have hm : madeL [0, 0, 0] 0 = ⟨0, 0, [⟨1, 1, [97]⟩, ⟨2, 1, [97]⟩, ⟨3, 1, [97]⟩]⟩ := by decide +kernel
  rw [hm] at e1 h1 hn1
  obtain ⟨n2, s2, c2, h2, hn2, e2⟩ := put_eq 0 0 n1 s1 [⟨1, 1, [97]⟩, ⟨2, 1, [97]⟩, ⟨3, 1, [97]⟩] c1 1 1 false 3 [⟨2, 2, []⟩] true (by omega) h1 (by simp) (by simp) (by simp) (.inl rfl) hn1
  have hp : putOf ⟨0, 0, [⟨1, 1, [97]⟩, ⟨2, 1, [97]⟩, ⟨3, 1, [97]⟩]⟩ 1 1 [⟨2, 2, []⟩] = (⟨0, 0, [⟨1, 1, [97]⟩, ⟨2, 2, []⟩]⟩, 2, true) := by decide +kernel
  rw [hp] at e2 h2 hn2
  have h3 : s2 = 3 := by simpa using h2
  subst h3
  simp [aI, aE] at e1 e2
  rw [cf_9 _ _ (by simp)]
  simp (maxSteps := 1000000) (disch := first | omega | (simp only [List.length_map, List.length_append, List.length_cons, List.length_nil]; omega) | (simp only [List.length_map, List.length_append, List.length_cons, List.length_nil]; done) | fail) [-List.map_take, -List.map_drop, ic9, go_sem, e1, e2]

end Go.Proofs.Ytghljcgkeeodaaa.Abs
