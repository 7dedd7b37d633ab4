import Derived.Test.YtghljcgkeeodaaaKSm7
set_option linter.all false
set_option linter.unusedVariables false
set_option linter.unusedSimpArgs false
set_option maxRecDepth 10000
set_option maxHeartbeats 1000000
namespace Go.Proofs.Ytghljcgkeeodaaa.Abs
open Go.Abs
attribute [local congr] ite_congr
theorem RlogNewer_main (xs : List AV) (hs : ShL (lookT tab) 8 [22, 22, 44] xs) (hb : bulkL xs ≤ 1048576) : ∃ h', call cfg 5 xs AH.empty = some (.bool true, h') := by
  obtain ⟨x1, _, rfl, s1, x2, _, rfl, s2, x3, _, rfl, s3, rfl⟩ := hs
  obtain ⟨n1, l1, rfl, _⟩ := sh_ints s1
  obtain ⟨n2, l2, rfl, _⟩ := sh_ints s2
  obtain ⟨a, b, rfl⟩ := sh_int2 s3
  refine pureK_bool (h := ⟨[], []⟩) (h1 := ⟨[], []⟩) ?_
  obtain ⟨m1, z1, c1, k1, e1⟩ := made_eq l1 n1 false a
  obtain ⟨m2, z2, c2, k2, e2⟩ := made_eq l2 n2 false b
  obtain ⟨p1, p2, p3, p4⟩ := made_small l1 a
  obtain ⟨q1, q2, q3, q4⟩ := made_small l2 b
  generalize madeL l1 a = A at *
  generalize madeL l2 b = B at *
  obtain ⟨Ab, At, Ae⟩ := A
  obtain ⟨Bb, Bt, Be⟩ := B
  dsimp only at *
  have ea := fun h => last_eq Ab At m1 z1 Ae c1 k1 (by omega) h
  have eb := fun h => last_eq Bb Bt m2 z2 Be c2 k2 (by omega) h
  rw [p4] at ea
  rw [q4] at eb
  have na := fun i u h => newer_eq Ab At m1 z1 Ae c1 i u k1 (by omega) h
  have nb := fun i u h => newer_eq Bb Bt m2 z2 Be c2 i u k2 (by omega) h
  rw [p4] at na
  rw [q4] at nb
  generalize lastT ⟨Ab, At, Ae⟩ = u at *
  generalize lastT ⟨Bb, Bt, Be⟩ = v at *
  generalize Ab + Ae.length = i at *
  generalize Bb + Be.length = j at *
  have na0 := na i u
  have na1 := na j v
  have na2 := na 0 (u + 1)
  have nb1 := nb i u
  rw [empty_eq, cf_5 _ _ (by simp)]
  rcases Nat.lt_trichotomy u v with h1 | h1 | h1 <;> rcases Nat.lt_trichotomy i j with h2 | h2 | h2
  all_goals simp (maxSteps := 1000000) (disch := first | omega | (simp only [List.length_map, List.length_append, List.length_cons, List.length_nil]; omega) | (simp only [List.length_map, List.length_append, List.length_cons, List.length_nil]; done) | fail) [-List.map_take, -List.map_drop, go_sem] at na0 na1 na2 nb1
  all_goals simp (maxSteps := 1000000) (disch := first | omega | (simp only [List.length_map, List.length_append, List.length_cons, List.length_nil]; omega) | (simp only [List.length_map, List.length_append, List.length_cons, List.length_nil]; done) | fail) [-List.map_take, -List.map_drop, ic5, go_sem, awake_eq, e1, e2, ea, eb, na0, na1, na2, nb1]

end Go.Proofs.Ytghljcgkeeodaaa.Abs
