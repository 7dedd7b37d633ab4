import Derived.Test.YtdpkhkiecobkoaaKAwake12
set_option linter.all false
set_option linter.unusedVariables false
set_option linter.unusedSimpArgs false
set_option maxRecDepth 10000
set_option maxHeartbeats 1000000
namespace Go.Proofs.Ytdpkhkiecobkoaa.Abs
open Go.Abs
attribute [local congr] ite_congr
theorem SessionFar_main (xs : List AV) (hs : ShL (lookT tab) 8 [3, 26, 26] xs) (hb : bulkL xs ≤ 1048576) : ∃ h', call cfg 6 xs AH.empty = some (.bool true, h') := by
  obtain ⟨x1, _, rfl, s1, x2, _, rfl, s2, x3, _, rfl, s3, rfl⟩ := hs
  obtain ⟨cl, hcl, _⟩ := sh_i64 ty_3 (she_one s1)
  obtain rfl : x1 = .int .i64 cl := by simpa using hcl
  obtain ⟨sq, hsq, _⟩ := sh_u64 ty_26 (she_one s2)
  obtain rfl : x2 = .int .u64 sq := by simpa using hsq
  obtain ⟨fr, hfr, _⟩ := sh_u64 ty_26 (she_one s3)
  obtain rfl : x3 = .int .u64 fr := by simpa using hfr
  refine pureK_bool (h := ⟨[], []⟩) (h1 := ⟨[], []⟩) ?_
  obtain ⟨p1, p2, p3, p4⟩ := cli_ok cl 15 (by omega)
  obtain ⟨a, ha, ha2⟩ := bits_andU sq 549755813887 (by omega)
  obtain ⟨f, hf, hf2⟩ := bits_andU fr 549755813887 (by omega)
  have ha' : bits2 .and .u64 sq 549755813887 = a := ha
  have hf' : bits2 .and .u64 fr 549755813887 = f := hf
  generalize hC : (cl.tmod 15 + 15).tmod 15 = C0 at *
  obtain ⟨n1, z1, k1, h1, e1⟩ := done_eq true 0 [] true (1 + C0) (1 + a) [] [97] (.inr rfl) (by simp)
  rw [done_one _ _ _ (by omega) (by omega) (by omega) (by omega) (by simp)] at e1 h1
  have hz : z1 = 3 := by simpa using h1
  subst hz
  have e2 := fun h => ask_eq n1 3 [⟨1 + C0, 1 + a, [97]⟩] k1 (1 + C0) (1 + a + f) [] (.inl rfl) (by simp) h
  rw [ask_one _ _ _ _ (by omega) (by omega) (by omega) (by omega) (by simp) (by omega) (by omega)] at e2
  obtain ⟨n2, z2, k2, h2, e3⟩ := done_eq n1 3 [⟨1 + C0, 1 + a, [97]⟩] k1 (1 + C0) (1 + a + f) [] [98] (.inl rfl) (by simp)
  rw [done_two _ _ _ _ _ (by omega) (by omega) (by omega) (by omega) (by simp) (by omega) (by omega) (by simp)] at e3 h2
  rw [empty_eq, cf_6 _ _ (by simp)]
  by_cases h0 : f = 0
  · subst h0
    rw [if_neg (by omega)] at e2 e3 h2
    rw [if_pos (by omega)] at e2
    have hz2 : z2 = 3 := by simpa using h2
    subst hz2
    have e4 := fun h => ask_eq n2 3 [⟨1 + C0, 1 + a, [97]⟩] k2 (1 + C0) (1 + a) [] (.inl rfl) (by simp) h
    rw [ask_one _ _ _ _ (by omega) (by omega) (by omega) (by omega) (by simp) (by omega) (by omega), if_neg (by omega), if_pos rfl] at e4
    have e5 := fun h => slast_eq n2 3 [⟨1 + C0, 1 + a, [97]⟩] k2 (1 + C0) (.inl rfl) (by simp) h
    rw [last_one _ _ _ (by omega) (by omega) (by omega) (by omega) (by simp)] at e5
    simp [aS] at e1 e2 e3 e4 e5
    simp (maxSteps := 1000000) (disch := first | omega | (simp only [List.length_map, List.length_append, List.length_cons, List.length_nil]; omega) | (simp only [List.length_map, List.length_append, List.length_cons, List.length_nil]; done) | fail) [-List.map_take, -List.map_drop, ic6, go_sem, awake_eq, hC, ha', hf', e1, e2, e3, e4, e5]
  · rw [if_pos (by omega)] at e2 e3 h2
    have hz2 : z2 = 3 := by simpa using h2
    subst hz2
    have e4 := fun h => ask_eq n2 3 [⟨1 + C0, 1 + a + f, [98]⟩] k2 (1 + C0) (1 + a) [] (.inl rfl) (by simp) h
    rw [ask_one _ _ _ _ (by omega) (by omega) (by omega) (by omega) (by simp) (by omega) (by omega), if_neg (by omega), if_neg (by omega)] at e4
    have e5 := fun h => slast_eq n2 3 [⟨1 + C0, 1 + a + f, [98]⟩] k2 (1 + C0) (.inl rfl) (by simp) h
    rw [last_one _ _ _ (by omega) (by omega) (by omega) (by omega) (by simp)] at e5
    simp [aS] at e1 e2 e3 e4 e5
    simp (maxSteps := 1000000) (disch := first | omega | (simp only [List.length_map, List.length_append, List.length_cons, List.length_nil]; omega) | (simp only [List.length_map, List.length_append, List.length_cons, List.length_nil]; done) | fail) [-List.map_take, -List.map_drop, ic6, go_sem, awake_eq, hC, ha', hf', e1, e2, e3, e4, e5]

end Go.Proofs.Ytdpkhkiecobkoaa.Abs
