import Derived.Test.YtdpkhkiecobkoaaKSess3
set_option linter.all false
set_option linter.unusedVariables false
set_option linter.unusedSimpArgs false
set_option maxRecDepth 10000
set_option maxHeartbeats 1000000
namespace Go.Proofs.Ytdpkhkiecobkoaa.Abs
open Go.Abs
attribute [local congr] ite_congr
theorem awake_eq (h : AH) : pureK h (call cfg 9 [] ⟨[], []⟩) = some (.bool true, h) := by
  obtain ⟨n1, z1, k1, h1, e1⟩ := done_eq true 0 [] true 1 5 [] [111, 107] (.inr rfl) (by simp)
  have hd : doneOf [] 1 5 [] [111, 107] = [⟨1, 5, [111, 107]⟩] := by decide +kernel
  rw [hd] at e1 h1
  have hz : z1 = 3 := by simpa using h1
  subst hz
  have e2 := fun h => ask_eq n1 3 [⟨1, 5, [111, 107]⟩] k1 1 5 [] (.inl rfl) (by simp) h
  have ha : askOf [⟨1, 5, [111, 107]⟩] 1 5 [] = ([111, 107], 14) := by decide +kernel
  rw [ha] at e2
  have e3 := fun h => slast_eq n1 3 [⟨1, 5, [111, 107]⟩] k1 1 (.inl rfl) (by simp) h
  have hl : lastOf [⟨1, 5, [111, 107]⟩] 1 = 5 := by decide +kernel
  rw [hl] at e3
  simp [aS] at e1 e2 e3
  rw [cf_9 _ _ (by simp)]
  simp (maxSteps := 1000000) (disch := first | omega | (simp only [List.length_map, List.length_append, List.length_cons, List.length_nil]; omega) | (simp only [List.length_map, List.length_append, List.length_cons, List.length_nil]; done) | fail) [-List.map_take, -List.map_drop, ic9, go_sem, e1, e2, e3]
theorem cli_ok (x : Int) (n : Int) (hn : 0 < n) : 0 ≤ (x.tmod n + n).tmod n ∧ (x.tmod n + n).tmod n < n ∧ 0 < x.tmod n + n ∧ x.tmod n + n < 2 * n := by
  have h1 := Int.tmod_lt_of_pos x hn
  have h2 := Int.lt_tmod_of_pos x hn
  have h3 := Int.tmod_lt_of_pos (x.tmod n + n) hn
  have h4 := Int.tmod_nonneg n (show 0 ≤ x.tmod n + n by omega)
  omega
theorem done_one (c : Int) (s : Nat) (r : List UInt8) (h1 : 1 ≤ c) (h2 : c ≤ 15) (h3 : 1 ≤ s) (h4 : s ≤ 1099511627776) (hr : r.length ≤ 40) : doneOf [] c s [] r = [⟨c, s, r⟩] := by
  have ha : askOf [] c s [] = ([], 0) := by
    unfold askOf
    rw [if_pos ⟨rfl, by simp [callOk, h1, h2, h3, h4]⟩]; rfl
  unfold doneOf
  rw [ha, if_neg (by simp; omega)]; rfl
theorem one_right (c : Int) (s : Nat) (r : List UInt8) (h1 : 1 ≤ c) (h2 : c ≤ 15) (h3 : 1 ≤ s) (h4 : s ≤ 1099511627776) (hr : r.length ≤ 40) : rightGo 0 [⟨c, s, r⟩] = true := by
  have h0 : 0 < c := by omega
  simp [rightGo, callOk, h0, h1, h2, h3, h4, hr]
theorem ask_one (c : Int) (s s2 : Nat) (r : List UInt8) (h1 : 1 ≤ c) (h2 : c ≤ 15) (h3 : 1 ≤ s) (h4 : s ≤ 1099511627776) (hr : r.length ≤ 40) (h5 : 1 ≤ s2) (h6 : s2 ≤ 1099511627776) :
    askOf [⟨c, s, r⟩] c s2 [] = if s < s2 then ([], 0) else if s2 = s then (r, 14) else ([], 24) := by
  unfold askOf
  rw [if_pos ⟨one_right c s r h1 h2 h3 h4 hr, by simp [callOk, h1, h2, h5, h6]⟩]
  simp [got]
theorem done_two (c : Int) (s s2 : Nat) (r r2 : List UInt8) (h1 : 1 ≤ c) (h2 : c ≤ 15) (h3 : 1 ≤ s) (h4 : s ≤ 1099511627776) (hr : r.length ≤ 40) (h5 : 1 ≤ s2) (h6 : s2 ≤ 1099511627776) (hr2 : r2.length ≤ 40) :
    doneOf [⟨c, s, r⟩] c s2 [] r2 = if s < s2 then [⟨c, s2, r2⟩] else [⟨c, s, r⟩] := by
  unfold doneOf
  rw [ask_one c s s2 r h1 h2 h3 h4 hr h5 h6]
  by_cases q : s < s2
  · rw [if_pos q, if_neg (by simp; omega), if_pos q]
    simp [insOf]
  · rw [if_neg q, if_neg q]
    by_cases q2 : s2 = s
    · rw [if_pos q2, if_pos (by simp)]
    · rw [if_neg q2, if_pos (by simp)]
theorem last_one (c : Int) (s : Nat) (r : List UInt8) (h1 : 1 ≤ c) (h2 : c ≤ 15) (h3 : 1 ≤ s) (h4 : s ≤ 1099511627776) (hr : r.length ≤ 40) : lastOf [⟨c, s, r⟩] c = s := by
  unfold lastOf
  rw [if_pos (one_right c s r h1 h2 h3 h4 hr)]
  simp [got]

end Go.Proofs.Ytdpkhkiecobkoaa.Abs
