import Derived.Test.YtghljcgkeeodaaaKPl7
set_option linter.all false
set_option linter.unusedVariables false
set_option linter.unusedSimpArgs false
set_option maxRecDepth 10000
set_option maxHeartbeats 1000000
namespace Go.Proofs.Ytghljcgkeeodaaa.Abs
open Go.Abs
attribute [local congr] ite_congr
theorem append_clone (B : List (Option Blk)) (nl : Bool) (es : List Ent) (n : Nat) (x : AV) (hn : n = es.length) (hnl : nl = true → es.length = 0) (hl : es.length < 1048576) :
    aAppend 3 32 ⟨B, [n]⟩ (cloneV nl (es.map aE) 0) 3 [x] = some (.slice false 3 (es.map aE ++ [x]) (.own 0), ⟨B, [n + 1]⟩) := by
  subst hn
  cases nl with
  | true =>
    have := List.length_eq_zero_iff.1 (hnl rfl)
    subst this
    simp [cloneV, aAppend, appendLimit]
  | false =>
    have h1 : (es.length + 1) * 32 ≤ 70368744177664 := by omega
    have h2 : es.length + 1 ≤ 70368744177664 := by omega
    simp [cloneV, aAppend, appendLimit, h1, h2]
def addOf (l : Lg) (term : Nat) (data : List UInt8) : Lg := if logOk ⟨l.b, l.t, l.es ++ [⟨l.b + l.es.length + 1, term, data⟩]⟩ = true then ⟨l.b, l.t, l.es ++ [⟨l.b + l.es.length + 1, term, data⟩]⟩ else l
theorem add_eq (b t : Nat) (nl : Bool) (sz : Nat) (es : List Ent) (rm : Bool) (term : Nat) (data : List UInt8) (hsz : sz = 3 ∨ es.length = 0) (hnl : nl = true → es.length = 0) (hb : b + es.length < 18446744073709551615) (hl : es.length < 1048575) :
    ∃ nl' sz' c, (sz' = 3 ∨ (addOf ⟨b, t, es⟩ term data).es.length = 0) ∧ (nl' = true → (addOf ⟨b, t, es⟩ term data).es.length = 0) ∧
    ∀ h, pureK h (call cfg 22 [.agg [.int .u64 b, .int .u64 t, .slice nl sz (es.map aE) (rmB rm)], .int .u64 term, .str (bs data)] ⟨[], []⟩) =
      some (.agg [.int .u64 (addOf ⟨b, t, es⟩ term data).b, .int .u64 (addOf ⟨b, t, es⟩ term data).t, .slice nl' sz' ((addOf ⟨b, t, es⟩ term data).es.map aE) (rmB c)], h) := by
  have hI : lastI ⟨b, t, es⟩ = ((b + es.length : Nat) : Int) := by
    unfold lastI
    split
    · rename_i h; simp at h; subst h; simp
    · rw [wrapU64] <;> push_cast <;> omega
  have el := fun h => last_eq b t nl sz es rm hsz (by omega) h
  rw [hI] at el
  have ecl := fun h => clone_eq nl sz es rm hsz hnl (by omega) h
  have hx : ((es ++ [(⟨b + es.length + 1, term, data⟩ : Ent)]).map aE) = es.map aE ++ [.agg [.int .u64 (b + es.length + 1 : Nat), .int .u64 term, .str (bs data)]] := by simp [aE]
  have eck := fun h => check_eq b t false 3 (es ++ [⟨b + es.length + 1, term, data⟩]) false (.inl rfl) (by simp; omega) h
  rw [hx] at eck
  have hap := fun B x => append_clone B nl es es.length x rfl hnl (by omega)
  cases hok : logOk ⟨b, t, es ++ [⟨b + es.length + 1, term, data⟩]⟩ with
  | true =>
    have e : addOf ⟨b, t, es⟩ term data = ⟨b, t, es ++ [⟨b + es.length + 1, term, data⟩]⟩ := by unfold addOf; rw [if_pos hok]
    rw [e]
    refine ⟨false, 3, false, .inl rfl, (fun h => by cases h), fun h => ?_⟩
    rw [hx, cf_22 _ _ (by simp)]
    rw [hok] at eck
    push_cast at el eck
    simp (maxSteps := 1000000) (disch := first | omega | (simp only [List.length_map, List.length_append, List.length_cons, List.length_nil]; omega) | (simp only [List.length_map, List.length_append, List.length_cons, List.length_nil]; done) | fail) [-List.map_take, -List.map_drop, ic22, go_sem, el, ecl, hap, eck]
  | false =>
    have e : addOf ⟨b, t, es⟩ term data = ⟨b, t, es⟩ := by unfold addOf; rw [if_neg (by simp [hok])]
    rw [e]
    refine ⟨nl, sz, rm, hsz, hnl, fun h => ?_⟩
    rw [cf_22 _ _ (by simp)]
    rw [hok] at eck
    push_cast at el eck
    simp (maxSteps := 1000000) (disch := first | omega | (simp only [List.length_map, List.length_append, List.length_cons, List.length_nil]; omega) | (simp only [List.length_map, List.length_append, List.length_cons, List.length_nil]; done) | fail) [-List.map_take, -List.map_drop, ic22, go_sem, el, ecl, hap, eck]
def fromOf (l : Lg) (i : Nat) (most : Int) : List Ent := (l.es.drop (behindN l (i - 1))).take most.toNat
theorem from_eq (b t : Nat) (nl : Bool) (sz : Nat) (es : List Ent) (rm : Bool) (i : Nat) (most : Int) (hsz : sz = 3 ∨ es.length = 0) (hnl : nl = true → es.length = 0) (hb : b < 18446744073709551616) (hi : i < 18446744073709551616) (hl : es.length < 1048575) :
    ∃ nl' sz' c, (sz' = 3 ∨ (fromOf ⟨b, t, es⟩ i most).length = 0) ∧ (nl' = true → (fromOf ⟨b, t, es⟩ i most).length = 0) ∧
    ∀ h, pureK h (call cfg 25 [.agg [.int .u64 b, .int .u64 t, .slice nl sz (es.map aE) (rmB rm)], .int .u64 i, .int .i64 most] ⟨[], []⟩) =
      some (.slice nl' sz' ((fromOf ⟨b, t, es⟩ i most).map aE) (rmB c), h) := by
  have eb := fun h => behind_eq b t nl sz es rm (i - 1) hsz (by omega) (by omega) (by omega) h
  have hd : (es.drop (behindN ⟨b, t, es⟩ (i - 1))).length ≤ es.length := by simp
  unfold fromOf
  dsimp only
  generalize es.drop (behindN ⟨b, t, es⟩ (i - 1)) = ds at *
  have hk : ∃ k : Nat, k ≤ ds.length ∧ ds.take most.toNat = ds.take k ∧ (if (if 0 > most then 0 else most) < (ds.length : Int) then (if 0 > most then 0 else most) else (ds.length : Int)) = k := by
    refine ⟨min most.toNat ds.length, by omega, ?_, by split <;> split <;> omega⟩
    by_cases q : most.toNat ≤ ds.length
    · rw [Nat.min_eq_left q]
    · rw [Nat.min_eq_right (by omega), List.take_of_length_le (by omega), List.take_of_length_le (by omega)]
  obtain ⟨k, k1, k2, k3⟩ := hk
  rw [k2]
  have hlk : (ds.take k).length ≤ es.length := by rw [List.length_take]; omega
  have hnl2 : nl = true → (ds.take k).length = 0 := fun h => by have := hnl h; omega
  have ecl := fun c h => clone_eq nl sz (ds.take k) c (by omega) hnl2 (by omega) h
  have hst := fun n => cloneV_strip nl (ds.take k) n hnl2
  refine ⟨nl, szB 3 nl, false, ?_, hnl2, fun h => ?_⟩
  · cases nl with
    | true => exact .inr (hnl2 rfl)
    | false => exact .inl rfl
  · rw [cf_25 _ _ (by simp)]
    have k3' := k3
    simp only [gt_iff_lt] at k3'
    by_cases h0 : i = 0
    · subst h0
      simp only [Nat.zero_sub, Int.ofNat_zero] at eb
      by_cases hkl : (k : Int) = ds.length
      · have hkk : k = ds.length := by omega
        subst hkk
        simp only [List.take_length] at ecl hst
        simp (maxSteps := 1000000) (disch := first | omega | (simp only [List.length_map, List.length_append, List.length_cons, List.length_nil]; omega) | (simp only [List.length_map, List.length_append, List.length_cons, List.length_nil]; done) | fail) [-List.map_take, -List.map_drop, ic25, go_sem, eb, k3, k3', ecl, hst]
      · simp (maxSteps := 1000000) (disch := first | omega | (simp only [List.length_map, List.length_append, List.length_cons, List.length_nil]; omega) | (simp only [List.length_map, List.length_append, List.length_cons, List.length_nil]; done) | fail) [-List.map_take, -List.map_drop, ic25, go_sem, eb, k3, k3', ecl, hst, hkl]
    · have hi1 : ((i : Int) - 1) = ((i - 1 : Nat) : Int) := by omega
      by_cases hkl : (k : Int) = ds.length
      · have hkk : k = ds.length := by omega
        subst hkk
        simp only [List.take_length] at ecl hst
        simp (maxSteps := 1000000) (disch := first | omega | (simp only [List.length_map, List.length_append, List.length_cons, List.length_nil]; omega) | (simp only [List.length_map, List.length_append, List.length_cons, List.length_nil]; done) | fail) [-List.map_take, -List.map_drop, ic25, go_sem, eb, k3, k3', ecl, hst, hi1]
      · simp (maxSteps := 1000000) (disch := first | omega | (simp only [List.length_map, List.length_append, List.length_cons, List.length_nil]; omega) | (simp only [List.length_map, List.length_append, List.length_cons, List.length_nil]; done) | fail) [-List.map_take, -List.map_drop, ic25, go_sem, eb, k3, k3', ecl, hst, hkl, hi1]

end Go.Proofs.Ytghljcgkeeodaaa.Abs
