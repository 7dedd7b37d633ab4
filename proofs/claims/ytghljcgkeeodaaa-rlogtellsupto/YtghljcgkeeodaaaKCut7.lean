import Derived.Test.YtghljcgkeeodaaaKCheck7
set_option linter.all false
set_option linter.unusedVariables false
set_option linter.unusedSimpArgs false
set_option maxRecDepth 10000
set_option maxHeartbeats 1000000
namespace Go.Proofs.Ytghljcgkeeodaaa.Abs
open Go.Abs
attribute [local congr] ite_congr
/-- slices.Clone, kept as one's own -/
def cloneV (nl : Bool) (es : List AV) (n : Nat) : AV := if nl then .slice true 0 [] (.own n) else .slice false 3 es (.own n)
theorem clone_eq (nl : Bool) (sz : Nat) (es : List Ent) (rm : Bool) (hsz : sz = 3 ∨ es.length = 0) (hnl : nl = true → es.length = 0) (hl : es.length < 1099511627776) (h : AH) :
    keepK h (call cfg 34 [.slice nl sz (es.map aE) (rmB rm)] ⟨[], []⟩) = some (cloneV nl (es.map aE) h.toks.length, ⟨h.blocks, h.toks ++ [es.length]⟩) := by
  rw [cf_34 _ _ (by simp)]
  cases nl with
  | true =>
    have h0 := hnl rfl
    have he : es = [] := List.length_eq_zero_iff.1 h0
    subst he
    simp (maxSteps := 1000000) (disch := first | omega | (simp only [List.length_map, List.length_append, List.length_cons, List.length_nil]; omega) | (simp only [List.length_map, List.length_append, List.length_cons, List.length_nil]; done) | fail) [-List.map_take, -List.map_drop, ic34, go_sem, keepK_some, keepV, cloneV]
  | false =>
    cases es with
    | nil => simp (maxSteps := 1000000) (disch := first | omega | (simp only [List.length_map, List.length_append, List.length_cons, List.length_nil]; omega) | (simp only [List.length_map, List.length_append, List.length_cons, List.length_nil]; done) | fail) [-List.map_take, -List.map_drop, ic34, go_sem, keepK_some, keepV, cloneV]
    | cons e r =>
      have h3 : sz = 3 := by simpa using hsz
      subst h3
      have ha : aAppend 3 32 ⟨[], []⟩ (.slice false 3 [] .full) 3 ((e :: r).map aE) = some (.slice false 3 ((e :: r).map aE) (.own 0), ⟨[], [r.length + 1]⟩) := by
        have h1 : (r.length + 1) * 32 ≤ 70368744177664 := by simp at hl; omega
        have h2 : r.length + 1 ≤ 70368744177664 := by simp at hl; omega
        simp [aAppend, appendLimit, h1, h2]
      simp only [List.map_cons] at ha
      simp (maxSteps := 1000000) (disch := first | omega | (simp only [List.length_map, List.length_append, List.length_cons, List.length_nil]; omega) | (simp only [List.length_map, List.length_append, List.length_cons, List.length_nil]; done) | fail) [-List.map_take, -List.map_drop, ic34, go_sem, keepK_some, keepV, cloneV, ha]
theorem cloneV_strip (nl : Bool) (es : List Ent) (n : Nat) (hnl : nl = true → es.length = 0) : (cloneV nl (es.map aE) n).strip = .slice nl (szB 3 nl) (es.map aE) (rmB false) := by
  cases nl with
  | true => have := List.length_eq_zero_iff.1 (hnl rfl); subst this; simp [cloneV, szB, go_sem]
  | false => simp [cloneV, szB, go_sem]
theorem cloneV_cells (nl : Bool) (es : List AV) (n : Nat) : (cloneV nl es n).cells = [cloneV nl es n] := by cases nl <;> rfl
theorem cloneV_scalar (nl : Bool) (es : List AV) (n : Nat) : (cloneV nl es n).scalar = true := by cases nl <;> rfl
theorem cloneV_refs (nb nt : Nat) (nl : Bool) (es : List Ent) (n : Nat) (h : n < nt) : (cloneV nl (es.map aE) n).refs nb nt = true := by
  cases nl <;> simp [cloneV, go_sem, h]
theorem cloneV_freeze (h : AH) (nl : Bool) (es : List AV) (n : Nat) : Go.Abs.freeze h (cloneV nl es n) = (cloneV nl es n, h) := by cases nl <;> rfl
attribute [go_sem] cloneV_cells cloneV_scalar cloneV_refs cloneV_freeze
/-- how many entries lie up to an index -/
def behindN (l : Lg) (i : Nat) : Nat := min (max i l.b - l.b) l.es.length
theorem behind_eq (b t : Nat) (nl : Bool) (sz : Nat) (es : List Ent) (rm : Bool) (i : Nat) (hsz : sz = 3 ∨ es.length = 0) (hb : b < 18446744073709551616) (hi : i < 18446744073709551616) (hl : es.length < 9223372036854775808) (h : AH) :
    pureK h (call cfg 35 [.agg [.int .u64 b, .int .u64 t, .slice nl sz (es.map aE) (rmB rm)], .int .u64 i] ⟨[], []⟩) = some (.slice nl sz ((es.drop (behindN ⟨b, t, es⟩ i)).map aE) (rmB rm), h) := by
  rw [cf_35 _ _ (by simp)]
  obtain ⟨k, hk, hk2⟩ : ∃ k, behindN ⟨b, t, es⟩ i = k ∧ k ≤ es.length := ⟨_, rfl, by unfold behindN; dsimp only; omega⟩
  rw [hk]
  by_cases hbi : i < b
  · have h0 : k = 0 := by unfold behindN at hk; dsimp only at hk; omega
    simp (maxSteps := 1000000) (disch := first | omega | (simp only [List.length_map, List.length_append, List.length_cons, List.length_nil]; omega) | (simp only [List.length_map, List.length_append, List.length_cons, List.length_nil]; done) | fail) [-List.map_take, -List.map_drop, ic35, go_sem, hbi, h0]
  · have h0 : (if (es.length : Int) < i - b then (es.length : Int) else i - b).toNat = k := by unfold behindN at hk; dsimp only at hk; split <;> omega
    simp (maxSteps := 1000000) (disch := first | omega | (simp only [List.length_map, List.length_append, List.length_cons, List.length_nil]; omega) | (simp only [List.length_map, List.length_append, List.length_cons, List.length_nil]; done) | fail) [-List.map_take, -List.map_drop, ic35, go_sem, hbi, h0]
def cutOf (l : Lg) (i : Nat) : Lg × Bool := if (termOf l i).2 = true then (⟨i, (termOf l i).1, l.es.drop (behindN l i)⟩, true) else (l, false)
theorem cut_eq (b t : Nat) (nl : Bool) (sz : Nat) (es : List Ent) (rm : Bool) (i : Nat) (hsz : sz = 3 ∨ es.length = 0) (hnl : nl = true → es.length = 0) (hb : b + es.length < 18446744073709551616) (hi : i < 18446744073709551616) (hl : es.length < 1048576) :
    ∃ nl' sz' c, (sz' = 3 ∨ (cutOf ⟨b, t, es⟩ i).1.es.length = 0) ∧ (nl' = true → (cutOf ⟨b, t, es⟩ i).1.es.length = 0) ∧
    ∀ h, pureK h (call cfg 20 [.agg [.int .u64 b, .int .u64 t, .slice nl sz (es.map aE) (rmB rm)], .int .u64 i] ⟨[], []⟩) =
      some (.tup [.agg [.int .u64 (cutOf ⟨b, t, es⟩ i).1.b, .int .u64 (cutOf ⟨b, t, es⟩ i).1.t, .slice nl' sz' ((cutOf ⟨b, t, es⟩ i).1.es.map aE) (rmB c)], .bool (cutOf ⟨b, t, es⟩ i).2], h) := by
  have ht := fun h => term_eq b t nl sz es rm i hsz hb (by omega) hi h
  cases hc : (termOf ⟨b, t, es⟩ i).2 with
  | false =>
    have e : cutOf ⟨b, t, es⟩ i = (⟨b, t, es⟩, false) := by unfold cutOf; rw [hc]; rfl
    rw [e]
    refine ⟨nl, sz, rm, hsz, hnl, fun h => ?_⟩
    rw [cf_20 _ _ (by simp)]
    simp (maxSteps := 1000000) (disch := first | omega | (simp only [List.length_map, List.length_append, List.length_cons, List.length_nil]; omega) | (simp only [List.length_map, List.length_append, List.length_cons, List.length_nil]; done) | fail) [-List.map_take, -List.map_drop, ic20, go_sem, ht, hc]
  | true =>
    have e : cutOf ⟨b, t, es⟩ i = (⟨i, (termOf ⟨b, t, es⟩ i).1, es.drop (behindN ⟨b, t, es⟩ i)⟩, true) := by unfold cutOf; rw [hc]; rfl
    rw [e]
    have hbe := fun h => behind_eq b t nl sz es rm i hsz (by omega) hi (by omega) h
    have hd : (es.drop (behindN ⟨b, t, es⟩ i)).length ≤ es.length := by simp
    have hnl2 : nl = true → (es.drop (behindN ⟨b, t, es⟩ i)).length = 0 := fun h => by have := hnl h; omega
    have hcl := fun h => clone_eq nl sz (es.drop (behindN ⟨b, t, es⟩ i)) rm (by omega) hnl2 (by omega) h
    have hst := fun n => cloneV_strip nl (es.drop (behindN ⟨b, t, es⟩ i)) n hnl2
    generalize es.drop (behindN ⟨b, t, es⟩ i) = ds at *
    refine ⟨nl, szB 3 nl, false, ?_, hnl2, fun h => ?_⟩
    · cases nl with
      | true => exact .inr (hnl2 rfl)
      | false => exact .inl rfl
    · rw [cf_20 _ _ (by simp)]
      simp (maxSteps := 1000000) (disch := first | omega | (simp only [List.length_map, List.length_append, List.length_cons, List.length_nil]; omega) | (simp only [List.length_map, List.length_append, List.length_cons, List.length_nil]; done) | fail) [-List.map_take, -List.map_drop, ic20, go_sem, ht, hc, hbe, hcl, hst]

end Go.Proofs.Ytghljcgkeeodaaa.Abs
