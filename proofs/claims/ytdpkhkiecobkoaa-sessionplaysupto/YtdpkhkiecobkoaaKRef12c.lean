import Derived.Test.YtdpkhkiecobkoaaKRef12b
set_option linter.all false
set_option linter.unusedVariables false
set_option linter.unusedSimpArgs false
set_option maxRecDepth 10000
set_option maxHeartbeats 1000000
namespace Go.Proofs.Ytdpkhkiecobkoaa.Abs
open Go.Abs
attribute [local congr] ite_congr
theorem aS_cmp (e f : Sn) : aEq.go [(0, 1, false, .int), (1, 1, false, .int), (2, 1, false, .str)] [.int .i64 e.c, .int .u64 e.s, .str (bs e.r)] [.int .i64 f.c, .int .u64 f.s, .str (bs f.r)] = some (decide (e = f)) := by
  have h : (e = f) ↔ (e.c = f.c ∧ e.s = f.s ∧ e.r = f.r) := by
    constructor
    · rintro rfl; exact ⟨rfl, rfl, rfl⟩
    · rintro ⟨h1, h2, h3⟩; cases e; cases f; simp_all
  simp [go_sem]
  rw [Bool.eq_iff_iff]
  simp only [Bool.and_eq_true, beq_iff_eq, decide_eq_true_eq, h]
  constructor <;> rintro ⟨a1, a2, a3⟩ <;> exact ⟨by omega, by omega, a3⟩
def rsSt (a b : List Sn) (n1 : Bool) (s1 : Nat) (r1 : Bool) (n2 : Bool) (s2 : Nat) (r2 : Bool) (i : Nat) : St :=
  ⟨ofList [(0, .slice n1 s1 (a.map aS) (rmB r1)), (1, .slice n2 s2 (b.map aS) (rmB r2)), (5, .int .i64 i)], ⟨[], []⟩⟩
theorem rs_round (a b : List Sn) (n1 : Bool) (s1 : Nat) (r1 : Bool) (n2 : Bool) (s2 : Nat) (r2 : Bool) (i : Nat) (e f : Sn) (h1 : s1 = 3 ∨ a.length = 0) (h2 : s2 = 3 ∨ b.length = 0) (ha : a[i]? = some e) (hb : b[i]? = some f) (hl : a.length < 9223372036854775807) :
    run cfg 0 ic14l0 (rsSt a b n1 s1 r1 n2 s2 r2 i) = if e = f then some (.normal, rsSt a b n1 s1 r1 n2 s2 r2 (i + 1)) else some (.ret, ⟨ofList [(4, .bool false)], ⟨[], []⟩⟩) := by
  obtain ⟨k1, ha⟩ := List.getElem?_eq_some_iff.1 ha
  obtain ⟨k2, hb⟩ := List.getElem?_eq_some_iff.1 hb
  have h3 : s1 = 3 := by omega
  have h4 : s2 = 3 := by omega
  subst h3; subst h4
  have hc := aS_cmp e f
  by_cases he : e = f
  · simp (maxSteps := 1000000) (disch := first | omega | (simp only [List.length_map, List.length_append, List.length_cons, List.length_nil]; omega) | (simp only [List.length_map, List.length_append, List.length_cons, List.length_nil]; done) | fail) [-List.map_take, -List.map_drop, ic14l0, go_sem, rsSt, ha, hb, hc, aS, he]
  · simp (maxSteps := 1000000) (disch := first | omega | (simp only [List.length_map, List.length_append, List.length_cons, List.length_nil]; omega) | (simp only [List.length_map, List.length_append, List.length_cons, List.length_nil]; done) | fail) [-List.map_take, -List.map_drop, ic14l0, go_sem, rsSt, ha, hb, hc, aS, he]
theorem rs_loop (a b : List Sn) (n1 : Bool) (s1 : Nat) (r1 : Bool) (n2 : Bool) (s2 : Nat) (r2 : Bool) (h1 : s1 = 3 ∨ a.length = 0) (h2 : s2 = 3 ∨ b.length = 0) (hl : a.length < 9223372036854775807) (hlen : a.length = b.length) :
    ∀ (p q : List Sn) (i : Nat), a.drop i = p → b.drop i = q → i ≤ a.length →
    run cfg 0 (.loop ic14l0) (rsSt a b n1 s1 r1 n2 s2 r2 i) = if p = q then some (.exit 0, ⟨ofList [(0, .slice n1 s1 (a.map aS) (rmB r1)), (1, .slice n2 s2 (b.map aS) (rmB r2)), (5, .int .i64 a.length), (14, .bool false)], ⟨[], []⟩⟩) else some (.ret, ⟨ofList [(4, .bool false)], ⟨[], []⟩⟩) := by
  intro p
  induction p with
  | nil =>
    intro q i hp hq hi
    have hi' : i = a.length := by have := drop_nil hp; omega
    have hq' : q = [] := by rw [← hq]; exact List.drop_eq_nil_iff.2 (by omega)
    subst hq'; subst hi'
    rw [run_loop']
    simp (maxSteps := 1000000) (disch := first | omega | (simp only [List.length_map, List.length_append, List.length_cons, List.length_nil]; omega) | (simp only [List.length_map, List.length_append, List.length_cons, List.length_nil]; done) | fail) [-List.map_take, -List.map_drop, ic14l0, go_sem, rsSt]
  | cons e p ih =>
    intro q i hp hq hi
    obtain ⟨k1, k2, k3⟩ := drop_cons hp
    cases q with
    | nil => have := drop_nil hq; omega
    | cons f q =>
      obtain ⟨j1, j2, j3⟩ := drop_cons hq
      rw [run_loop', rs_round a b n1 s1 r1 n2 s2 r2 i e f h1 h2 k2 j2 hl]
      by_cases he : e = f
      · rw [if_pos he, loopK_normal, ih q (i + 1) k3 j3 (by omega)]; simp [he]
      · rw [if_neg he, loopK_ret, if_neg (by simp [he])]
theorem rsame_eq (a b : List Sn) (n1 : Bool) (s1 : Nat) (r1 : Bool) (n2 : Bool) (s2 : Nat) (r2 : Bool) (h1 : s1 = 3 ∨ a.length = 0) (h2 : s2 = 3 ∨ b.length = 0) (hl : a.length < 9223372036854775807) (hl2 : b.length < 9223372036854775807) (h : AH) :
    pureK h (call cfg 14 [.slice n1 s1 (a.map aS) (rmB r1), .slice n2 s2 (b.map aS) (rmB r2)] ⟨[], []⟩) = some (.bool (decide (a = b)), h) := by
  rw [cf_14 _ _ (by simp)]
  by_cases hlen : a.length = b.length
  · have e := rs_loop a b n1 s1 r1 n2 s2 r2 h1 h2 hl hlen a b 0 (by simp) (by simp) (by omega)
    simp [rsSt] at e
    by_cases hab : a = b
    · rw [if_pos hab] at e
      subst hab
      simp (maxSteps := 1000000) (disch := first | omega | (simp only [List.length_map, List.length_append, List.length_cons, List.length_nil]; omega) | (simp only [List.length_map, List.length_append, List.length_cons, List.length_nil]; done) | fail) [-List.map_take, -List.map_drop, ic14, go_sem, e]
    · rw [if_neg hab] at e
      simp (maxSteps := 1000000) (disch := first | omega | (simp only [List.length_map, List.length_append, List.length_cons, List.length_nil]; omega) | (simp only [List.length_map, List.length_append, List.length_cons, List.length_nil]; done) | fail) [-List.map_take, -List.map_drop, ic14, go_sem, e, hab]
  · have hab : ¬ a = b := by rintro rfl; exact hlen rfl
    simp (maxSteps := 1000000) (disch := first | omega | (simp only [List.length_map, List.length_append, List.length_cons, List.length_nil]; omega) | (simp only [List.length_map, List.length_append, List.length_cons, List.length_nil]; done) | fail) [-List.map_take, -List.map_drop, ic14, go_sem, hab]
theorem short_eq (s : List UInt8) (n : Nat) (hn : n < 9223372036854775807) (h : AH) : pureK h (call cfg 11 [.str (bs s), .int .i64 n] ⟨[], []⟩) = some (.str (bs (s.take n)), h) := by
  rw [cf_11 _ _ (by simp)]
  by_cases hl : n < s.length
  · simp (maxSteps := 1000000) (disch := first | omega | (simp only [List.length_map, List.length_append, List.length_cons, List.length_nil]; omega) | (simp only [List.length_map, List.length_append, List.length_cons, List.length_nil]; done) | fail) [-List.map_take, -List.map_drop, ic11, go_sem, hl]
  · rw [List.take_of_length_le (by omega)]
    simp (maxSteps := 1000000) (disch := first | omega | (simp only [List.length_map, List.length_append, List.length_cons, List.length_nil]; omega) | (simp only [List.length_map, List.length_append, List.length_cons, List.length_nil]; done) | fail) [-List.map_take, -List.map_drop, ic11, go_sem, hl]

end Go.Proofs.Ytdpkhkiecobkoaa.Abs
