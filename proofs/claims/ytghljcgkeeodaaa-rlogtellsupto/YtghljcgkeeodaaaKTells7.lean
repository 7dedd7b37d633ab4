import Derived.Test.YtghljcgkeeodaaaKPl7c
set_option linter.all false
set_option linter.unusedVariables false
set_option linter.unusedSimpArgs false
set_option maxRecDepth 10000
set_option maxHeartbeats 1000000
namespace Go.Proofs.Ytghljcgkeeodaaa.Abs
open Go.Abs
attribute [local congr] ite_congr
def refFrom (i : Nat) (most : Int) : List Ent → List Ent → List Ent
  | acc, [] => acc
  | acc, e :: r => refFrom i most (if i ≤ e.i ∧ (acc.length : Int) < most then acc ++ [e] else acc) r
def rfSt (b t : Nat) (nl : Bool) (sz : Nat) (es : List Ent) (rm : Bool) (i : Nat) (most : Int) (acc : List Ent) (k : Nat) : St :=
  ⟨ofList [(1, .int .u64 i), (2, .int .i64 most), (3, .ptr 0 0), (7, ownS 3 (acc.map aE)), (8, .int .i64 k)], ⟨[lgB b t nl sz es rm], ownT (acc.map aE)⟩⟩
theorem rf_loop (b t : Nat) (nl : Bool) (sz : Nat) (es : List Ent) (rm : Bool) (i : Nat) (most : Int) (hsz : sz = 3 ∨ es.length = 0) (hl : es.length < 1048576) : ∀ (r : List Ent) (k : Nat) (acc : List Ent), es.drop k = r → k ≤ es.length → acc.length ≤ k →
    ∃ q, run cfg 0 (.loop ic39l0) (rfSt b t nl sz es rm i most acc k) = some (.exit 0, ⟨ofList ([(1, .int .u64 i), (2, .int .i64 most), (3, .ptr 0 0), (7, ownS 3 ((refFrom i most acc r).map aE))] ++ q), ⟨[lgB b t nl sz es rm], ownT ((refFrom i most acc r).map aE)⟩⟩) := by
  intro r
  induction r with
  | nil =>
    intro k acc hr hk ha
    have : k = es.length := by have := drop_nil hr; omega
    subst this
    refine ⟨[(8, .int .i64 es.length), (13, .bool false)], ?_⟩
    rw [run_loop']
    simp (maxSteps := 1000000) (disch := first | omega | (simp only [List.length_map, List.length_append, List.length_cons, List.length_nil]; omega) | (simp only [List.length_map, List.length_append, List.length_cons, List.length_nil]; done) | fail) [-List.map_take, -List.map_drop, ic39l0, go_sem, rfSt, lgB, refFrom]
  | cons e r ih =>
    intro k acc hr hk ha
    obtain ⟨k1, k2, k3⟩ := drop_cons hr
    obtain ⟨_, he⟩ := List.getElem?_eq_some_iff.1 k2
    have h4 : sz = 3 := by omega
    subst h4
    have hacc : (if i ≤ e.i ∧ (acc.length : Int) < most then acc ++ [e] else acc).length ≤ k + 1 := by
      split
      · simp; omega
      · omega
    obtain ⟨q, eq⟩ := ih (k + 1) (if i ≤ e.i ∧ (acc.length : Int) < most then acc ++ [e] else acc) k3 (by omega) hacc
    refine ⟨q, ?_⟩
    have key : run cfg 0 ic39l0 (rfSt b t nl 3 es rm i most acc k) = some (.normal, rfSt b t nl 3 es rm i most (if i ≤ e.i ∧ (acc.length : Int) < most then acc ++ [e] else acc) (k + 1)) := by
      by_cases h1 : i ≤ e.i
      · by_cases h2 : (acc.length : Int) < most
        · rw [if_pos ⟨h1, h2⟩]
          simp (maxSteps := 1000000) (disch := first | omega | (simp only [List.length_map, List.length_append, List.length_cons, List.length_nil]; omega) | (simp only [List.length_map, List.length_append, List.length_cons, List.length_nil]; done) | fail) [-List.map_take, -List.map_drop, ic39l0, go_sem, rfSt, lgB, he, aE, h1, h2, List.map_append]
        · rw [if_neg (fun q => h2 q.2)]
          simp (maxSteps := 1000000) (disch := first | omega | (simp only [List.length_map, List.length_append, List.length_cons, List.length_nil]; omega) | (simp only [List.length_map, List.length_append, List.length_cons, List.length_nil]; done) | fail) [-List.map_take, -List.map_drop, ic39l0, go_sem, rfSt, lgB, he, aE, h1, h2]
      · rw [if_neg (fun q => h1 q.1)]
        simp (maxSteps := 1000000) (disch := first | omega | (simp only [List.length_map, List.length_append, List.length_cons, List.length_nil]; omega) | (simp only [List.length_map, List.length_append, List.length_cons, List.length_nil]; done) | fail) [-List.map_take, -List.map_drop, ic39l0, go_sem, rfSt, lgB, he, aE, h1]
    rw [run_loop', key, loopK_normal, eq]
    rfl
theorem refFrom_eq (b t : Nat) (nl : Bool) (sz : Nat) (es : List Ent) (rm : Bool) (i : Nat) (most : Int) (hsz : sz = 3 ∨ es.length = 0) (hl : es.length < 1048575) (h : AH) :
    pureK h (call cfg 39 [.agg [.int .u64 b, .int .u64 t, .slice nl sz (es.map aE) (rmB rm)], .int .u64 i, .int .i64 most] ⟨[], []⟩) =
      some (.slice (refFrom i most [] es).isEmpty (szB 3 (refFrom i most [] es).isEmpty) ((refFrom i most [] es).map aE) (rmB (refFrom i most [] es).isEmpty), h) := by
  obtain ⟨q, e⟩ := rf_loop b t nl sz es rm i most hsz (by omega) es 0 [] (by simp) (by omega) (by simp)
  simp [rfSt, lgB, ownS_nil, ownT_nil] at e
  rw [cf_39 _ _ (by simp)]
  simp (maxSteps := 1000000) (disch := first | omega | (simp only [List.length_map, List.length_append, List.length_cons, List.length_nil]; omega) | (simp only [List.length_map, List.length_append, List.length_cons, List.length_nil]; done) | fail) [-List.map_take, -List.map_drop, ic39, go_sem, e]
def refCut (l : Lg) (i : Nat) : Lg × Bool := if (refTermOf l i).2 = true then (⟨i, (refTermOf l i).1, l.es.filter fun e => decide (i < e.i)⟩, true) else (l, false)
def rcuSt (b t : Nat) (nl : Bool) (sz : Nat) (es : List Ent) (rm : Bool) (i v : Nat) (acc : List Ent) (k : Nat) : St :=
  ⟨ofList [(1, .int .u64 i), (2, .ptr 0 0), (4, .ptr 1 0), (8, .ptr 2 0), (9, .int .i64 k)], ⟨[lgB b t nl sz es rm, some ⟨false, [.int .u64 0, .int .u64 0, .slice true 0 [] .full]⟩, some ⟨false, [.int .u64 i, .int .u64 v, ownS 3 (acc.map aE)]⟩], ownT (acc.map aE)⟩⟩
theorem rcu_loop (b t : Nat) (nl : Bool) (sz : Nat) (es : List Ent) (rm : Bool) (i v : Nat) (hsz : sz = 3 ∨ es.length = 0) (hl : es.length < 1048576) : ∀ (r : List Ent) (k : Nat) (acc : List Ent), es.drop k = r → k ≤ es.length → acc.length ≤ k →
    ∃ q, run cfg 0 (.loop ic41l0) (rcuSt b t nl sz es rm i v acc k) = some (.exit 0, ⟨ofList ([(1, .int .u64 i), (2, .ptr 0 0), (4, .ptr 1 0), (8, .ptr 2 0)] ++ q),
      ⟨[lgB b t nl sz es rm, some ⟨false, [.int .u64 0, .int .u64 0, .slice true 0 [] .full]⟩, some ⟨false, [.int .u64 i, .int .u64 v, ownS 3 ((acc ++ r.filter fun e => decide (i < e.i)).map aE)]⟩], ownT ((acc ++ r.filter fun e => decide (i < e.i)).map aE)⟩⟩) := by
  intro r
  induction r with
  | nil =>
    intro k acc hr hk ha
    have : k = es.length := by have := drop_nil hr; omega
    subst this
    refine ⟨[(9, .int .i64 es.length), (26, .bool false)], ?_⟩
    rw [run_loop']
    simp (maxSteps := 1000000) (disch := first | omega | (simp only [List.length_map, List.length_append, List.length_cons, List.length_nil]; omega) | (simp only [List.length_map, List.length_append, List.length_cons, List.length_nil]; done) | fail) [-List.map_take, -List.map_drop, ic41l0, go_sem, rcuSt, lgB]
  | cons e r ih =>
    intro k acc hr hk ha
    obtain ⟨k1, k2, k3⟩ := drop_cons hr
    obtain ⟨_, he⟩ := List.getElem?_eq_some_iff.1 k2
    have h4 : sz = 3 := by omega
    subst h4
    by_cases h1 : i < e.i
    · obtain ⟨q, eq⟩ := ih (k + 1) (acc ++ [e]) k3 (by omega) (by simp; omega)
      refine ⟨q, ?_⟩
      have key : run cfg 0 ic41l0 (rcuSt b t nl 3 es rm i v acc k) = some (.normal, rcuSt b t nl 3 es rm i v (acc ++ [e]) (k + 1)) := by
        simp (maxSteps := 1000000) (disch := first | omega | (simp only [List.length_map, List.length_append, List.length_cons, List.length_nil]; omega) | (simp only [List.length_map, List.length_append, List.length_cons, List.length_nil]; done) | fail) [-List.map_take, -List.map_drop, ic41l0, go_sem, rcuSt, lgB, he, aE, h1, List.map_append]
      rw [run_loop', key, loopK_normal, eq]
      simp [h1]
    · obtain ⟨q, eq⟩ := ih (k + 1) acc k3 (by omega) (by omega)
      refine ⟨q, ?_⟩
      have key : run cfg 0 ic41l0 (rcuSt b t nl 3 es rm i v acc k) = some (.normal, rcuSt b t nl 3 es rm i v acc (k + 1)) := by
        simp (maxSteps := 1000000) (disch := first | omega | (simp only [List.length_map, List.length_append, List.length_cons, List.length_nil]; omega) | (simp only [List.length_map, List.length_append, List.length_cons, List.length_nil]; done) | fail) [-List.map_take, -List.map_drop, ic41l0, go_sem, rcuSt, lgB, he, aE, h1]
      rw [run_loop', key, loopK_normal, eq]
      simp [h1]
theorem refCut_eq (b t : Nat) (nl : Bool) (sz : Nat) (es : List Ent) (rm : Bool) (i : Nat) (hsz : sz = 3 ∨ es.length = 0) (hl : es.length < 1048575) :
    ∃ nl' sz' c, (sz' = 3 ∨ (refCut ⟨b, t, es⟩ i).1.es.length = 0) ∧ ∀ h, pureK h (call cfg 41 [.agg [.int .u64 b, .int .u64 t, .slice nl sz (es.map aE) (rmB rm)], .int .u64 i] ⟨[], []⟩) =
      some (.tup [.agg [.int .u64 (refCut ⟨b, t, es⟩ i).1.b, .int .u64 (refCut ⟨b, t, es⟩ i).1.t, .slice nl' sz' ((refCut ⟨b, t, es⟩ i).1.es.map aE) (rmB c)], .bool (refCut ⟨b, t, es⟩ i).2], h) := by
  have ht := fun h => refTerm_eq b t nl sz es rm i hsz (by omega) h
  unfold refCut
  dsimp only
  generalize refTermOf ⟨b, t, es⟩ i = rt at *
  obtain ⟨v, w⟩ := rt
  cases w with
  | false =>
    refine ⟨nl, sz, rm, hsz, fun h => ?_⟩
    rw [cf_41 _ _ (by simp)]
    simp (maxSteps := 1000000) (disch := first | omega | (simp only [List.length_map, List.length_append, List.length_cons, List.length_nil]; omega) | (simp only [List.length_map, List.length_append, List.length_cons, List.length_nil]; done) | fail) [-List.map_take, -List.map_drop, ic41, go_sem, ht]
  | true =>
    obtain ⟨q, e⟩ := rcu_loop b t nl sz es rm i v hsz (by omega) es 0 [] (by simp) (by omega) (by simp)
    simp only [List.nil_append] at e
    simp only [if_true]
    generalize (es.filter fun e => decide (i < e.i)) = F at *
    simp [rcuSt, lgB, ownS_nil, ownT_nil] at e
    refine ⟨F.isEmpty, szB 3 F.isEmpty, F.isEmpty, szB_or 3 _, fun h => ?_⟩
    rw [cf_41 _ _ (by simp)]
    simp (maxSteps := 1000000) (disch := first | omega | (simp only [List.length_map, List.length_append, List.length_cons, List.length_nil]; omega) | (simp only [List.length_map, List.length_append, List.length_cons, List.length_nil]; done) | fail) [-List.map_take, -List.map_drop, ic41, go_sem, ht, e]
theorem refNewer_eq (b t : Nat) (nl : Bool) (sz : Nat) (es : List Ent) (rm : Bool) (i u : Nat) (hsz : sz = 3 ∨ es.length = 0) (hn : es.length < 9223372036854775808) (h : AH) :
    pureK h (call cfg 42 [.agg [.int .u64 b, .int .u64 t, .slice nl sz (es.map aE) (rmB rm)], .int .u64 i, .int .u64 u] ⟨[], []⟩) =
      some (.bool (decide (u > lastT ⟨b, t, es⟩ ∨ u = lastT ⟨b, t, es⟩ ∧ i ≥ refLastI ⟨b, t, es⟩)), h) := by
  rw [cf_42 _ _ (by simp)]
  have hl := fun h => refLast_eq b t nl sz es rm hsz hn h
  simp (maxSteps := 1000000) (disch := first | omega | (simp only [List.length_map, List.length_append, List.length_cons, List.length_nil]; omega) | (simp only [List.length_map, List.length_append, List.length_cons, List.length_nil]; done) | fail) [-List.map_take, -List.map_drop, ic42, go_sem, hl]
  (repeat' split) <;> (refine boolGoal ?_; simp [] <;> omega)
def refAdd (l : Lg) (term : Nat) (data : List UInt8) : Lg := if logOk ⟨l.b, l.t, l.es ++ [⟨refLastI l + 1, term, data⟩]⟩ = true then ⟨l.b, l.t, l.es ++ [⟨refLastI l + 1, term, data⟩]⟩ else l
theorem append2 (sz : Nat) (es : List Ent) (hsz : sz = 3 ∨ es.length = 0) (hl : es.length < 1048575) (B : List (Option Blk)) (x : AV) :
    ∃ T y, aAppend 3 32 ⟨B, []⟩ (.slice false 3 [] .full) sz (es.map aE) = some (y, ⟨B, T⟩) ∧ aAppend 3 32 ⟨B, T⟩ y 3 [x] = some (.slice false 3 (es.map aE ++ [x]) (.own 0), ⟨B, [es.length + 1]⟩) := by
  cases es with
  | nil =>
    refine ⟨[], .slice false 3 [] .full, ?_, ?_⟩
    · simp [aAppend]
    · simp [aAppend, appendLimit]
  | cons e r =>
    have h3 : sz = 3 := by simpa using hsz
    subst h3
    have hl' : r.length + 1 < 1048575 := by simpa using hl
    have h1 : (r.length + 1) * 32 ≤ 70368744177664 := by omega
    have h2 : r.length + 1 ≤ 70368744177664 := by omega
    have h5 : r.length + 1 + 1 ≤ 1048575 := hl'
    have h4 : r.length + 1 + 1 ≤ 70368744177664 := Nat.le_trans h5 (by decide)
    have h3 : (r.length + 1 + 1) * 32 ≤ 70368744177664 := Nat.le_trans (Nat.mul_le_mul_right 32 h5) (by decide)
    refine ⟨[r.length + 1], .slice false 3 ((e :: r).map aE) (.own 0), ?_, ?_⟩
    · simp [aAppend, appendLimit, h1, h2]
    · simp [aAppend, appendLimit, h3, h4]
theorem refAdd_eq (b t : Nat) (nl : Bool) (sz : Nat) (es : List Ent) (rm : Bool) (term : Nat) (data : List UInt8) (hsz : sz = 3 ∨ es.length = 0) (hi : refLastI ⟨b, t, es⟩ < 18446744073709551615) (hl : es.length < 1048575) :
    ∃ nl' sz' c, (sz' = 3 ∨ (refAdd ⟨b, t, es⟩ term data).es.length = 0) ∧
    ∀ h, pureK h (call cfg 40 [.agg [.int .u64 b, .int .u64 t, .slice nl sz (es.map aE) (rmB rm)], .int .u64 term, .str (bs data)] ⟨[], []⟩) =
      some (.agg [.int .u64 (refAdd ⟨b, t, es⟩ term data).b, .int .u64 (refAdd ⟨b, t, es⟩ term data).t, .slice nl' sz' ((refAdd ⟨b, t, es⟩ term data).es.map aE) (rmB c)], h) := by
  have el := fun h => refLast_eq b t nl sz es rm hsz (by omega) h
  have hx : ((es ++ [(⟨refLastI ⟨b, t, es⟩ + 1, term, data⟩ : Ent)]).map aE) = es.map aE ++ [.agg [.int .u64 (refLastI ⟨b, t, es⟩ + 1 : Nat), .int .u64 term, .str (bs data)]] := by simp [aE]
  have eck := fun h => refCheckL_eq b t false 3 (es ++ [⟨refLastI ⟨b, t, es⟩ + 1, term, data⟩]) false (.inl rfl) (by simp; omega) h
  rw [hx] at eck
  unfold refAdd
  dsimp only
  generalize hok : logOk ⟨b, t, es ++ [⟨refLastI ⟨b, t, es⟩ + 1, term, data⟩]⟩ = ok at *
  generalize refLastI ⟨b, t, es⟩ = n at *
  push_cast at el eck hx
  have hap := append2 sz es hsz hl
  cases ok with
  | true =>
    simp only [if_true]
    refine ⟨false, 3, false, .inl rfl, fun h => ?_⟩
    rw [hx, cf_40 _ _ (by simp)]
    obtain ⟨T, y, a1, a2⟩ := hap [lgB b t nl sz es rm, some ⟨false, [.int .u64 0, .int .u64 0, .slice true 0 [] .full]⟩, some ⟨false, [.int .u64 n, .int .u64 (lastT ⟨b, t, es⟩)]⟩, some ⟨false, [.int .u64 0, .int .u64 0, .slice true 0 [] .full]⟩] (.agg [.int .u64 (n + 1), .int .u64 term, .str (bs data)])
    simp only [lgB] at a1 a2
    simp (maxSteps := 1000000) (disch := first | omega | (simp only [List.length_map, List.length_append, List.length_cons, List.length_nil]; omega) | (simp only [List.length_map, List.length_append, List.length_cons, List.length_nil]; done) | fail) [-List.map_take, -List.map_drop, ic40, go_sem, el, a1, a2, eck]
  | false =>
    simp only [Bool.false_eq_true, if_false]
    refine ⟨nl, sz, rm, hsz, fun h => ?_⟩
    rw [cf_40 _ _ (by simp)]
    obtain ⟨T, y, a1, a2⟩ := hap [lgB b t nl sz es rm, some ⟨false, [.int .u64 0, .int .u64 0, .slice true 0 [] .full]⟩, some ⟨false, [.int .u64 n, .int .u64 (lastT ⟨b, t, es⟩)]⟩, some ⟨false, [.int .u64 0, .int .u64 0, .slice true 0 [] .full]⟩] (.agg [.int .u64 (n + 1), .int .u64 term, .str (bs data)])
    simp only [lgB] at a1 a2
    simp (maxSteps := 1000000) (disch := first | omega | (simp only [List.length_map, List.length_append, List.length_cons, List.length_nil]; omega) | (simp only [List.length_map, List.length_append, List.length_cons, List.length_nil]; done) | fail) [-List.map_take, -List.map_drop, ic40, go_sem, el, a1, a2, eck]

end Go.Proofs.Ytghljcgkeeodaaa.Abs
