import Derived.Test.YtdpkhkiecobkoaaKRef12c
set_option linter.all false
set_option linter.unusedVariables false
set_option linter.unusedSimpArgs false
set_option maxRecDepth 10000
set_option maxHeartbeats 1000000
namespace Go.Proofs.Ytdpkhkiecobkoaa.Abs
open Go.Abs
attribute [local congr] ite_congr
def rdGo (x : Sn) : List Sn → Bool → List Sn → List Sn × Bool
  | [], put, acc => (acc, put)
  | y :: r, put, acc => rdGo x r (put || decide (x.c ≤ y.c)) ((if (!put && decide (x.c ≤ y.c)) = true then acc ++ [x] else acc) ++ (if y.c = x.c then [] else [y]))
theorem rdGo_put (x : Sn) : ∀ (r : List Sn) (acc : List Sn), (∀ y ∈ r, x.c < y.c) → rdGo x r true acc = (acc ++ r, true) := by
  intro r
  induction r with
  | nil => intro acc _; simp [rdGo]
  | cons y r ih =>
    intro acc h
    have h1 := h y (by simp)
    unfold rdGo
    rw [if_neg (by simp), if_neg (by omega)]
    simp only [Bool.true_or]
    rw [ih _ fun z hz => h z (by simp [hz])]
    simp
theorem rdGo_ins (x : Sn) : ∀ (r : List Sn) (acc : List Sn), Srt r → (if (rdGo x r false acc).2 = true then (rdGo x r false acc).1 else (rdGo x r false acc).1 ++ [x]) = acc ++ insOf r x := by
  intro r
  induction r with
  | nil => intro acc _; simp [rdGo, insOf]
  | cons y r ih =>
    intro acc hs
    have hs' := List.pairwise_cons.1 hs
    unfold rdGo
    by_cases h1 : y.c < x.c
    · have e1 : decide (x.c ≤ y.c) = false := by simp; omega
      rw [e1, if_neg (by omega : ¬ y.c = x.c)]
      simp only [Bool.or_false, Bool.and_false, Bool.false_eq_true, if_false]
      rw [ih _ hs'.2]
      unfold insOf
      rw [List.filter_cons_of_pos (by simpa using h1), List.filter_cons_of_neg (by simp; omega)]
      simp
    · have e1 : decide (x.c ≤ y.c) = true := by simp; omega
      have hgt : ∀ z ∈ r, x.c < z.c := fun z hz => by have := hs'.1 z hz; omega
      have f1 : r.filter (fun y => decide (y.c < x.c)) = [] := by
        rw [List.filter_eq_nil_iff]; intro z hz; have := hgt z hz; simp; omega
      have f2 : r.filter (fun y => decide (x.c < y.c)) = r := by
        rw [List.filter_eq_self]; intro z hz; have := hgt z hz; simp; omega
      rw [e1]
      simp only [Bool.or_true, Bool.not_false, Bool.and_true, if_true]
      rw [rdGo_put x r _ hgt]
      unfold insOf
      rw [List.filter_cons_of_neg (by simpa using h1), f1]
      by_cases h2 : y.c = x.c
      · rw [List.filter_cons_of_neg (by simp; omega), f2, if_pos h2]; simp
      · rw [List.filter_cons_of_pos (by simp; omega), f2, if_neg h2]; simp
def rdSt (nl : Bool) (sz : Nat) (l : List Sn) (rm : Bool) (d : List UInt8) (x : Sn) (put : Bool) (acc : List Sn) (i : Nat) : St :=
  ⟨ofList [(0, .slice nl sz (l.map aS) (rmB rm)), (4, .ptr 0 0), (9, .ptr 1 0), (10, ownS 3 (acc.map aS)), (11, .bool put), (12, .int .i64 i)], ⟨[some ⟨false, [.int .i64 x.c, .int .u64 x.s, .str (bs d)]⟩, some ⟨false, [.int .i64 x.c, .int .u64 x.s, .str (bs x.r)]⟩], ownT (acc.map aS)⟩⟩
theorem rd_loop (nl : Bool) (sz : Nat) (l : List Sn) (rm : Bool) (d : List UInt8) (x : Sn) (hsz : sz = 3 ∨ l.length = 0) (hl : l.length < 1048576) : ∀ (r : List Sn) (i : Nat) (put : Bool) (acc : List Sn), l.drop i = r → i ≤ l.length → acc.length ≤ 2 * i →
    ∃ q, run cfg 0 (.loop ic16l0) (rdSt nl sz l rm d x put acc i) = some (.exit 0, ⟨ofList ([(0, .slice nl sz (l.map aS) (rmB rm)), (4, .ptr 0 0), (9, .ptr 1 0), (10, ownS 3 ((rdGo x r put acc).1.map aS)), (11, .bool (rdGo x r put acc).2)] ++ q),
      ⟨[some ⟨false, [.int .i64 x.c, .int .u64 x.s, .str (bs d)]⟩, some ⟨false, [.int .i64 x.c, .int .u64 x.s, .str (bs x.r)]⟩], ownT ((rdGo x r put acc).1.map aS)⟩⟩) ∧ (rdGo x r put acc).1.length ≤ 2 * l.length := by
  intro r
  induction r with
  | nil =>
    intro i put acc h1 h2 h3
    have : i = l.length := by have := drop_nil h1; omega
    subst this
    refine ⟨[(12, .int .i64 l.length), (36, .bool false)], ?_, h3⟩
    rw [run_loop']
    simp (maxSteps := 1000000) (disch := first | omega | (simp only [List.length_map, List.length_append, List.length_cons, List.length_nil]; omega) | (simp only [List.length_map, List.length_append, List.length_cons, List.length_nil]; done) | fail) [-List.map_take, -List.map_drop, ic16l0, go_sem, rdSt, rdGo]
  | cons y r ih =>
    intro i put acc h1 h2 h3
    obtain ⟨hlt, hx0, hd⟩ := drop_cons h1
    obtain ⟨_, hy⟩ := List.getElem?_eq_some_iff.1 hx0
    have h6 : sz = 3 := by omega
    subst h6
    obtain ⟨q, e, hlen⟩ := ih (i + 1) (put || decide (x.c ≤ y.c)) ((if (!put && decide (x.c ≤ y.c)) = true then acc ++ [x] else acc) ++ (if y.c = x.c then [] else [y])) hd (by omega) (by
      rw [List.length_append]; split <;> split <;> simp <;> omega)
    refine ⟨q, ?_, hlen⟩
    have key : run cfg 0 ic16l0 (rdSt nl 3 l rm d x put acc i) = some (.normal, rdSt nl 3 l rm d x (put || decide (x.c ≤ y.c)) ((if (!put && decide (x.c ≤ y.c)) = true then acc ++ [x] else acc) ++ (if y.c = x.c then [] else [y])) (i + 1)) := by
      by_cases a1 : x.c ≤ y.c
      · rw [decide_eq_true a1]
        by_cases a2 : y.c = x.c
        · rw [if_pos a2]
          cases put with
          | true => simp (maxSteps := 1000000) (disch := first | omega | (simp only [List.length_map, List.length_append, List.length_cons, List.length_nil]; omega) | (simp only [List.length_map, List.length_append, List.length_cons, List.length_nil]; done) | fail) [-List.map_take, -List.map_drop, ic16l0, go_sem, rdSt, hy, aS, a1, a2]
          | false => simp (maxSteps := 1000000) (disch := first | omega | (simp only [List.length_map, List.length_append, List.length_cons, List.length_nil]; omega) | (simp only [List.length_map, List.length_append, List.length_cons, List.length_nil]; done) | fail) [-List.map_take, -List.map_drop, ic16l0, go_sem, rdSt, hy, aS, a1, a2, List.map_append]
        · rw [if_neg a2]
          cases put with
          | true => simp (maxSteps := 1000000) (disch := first | omega | (simp only [List.length_map, List.length_append, List.length_cons, List.length_nil]; omega) | (simp only [List.length_map, List.length_append, List.length_cons, List.length_nil]; done) | fail) [-List.map_take, -List.map_drop, ic16l0, go_sem, rdSt, hy, aS, a1, a2, List.map_append]
          | false => simp (maxSteps := 1000000) (disch := first | omega | (simp only [List.length_map, List.length_append, List.length_cons, List.length_nil]; omega) | (simp only [List.length_map, List.length_append, List.length_cons, List.length_nil]; done) | fail) [-List.map_take, -List.map_drop, ic16l0, go_sem, rdSt, hy, aS, a1, a2, List.map_append]
      · rw [decide_eq_false a1, if_neg (by omega : ¬ y.c = x.c)]
        have a2 : ¬ y.c = x.c := by omega
        cases put with
        | true => simp (maxSteps := 1000000) (disch := first | omega | (simp only [List.length_map, List.length_append, List.length_cons, List.length_nil]; omega) | (simp only [List.length_map, List.length_append, List.length_cons, List.length_nil]; done) | fail) [-List.map_take, -List.map_drop, ic16l0, go_sem, rdSt, hy, aS, a1, a2, List.map_append]
        | false => simp (maxSteps := 1000000) (disch := first | omega | (simp only [List.length_map, List.length_append, List.length_cons, List.length_nil]; omega) | (simp only [List.length_map, List.length_append, List.length_cons, List.length_nil]; done) | fail) [-List.map_take, -List.map_drop, ic16l0, go_sem, rdSt, hy, aS, a1, a2, List.map_append]
    rw [run_loop', key, loopK_normal, e]
    rfl

end Go.Proofs.Ytdpkhkiecobkoaa.Abs
