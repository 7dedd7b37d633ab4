import Derived.Test.YtdpkhkiecobkoaaFF
set_option linter.all false
set_option linter.unusedVariables false
set_option linter.unusedSimpArgs false
set_option maxRecDepth 10000
set_option maxHeartbeats 1000000
namespace Go.Proofs.Ytdpkhkiecobkoaa.Abs
open Go.Abs
attribute [local congr] ite_congr
structure Sn where
  c : Int
  s : Nat
  r : List UInt8
  deriving DecidableEq
def aS (x : Sn) : AV := .agg [.int .i64 x.c, .int .u64 x.s, .str (bs x.r)]
theorem aS_strip (e : Sn) : (aS e).strip = aS e := by simp [aS, go_sem]
theorem aS_refs (nb nt : Nat) (e : Sn) : (aS e).refs nb nt = true := by simp [aS, go_sem]
theorem aS_cells (e : Sn) : (aS e).cells = [.int .i64 e.c, .int .u64 e.s, .str (bs e.r)] := rfl
theorem aSs_strip (l : List Sn) : stripAll (l.map aS) = l.map aS := strip_map aS_strip l
theorem aSs_refs (nb nt : Nat) (l : List Sn) : refsAll nb nt (l.map aS) = true := refs_map (aS_refs nb nt) l
attribute [go_sem] aS_strip aS_refs aS_cells aSs_strip aSs_refs
/-- may a command be? -/
def callOk (c : Int) (s : Nat) (d : List UInt8) : Bool := decide (1 ≤ c ∧ c ≤ 15 ∧ 1 ≤ s ∧ s ≤ 1099511627776 ∧ d.length ≤ 50)
theorem scheck_eq (c : Int) (s : Nat) (d : List UInt8) (h : AH) : pureK h (call cfg 23 [.agg [.int .i64 c, .int .u64 s, .str (bs d)]] ⟨[], []⟩) = some (.bool (callOk c s d), h) := by
  rw [cf_23 _ _ (by simp)]
  by_cases h1 : 1 ≤ c <;> by_cases h2 : c ≤ 15 <;> by_cases h3 : 1 ≤ s <;> by_cases h4 : s ≤ 1099511627776 <;> by_cases h5 : d.length ≤ 50
  all_goals simp (maxSteps := 1000000) (disch := first | omega | (simp only [List.length_map, List.length_append, List.length_cons, List.length_nil]; omega) | (simp only [List.length_map, List.length_append, List.length_cons, List.length_nil]; done) | fail) [-List.map_take, -List.map_drop, ic23, go_sem, callOk]
def cmpOf (a b : Int) : Int := if a < b then -1 else if b < a then 1 else 0
theorem isNaN_eq (a : Int) (h : AH) : pureK h (call cfg 56 [.int .i64 a] ⟨[], []⟩) = some (.bool false, h) := by
  rw [cf_56 _ _ (by simp)]
  simp (maxSteps := 1000000) (disch := first | omega | (simp only [List.length_map, List.length_append, List.length_cons, List.length_nil]; omega) | (simp only [List.length_map, List.length_append, List.length_cons, List.length_nil]; done) | fail) [-List.map_take, -List.map_drop, ic56, go_sem]
theorem compare_eq (a b : Int) (h : AH) : pureK h (call cfg 45 [.int .i64 a, .int .i64 b] ⟨[], []⟩) = some (.int .i64 (cmpOf a b), h) := by
  rw [cf_45 _ _ (by simp)]
  by_cases h1 : a < b
  · simp (maxSteps := 1000000) (disch := first | omega | (simp only [List.length_map, List.length_append, List.length_cons, List.length_nil]; omega) | (simp only [List.length_map, List.length_append, List.length_cons, List.length_nil]; done) | fail) [-List.map_take, -List.map_drop, ic45, go_sem, isNaN_eq, cmpOf, h1]
  · by_cases h2 : b < a
    · simp (maxSteps := 1000000) (disch := first | omega | (simp only [List.length_map, List.length_append, List.length_cons, List.length_nil]; omega) | (simp only [List.length_map, List.length_append, List.length_cons, List.length_nil]; done) | fail) [-List.map_take, -List.map_drop, ic45, go_sem, isNaN_eq, cmpOf, h1, h2]
    · simp (maxSteps := 1000000) (disch := first | omega | (simp only [List.length_map, List.length_append, List.length_cons, List.length_nil]; omega) | (simp only [List.length_map, List.length_append, List.length_cons, List.length_nil]; done) | fail) [-List.map_take, -List.map_drop, ic45, go_sem, isNaN_eq, cmpOf, h1, h2]
theorem atcmp_eq (x : Sn) (b : Int) (h : AH) : pureK h (call cfg 44 [.agg [.int .i64 x.c, .int .u64 x.s, .str (bs x.r)], .int .i64 b] ⟨[], []⟩) = some (.int .i64 (cmpOf x.c b), h) := by
  rw [cf_44 _ _ (by simp)]
  simp (maxSteps := 1000000) (disch := first | omega | (simp only [List.length_map, List.length_append, List.length_cons, List.length_nil]; omega) | (simp only [List.length_map, List.length_append, List.length_cons, List.length_nil]; done) | fail) [-List.map_take, -List.map_drop, ic44, go_sem, compare_eq]
def bsSt (nl : Bool) (sz : Nat) (l : List Sn) (rm : Bool) (b : Int) (i j : Nat) (x : List (Nat × AV)) : St :=
  ⟨ofList ((0, .slice nl sz (l.map aS) (rmB rm)) :: (1, .int .i64 b) :: (2, .func (.func 44) [] []) :: (8, .int .i64 l.length) :: (9, .int .i64 i) :: (10, .int .i64 j) :: x), ⟨[], []⟩⟩
theorem bs_loop (nl : Bool) (sz : Nat) (l : List Sn) (rm : Bool) (b : Int) (hsz : sz = 3 ∨ l.length = 0) (hl : l.length < 1048576) : ∀ (m i j : Nat) (x : List (Nat × AV)), j - i ≤ m → i ≤ j → j ≤ l.length →
    (∀ y, l[j]? = some y → b ≤ y.c) → (∀ k y, k + 1 = i → l[k]? = some y → y.c < b) →
    ∃ i' q, i' ≤ l.length ∧ (∀ y, l[i']? = some y → b ≤ y.c) ∧ (∀ k y, k + 1 = i' → l[k]? = some y → y.c < b) ∧
      run cfg 0 (.loop ic43l0) (bsSt nl sz l rm b i j x) = some (.exit 0, ⟨ofList ([(0, .slice nl sz (l.map aS) (rmB rm)), (1, .int .i64 b), (2, .func (.func 44) [] []), (8, .int .i64 l.length), (9, .int .i64 (i' : Nat))] ++ q), ⟨[], []⟩⟩) := by
  intro m
  induction m with
  | zero =>
    intro i j x h1 h2 h3 h4 h5
    have : i = j := by omega
    subst this
    refine ⟨i, [(10, .int .i64 i), (17, .bool false)], h3, h4, h5, ?_⟩
    rw [run_loop']
    simp (maxSteps := 1000000) (disch := first | omega | (simp only [List.length_map, List.length_append, List.length_cons, List.length_nil]; omega) | (simp only [List.length_map, List.length_append, List.length_cons, List.length_nil]; done) | fail) [-List.map_take, -List.map_drop, ic43l0, go_sem, bsSt]
  | succ m ih =>
    intro i j x h1 h2 h3 h4 h5
    by_cases hij : i < j
    · have hm : (((i : Int) + (j : Int)).fdiv 2) = (((i + j) / 2 : Nat) : Int) := by rw [Int.fdiv_eq_ediv_of_nonneg _ (by omega)]; omega
      obtain ⟨mid, hmid⟩ : ∃ mid, mid = (i + j) / 2 := ⟨_, rfl⟩
      rw [← hmid] at hm
      have hlt : mid < l.length := by omega
      have h6 : sz = 3 := by omega
      subst h6
      obtain ⟨y, hy⟩ : ∃ y, l[mid] = y := ⟨_, rfl⟩
      have hy' : l[mid]? = some y := by rw [List.getElem?_eq_getElem hlt, hy]
      have hc := fun h => atcmp_eq y b h
      by_cases hlt2 : y.c < b
      · obtain ⟨i', q, g1, g2, g3, g4⟩ := ih (mid + 1) j [] (by omega) (by omega) h3 h4 (fun k z hk hz => by
          have : k = mid := by omega
          subst this; rw [hy'] at hz; cases hz; exact hlt2)
        refine ⟨i', q, g1, g2, g3, ?_⟩
        have hcm : cmpOf y.c b = -1 := by unfold cmpOf; rw [if_pos hlt2]
        rw [hcm] at hc
        have key : run cfg 0 ic43l0 (bsSt nl 3 l rm b i j x) = some (.normal, bsSt nl 3 l rm b (mid + 1) j []) := by
          simp (maxSteps := 1000000) (disch := first | omega | (simp only [List.length_map, List.length_append, List.length_cons, List.length_nil]; omega) | (simp only [List.length_map, List.length_append, List.length_cons, List.length_nil]; done) | fail) [-List.map_take, -List.map_drop, ic43l0, go_sem, bsSt, hm, hy, aS, hc]
        rw [run_loop', key, loopK_normal, g4]
      · obtain ⟨i', q, g1, g2, g3, g4⟩ := ih i mid [] (by omega) (by omega) (by omega) (fun z hz => by rw [hy'] at hz; cases hz; omega) h5
        refine ⟨i', q, g1, g2, g3, ?_⟩
        have hcm : ¬ cmpOf y.c b < 0 := by unfold cmpOf; rw [if_neg hlt2]; split <;> omega
        have key : run cfg 0 ic43l0 (bsSt nl 3 l rm b i j x) = some (.normal, bsSt nl 3 l rm b i mid []) := by
          simp (maxSteps := 1000000) (disch := first | omega | (simp only [List.length_map, List.length_append, List.length_cons, List.length_nil]; omega) | (simp only [List.length_map, List.length_append, List.length_cons, List.length_nil]; done) | fail) [-List.map_take, -List.map_drop, ic43l0, go_sem, bsSt, hm, hy, aS, hc, hcm]
        rw [run_loop', key, loopK_normal, g4]
    · have : i = j := by omega
      subst this
      refine ⟨i, [(10, .int .i64 i), (17, .bool false)], h3, h4, h5, ?_⟩
      rw [run_loop']
      simp (maxSteps := 1000000) (disch := first | omega | (simp only [List.length_map, List.length_append, List.length_cons, List.length_nil]; omega) | (simp only [List.length_map, List.length_append, List.length_cons, List.length_nil]; done) | fail) [-List.map_take, -List.map_drop, ic43l0, go_sem, bsSt]

end Go.Proofs.Ytdpkhkiecobkoaa.Abs
