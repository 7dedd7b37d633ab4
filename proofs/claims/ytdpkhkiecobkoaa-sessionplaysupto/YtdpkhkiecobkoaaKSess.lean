import Derived.Test.YtdpkhkiecobkoaaKSeen
set_option linter.all false
set_option linter.unusedVariables false
set_option linter.unusedSimpArgs false
set_option maxRecDepth 10000
set_option maxHeartbeats 1000000
namespace Go.Proofs.Ytdpkhkiecobkoaa.Abs
open Go.Abs
attribute [local congr] ite_congr
def hitAt (o : Option Sn) (b : Int) : Bool := match o with | some y => decide (y.c = b) | none => false
theorem hitAt_some (y : Sn) (b : Int) : hitAt (some y) b = decide (y.c = b) := rfl
theorem hitAt_none (b : Int) : hitAt none b = false := rfl
theorem bsearch_eq (nl : Bool) (sz : Nat) (l : List Sn) (rm : Bool) (b : Int) (hsz : sz = 3 ∨ l.length = 0) (hl : l.length < 1048576) : ∃ i, i ≤ l.length ∧ (∀ y, l[i]? = some y → b ≤ y.c) ∧ (∀ k y, k + 1 = i → l[k]? = some y → y.c < b) ∧
    ∀ h, pureK h (call cfg 43 [.slice nl sz (l.map aS) (rmB rm), .int .i64 b, .func (.func 44) [] []] ⟨[], []⟩) = some (.tup [.int .i64 (i : Nat), .bool (hitAt l[i]? b)], h) := by
  obtain ⟨i, q, h1, h2, h3, e⟩ := bs_loop nl sz l rm b hsz hl l.length 0 l.length [] (by omega) (by omega) (Nat.le_refl _) (fun y hy => by rw [List.getElem?_eq_none (Nat.le_refl _)] at hy; cases hy) (fun k y hk => by omega)
  refine ⟨i, h1, h2, h3, fun h => ?_⟩
  simp [bsSt] at e
  rw [cf_43 _ _ (by simp)]
  by_cases hi : i < l.length
  · have h6 : sz = 3 := by omega
    subst h6
    obtain ⟨y, hy⟩ : ∃ y, l[i] = y := ⟨_, rfl⟩
    have hy' : l[i]? = some y := by rw [List.getElem?_eq_getElem hi, hy]
    have hc := fun h => atcmp_eq y b h
    rw [hy']
    by_cases he : y.c = b
    · have hcm : cmpOf y.c b = 0 := by unfold cmpOf; rw [if_neg (by omega), if_neg (by omega)]
      rw [hcm] at hc
      have hd : decide (y.c = b) = true := by simpa using he
      rw [hitAt_some, hd]
      simp (maxSteps := 1000000) (disch := first | omega | (simp only [List.length_map, List.length_append, List.length_cons, List.length_nil]; omega) | (simp only [List.length_map, List.length_append, List.length_cons, List.length_nil]; done) | fail) [-List.map_take, -List.map_drop, ic43, go_sem, e, hy, aS, hc]
    · have hcm : ¬ cmpOf y.c b = 0 := by have := h2 y hy'; unfold cmpOf; rw [if_neg (by omega), if_pos (by omega)]; omega
      have hd : decide (y.c = b) = false := by simpa using he
      rw [hitAt_some, hd]
      generalize cmpOf y.c b = z at hc hcm
      simp (maxSteps := 1000000) (disch := first | omega | (simp only [List.length_map, List.length_append, List.length_cons, List.length_nil]; omega) | (simp only [List.length_map, List.length_append, List.length_cons, List.length_nil]; done) | fail) [-List.map_take, -List.map_drop, ic43, go_sem, e, hy, aS, hc]
  · rw [List.getElem?_eq_none (by omega), hitAt_none]
    simp (maxSteps := 1000000) (disch := first | omega | (simp only [List.length_map, List.length_append, List.length_cons, List.length_nil]; omega) | (simp only [List.length_map, List.length_append, List.length_cons, List.length_nil]; done) | fail) [-List.map_take, -List.map_drop, ic43, go_sem, e]
/-- the place of a client -/
theorem at_eq (nl : Bool) (sz : Nat) (l : List Sn) (rm : Bool) (b : Int) (hsz : sz = 3 ∨ l.length = 0) (hl : l.length < 1048576) : ∃ i, i ≤ l.length ∧ (∀ y, l[i]? = some y → b ≤ y.c) ∧ (∀ k y, k + 1 = i → l[k]? = some y → y.c < b) ∧
    ∀ h, pureK h (call cfg 27 [.slice nl sz (l.map aS) (rmB rm), .int .i64 b] ⟨[], []⟩) = some (.tup [.int .i64 (i : Nat), .bool (hitAt l[i]? b)], h) := by
  obtain ⟨i, h1, h2, h3, e⟩ := bsearch_eq nl sz l rm b hsz hl
  refine ⟨i, h1, h2, h3, fun h => ?_⟩
  generalize hitAt l[i]? b = f at *
  rw [cf_27 _ _ (by simp)]
  simp (maxSteps := 1000000) (disch := first | omega | (simp only [List.length_map, List.length_append, List.length_cons, List.length_nil]; omega) | (simp only [List.length_map, List.length_append, List.length_cons, List.length_nil]; done) | fail) [-List.map_take, -List.map_drop, ic27, go_sem, e]
/-! rows that may be -/
def rightGo : Int → List Sn → Bool
  | _, [] => true
  | u, x :: r => !decide (x.c ≤ u) && (callOk x.c x.s [] && (!decide (x.r.length > 40) && rightGo x.c r))
def badS (u : Int) (x : Sn) : Bool := decide (x.c ≤ u) || (!callOk x.c x.s [] || decide (x.r.length > 40))
theorem right_bad (u : Int) (x : Sn) (r : List Sn) : rightGo u (x :: r) = (!badS u x && rightGo x.c r) := by
  simp only [rightGo, badS, Bool.not_or, Bool.not_not, Bool.and_assoc]
theorem rclosure_eq (u : Int) (x : Sn) : call cfg 29 [.agg [.int .i64 x.c, .int .u64 x.s, .str (bs x.r)], .ptr 0 0] ⟨[some ⟨false, [.int .i64 u]⟩], []⟩ = some (.bool (badS u x), ⟨[some ⟨false, [.int .i64 x.c]⟩], []⟩) := by
  have hc := fun h => scheck_eq x.c x.s [] h
  rw [cf_29 _ _ (by simp)]
  cases hk : callOk x.c x.s [] <;> rw [hk] at hc <;> by_cases h1 : x.c ≤ u <;> by_cases h2 : x.r.length > 40
  all_goals simp (maxSteps := 1000000) (disch := first | omega | (simp only [List.length_map, List.length_append, List.length_cons, List.length_nil]; omega) | (simp only [List.length_map, List.length_append, List.length_cons, List.length_nil]; done) | fail) [-List.map_take, -List.map_drop, ic29, go_sem, hc, badS, hk, h1]
def rkF : AV := .func (.func 29) [] [.ptr 0 0]
def rkSt (nl : Bool) (sz : Nat) (l : List Sn) (rm : Bool) (u : Int) (i : Nat) : St :=
  ⟨ofList [(0, .slice nl sz (l.map aS) (rmB rm)), (1, rkF), (7, .int .i64 l.length), (8, .int .i64 i)], ⟨[some ⟨false, [.int .i64 u]⟩], []⟩⟩
theorem rk_loop (nl : Bool) (sz : Nat) (l : List Sn) (rm : Bool) (hsz : sz = 3 ∨ l.length = 0) (hl : l.length < 1048576) : ∀ (r : List Sn) (i : Nat) (u : Int), l.drop i = r → i ≤ l.length →
    (rightGo u r = false ∧ ∃ (k : Nat) (u' : Int), run cfg 1 (.loop ic47l0) (rkSt nl sz l rm u i) = some (.ret, ⟨ofList [(4, .int .i64 k)], ⟨[some ⟨false, [.int .i64 u']⟩], []⟩⟩)) ∨
    (rightGo u r = true ∧ ∃ (u' : Int) (q : List (Nat × AV)), run cfg 1 (.loop ic47l0) (rkSt nl sz l rm u i) = some (.exit 0, ⟨ofList q, ⟨[some ⟨false, [.int .i64 u']⟩], []⟩⟩)) := by
  intro r
  induction r with
  | nil =>
    intro i u hr hi
    have : i = l.length := by have := drop_nil hr; omega
    subst this
    refine .inr ⟨rfl, u, [(0, .slice nl sz (l.map aS) (rmB rm)), (1, rkF), (7, .int .i64 l.length), (8, .int .i64 l.length), (9, .bool false)], ?_⟩
    rw [run_loop']
    simp (maxSteps := 1000000) (disch := first | omega | (simp only [List.length_map, List.length_append, List.length_cons, List.length_nil]; omega) | (simp only [List.length_map, List.length_append, List.length_cons, List.length_nil]; done) | fail) [-List.map_take, -List.map_drop, ic47l0, go_sem, rkSt, rkF]
  | cons x r ih =>
    intro i u hr hi
    obtain ⟨h1, h2, h3⟩ := drop_cons hr
    obtain ⟨_, he⟩ := List.getElem?_eq_some_iff.1 h2
    have h4 : sz = 3 := by omega
    subst h4
    have hc := rclosure_eq u x
    rw [right_bad]
    cases hb : badS u x with
    | true =>
      rw [hb] at hc
      refine .inl ⟨by simp, i, x.c, ?_⟩
      rw [run_loop']
      simp (maxSteps := 1000000) (disch := first | omega | (simp only [List.length_map, List.length_append, List.length_cons, List.length_nil]; omega) | (simp only [List.length_map, List.length_append, List.length_cons, List.length_nil]; done) | fail) [-List.map_take, -List.map_drop, ic47l0, go_sem, rkSt, rkF, he, hc, aS]
    | false =>
      rw [hb] at hc
      simp only [Bool.not_false, Bool.true_and]
      have key : run cfg 1 ic47l0 (rkSt nl 3 l rm u i) = some (.normal, rkSt nl 3 l rm x.c (i + 1)) := by
        simp (maxSteps := 1000000) (disch := first | omega | (simp only [List.length_map, List.length_append, List.length_cons, List.length_nil]; omega) | (simp only [List.length_map, List.length_append, List.length_cons, List.length_nil]; done) | fail) [-List.map_take, -List.map_drop, ic47l0, go_sem, rkSt, rkF, he, hc, aS]
      rw [run_loop', key, loopK_normal]
      exact ih (i + 1) x.c h3 (by omega)
theorem right_eq (nl : Bool) (sz : Nat) (l : List Sn) (rm : Bool) (hsz : sz = 3 ∨ l.length = 0) (hl : l.length < 1048576) (h : AH) :
    pureK h (call cfg 19 [.slice nl sz (l.map aS) (rmB rm)] ⟨[], []⟩) = some (.bool (rightGo 0 l), h) := by
  have hcon : ∃ u', call cfg 30 [.slice nl sz (l.map aS) (rmB rm), rkF] ⟨[some ⟨false, [.int .i64 0]⟩], []⟩ = some (.bool (!rightGo 0 l), ⟨[some ⟨false, [.int .i64 u']⟩], []⟩) := by
    rcases rk_loop nl sz l rm hsz hl l 0 0 (by simp) (by omega) with ⟨h1, k, u', e⟩ | ⟨h1, u', q, e⟩
    · refine ⟨u', ?_⟩
      have h2 : call cfg 47 [.slice nl sz (l.map aS) (rmB rm), rkF] ⟨[some ⟨false, [.int .i64 0]⟩], []⟩ = some (.int .i64 k, ⟨[some ⟨false, [.int .i64 u']⟩], []⟩) := by
        rw [cf_47 _ _ (by simp)]
        simp [rkSt, rkF] at e
        simp (maxSteps := 1000000) (disch := first | omega | (simp only [List.length_map, List.length_append, List.length_cons, List.length_nil]; omega) | (simp only [List.length_map, List.length_append, List.length_cons, List.length_nil]; done) | fail) [-List.map_take, -List.map_drop, ic47, go_sem, rkF, e]
      rw [cf_30 _ _ (by simp), h1]
      simp (maxSteps := 1000000) (disch := first | omega | (simp only [List.length_map, List.length_append, List.length_cons, List.length_nil]; omega) | (simp only [List.length_map, List.length_append, List.length_cons, List.length_nil]; done) | fail) [-List.map_take, -List.map_drop, ic30, go_sem, h2]
    · refine ⟨u', ?_⟩
      have h2 : call cfg 47 [.slice nl sz (l.map aS) (rmB rm), rkF] ⟨[some ⟨false, [.int .i64 0]⟩], []⟩ = some (.int .i64 (-1), ⟨[some ⟨false, [.int .i64 u']⟩], []⟩) := by
        rw [cf_47 _ _ (by simp)]
        simp [rkSt, rkF] at e
        simp (maxSteps := 1000000) (disch := first | omega | (simp only [List.length_map, List.length_append, List.length_cons, List.length_nil]; omega) | (simp only [List.length_map, List.length_append, List.length_cons, List.length_nil]; done) | fail) [-List.map_take, -List.map_drop, ic47, go_sem, rkF, e]
      rw [cf_30 _ _ (by simp), h1]
      simp (maxSteps := 1000000) (disch := first | omega | (simp only [List.length_map, List.length_append, List.length_cons, List.length_nil]; omega) | (simp only [List.length_map, List.length_append, List.length_cons, List.length_nil]; done) | fail) [-List.map_take, -List.map_drop, ic30, go_sem, h2]
  obtain ⟨u', e⟩ := hcon
  simp only [rkF] at e
  rw [cf_19 _ _ (by simp)]
  simp (maxSteps := 1000000) (disch := first | omega | (simp only [List.length_map, List.length_append, List.length_cons, List.length_nil]; omega) | (simp only [List.length_map, List.length_append, List.length_cons, List.length_nil]; done) | fail) [-List.map_take, -List.map_drop, ic19, go_sem, e]

end Go.Proofs.Ytdpkhkiecobkoaa.Abs
