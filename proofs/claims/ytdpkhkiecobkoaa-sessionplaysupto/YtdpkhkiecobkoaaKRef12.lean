import Derived.Test.YtdpkhkiecobkoaaKSn12
set_option linter.all false
set_option linter.unusedVariables false
set_option linter.unusedSimpArgs false
set_option maxRecDepth 10000
set_option maxHeartbeats 1000000
namespace Go.Proofs.Ytdpkhkiecobkoaa.Abs
open Go.Abs
attribute [local congr] ite_congr
theorem rcheck_eq (c : Int) (s : Nat) (d : List UInt8) (h : AH) : pureK h (call cfg 24 [.agg [.int .i64 c, .int .u64 s, .str (bs d)]] ⟨[], []⟩) = some (.bool (callOk c s d), h) := by
  rw [cf_24 _ _ (by simp)]
  by_cases h1 : 1 ≤ c <;> by_cases h2 : c ≤ 15 <;> by_cases h3 : 1 ≤ s <;> by_cases h4 : s ≤ 1099511627776 <;> by_cases h5 : d.length ≤ 50
  all_goals simp (maxSteps := 1000000) (disch := first | omega | (simp only [List.length_map, List.length_append, List.length_cons, List.length_nil]; omega) | (simp only [List.length_map, List.length_append, List.length_cons, List.length_nil]; done) | fail) [-List.map_take, -List.map_drop, ic24, go_sem, callOk]
def rrSt (nl : Bool) (sz : Nat) (l : List Sn) (rm : Bool) (i : Nat) : St := ⟨ofList [(0, .slice nl sz (l.map aS) (rmB rm)), (3, .int .i64 i)], ⟨[], []⟩⟩
theorem rr_loop (nl : Bool) (sz : Nat) (l : List Sn) (rm : Bool) (hsz : sz = 3 ∨ l.length = 0) (hl : l.length < 1048576) : ∀ (r : List Sn) (i : Nat) (u : Int), l.drop i = r → i ≤ l.length → (i = 0 → u = 0) → (∀ k y, k + 1 = i → l[k]? = some y → y.c = u) →
    run cfg 0 (.loop ic26l0) (rrSt nl sz l rm i) = if rightGo u r = true then some (.exit 0, ⟨ofList [(0, .slice nl sz (l.map aS) (rmB rm)), (3, .int .i64 l.length), (8, .bool false)], ⟨[], []⟩⟩) else some (.ret, ⟨ofList [(2, .bool false)], ⟨[], []⟩⟩) := by
  intro r
  induction r with
  | nil =>
    intro i u h1 h2 h3 h4
    have : i = l.length := by have := drop_nil h1; omega
    subst this
    rw [run_loop']
    simp (maxSteps := 1000000) (disch := first | omega | (simp only [List.length_map, List.length_append, List.length_cons, List.length_nil]; omega) | (simp only [List.length_map, List.length_append, List.length_cons, List.length_nil]; done) | fail) [-List.map_take, -List.map_drop, ic26l0, go_sem, rrSt, rightGo]
  | cons x r ih =>
    intro i u h1 h2 h3 h4
    obtain ⟨hlt, hx0, hd⟩ := drop_cons h1
    obtain ⟨_, hx⟩ := List.getElem?_eq_some_iff.1 hx0
    have h6 : sz = 3 := by omega
    subst h6
    have hck := fun h => rcheck_eq x.c x.s [] h
    rw [right_bad]
    have hih := ih (i + 1) x.c hd (by omega) (fun h => by omega) (fun k y hk hy => by
      have : k = i := by omega
      subst this; rw [hx0] at hy; cases hy; rfl)
    rw [run_loop']
    by_cases hb : badS u x = true
    · rw [if_neg (by simp [hb])]
      cases hc : callOk x.c x.s [] with
      | false =>
        rw [hc] at hck
        cases i with
        | zero => simp (maxSteps := 1000000) (disch := first | omega | (simp only [List.length_map, List.length_append, List.length_cons, List.length_nil]; omega) | (simp only [List.length_map, List.length_append, List.length_cons, List.length_nil]; done) | fail) [-List.map_take, -List.map_drop, ic26l0, go_sem, rrSt, hx, aS, hck]
        | succ i => simp (maxSteps := 1000000) (disch := first | omega | (simp only [List.length_map, List.length_append, List.length_cons, List.length_nil]; omega) | (simp only [List.length_map, List.length_append, List.length_cons, List.length_nil]; done) | fail) [-List.map_take, -List.map_drop, ic26l0, go_sem, rrSt, hx, aS, hck]
      | true =>
        rw [hc] at hck
        by_cases hr : x.r.length > 40
        · simp (maxSteps := 1000000) (disch := first | omega | (simp only [List.length_map, List.length_append, List.length_cons, List.length_nil]; omega) | (simp only [List.length_map, List.length_append, List.length_cons, List.length_nil]; done) | fail) [-List.map_take, -List.map_drop, ic26l0, go_sem, rrSt, hx, aS, hck]
        · have hu : x.c ≤ u := by simp [badS, hc] at hb; omega
          cases i with
          | zero => exfalso; have := h3 rfl; simp [callOk] at hc; omega
          | succ k =>
            obtain ⟨y, hy⟩ : ∃ y, l[k] = y := ⟨_, rfl⟩
            have hyu := h4 k y rfl (by rw [List.getElem?_eq_getElem (by omega), hy])
            subst hyu
            simp (maxSteps := 1000000) (disch := first | omega | (simp only [List.length_map, List.length_append, List.length_cons, List.length_nil]; omega) | (simp only [List.length_map, List.length_append, List.length_cons, List.length_nil]; done) | fail) [-List.map_take, -List.map_drop, ic26l0, go_sem, rrSt, hx, hy, aS, hck]
    · have hb' : badS u x = false := by simpa using hb
      have hc : callOk x.c x.s [] = true := by
        cases hc : callOk x.c x.s [] with
        | true => rfl
        | false => simp [badS, hc] at hb
      rw [hc] at hck
      have hu : u < x.c := by simp [badS] at hb; omega
      have hr : ¬ x.r.length > 40 := by simp [badS] at hb; omega
      have key : run cfg 0 ic26l0 (rrSt nl 3 l rm i) = some (.normal, rrSt nl 3 l rm (i + 1)) := by
        cases i with
        | zero => simp (maxSteps := 1000000) (disch := first | omega | (simp only [List.length_map, List.length_append, List.length_cons, List.length_nil]; omega) | (simp only [List.length_map, List.length_append, List.length_cons, List.length_nil]; done) | fail) [-List.map_take, -List.map_drop, ic26l0, go_sem, rrSt, hx, aS, hck]
        | succ k =>
          obtain ⟨y, hy⟩ : ∃ y, l[k] = y := ⟨_, rfl⟩
          have hyu := h4 k y rfl (by rw [List.getElem?_eq_getElem (by omega), hy])
          subst hyu
          simp (maxSteps := 1000000) (disch := first | omega | (simp only [List.length_map, List.length_append, List.length_cons, List.length_nil]; omega) | (simp only [List.length_map, List.length_append, List.length_cons, List.length_nil]; done) | fail) [-List.map_take, -List.map_drop, ic26l0, go_sem, rrSt, hx, hy, aS, hck]
      rw [key, loopK_normal, hih, hb']
      simp
theorem rright_eq (nl : Bool) (sz : Nat) (l : List Sn) (rm : Bool) (hsz : sz = 3 ∨ l.length = 0) (hl : l.length < 1048576) (h : AH) :
    pureK h (call cfg 26 [.slice nl sz (l.map aS) (rmB rm)] ⟨[], []⟩) = some (.bool (rightGo 0 l), h) := by
  have e := rr_loop nl sz l rm hsz hl l 0 0 (by simp) (by omega) (fun _ => rfl) (fun k y hk => by omega)
  simp [rrSt] at e
  rw [cf_26 _ _ (by simp)]
  cases hr : rightGo 0 l with
  | true =>
    rw [hr] at e; simp at e
    simp (maxSteps := 1000000) (disch := first | omega | (simp only [List.length_map, List.length_append, List.length_cons, List.length_nil]; omega) | (simp only [List.length_map, List.length_append, List.length_cons, List.length_nil]; done) | fail) [-List.map_take, -List.map_drop, ic26, go_sem, e]
  | false =>
    rw [hr] at e; simp at e
    simp (maxSteps := 1000000) (disch := first | omega | (simp only [List.length_map, List.length_append, List.length_cons, List.length_nil]; omega) | (simp only [List.length_map, List.length_append, List.length_cons, List.length_nil]; done) | fail) [-List.map_take, -List.map_drop, ic26, go_sem, e]

end Go.Proofs.Ytdpkhkiecobkoaa.Abs
