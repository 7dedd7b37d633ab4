import Derived.Test.YtdpkhkiecobkoaaKRef12
set_option linter.all false
set_option linter.unusedVariables false
set_option linter.unusedSimpArgs false
set_option maxRecDepth 10000
set_option maxHeartbeats 1000000
namespace Go.Proofs.Ytdpkhkiecobkoaa.Abs
open Go.Abs
attribute [local congr] ite_congr
def rlSt (nl : Bool) (sz : Nat) (l : List Sn) (rm : Bool) (c : Int) (i : Nat) : St := ⟨ofList [(0, .slice nl sz (l.map aS) (rmB rm)), (1, .int .i64 c), (5, .bool true), (6, .int .i64 i)], ⟨[], []⟩⟩
theorem rl_loop (nl : Bool) (sz : Nat) (l : List Sn) (rm : Bool) (c : Int) (hsz : sz = 3 ∨ l.length = 0) (hl : l.length < 1048576) : ∀ (r : List Sn) (i : Nat), l.drop i = r → i ≤ l.length →
    (got r c = none → ∃ q, run cfg 0 (.loop ic18l0) (rlSt nl sz l rm c i) = some (.exit 0, ⟨ofList q, ⟨[], []⟩⟩)) ∧
    (∀ x, got r c = some x → run cfg 0 (.loop ic18l0) (rlSt nl sz l rm c i) = some (.ret, ⟨ofList [(4, .int .u64 x.s)], ⟨[], []⟩⟩)) := by
  intro r
  induction r with
  | nil =>
    intro i h1 h2
    have : i = l.length := by have := drop_nil h1; omega
    subst this
    refine ⟨fun _ => ⟨[(0, .slice nl sz (l.map aS) (rmB rm)), (1, .int .i64 c), (5, .bool true), (6, .int .i64 l.length), (15, .bool false)], ?_⟩, fun x h => by simp [got] at h⟩
    rw [run_loop']
    simp (maxSteps := 1000000) (disch := first | omega | (simp only [List.length_map, List.length_append, List.length_cons, List.length_nil]; omega) | (simp only [List.length_map, List.length_append, List.length_cons, List.length_nil]; done) | fail) [-List.map_take, -List.map_drop, ic18l0, go_sem, rlSt]
  | cons y r ih =>
    intro i h1 h2
    obtain ⟨hlt, hx0, hd⟩ := drop_cons h1
    obtain ⟨_, hx⟩ := List.getElem?_eq_some_iff.1 hx0
    have h6 : sz = 3 := by omega
    subst h6
    by_cases hc : y.c = c
    · have hg : got (y :: r) c = some y := by unfold got; rw [List.find?_cons_of_pos (by simpa using hc)]
      refine ⟨fun h => (by rw [hg] at h; cases h), fun x h => ?_⟩
      rw [hg] at h; cases h
      subst hc
      rw [run_loop']
      simp (maxSteps := 1000000) (disch := first | omega | (simp only [List.length_map, List.length_append, List.length_cons, List.length_nil]; omega) | (simp only [List.length_map, List.length_append, List.length_cons, List.length_nil]; done) | fail) [-List.map_take, -List.map_drop, ic18l0, go_sem, rlSt, hx, aS]
    · have hg : got (y :: r) c = got r c := by unfold got; rw [List.find?_cons_of_neg (by simpa using hc)]
      have key : run cfg 0 ic18l0 (rlSt nl 3 l rm c i) = some (.normal, rlSt nl 3 l rm c (i + 1)) := by
        simp (maxSteps := 1000000) (disch := first | omega | (simp only [List.length_map, List.length_append, List.length_cons, List.length_nil]; omega) | (simp only [List.length_map, List.length_append, List.length_cons, List.length_nil]; done) | fail) [-List.map_take, -List.map_drop, ic18l0, go_sem, rlSt, hx, aS, hc]
      rw [run_loop', key, loopK_normal, hg]
      exact ih (i + 1) hd (by omega)
theorem rlast_eq (nl : Bool) (sz : Nat) (l : List Sn) (rm : Bool) (c : Int) (hsz : sz = 3 ∨ l.length = 0) (hl : l.length < 1048576) (h : AH) :
    pureK h (call cfg 18 [.slice nl sz (l.map aS) (rmB rm), .int .i64 c] ⟨[], []⟩) = some (.int .u64 (lastOf l c), h) := by
  have er := fun h => rright_eq nl sz l rm hsz hl h
  rw [cf_18 _ _ (by simp)]
  cases hr : rightGo 0 l with
  | false =>
    rw [hr] at er
    have : lastOf l c = 0 := by unfold lastOf; rw [if_neg (by simp [hr])]
    rw [this]
    simp (maxSteps := 1000000) (disch := first | omega | (simp only [List.length_map, List.length_append, List.length_cons, List.length_nil]; omega) | (simp only [List.length_map, List.length_append, List.length_cons, List.length_nil]; done) | fail) [-List.map_take, -List.map_drop, ic18, go_sem, er, run_loop', ic18l0]
  | true =>
    rw [hr] at er
    obtain ⟨e1, e2⟩ := rl_loop nl sz l rm c hsz hl l 0 (by simp) (by omega)
    cases hg : got l c with
    | none =>
      obtain ⟨q, e⟩ := e1 hg
      simp [rlSt] at e
      rw [last_none l c hg]
      simp (maxSteps := 1000000) (disch := first | omega | (simp only [List.length_map, List.length_append, List.length_cons, List.length_nil]; omega) | (simp only [List.length_map, List.length_append, List.length_cons, List.length_nil]; done) | fail) [-List.map_take, -List.map_drop, ic18, go_sem, er, e]
    | some x =>
      have e := e2 x hg
      simp [rlSt] at e
      rw [last_some l hr c x hg]
      simp (maxSteps := 1000000) (disch := first | omega | (simp only [List.length_map, List.length_append, List.length_cons, List.length_nil]; omega) | (simp only [List.length_map, List.length_append, List.length_cons, List.length_nil]; done) | fail) [-List.map_take, -List.map_drop, ic18, go_sem, er, e]
def raSt (nl : Bool) (sz : Nat) (l : List Sn) (rm : Bool) (c : Int) (s : Nat) (d : List UInt8) (i : Nat) : St := ⟨ofList [(0, .slice nl sz (l.map aS) (rmB rm)), (3, .ptr 0 0), (8, .int .i64 i)], ⟨[some ⟨false, [.int .i64 c, .int .u64 s, .str (bs d)]⟩], []⟩⟩
theorem ra_loop (nl : Bool) (sz : Nat) (l : List Sn) (rm : Bool) (c : Int) (s : Nat) (d : List UInt8) (hsz : sz = 3 ∨ l.length = 0) (hl : l.length < 1048576) (hs : Srt l) : ∀ (r : List Sn) (i : Nat), l.drop i = r → i ≤ l.length →
    ((∀ x, got r c = some x → x.s < s) → ∃ q, run cfg 0 (.loop ic13l0) (raSt nl sz l rm c s d i) = some (.exit 0, ⟨ofList q, ⟨[some ⟨false, [.int .i64 c, .int .u64 s, .str (bs d)]⟩], []⟩⟩)) ∧
    (∀ x, got r c = some x → s ≤ x.s → run cfg 0 (.loop ic13l0) (raSt nl sz l rm c s d i) = some (.ret, ⟨ofList [(4, .str (bs (if s = x.s then x.r else []))), (5, .int .i64 (if s = x.s then 14 else 24))], ⟨[some ⟨false, [.int .i64 c, .int .u64 s, .str (bs d)]⟩], []⟩⟩)) := by
  intro r
  induction r with
  | nil =>
    intro i h1 h2
    have : i = l.length := by have := drop_nil h1; omega
    subst this
    refine ⟨fun _ => ⟨[(0, .slice nl sz (l.map aS) (rmB rm)), (3, .ptr 0 0), (8, .int .i64 l.length), (22, .bool false)], ?_⟩, fun x h => by simp [got] at h⟩
    rw [run_loop']
    simp (maxSteps := 1000000) (disch := first | omega | (simp only [List.length_map, List.length_append, List.length_cons, List.length_nil]; omega) | (simp only [List.length_map, List.length_append, List.length_cons, List.length_nil]; done) | fail) [-List.map_take, -List.map_drop, ic13l0, go_sem, raSt]
  | cons y r ih =>
    intro i h1 h2
    obtain ⟨hlt, hx0, hd⟩ := drop_cons h1
    obtain ⟨_, hx⟩ := List.getElem?_eq_some_iff.1 hx0
    have h6 : sz = 3 := by omega
    subst h6
    by_cases hc : y.c = c
    · have hg : got (y :: r) c = some y := by unfold got; rw [List.find?_cons_of_pos (by simpa using hc)]
      refine ⟨fun h => ?_, fun x h hle => ?_⟩
      · have hlt2 := h y hg
        have hno : got r c = none := by
          unfold got
          rw [List.find?_eq_none]
          intro z hz
          have hp := List.pairwise_iff_getElem.1 hs
          rw [← hd] at hz
          obtain ⟨k, hk, rfl⟩ := List.getElem_of_mem hz
          rw [List.length_drop] at hk
          have := hp i (i + 1 + k) (by omega) (by omega) (by omega)
          rw [List.getElem_drop]
          rw [hx] at this
          simp; omega
        obtain ⟨q, e⟩ := (ih (i + 1) hd (by omega)).1 (fun x h => by rw [hno] at h; cases h)
        refine ⟨q, ?_⟩
        subst hc
        have key : run cfg 0 ic13l0 (raSt nl 3 l rm y.c s d i) = some (.normal, raSt nl 3 l rm y.c s d (i + 1)) := by
          simp (maxSteps := 1000000) (disch := first | omega | (simp only [List.length_map, List.length_append, List.length_cons, List.length_nil]; omega) | (simp only [List.length_map, List.length_append, List.length_cons, List.length_nil]; done) | fail) [-List.map_take, -List.map_drop, ic13l0, go_sem, raSt, hx, aS]
        rw [run_loop', key, loopK_normal, e]
      · rw [hg] at h; cases h
        subst hc
        rw [run_loop']
        by_cases he : s = y.s
        · subst he
          simp (maxSteps := 1000000) (disch := first | omega | (simp only [List.length_map, List.length_append, List.length_cons, List.length_nil]; omega) | (simp only [List.length_map, List.length_append, List.length_cons, List.length_nil]; done) | fail) [-List.map_take, -List.map_drop, ic13l0, go_sem, raSt, hx, aS]
        · simp (maxSteps := 1000000) (disch := first | omega | (simp only [List.length_map, List.length_append, List.length_cons, List.length_nil]; omega) | (simp only [List.length_map, List.length_append, List.length_cons, List.length_nil]; done) | fail) [-List.map_take, -List.map_drop, ic13l0, go_sem, raSt, hx, aS, he]
    · have hg : got (y :: r) c = got r c := by unfold got; rw [List.find?_cons_of_neg (by simpa using hc)]
      have key : run cfg 0 ic13l0 (raSt nl 3 l rm c s d i) = some (.normal, raSt nl 3 l rm c s d (i + 1)) := by
        simp (maxSteps := 1000000) (disch := first | omega | (simp only [List.length_map, List.length_append, List.length_cons, List.length_nil]; omega) | (simp only [List.length_map, List.length_append, List.length_cons, List.length_nil]; done) | fail) [-List.map_take, -List.map_drop, ic13l0, go_sem, raSt, hx, aS, hc]
      rw [run_loop', key, loopK_normal, hg]
      exact ih (i + 1) hd (by omega)
theorem rask_eq (nl : Bool) (sz : Nat) (l : List Sn) (rm : Bool) (c : Int) (s : Nat) (d : List UInt8) (hsz : sz = 3 ∨ l.length = 0) (hl : l.length < 1048576) (h : AH) :
    pureK h (call cfg 13 [.slice nl sz (l.map aS) (rmB rm), .agg [.int .i64 c, .int .u64 s, .str (bs d)]] ⟨[], []⟩) = some (.tup [.str (bs (askOf l c s d).1), .int .i64 (askOf l c s d).2], h) := by
  have er := fun h => rright_eq nl sz l rm hsz hl h
  have ec := fun h => rcheck_eq c s d h
  rw [cf_13 _ _ (by simp)]
  cases hr : rightGo 0 l with
  | false =>
    rw [hr] at er
    have : askOf l c s d = ([], 1) := by unfold askOf; rw [if_neg (by simp [hr])]
    rw [this]
    cases hk : callOk c s d with
    | false =>
      rw [hk] at ec
      simp (maxSteps := 1000000) (disch := first | omega | (simp only [List.length_map, List.length_append, List.length_cons, List.length_nil]; omega) | (simp only [List.length_map, List.length_append, List.length_cons, List.length_nil]; done) | fail) [-List.map_take, -List.map_drop, ic13, go_sem, er, ec]
    | true =>
      rw [hk] at ec
      simp (maxSteps := 1000000) (disch := first | omega | (simp only [List.length_map, List.length_append, List.length_cons, List.length_nil]; omega) | (simp only [List.length_map, List.length_append, List.length_cons, List.length_nil]; done) | fail) [-List.map_take, -List.map_drop, ic13, go_sem, er, ec]
  | true =>
    rw [hr] at er
    cases hk : callOk c s d with
    | false =>
      rw [hk] at ec
      have : askOf l c s d = ([], 1) := by unfold askOf; rw [if_neg (by simp [hk])]
      rw [this]
      simp (maxSteps := 1000000) (disch := first | omega | (simp only [List.length_map, List.length_append, List.length_cons, List.length_nil]; omega) | (simp only [List.length_map, List.length_append, List.length_cons, List.length_nil]; done) | fail) [-List.map_take, -List.map_drop, ic13, go_sem, er, ec]
    | true =>
      rw [hk] at ec
      obtain ⟨e1, e2⟩ := ra_loop nl sz l rm c s d hsz hl (right_srt l 0 hr).1 l 0 (by simp) (by omega)
      rcases ask_as l hr c s d hk with ⟨a1, a2⟩ | ⟨a1, x, a2, a3, a4⟩ | ⟨a1, a2⟩
      · obtain ⟨q, e⟩ := e1 (fun x hx => by rw [last_some l hr c x hx] at a1; exact a1)
        simp [raSt] at e
        rw [a2]
        simp (maxSteps := 1000000) (disch := first | omega | (simp only [List.length_map, List.length_append, List.length_cons, List.length_nil]; omega) | (simp only [List.length_map, List.length_append, List.length_cons, List.length_nil]; done) | fail) [-List.map_take, -List.map_drop, ic13, go_sem, er, ec, e]
      · have e := e2 x a2 (by omega)
        rw [if_pos a3.symm, if_pos a3.symm] at e
        simp [raSt] at e
        rw [a4]
        simp (maxSteps := 1000000) (disch := first | omega | (simp only [List.length_map, List.length_append, List.length_cons, List.length_nil]; omega) | (simp only [List.length_map, List.length_append, List.length_cons, List.length_nil]; done) | fail) [-List.map_take, -List.map_drop, ic13, go_sem, er, ec, e]
      · cases hg : got l c with
        | none => rw [last_none l c hg] at a1; omega
        | some x =>
          rw [last_some l hr c x hg] at a1
          have e := e2 x hg (by omega)
          rw [if_neg (by omega), if_neg (by omega)] at e
          simp [raSt] at e
          rw [a2]
          simp (maxSteps := 1000000) (disch := first | omega | (simp only [List.length_map, List.length_append, List.length_cons, List.length_nil]; omega) | (simp only [List.length_map, List.length_append, List.length_cons, List.length_nil]; done) | fail) [-List.map_take, -List.map_drop, ic13, go_sem, er, ec, e]

end Go.Proofs.Ytdpkhkiecobkoaa.Abs
