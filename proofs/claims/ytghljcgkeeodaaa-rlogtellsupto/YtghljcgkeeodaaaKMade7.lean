import Derived.Test.YtghljcgkeeodaaaKLog
set_option linter.all false
set_option linter.unusedVariables false
set_option linter.unusedSimpArgs false
set_option maxRecDepth 10000
set_option maxHeartbeats 1000000
namespace Go.Proofs.Ytghljcgkeeodaaa.Abs
open Go.Abs
attribute [local congr] ite_congr
def stepT (x : Int) : Nat := ((x.tmod 3 + 3).tmod 3).toNat
theorem stepT_le (x : Int) : 0 ≤ x.tmod 3 + 3 ∧ x.tmod 3 + 3 ≤ 5 := by
  have h1 := Int.tmod_lt_of_pos x (show (0:Int) < 3 by omega)
  have h2 := Int.lt_tmod_of_pos x (show (0:Int) < 3 by omega)
  omega
theorem stepT_lt (x : Int) : stepT x ≤ 2 := by
  have := stepT_le x
  unfold stepT
  have h3 := Int.tmod_lt_of_pos (x.tmod 3 + 3) (show (0:Int) < 3 by omega)
  omega
theorem stepT_eq (x : Int) : (x.tmod 3 + 3).tmod 3 = stepT x := by
  have := stepT_le x
  unfold stepT
  have h3 : 0 ≤ (x.tmod 3 + 3).tmod 3 := Int.tmod_nonneg _ (by omega)
  omega
def letter7 (x : Int) : UInt8 := UInt8.ofNat (IntKind.u8.wrap (IntKind.i64.wrap (97 + bits2 .and .i64 x 15))).toNat
def madeGo (B : Nat) : List Int → Nat → Nat → List Ent
  | [], _, _ => []
  | x :: r, i, t => if i < 12 then ⟨B + 1 + i, t + stepT x, [letter7 x]⟩ :: madeGo B r (i + 1) (t + stepT x) else []
def aI (x : Int) : AV := .int .i64 x
theorem aI_strip (x : Int) : (aI x).strip = aI x := by simp [aI, go_sem]
theorem aI_refs (nb nt : Nat) (x : Int) : (aI x).refs nb nt = true := by simp [aI, go_sem]
theorem aIs_strip (l : List Int) : stripAll (l.map aI) = l.map aI := strip_map aI_strip l
theorem aIs_refs (nb nt : Nat) (l : List Int) : refsAll nb nt (l.map aI) = true := refs_map (aI_refs nb nt) l
attribute [go_sem] aI_strip aI_refs aIs_strip aIs_refs
def madeSt (xs : List Int) (nl : Bool) (rm : Room) (B T : Nat) (i term : Nat) (done : List Ent) : St :=
  ⟨ofList [(0, .slice nl 1 (xs.map aI) rm), (4, .ptr 0 0), (5, .ptr 1 0), (6, .int .u64 term), (7, .int .i64 i)],
    ⟨[some ⟨false, [.int .u64 0, .int .u64 0, .slice true 0 [] .full]⟩, some ⟨false, [.int .u64 B, .int .u64 T, ownS 3 (done.map aE)]⟩], ownT (done.map aE)⟩⟩
theorem made_round (xs : List Int) (nl : Bool) (rm : Room) (B T : Nat) (hB : B ≤ 7) (i term : Nat) (done : List Ent) (x : Int) (hi : i < 12) (hx : xs[i]? = some x) (ht : term ≤ 100) (hd : done.length = i) :
    run cfg 0 ic12l0 (madeSt xs nl rm B T i term done) = some (.normal, madeSt xs nl rm B T (i + 1) (term + stepT x) (done ++ [⟨B + 1 + i, term + stepT x, [letter7 x]⟩])) := by
  obtain ⟨hl, hx⟩ := List.getElem?_eq_some_iff.1 hx
  have h1 := stepT_le x
  have h2 := stepT_lt x
  simp (maxSteps := 1000000) (disch := first | omega | (simp only [List.length_map, List.length_append, List.length_cons, List.length_nil]; omega) | (simp only [List.length_map, List.length_append, List.length_cons, List.length_nil]; done) | fail) [-List.map_take, -List.map_drop, ic12l0, go_sem, madeSt, aI, hx, stepT_eq, List.map_append]
  simp [aE, letter7]
theorem made_end (xs : List Int) (nl : Bool) (rm : Room) (B T : Nat) (i term : Nat) (done : List Ent) (hi : ¬ (i < 12 ∧ i < xs.length)) (h12 : i ≤ 12) :
    run cfg 0 (.loop ic12l0) (madeSt xs nl rm B T i term done) = some (.exit 0, ⟨ofList [(0, .slice nl 1 (xs.map aI) rm), (4, .ptr 0 0), (5, .ptr 1 0), (6, .int .u64 term), (7, .int .i64 i), (23, .bool false)],
    ⟨[some ⟨false, [.int .u64 0, .int .u64 0, .slice true 0 [] .full]⟩, some ⟨false, [.int .u64 B, .int .u64 T, ownS 3 (done.map aE)]⟩], ownT (done.map aE)⟩⟩) := by
  rw [run_loop]
  by_cases h : i < xs.length
  · have h2 : ¬ i < 12 := fun q => hi ⟨q, h⟩
    simp (maxSteps := 1000000) (disch := first | omega | (simp only [List.length_map, List.length_append, List.length_cons, List.length_nil]; omega) | (simp only [List.length_map, List.length_append, List.length_cons, List.length_nil]; done) | fail) [-List.map_take, -List.map_drop, ic12l0, go_sem, madeSt, andThen]
  · simp (maxSteps := 1000000) (disch := first | omega | (simp only [List.length_map, List.length_append, List.length_cons, List.length_nil]; omega) | (simp only [List.length_map, List.length_append, List.length_cons, List.length_nil]; done) | fail) [-List.map_take, -List.map_drop, ic12l0, go_sem, madeSt, andThen]
theorem made_loop (xs : List Int) (nl : Bool) (rm : Room) (B T : Nat) (hB : B ≤ 7) : ∀ (r : List Int) (i term : Nat) (done : List Ent), xs.drop i = r → i ≤ 12 → term ≤ 2 * i + 1 → done.length = i →
    ∃ k u : Nat, run cfg 0 (.loop ic12l0) (madeSt xs nl rm B T i term done) = some (.exit 0, ⟨ofList [(0, .slice nl 1 (xs.map aI) rm), (4, .ptr 0 0), (5, .ptr 1 0), (6, .int .u64 u), (7, .int .i64 k), (23, .bool false)],
    ⟨[some ⟨false, [.int .u64 0, .int .u64 0, .slice true 0 [] .full]⟩, some ⟨false, [.int .u64 B, .int .u64 T, ownS 3 ((done ++ madeGo B r i term).map aE)]⟩], ownT ((done ++ madeGo B r i term).map aE)⟩⟩) := by
  intro r
  induction r with
  | nil =>
    intro i term done hr hi ht hd
    refine ⟨i, term, ?_⟩
    rw [made_end _ _ _ _ _ _ _ _ (by have := drop_nil hr; omega) (by omega)]
    simp [madeGo]
  | cons x r ih =>
    intro i term done hr hi ht hd
    obtain ⟨hl, hx, hr'⟩ := drop_cons hr
    by_cases h : i < 12
    · obtain ⟨k, u, e⟩ := ih (i + 1) (term + stepT x) (done ++ [⟨B + 1 + i, term + stepT x, [letter7 x]⟩]) hr' (by omega) (by have := stepT_lt x; omega) (by simp; omega)
      refine ⟨k, u, ?_⟩
      rw [run_loop, made_round xs nl rm B T hB i term done x h hx (by omega) hd]
      simp only [ob_some, andThen]
      rw [e]
      simp [madeGo, h]
    · refine ⟨i, term, ?_⟩
      rw [made_end _ _ _ _ _ _ _ _ (by omega) (by omega)]
      simp [madeGo, h]
def madeB (base : Int) : Nat := (bits2 .and .i64 base 7).toNat
def madeL (xs : List Int) (base : Int) : Lg := ⟨madeB base, if madeB base = 0 then 0 else 1, madeGo (madeB base) xs 0 1⟩
theorem madeB_le (base : Int) : madeB base ≤ 7 ∧ bits2 .and .i64 base 7 = madeB base := by
  obtain ⟨k, h1, h2⟩ := bits_and base 7 (by omega)
  have h1' : bits2 .and .i64 base 7 = k := h1
  unfold madeB
  rw [h1']; simp; exact h2
theorem made_eq (xs : List Int) (nl : Bool) (rm : Bool) (base : Int) : ∃ nl' sz' c, (sz' = 3 ∨ (madeL xs base).es.length = 0) ∧ (nl' = true → (madeL xs base).es.length = 0) ∧ ∀ h, pureK h (call cfg 12 [.slice nl 1 (xs.map aI) (rmB rm), .int .i64 base] ⟨[], []⟩) =
    some (.agg [.int .u64 (madeL xs base).b, .int .u64 (madeL xs base).t, .slice nl' sz' ((madeL xs base).es.map aE) (rmB c)], h) := by
  obtain ⟨hB, eB⟩ := madeB_le base
  refine ⟨(madeL xs base).es.isEmpty, szB 3 (madeL xs base).es.isEmpty, (madeL xs base).es.isEmpty, szB_or 3 _, fun h => by simpa using h, fun h => ?_⟩
  · rw [cf_12 _ _ (by simp)]
    by_cases h0 : madeB base = 0
    · obtain ⟨k, u, e⟩ := made_loop xs nl (rmB rm) 0 0 (by omega) xs 0 1 [] (by simp) (by omega) (by omega) rfl
      simp [madeSt, ownS_nil, ownT_nil] at e
      simp (maxSteps := 1000000) (disch := first | omega | (simp only [List.length_map, List.length_append, List.length_cons, List.length_nil]; omega) | (simp only [List.length_map, List.length_append, List.length_cons, List.length_nil]; done) | fail) [-List.map_take, -List.map_drop, ic12, go_sem, eB, h0, madeL, e]
    · obtain ⟨k, u, e⟩ := made_loop xs nl (rmB rm) (madeB base) 1 hB xs 0 1 [] (by simp) (by omega) (by omega) rfl
      simp [madeSt, ownS_nil, ownT_nil] at e
      simp (maxSteps := 1000000) (disch := first | omega | (simp only [List.length_map, List.length_append, List.length_cons, List.length_nil]; omega) | (simp only [List.length_map, List.length_append, List.length_cons, List.length_nil]; done) | fail) [-List.map_take, -List.map_drop, ic12, go_sem, eB, h0, madeL, e]

end Go.Proofs.Ytghljcgkeeodaaa.Abs
