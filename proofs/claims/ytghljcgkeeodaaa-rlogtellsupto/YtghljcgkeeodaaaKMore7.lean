import Derived.Test.YtghljcgkeeodaaaKRef7
set_option linter.all false
set_option linter.unusedVariables false
set_option linter.unusedSimpArgs false
set_option maxRecDepth 10000
set_option maxHeartbeats 1000000
namespace Go.Proofs.Ytghljcgkeeodaaa.Abs
open Go.Abs
attribute [local congr] ite_congr
def w64 (n : Nat) : Nat := n % 18446744073709551616
theorem wrap_nat (n : Nat) : IntKind.u64.wrap (n : Int) = (w64 n : Nat) := by
  have : IntKind.u64.wrap (n : Int) = (n : Int) % 18446744073709551616 := by simp [IntKind.wrap, IntKind.signed, IntKind.bits]
  rw [this]; unfold w64; omega
theorem w64_lt (n : Nat) : w64 n < 18446744073709551616 := Nat.mod_lt _ (by omega)
theorem w64_id (n : Nat) (h : n < 18446744073709551616) : w64 n = n := Nat.mod_eq_of_lt h
def letterM (x : Int) : UInt8 := UInt8.ofNat (IntKind.u8.wrap (IntKind.i64.wrap (65 + bits2 .and .i64 x 15))).toNat
def moreGo (I : Nat) : List Int → Nat → Nat → List Ent
  | [], _, _ => []
  | x :: r, i, t => if i < 8 then ⟨w64 (w64 (I + 1) + i), w64 (t + stepT x), [letterM x]⟩ :: moreGo I r (i + 1) (w64 (t + stepT x)) else []
theorem near_eq (i t : Nat) (most : Int) (nl : Bool) (xs : List Int) (rm : Bool) : ∃ i' t', i' ≤ 20 ∧ t' ≤ 7 ∧ ∀ h, pureK h (call cfg 10 [.agg [.int .u64 i, .int .u64 t, .int .i64 most, .slice nl 1 (xs.map aI) (rmB rm)]] ⟨[], []⟩) =
    some (.agg [.int .u64 (i' : Nat), .int .u64 (t' : Nat), .int .i64 most, .slice nl 1 (xs.map aI) (rmB rm)], h) := by
  obtain ⟨k, h1, h2⟩ := bits_andU i 31 (by omega)
  obtain ⟨q, h3, h4⟩ := bits_andU t 7 (by omega)
  have h1' : bits2 .and .u64 i 31 = k := h1
  have h3' : bits2 .and .u64 t 7 = q := h3
  have h5 : (k : Int).tmod 21 = ((k % 21 : Nat) : Int) := by rw [Int.tmod_eq_emod_of_nonneg (by omega)]; omega
  refine ⟨k % 21, q, by omega, h4, fun h => ?_⟩
  rw [cf_10 _ _ (by simp)]
  push_cast at h5
  simp (maxSteps := 1000000) (disch := first | omega | (simp only [List.length_map, List.length_append, List.length_cons, List.length_nil]; omega) | (simp only [List.length_map, List.length_append, List.length_cons, List.length_nil]; done) | fail) [-List.map_take, -List.map_drop, ic10, go_sem, h1', h3', h5]
def askB (i t : Nat) (most : Int) (nl : Bool) (xs : List Int) (rm : Bool) : Option Blk := some ⟨false, [.int .u64 i, .int .u64 t, .int .i64 most, .slice nl 1 (xs.map aI) (rmB rm)]⟩
def moreSt (I T : Nat) (most : Int) (nl : Bool) (xs : List Int) (rm : Bool) (i term : Nat) (done : List Ent) : St :=
  ⟨ofList [(1, .ptr 0 0), (3, ownS 3 (done.map aE)), (4, .int .u64 term), (5, .int .i64 i)], ⟨[askB I T most nl xs rm], ownT (done.map aE)⟩⟩
theorem more_round (I T : Nat) (most : Int) (nl : Bool) (xs : List Int) (rm : Bool) (i term : Nat) (done : List Ent) (x : Int) (hi : i < 8) (hx : xs[i]? = some x) (hd : done.length = i) :
    run cfg 0 ic13l0 (moreSt I T most nl xs rm i term done) = some (.normal, moreSt I T most nl xs rm (i + 1) (w64 (term + stepT x)) (done ++ [⟨w64 (w64 (I + 1) + i), w64 (term + stepT x), [letterM x]⟩])) := by
  obtain ⟨hl, hx⟩ := List.getElem?_eq_some_iff.1 hx
  have h1 := stepT_le x
  have h2 := stepT_lt x
  have h3 : IntKind.u64.wrap ((I : Int) + 1) = (w64 (I + 1) : Nat) := by have := wrap_nat (I + 1); push_cast at this; exact this
  have h4 : IntKind.u64.wrap ((term : Int) + (stepT x : Int)) = (w64 (term + stepT x) : Nat) := by have := wrap_nat (term + stepT x); push_cast at this; exact this
  have h5 : IntKind.u64.wrap ((w64 (I + 1) : Int) + i) = (w64 (w64 (I + 1) + i) : Nat) := by have := wrap_nat (w64 (I + 1) + i); push_cast at this; exact this
  simp (maxSteps := 1000000) (disch := first | omega | (simp only [List.length_map, List.length_append, List.length_cons, List.length_nil]; omega) | (simp only [List.length_map, List.length_append, List.length_cons, List.length_nil]; done) | fail) [-List.map_take, -List.map_drop, ic13l0, go_sem, moreSt, askB, aI, hx, stepT_eq, h3, h4, h5, List.map_append]
  simp [aE, letterM]
theorem more_end (I T : Nat) (most : Int) (nl : Bool) (xs : List Int) (rm : Bool) (i term : Nat) (done : List Ent) (hi : ¬ (i < 8 ∧ i < xs.length)) (h12 : i ≤ 8) :
    run cfg 0 (.loop ic13l0) (moreSt I T most nl xs rm i term done) = some (.exit 0, ⟨ofList [(1, .ptr 0 0), (3, ownS 3 (done.map aE)), (4, .int .u64 term), (5, .int .i64 i), (16, .bool false)], ⟨[askB I T most nl xs rm], ownT (done.map aE)⟩⟩) := by
  rw [run_loop']
  by_cases h : i < xs.length
  · have h2 : ¬ i < 8 := fun q => hi ⟨q, h⟩
    simp (maxSteps := 1000000) (disch := first | omega | (simp only [List.length_map, List.length_append, List.length_cons, List.length_nil]; omega) | (simp only [List.length_map, List.length_append, List.length_cons, List.length_nil]; done) | fail) [-List.map_take, -List.map_drop, ic13l0, go_sem, moreSt, askB]
  · simp (maxSteps := 1000000) (disch := first | omega | (simp only [List.length_map, List.length_append, List.length_cons, List.length_nil]; omega) | (simp only [List.length_map, List.length_append, List.length_cons, List.length_nil]; done) | fail) [-List.map_take, -List.map_drop, ic13l0, go_sem, moreSt, askB]
theorem more_loop (I T : Nat) (most : Int) (nl : Bool) (xs : List Int) (rm : Bool) : ∀ (r : List Int) (i term : Nat) (done : List Ent), xs.drop i = r → i ≤ 8 → done.length = i →
    ∃ k u : Nat, run cfg 0 (.loop ic13l0) (moreSt I T most nl xs rm i term done) = some (.exit 0, ⟨ofList [(1, .ptr 0 0), (3, ownS 3 ((done ++ moreGo I r i term).map aE)), (4, .int .u64 u), (5, .int .i64 k), (16, .bool false)],
      ⟨[askB I T most nl xs rm], ownT ((done ++ moreGo I r i term).map aE)⟩⟩) := by
  intro r
  induction r with
  | nil =>
    intro i term done hr hi hd
    refine ⟨i, term, ?_⟩
    rw [more_end _ _ _ _ _ _ _ _ _ (by have := drop_nil hr; omega) (by omega)]
    simp [moreGo]
  | cons x r ih =>
    intro i term done hr hi hd
    obtain ⟨hl, hx, hr'⟩ := drop_cons hr
    by_cases h : i < 8
    · obtain ⟨k, u, e⟩ := ih (i + 1) (w64 (term + stepT x)) (done ++ [⟨w64 (w64 (I + 1) + i), w64 (term + stepT x), [letterM x]⟩]) hr' (by omega) (by simp; omega)
      refine ⟨k, u, ?_⟩
      rw [run_loop', more_round I T most nl xs rm i term done x h hx hd, loopK_normal, e]
      simp [moreGo, h]
    · refine ⟨i, term, ?_⟩
      rw [more_end _ _ _ _ _ _ _ _ _ (by omega) (by omega)]
      simp [moreGo, h]
theorem more_eq (I T : Nat) (most : Int) (nl : Bool) (xs : List Int) (rm : Bool) : ∃ nl' sz' c, (sz' = 3 ∨ (moreGo I xs 0 T).length = 0) ∧ (nl' = true → (moreGo I xs 0 T).length = 0) ∧
    ∀ h, pureK h (call cfg 13 [.agg [.int .u64 I, .int .u64 T, .int .i64 most, .slice nl 1 (xs.map aI) (rmB rm)]] ⟨[], []⟩) = some (.slice nl' sz' ((moreGo I xs 0 T).map aE) (rmB c), h) := by
  refine ⟨(moreGo I xs 0 T).isEmpty, szB 3 (moreGo I xs 0 T).isEmpty, (moreGo I xs 0 T).isEmpty, szB_or 3 _, fun h => by simpa using h, fun h => ?_⟩
  rw [cf_13 _ _ (by simp)]
  obtain ⟨k, u, e⟩ := more_loop I T most nl xs rm xs 0 T [] (by simp) (by omega) rfl
  simp [moreSt, askB, ownS_nil, ownT_nil] at e
  simp (maxSteps := 1000000) (disch := first | omega | (simp only [List.length_map, List.length_append, List.length_cons, List.length_nil]; omega) | (simp only [List.length_map, List.length_append, List.length_cons, List.length_nil]; done) | fail) [-List.map_take, -List.map_drop, ic13, go_sem, e]
theorem moreGo_len (I : Nat) : ∀ (l : List Int) (i t : Nat), (moreGo I l i t).length ≤ 8 - i := by
  intro l
  induction l with
  | nil => intro i t; simp [moreGo]
  | cons x r ih => intro i t; have := ih (i + 1) (w64 (t + stepT x)); simp only [moreGo]; split <;> simp <;> omega
theorem sh_ask {n : Nat} {x : AV} (h : ShE (aggOf (lookT tab) 25) (Sh (lookT tab) (n + 3) 25) x) : ∃ (i t : Nat) (m : Int) (nl : Bool) (l : List Int), x = .agg [.int .u64 i, .int .u64 t, .int .i64 m, .slice nl 1 (l.map aI) (rmB false)] ∧ i < 18446744073709551616 ∧ t < 18446744073709551616 := by
  obtain ⟨cs, rfl, h1⟩ := she_agg h
  obtain ⟨_, _, rfl, h2, _, _, rfl, h3, _, _, rfl, h4, _, _, rfl, h5, rfl⟩ := sh_struct ty_25 h1
  obtain ⟨i, rfl, hi⟩ := sh_u64 ty_23 h2
  obtain ⟨t, rfl, ht⟩ := sh_u64 ty_23 h3
  obtain ⟨m, rfl, _⟩ := sh_i64 ty_3 h4
  obtain ⟨nl, es, rfl, _, h6⟩ := sh_slice ty_22 ty_3 h5
  obtain ⟨l, rfl, _⟩ := list_of (f := aI) (q := fun _ => True) (fun y hy => by
    obtain ⟨m, k1, _⟩ := sh_i64 ty_3 (she_one (h6 y hy))
    exact ⟨m, by simpa [aI] using k1, trivial⟩)
  exact ⟨i, t, m, nl, l, rfl, hi, ht⟩
theorem sh_ents {n : Nat} {x : AV} (h : ShE (aggOf (lookT tab) 26) (Sh (lookT tab) (n + 3) 26) x) : ∃ (nl : Bool) (l : List Ent), x = .slice nl 3 (l.map aE) (rmB false) ∧ (nl = true → l.length = 0) ∧ ∀ e ∈ l, e.i < 18446744073709551616 ∧ e.t < 18446744073709551616 := by
  obtain ⟨nl, es, h1, h2, h3⟩ := sh_slice ty_26 ty_41 (she_one h)
  obtain ⟨l, h4, h5⟩ := list_of (f := aE) (q := fun e => e.i < 18446744073709551616 ∧ e.t < 18446744073709551616) (fun y hy => by
    obtain ⟨cs, rfl, k1⟩ := she_agg (h3 y hy)
    obtain ⟨_, _, rfl, k2, _, _, rfl, k3, _, _, rfl, k4, rfl⟩ := sh_struct ty_41 k1
    obtain ⟨i, rfl, hi⟩ := sh_u64 ty_23 k2
    obtain ⟨t, rfl, ht⟩ := sh_u64 ty_23 k3
    obtain ⟨d, rfl⟩ := sh_str ty_9 k4
    exact ⟨⟨i, t, d⟩, rfl, hi, ht⟩)
  exact ⟨nl, l, by have h6 : x = .slice nl 3 (l.map aE) .unk := by simpa [h4] using h1
                   exact h6, fun q => by have := h2 q; rw [h4] at this; simpa using this, h5⟩

end Go.Proofs.Ytghljcgkeeodaaa.Abs
