import Derived.Test.YtghljcgkeeodaaaKAwake7
set_option linter.all false
set_option linter.unusedVariables false
set_option linter.unusedSimpArgs false
set_option maxRecDepth 10000
set_option maxHeartbeats 1000000
namespace Go.Proofs.Ytghljcgkeeodaaa.Abs
open Go.Abs
attribute [local congr] ite_congr
theorem madeGo_len (B : Nat) : ∀ (l : List Int) (i t : Nat), (madeGo B l i t).length ≤ 12 - i := by
  intro l
  induction l with
  | nil => intro i t; simp [madeGo]
  | cons x r ih => intro i t; have := ih (i + 1) (t + stepT x); simp only [madeGo]; split <;> simp <;> omega
theorem madeGo_term (B : Nat) : ∀ (l : List Int) (i t : Nat), ∀ e ∈ madeGo B l i t, e.t ≤ t + 2 * (12 - i) := by
  intro l
  induction l with
  | nil => intro i t e he; simp [madeGo] at he
  | cons x r ih =>
    intro i t e he
    simp only [madeGo] at he
    split at he
    · rcases List.mem_cons.1 he with rfl | he
      · have := stepT_lt x; dsimp only; omega
      · have := ih (i + 1) (t + stepT x) e he; have := stepT_lt x; omega
    · cases he
theorem made_small (xs : List Int) (base : Int) : (madeL xs base).b ≤ 7 ∧ (madeL xs base).es.length ≤ 12 ∧ lastT (madeL xs base) ≤ 25 ∧ lastI (madeL xs base) = (((madeL xs base).b + (madeL xs base).es.length : Nat) : Int) := by
  have h1 : (madeL xs base).b ≤ 7 := (madeB_le base).1
  have h2 : (madeL xs base).es.length ≤ 12 := madeGo_len _ _ _ _
  refine ⟨h1, h2, ?_, ?_⟩
  · unfold lastT
    split
    · rename_i e he
      have := madeGo_term _ _ _ _ e (List.mem_of_getLast? he)
      omega
    · simp only [madeL]; split <;> omega
  · unfold lastI
    split
    · rename_i h; simp [h]
    · rw [wrapU64] <;> push_cast <;> omega
theorem sh_ints {n : Nat} {x : AV} (h : ShE (aggOf (lookT tab) 22) (Sh (lookT tab) (n + 2) 22) x) : ∃ (nl : Bool) (l : List Int), x = .slice nl 1 (l.map aI) .unk ∧ ∀ m ∈ l, -9223372036854775808 ≤ m ∧ m ≤ 9223372036854775807 := by
  obtain ⟨nl, es, h1, _, h3⟩ := sh_slice ty_22 ty_3 (she_one h)
  obtain ⟨l, h4, h5⟩ := list_of (f := aI) (q := fun m => -9223372036854775808 ≤ m ∧ m ≤ 9223372036854775807) (fun y hy => by
    obtain ⟨m, k1, k2⟩ := sh_i64 ty_3 (she_one (h3 y hy))
    exact ⟨m, by simpa [aI] using k1, k2⟩)
  exact ⟨nl, l, by simpa [h4] using h1, h5⟩
theorem sh_int {n : Nat} {x : AV} (h : ShE (aggOf (lookT tab) 3) (Sh (lookT tab) n 3) x) : ∃ m : Int, x = .int .i64 m ∧ -9223372036854775808 ≤ m ∧ m ≤ 9223372036854775807 := by
  obtain ⟨m, k1, k2⟩ := sh_i64 ty_3 (she_one h)
  exact ⟨m, by simpa using k1, k2⟩
theorem sh_int2 {n : Nat} {x : AV} (h : ShE (aggOf (lookT tab) 44) (Sh (lookT tab) (n + 1) 44) x) : ∃ a b : Int, x = .agg [.int .i64 a, .int .i64 b] := by
  obtain ⟨cs, rfl, h1⟩ := she_agg h
  obtain ⟨a, b, rfl, h2, c, d, rfl, h3, rfl⟩ := sh_array ty_44 h1
  obtain ⟨m, rfl, _⟩ := sh_i64 ty_3 h2
  obtain ⟨k, rfl, _⟩ := sh_i64 ty_3 h3
  exact ⟨m, k, rfl⟩

end Go.Proofs.Ytghljcgkeeodaaa.Abs
