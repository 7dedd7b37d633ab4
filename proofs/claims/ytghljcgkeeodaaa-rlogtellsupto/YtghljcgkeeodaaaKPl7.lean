import Derived.Test.YtghljcgkeeodaaaKCut7
import Derived.Test.YtghljcgkeeodaaaKSm7
import Derived.Test.YtghljcgkeeodaaaKSame
set_option linter.all false
set_option linter.unusedVariables false
set_option linter.unusedSimpArgs false
set_option maxRecDepth 10000
set_option maxHeartbeats 1000000
namespace Go.Proofs.Ytghljcgkeeodaaa.Abs
open Go.Abs
attribute [local congr] ite_congr
theorem term_is (l : Lg) (i : Nat) (h : l.b ≤ i) : (termOf l i).2 = decide (i ≤ l.b + l.es.length) := by
  unfold termOf
  by_cases h1 : i = l.b
  · rw [if_pos h1]; simp [h1]
  · rw [if_neg h1]
    by_cases h2 : l.b < i ∧ i - l.b - 1 < l.es.length
    · rw [dif_pos h2]; simp; omega
    · rw [dif_neg h2]; simp; omega
theorem term_lo (l : Lg) (i : Nat) (h : i < l.b) : termOf l i = (0, false) := by
  unfold termOf; rw [if_neg (by omega), dif_neg (by omega)]
theorem term_cut (l : Lg) (i j : Nat) (h1 : l.b ≤ i) (h2 : i ≤ j) (h3 : i ≤ l.b + l.es.length) : termOf (cutOf l i).1 j = termOf l j := by
  have hc : (termOf l i).2 = true := by rw [term_is l i h1]; simpa using h3
  have hb : behindN l i = i - l.b := by unfold behindN; omega
  unfold cutOf; rw [if_pos hc, hb]
  by_cases e : j = i
  · subst e
    rw [termOf, if_pos rfl]
    exact Prod.ext rfl hc.symm
  · by_cases e2 : j = l.b
    · omega
    · rw [termOf, if_neg e]
      conv => rhs; rw [termOf, if_neg e2]
      dsimp only
      by_cases h4 : l.b < j ∧ j - l.b - 1 < l.es.length
      · rw [dif_pos h4, dif_pos (by rw [List.length_drop]; omega)]
        have : i - l.b + (j - i - 1) = j - l.b - 1 := by omega
        simp only [List.getElem_drop, this]
      · rw [dif_neg h4, dif_neg (by rw [List.length_drop]; omega)]
theorem cut_no (l : Lg) (i : Nat) (h : l.b + l.es.length < i) : cutOf l i = (l, false) := by
  unfold cutOf; rw [if_neg]; rw [term_is l i (by omega)]; simp; omega
theorem cut_lo (l : Lg) (i : Nat) (h : i < l.b) : cutOf l i = (l, false) := by
  unfold cutOf; rw [term_lo l i h]; rfl
theorem cut_yes (l : Lg) (i : Nat) (h1 : l.b ≤ i) (h3 : i ≤ l.b + l.es.length) : cutOf l i = (⟨i, (termOf l i).1, l.es.drop (i - l.b)⟩, true) := by
  have hc : (termOf l i).2 = true := by rw [term_is l i h1]; simpa using h3
  have hb : behindN l i = i - l.b := by unfold behindN; omega
  unfold cutOf; rw [if_pos hc, hb]
theorem cut_cut (l : Lg) (i k : Nat) (h1 : l.b ≤ i) (h2 : i ≤ k) (h3 : i ≤ l.b + l.es.length) : (cutOf (cutOf l i).1 k).2 = (cutOf l k).2 ∧ ((cutOf l k).2 = true → (cutOf (cutOf l i).1 k).1 = (cutOf l k).1) := by
  have ht := term_cut l i k h1 h2 h3
  rw [cut_yes l i h1 h3] at ht ⊢
  dsimp only at ht ⊢
  by_cases h4 : k ≤ l.b + l.es.length
  · rw [cut_yes l k (by omega) h4, cut_yes _ k (by exact h2) (by dsimp only; rw [List.length_drop]; omega), ht]
    refine ⟨rfl, fun _ => ?_⟩
    dsimp only
    rw [List.drop_drop]
    congr 2; omega
  · rw [cut_no l k (by omega), cut_no _ k (by dsimp only; rw [List.length_drop]; omega)]
    exact ⟨rfl, fun h => by cases h⟩
theorem last_term (l : Lg) (h : 0 < l.es.length) : lastT l = (l.es[l.es.length - 1]'(by omega)).t := by
  unfold lastT
  rw [List.getLast?_eq_getElem?, List.getElem?_eq_getElem (by omega)]
theorem last_nil (l : Lg) (h : l.es.length = 0) : lastT l = l.t := by
  unfold lastT; rw [List.length_eq_zero_iff.1 h]; rfl
theorem last_cut (l : Lg) (i : Nat) (h1 : l.b ≤ i) (h3 : i ≤ l.b + l.es.length) : lastT (cutOf l i).1 = lastT l ∧ (cutOf l i).1.b + (cutOf l i).1.es.length = l.b + l.es.length := by
  rw [cut_yes l i h1 h3]
  refine ⟨?_, by dsimp only; rw [List.length_drop]; omega⟩
  by_cases h4 : i = l.b + l.es.length
  · rw [last_nil _ (by dsimp only; rw [List.length_drop]; omega)]
    dsimp only
    by_cases h5 : l.es.length = 0
    · rw [last_nil l h5, termOf, if_pos (by omega)]
    · rw [last_term l (by omega), termOf, if_neg (by omega), dif_pos (by omega)]
      dsimp only
      have : i - l.b - 1 = l.es.length - 1 := by omega
      simp only [this]
  · rw [last_term _ (by dsimp only; rw [List.length_drop]; omega), last_term l (by omega)]
    dsimp only
    simp only [List.getElem_drop, List.length_drop]
    have : i - l.b + (l.es.length - (i - l.b) - 1) = l.es.length - 1 := by omega
    simp only [this]
theorem fine_drop : ∀ (es : List Ent) (n u k : Nat) (hk : k ≤ es.length), fineGo n u es = true → fineGo (n + k) (termOf ⟨n, u, es⟩ (n + k)).1 (es.drop k) = true := by
  intro es
  induction es with
  | nil =>
    intro n u k hk h
    have : k = 0 := by simpa using hk
    subst this
    simp [fineGo]
  | cons e r ih =>
    intro n u k hk h
    obtain ⟨h1, h2, h3, h4⟩ := fineGo_nth _ _ _ h e r rfl
    cases k with
    | zero => simpa [termOf] using h
    | succ k =>
      have := ih (n + 1) e.t k (by simpa using hk) h2
      rw [List.drop_succ_cons]
      have e1 : (termOf ⟨n, u, e :: r⟩ (n + (k + 1))).1 = (termOf ⟨n + 1, e.t, r⟩ (n + 1 + k)).1 := by
        cases k with
        | zero => simp [termOf]
        | succ k =>
          have hk' : k < r.length := by simp at hk; omega
          have q1 : n + (k + 1 + 1) - n - 1 = k + 1 := by omega
          have q2 : n + 1 + (k + 1) - (n + 1) - 1 = k := by omega
          rw [termOf, if_neg (by dsimp only; omega), dif_pos (by dsimp only; rw [List.length_cons]; omega)]
          rw [termOf, if_neg (by dsimp only; omega), dif_pos (by dsimp only; omega)]
          simp only [q1, q2, List.getElem_cons_succ]
      rw [e1, show n + (k + 1) = n + 1 + k by omega]
      exact this
theorem termOf_le : ∀ (es : List Ent) (n u : Nat), fineGo n u es = true → u ≤ 1099511627776 → ∀ i, (termOf ⟨n, u, es⟩ i).1 ≤ 1099511627776 := by
  have key : ∀ (es : List Ent) (n u : Nat), fineGo n u es = true → ∀ e ∈ es, entOk e = true := by
    intro es
    induction es with
    | nil => intro n u _ e he; cases he
    | cons x r ih =>
      intro n u h e he
      obtain ⟨_, h2, _, h4⟩ := fineGo_nth _ _ _ h x r rfl
      rcases List.mem_cons.1 he with rfl | he
      · exact h4
      · exact ih _ _ h2 e he
  intro es n u h hu i
  unfold termOf
  split
  · exact hu
  · split
    · have := key es n u h _ (List.getElem_mem (by assumption : _ ∧ _).2)
      simp [entOk] at this; exact this.2.2.2.1
    · dsimp only; omega
theorem cut_ok (l : Lg) (i : Nat) (h1 : l.b ≤ i) (h3 : i ≤ l.b + l.es.length) (h4 : i ≤ 1099511627776) (h : logOk l = true) : logOk (cutOf l i).1 = true := by
  rw [cut_yes l i h1 h3]
  simp only [logOk, Bool.and_eq_true, decide_eq_true_eq] at h ⊢
  refine ⟨h4, termOf_le _ _ _ h.2.2 h.2.1 _, ?_⟩
  have := fine_drop l.es l.b l.t (i - l.b) (by omega) h.2.2
  rw [show l.b + (i - l.b) = i by omega] at this
  exact this
theorem madeGo_fine (B : Nat) (hB : B ≤ 7) : ∀ (xs : List Int) (i t : Nat), 1 ≤ t → t ≤ 2 * i + 1 → ∀ u ≤ t, fineGo (B + i) u (madeGo B xs i t) = true := by
  intro xs
  induction xs with
  | nil => intro i t _ _ u _; simp [madeGo, fineGo]
  | cons x r ih =>
    intro i t h0 h1 u hu
    have := stepT_lt x
    simp only [madeGo]
    split
    · simp only [fineGo, entOk, Bool.and_eq_true, decide_eq_true_eq]
      refine ⟨⟨by omega, by omega, by omega, by omega, by simp⟩, by omega, by omega, ?_⟩
      exact ih (i + 1) (t + stepT x) (by omega) (by omega) _ (by omega)
    · simp [fineGo]
theorem made_ok (xs : List Int) (base : Int) : logOk (madeL xs base) = true := by
  have hB := (madeB_le base).1
  have := madeGo_fine (madeB base) hB xs 0 1 (by omega) (by omega) (if madeB base = 0 then 0 else 1) (by split <;> omega)
  have h1 : (if madeB base = 0 then 0 else 1) ≤ 1099511627776 := by split <;> omega
  have h2 : madeB base ≤ 1099511627776 := by omega
  have key : ∀ l : Lg, l.b ≤ 1099511627776 → l.t ≤ 1099511627776 → fineGo l.b l.t l.es = true → logOk l = true := by
    intro l q1 q2 q3
    simp [logOk, q1, q2, q3]
  exact key _ h2 h1 this

end Go.Proofs.Ytghljcgkeeodaaa.Abs
