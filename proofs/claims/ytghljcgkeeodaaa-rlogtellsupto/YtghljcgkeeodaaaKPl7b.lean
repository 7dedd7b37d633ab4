import Derived.Test.YtghljcgkeeodaaaKMore7
import Derived.Test.YtghljcgkeeodaaaKAdd7
import Derived.Test.YtghljcgkeeodaaaKPutB7
set_option linter.all false
set_option linter.unusedVariables false
set_option linter.unusedSimpArgs false
set_option maxRecDepth 10000
set_option maxHeartbeats 1000000
namespace Go.Proofs.Ytghljcgkeeodaaa.Abs
open Go.Abs
attribute [local congr] ite_congr
/-- what agrees -/
def agrees (l : Lg) (r : List Ent) : Prop := ∀ e ∈ r, termOf l e.i = (e.t, true)
theorem putGo_same (l : Lg) : ∀ r, agrees l r → putGo l r = l := by
  intro r
  induction r with
  | nil => intro _; rfl
  | cons e r ih =>
    intro h
    have h1 := h e (List.mem_cons_self ..)
    simp only [putGo]
    rw [if_pos (.inr (by rw [h1]; exact ⟨rfl, rfl⟩))]
    exact ih fun x hx => h x (List.mem_cons_of_mem _ hx)
theorem putGo_head (l : Lg) : ∀ r, (putGo l r).b = l.b ∧ (putGo l r).t = l.t := by
  intro r
  induction r with
  | nil => exact ⟨rfl, rfl⟩
  | cons e r ih =>
    simp only [putGo]
    split
    · exact ih
    · exact ⟨rfl, rfl⟩
/-- the terms of a log of which some entries stand ahead -/
theorem termOf_take (l : Lg) (k : Nat) (r : List Ent) (hk : k ≤ l.es.length) (j : Nat) (hj : j ≤ l.b + k) : termOf ⟨l.b, l.t, l.es.take k ++ r⟩ j = termOf l j := by
  unfold termOf
  dsimp only
  by_cases h1 : j = l.b
  · rw [if_pos h1, if_pos h1]
  · rw [if_neg h1, if_neg h1]
    by_cases h2 : l.b < j
    · rw [dif_pos ⟨h2, by rw [List.length_append, List.length_take]; omega⟩, dif_pos ⟨h2, by omega⟩]
      have : j - l.b - 1 < k := by omega
      rw [List.getElem_append_left (by rw [List.length_take]; omega), List.getElem_take]
    · rw [dif_neg (by omega), dif_neg (by omega)]
theorem fine_mem : ∀ (r : List Ent) (n u : Nat), fineGo n u r = true → ∀ e ∈ r, n < e.i ∧ e.i ≤ n + r.length := by
  intro r
  induction r with
  | nil => intro n u _ e he; cases he
  | cons x r ih =>
    intro n u h e he
    obtain ⟨h1, h2, _, _⟩ := fineGo_nth _ _ _ h x r rfl
    rcases List.mem_cons.1 he with rfl | he
    · simp; omega
    · have := ih _ _ h2 e he; simp; omega
/-- terms of entries that are in order -/
theorem termOf_fine : ∀ (r : List Ent) (n u : Nat), fineGo n u r = true → ∀ e ∈ r, termOf ⟨n, u, r⟩ e.i = (e.t, true) := by
  intro r
  induction r with
  | nil => intro n u _ e he; cases he
  | cons x r ih =>
    intro n u h e he
    obtain ⟨h1, h2, _, _⟩ := fineGo_nth _ _ _ h x r rfl
    have hm := fine_mem _ _ _ h e he
    rw [termOf, if_neg (by dsimp only; omega), dif_pos (by dsimp only; omega)]
    dsimp only
    rcases List.mem_cons.1 he with rfl | he
    · have : e.i - n - 1 = 0 := by omega
      simp [this]
    · have hm2 := fine_mem _ _ _ h2 e he
      have := ih _ _ h2 e he
      rw [termOf, if_neg (by dsimp only; omega), dif_pos (by dsimp only; omega)] at this
      have q : e.i - n - 1 = (e.i - (n + 1) - 1) + 1 := by omega
      simp only [q, List.getElem_cons_succ]
      exact this
theorem fine_app : ∀ (a : List Ent) (n u : Nat) (r : List Ent), fineGo n u (a ++ r) = (fineGo n u a && fineGo (n + a.length) (lastT ⟨n, u, a⟩) r) := by
  intro a
  induction a with
  | nil => intro n u r; simp [fineGo, lastT]
  | cons e a ih =>
    intro n u r
    have hl : lastT ⟨n, u, e :: a⟩ = lastT ⟨n + 1, e.t, a⟩ := by
      unfold lastT
      cases a with
      | nil => rfl
      | cons y r => rw [List.getLast?_cons_cons]; simp only [List.getLast?_eq_some_getLast (List.cons_ne_nil y r)]
    simp only [List.cons_append, fineGo, ih, hl, List.length_cons, Bool.and_assoc]
    have e1 : n + 1 + a.length = n + (a.length + 1) := by omega
    rw [e1]
theorem fine_take (es : List Ent) (n u k : Nat) (h : fineGo n u es = true) : fineGo n u (es.take k) = true := by
  have := fine_app (es.take k) n u (es.drop k)
  rw [List.take_append_drop, h] at this
  simp at this; exact this.1
theorem lastT_take (l : Lg) (k : Nat) (hk : k ≤ l.es.length) : lastT ⟨l.b, l.t, l.es.take k⟩ = (termOf l (l.b + k)).1 := by
  by_cases h0 : k = 0
  · subst h0; simp [lastT, termOf]
  · rw [last_term _ (by dsimp only; rw [List.length_take]; omega), termOf, if_neg (by omega), dif_pos (by omega)]
    dsimp only
    simp only [List.getElem_take, List.length_take]
    have : min k l.es.length - 1 = l.b + k - l.b - 1 := by omega
    simp only [this]
theorem putGo_all (l : Lg) (hl : fineGo l.b l.t l.es = true) : ∀ (r : List Ent) (n u : Nat), fineGo n u r = true → l.b ≤ n → n ≤ l.b + l.es.length → (termOf l n).1 = u →
    agrees (putGo l r) r ∧ fineGo l.b l.t (putGo l r).es = true ∧ (∀ j, j ≤ n → termOf (putGo l r) j = termOf l j) ∧ (putGo l r).es.take (n - l.b) = l.es.take (n - l.b) ∧ n ≤ l.b + (putGo l r).es.length ∧ (putGo l r).es.length ≤ l.es.length + r.length := by
  intro r
  induction r with
  | nil => intro n u _ h1 h2 h3; exact ⟨fun e he => (by cases he), hl, fun _ _ => rfl, rfl, h2, by simp [putGo]⟩
  | cons e r ih =>
    intro n u hf h1 h2 h3
    obtain ⟨f1, f2, f3, f4⟩ := fineGo_nth _ _ _ hf e r rfl
    by_cases hc : e.i ≤ l.b ∨ ((termOf l e.i).2 = true ∧ (termOf l e.i).1 = e.t)
    · have hc2 : (termOf l e.i).2 = true ∧ (termOf l e.i).1 = e.t := hc.resolve_left (by omega)
      have ep : putGo l (e :: r) = putGo l r := by simp only [putGo]; rw [if_pos hc]
      have hn : n + 1 ≤ l.b + l.es.length := by
        have := hc2.1
        rw [term_is l e.i (by omega)] at this
        simp at this; omega
      obtain ⟨q1, q2, q3, q4, q5, q6⟩ := ih (n + 1) e.t f2 (by omega) hn (by rw [← f1]; exact hc2.2)
      rw [ep]
      refine ⟨fun x hx => ?_, q2, fun j hj => q3 j (by omega), ?_, by omega, by simp; omega⟩
      · rcases List.mem_cons.1 hx with rfl | hx
        · rw [q3 _ (by omega)]; exact Prod.ext hc2.2 hc2.1
        · exact q1 x hx
      · have := congrArg (List.take (n - l.b)) q4
        rw [List.take_take, List.take_take, Nat.min_eq_left (by omega)] at this
        exact this
    · have ep : putGo l (e :: r) = ⟨l.b, l.t, l.es.take (n - l.b) ++ e :: r⟩ := by
        simp only [putGo]; rw [if_neg hc]
        have : e.i - l.b - 1 = n - l.b := by omega
        rw [this]
      rw [ep]
      dsimp only
      have hk : n - l.b ≤ l.es.length := by omega
      have htl : (l.es.take (n - l.b)).length = n - l.b := by rw [List.length_take]; omega
      have hfine : fineGo l.b l.t (l.es.take (n - l.b) ++ e :: r) = true := by
        rw [fine_app, fine_take _ _ _ _ hl, htl, lastT_take l _ hk, show l.b + (n - l.b) = n by omega, h3, hf]; rfl
      refine ⟨fun x hx => ?_, hfine, fun j hj => termOf_take l _ _ hk j (by omega), ?_, by rw [List.length_append, htl]; omega, by rw [List.length_append, htl]; omega⟩
      · exact termOf_fine _ _ _ hfine x (List.mem_append_right _ hx)
      · rw [List.take_append_of_le_length (by omega), List.take_take, Nat.min_self]
theorem moreGo_fine (I : Nat) (hI : I ≤ 1000) : ∀ (xs : List Int) (i t : Nat), 1 ≤ t → t ≤ 1000 + 2 * i → ∀ u ≤ t, fineGo (I + i) u (moreGo I xs i t) = true := by
  intro xs
  induction xs with
  | nil => intro i t _ _ u _; simp [moreGo, fineGo]
  | cons x r ih =>
    intro i t h0 h1 u hu
    have := stepT_lt x
    simp only [moreGo]
    split
    · have e1 : w64 (t + stepT x) = t + stepT x := w64_id _ (by omega)
      have e2 : w64 (I + 1) = I + 1 := w64_id _ (by omega)
      have e3 : w64 (I + 1 + i) = I + 1 + i := w64_id _ (by omega)
      rw [e1, e2, e3]
      simp only [fineGo, entOk, Bool.and_eq_true, decide_eq_true_eq]
      refine ⟨⟨by omega, by omega, by omega, by omega, by simp⟩, by omega, by omega, ?_⟩
      exact ih (i + 1) (t + stepT x) (by omega) (by omega) _ (by omega)
    · simp [fineGo]

end Go.Proofs.Ytghljcgkeeodaaa.Abs
