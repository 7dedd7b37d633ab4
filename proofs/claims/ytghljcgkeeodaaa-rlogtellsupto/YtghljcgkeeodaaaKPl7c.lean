import Derived.Test.YtghljcgkeeodaaaKRefPutB7
set_option linter.all false
set_option linter.unusedVariables false
set_option linter.unusedSimpArgs false
set_option maxRecDepth 10000
set_option maxHeartbeats 1000000
namespace Go.Proofs.Ytghljcgkeeodaaa.Abs
open Go.Abs
attribute [local congr] ite_congr
theorem fine_last : ∀ (es : List Ent) (n u : Nat), fineGo n u es = true → ∀ e, es.getLast? = some e → e.i = n + es.length := by
  intro es
  induction es with
  | nil => intro n u _ e h; cases h
  | cons x r ih =>
    intro n u h e he
    obtain ⟨h1, h2, _, _⟩ := fineGo_nth _ _ _ h x r rfl
    cases r with
    | nil => simp at he; subst he; simp [h1]
    | cons y r => rw [List.getLast?_cons_cons] at he; have := ih (n + 1) x.t h2 e he; simp at this ⊢; omega
theorem refLast_is (l : Lg) (h : fineGo l.b l.t l.es = true) : refLastI l = l.b + l.es.length := by
  unfold refLastI
  split
  · rename_i e he; exact fine_last _ _ _ h e he
  · rename_i he; rw [List.getLast?_eq_none_iff.1 he]; simp
theorem fine_filter : ∀ (es : List Ent) (n u k : Nat), fineGo n u es = true → (es.filter fun x => decide (x.i < n + 1 + k)) = es.take k := by
  intro es
  induction es with
  | nil => intro n u k _; simp
  | cons x r ih =>
    intro n u k h
    obtain ⟨h1, h2, _, _⟩ := fineGo_nth _ _ _ h x r rfl
    cases k with
    | zero =>
      have h3 : ∀ e ∈ x :: r, ¬ (decide (e.i < n + 1 + 0)) = true := by
        intro e he
        have := fine_mem _ _ _ h e he
        simp; omega
      rw [List.take_zero, List.filter_eq_nil_iff]; exact h3
    | succ k =>
      have := ih (n + 1) x.t k h2
      rw [List.filter_cons_of_pos (by simp; omega), List.take_succ_cons]
      rw [show n + 1 + (k + 1) = n + 1 + 1 + k by omega, this]
theorem refPut_tail : ∀ (r : List Ent) (out : Lg) (n u : Nat), (∀ x ∈ out.es, x.i ≤ n) → out.b ≤ n → fineGo n u r = true → refPutGo out r = ⟨out.b, out.t, out.es ++ r⟩ := by
  intro r
  induction r with
  | nil => intro out n u _ _ _; simp [refPutGo]
  | cons e r ih =>
    intro out n u h1 h2 h3
    obtain ⟨f1, f2, _, _⟩ := fineGo_nth _ _ _ h3 e r rfl
    have hno : refTermOf out e.i = (0, false) := by
      unfold refTermOf
      rw [if_neg (by omega)]
      have : ∀ l : List Ent, (∀ x ∈ l, x.i ≤ n) → findT e.i l = (0, false) := by
        intro l
        induction l with
        | nil => intro _; rfl
        | cons y l ih2 =>
          intro h
          unfold findT
          rw [if_neg (by have := h y (List.mem_cons_self ..); omega)]
          exact ih2 fun x hx => h x (List.mem_cons_of_mem _ hx)
      exact this _ h1
    have hf : (out.es.filter fun x => decide (x.i < e.i)) = out.es := by
      rw [List.filter_eq_self]
      intro x hx
      have := h1 x hx
      simp; omega
    have hneg : ¬ (e.i ≤ out.b ∨ refTermOf out e.i = (e.t, true)) := by
      rw [hno]; intro q
      cases q with
      | inl q => omega
      | inr q => have := congrArg Prod.snd q; cases this
    simp only [refPutGo]
    rw [if_neg hneg, hf, ih _ (n + 1) e.t (fun x hx => by
      rcases List.mem_append.1 hx with hx | hx
      · have := h1 x hx; omega
      · simp at hx; subst hx; omega) (by dsimp only; omega) f2]
    simp
theorem put_same (l : Lg) (hok : logOk l = true) : ∀ (r : List Ent) (n u : Nat), fineGo n u r = true → refPutGo l r = putGo l r := by
  have hf : fineGo l.b l.t l.es = true := by simp [logOk] at hok; exact hok.2.2
  intro r
  induction r with
  | nil => intro n u _; rfl
  | cons e r ih =>
    intro n u h
    obtain ⟨f1, f2, _, _⟩ := fineGo_nth _ _ _ h e r rfl
    have hiff : (e.i ≤ l.b ∨ refTermOf l e.i = (e.t, true)) ↔ (e.i ≤ l.b ∨ (termOf l e.i).2 = true ∧ (termOf l e.i).1 = e.t) := by
      rw [refTerm_is l hok]
      constructor
      · rintro (q | q)
        · exact .inl q
        · exact .inr (by rw [q]; exact ⟨rfl, rfl⟩)
      · rintro (q | q)
        · exact .inl q
        · exact .inr (Prod.ext q.2 q.1)
    simp only [refPutGo, putGo]
    by_cases hc : e.i ≤ l.b ∨ (termOf l e.i).2 = true ∧ (termOf l e.i).1 = e.t
    · rw [if_pos (hiff.2 hc), if_pos hc]; exact ih _ _ f2
    · rw [if_neg (fun q => hc (hiff.1 q)), if_neg hc]
      have hlb : l.b < e.i := by omega
      have hfi := fine_filter l.es l.b l.t (e.i - l.b - 1) hf
      rw [show l.b + 1 + (e.i - l.b - 1) = e.i by omega] at hfi
      rw [hfi, refPut_tail r _ e.i e.t (fun x hx => ?_) (by dsimp only; omega) (by rw [f1]; exact f2)]
      · simp
      · rcases List.mem_append.1 hx with hx | hx
        · rw [← hfi] at hx
          have := (List.mem_filter.1 hx).2
          simp at this; omega
        · simp at hx; subst hx; omega
theorem refHint_app (index own : Nat) : ∀ (a : List Ent) (h : Nat) (r : List Ent), refHint index own h (a ++ r) = refHint index own (refHint index own h a) r := by
  intro a
  induction a with
  | nil => intro h r; rfl
  | cons e a ih => intro h r; simp only [List.cons_append, refHint, ih]
theorem refHint_no (index own : Nat) : ∀ (r : List Ent) (h : Nat), (∀ e ∈ r, index ≤ e.i) → refHint index own h r = h := by
  intro r
  induction r with
  | nil => intro h _; rfl
  | cons e r ih =>
    intro h hr
    simp only [refHint]
    rw [if_neg (by have := hr e (List.mem_cons_self ..); omega)]
    exact ih h fun x hx => hr x (List.mem_cons_of_mem _ hx)
theorem hint_base (l : Lg) (own : Nat) : hintOf l own l.b = l.b := by
  cases h : l.b with
  | zero => simp only [hintOf]; exact h
  | succ k => simp only [hintOf]; rw [if_neg (by omega)]; exact h
theorem hint_same (l : Lg) (hok : logOk l = true) (own k : Nat) (hk : k ≤ l.es.length) : refHint (l.b + k) own l.b l.es = hintOf l own (l.b + k) := by
  have hf : fineGo l.b l.t l.es = true := by simp [logOk] at hok; exact hok.2.2
  have key : ∀ m, m + 1 ≤ k → refHint (l.b + k) own l.b (l.es.take m) = hintOf l own (l.b + m + 1) := by
    intro m
    induction m with
    | zero =>
      intro _
      simp only [List.take_zero, refHint, Nat.add_zero, hintOf]
      rw [if_pos (by omega)]
      split
      · rw [hint_base]
      · rfl
    | succ m ih =>
      intro hm
      have hlt : m < l.es.length := by omega
      have hei : (l.es[m]).i = l.b + m + 1 := by
        have := fine_app (l.es.take m) l.b l.t (l.es.drop m)
        rw [List.take_append_drop, hf, List.drop_eq_getElem_cons hlt] at this
        simp [fineGo] at this
        have h5 : (l.es.take m).length = m := by rw [List.length_take]; omega
        omega
      have htm : (termOf l (l.b + m + 1)).1 = (l.es[m]).t := by
        unfold termOf
        rw [if_neg (by omega), dif_pos (by omega)]
        have : l.b + m + 1 - l.b - 1 = m := by omega
        simp only [this]
      rw [List.take_succ_eq_append_getElem hlt, refHint_app, ih (by omega)]
      simp only [refHint, hintOf]
      rw [show l.b + (m + 1) = l.b + m + 1 by omega, htm, hei]
      conv => rhs; rw [if_pos (by omega)]
      by_cases hc : (l.es[m]).t = own
      · rw [if_neg (fun q => q.2 hc), if_pos hc]; rfl
      · rw [if_pos ⟨by omega, hc⟩, if_neg hc]
  by_cases h0 : k = 0
  · subst h0
    rw [Nat.add_zero, hint_base, refHint_no]
    intro e he
    have := fine_mem _ _ _ hf e he; omega
  · have h1 : l.es = l.es.take (k - 1) ++ l.es.drop (k - 1) := (List.take_append_drop _ _).symm
    have h2 : refHint (l.b + k) own l.b l.es = refHint (l.b + k) own (refHint (l.b + k) own l.b (l.es.take (k - 1))) (l.es.drop (k - 1)) := by
      rw [← refHint_app, List.take_append_drop]
    rw [h2, key (k - 1) (by omega), refHint_no]
    · rw [show l.b + (k - 1) + 1 = l.b + k by omega]
    · intro e he
      have hd : fineGo (l.b + (k - 1)) (lastT ⟨l.b, l.t, l.es.take (k - 1)⟩) (l.es.drop (k - 1)) = true := by
        have := fine_app (l.es.take (k - 1)) l.b l.t (l.es.drop (k - 1))
        rw [List.take_append_drop, hf] at this
        have h5 : (l.es.take (k - 1)).length = k - 1 := by rw [List.length_take]; omega
        rw [h5] at this
        simp at this; exact this.2
      have := fine_mem _ _ _ hd e he; omega
theorem put_is (l : Lg) (hok : logOk l = true) (index term : Nat) (more : List Ent) : refPutOf l index term more = putOf l index term more := by
  have hf : fineGo l.b l.t l.es = true := by simp [logOk] at hok; exact hok.2.2
  unfold refPutOf putOf
  rw [refLast_is l hf, refTerm_is l hok]
  by_cases h1 : logOk ⟨index, term, more⟩ = false
  · rw [if_pos h1, if_pos h1]
  · rw [if_neg h1, if_neg h1]
    by_cases h2 : index > l.b + l.es.length
    · rw [if_pos h2, if_pos h2]
    · rw [if_neg h2, if_neg h2]
      by_cases h3 : (termOf l index).2 = true ∧ (termOf l index).1 ≠ term
      · rw [if_pos h3, if_pos h3]
        have hb : l.b ≤ index := by
          rcases Nat.lt_or_ge index l.b with q | q
          · have := h3.1; rw [term_lo l index q] at this; cases this
          · exact q
        have := hint_same l hok (termOf l index).1 (index - l.b) (by omega)
        rw [show l.b + (index - l.b) = index by omega] at this
        rw [this]
      · rw [if_neg h3, if_neg h3]
        have hm : fineGo index term more = true := by
          have : logOk ⟨index, term, more⟩ = true := by simpa using h1
          simp [logOk] at this; exact this.2.2
        rw [put_same l hok more index term hm]

end Go.Proofs.Ytghljcgkeeodaaa.Abs
