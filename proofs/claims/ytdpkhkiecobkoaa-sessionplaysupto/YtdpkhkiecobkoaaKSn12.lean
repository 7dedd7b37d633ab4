import Derived.Test.YtdpkhkiecobkoaaKAwake12
set_option linter.all false
set_option linter.unusedVariables false
set_option linter.unusedSimpArgs false
set_option maxRecDepth 10000
set_option maxHeartbeats 1000000
namespace Go.Proofs.Ytdpkhkiecobkoaa.Abs
open Go.Abs
attribute [local congr] ite_congr
theorem got_ins (l : List Sn) (x : Sn) (k : Int) : got (insOf l x) k = if k = x.c then some x else got l k := by
  unfold got insOf
  rw [List.find?_append, List.find?_append, List.find?_filter, List.find?_filter]
  by_cases h : k = x.c
  · rw [if_pos h]
    have h1 : l.find? (fun a => decide ((decide (a.c < x.c)) = true ∧ (decide (a.c = k)) = true)) = none := by
      rw [List.find?_eq_none]; intro y _; simp; omega
    rw [h1]
    simp [h]
  · rw [if_neg h]
    have h2 : [x].find? (fun a => decide (a.c = k)) = none := by
      rw [List.find?_eq_none]; intro y hy; simp at hy ⊢; subst hy; exact fun q => h q.symm
    rw [h2, Option.or_none]
    by_cases h3 : k < x.c
    · have h1 : l.find? (fun a => decide ((decide (x.c < a.c)) = true ∧ (decide (a.c = k)) = true)) = none := by
        rw [List.find?_eq_none]; intro y _; simp; omega
      rw [h1, Option.or_none]
      congr 1; funext a
      simp; omega
    · have h1 : l.find? (fun a => decide ((decide (a.c < x.c)) = true ∧ (decide (a.c = k)) = true)) = none := by
        rw [List.find?_eq_none]; intro y _; simp; omega
      rw [h1, Option.none_or]
      congr 1; funext a
      simp; omega
theorem len_ins (x : Sn) : ∀ (l : List Sn), Srt l → (insOf l x).length = l.length + if (got l x.c).isSome = true then 0 else 1 := by
  intro l
  induction l with
  | nil => intro _; simp [insOf, got]
  | cons y l ih =>
    intro hs
    have hs' := List.pairwise_cons.1 hs
    have ih' := ih hs'.2
    unfold insOf got at ih' ⊢
    by_cases h1 : y.c < x.c
    · have h2 : ¬ y.c = x.c := by omega
      have h3 : ¬ x.c < y.c := by omega
      rw [List.filter_cons_of_pos (by simpa using h1), List.filter_cons_of_neg (by simpa using h3), List.find?_cons_of_neg (by simpa using h2)]
      simp only [List.length_append, List.length_cons] at ih' ⊢
      omega
    · by_cases h2 : y.c = x.c
      · have h3 : ¬ x.c < y.c := by omega
        rw [List.filter_cons_of_neg (by simpa using h1), List.filter_cons_of_neg (by simpa using h3), List.find?_cons_of_pos (by simpa using h2)]
        have e1 : l.filter (fun y => decide (y.c < x.c)) = [] := by
          rw [List.filter_eq_nil_iff]; intro z hz; have := hs'.1 z hz; simp; omega
        have e2 : l.filter (fun y => decide (x.c < y.c)) = l := by
          rw [List.filter_eq_self]; intro z hz; have := hs'.1 z hz; simp; omega
        rw [e1, e2]; simp
      · have h3 : x.c < y.c := by omega
        rw [List.filter_cons_of_neg (by simpa using h1), List.filter_cons_of_pos (by simpa using h3), List.find?_cons_of_neg (by simpa using h2)]
        simp only [List.length_append, List.length_cons] at ih' ⊢
        omega
theorem mem_ins (l : List Sn) (x y : Sn) (h : y ∈ insOf l x) : y = x ∨ y ∈ l := by
  unfold insOf at h
  simp only [List.mem_append, List.mem_filter, List.mem_singleton] at h
  rcases h with (h | h) | h
  · exact .inr h.1
  · exact .inl h
  · exact .inr h.1
theorem srt_ins (l : List Sn) (hs : Srt l) (x : Sn) : Srt (insOf l x) := by
  unfold insOf Srt
  rw [List.pairwise_append, List.pairwise_append]
  refine ⟨⟨List.Pairwise.filter _ hs, List.pairwise_singleton .., ?_⟩, List.Pairwise.filter _ hs, ?_⟩
  · intro a ha b hb
    simp only [List.mem_filter, List.mem_singleton, decide_eq_true_eq] at ha hb
    rw [hb]; exact ha.2
  · intro a ha b hb
    simp only [List.mem_append, List.mem_filter, List.mem_singleton, decide_eq_true_eq] at ha hb
    rcases ha with ha | ha
    · omega
    · rw [ha]; exact hb.2
theorem got_mem (l : List Sn) (c : Int) (x : Sn) (h : got l c = some x) : x ∈ l ∧ x.c = c := by
  unfold got at h
  exact ⟨List.mem_of_find?_eq_some h, by simpa using List.find?_some h⟩
theorem ask_none (l : List Sn) (hr : rightGo 0 l = true) (c : Int) (s : Nat) (d : List UInt8) (hk : callOk c s d = true) (hg : got l c = none) : askOf l c s d = ([], 0) := by
  unfold askOf; rw [if_pos ⟨hr, hk⟩, hg]
theorem ask_some (l : List Sn) (hr : rightGo 0 l = true) (c : Int) (s : Nat) (d : List UInt8) (hk : callOk c s d = true) (x : Sn) (hg : got l c = some x) : askOf l c s d = if x.s < s then ([], 0) else if s = x.s then (x.r, 14) else ([], 24) := by
  unfold askOf; rw [if_pos ⟨hr, hk⟩, hg]
theorem last_none (l : List Sn) (c : Int) (hg : got l c = none) : lastOf l c = 0 := by
  unfold lastOf; rw [hg]; simp
theorem last_some (l : List Sn) (hr : rightGo 0 l = true) (c : Int) (x : Sn) (hg : got l c = some x) : lastOf l c = x.s := by
  unfold lastOf; rw [if_pos hr, hg]
theorem last_pos (l : List Sn) (hr : rightGo 0 l = true) (c : Int) (x : Sn) (hg : got l c = some x) : 1 ≤ x.s := by
  have := ((right_srt l 0 hr).2 x (got_mem l c x hg).1).2.1
  simp [callOk] at this; omega
theorem right_ins (l : List Sn) (hr : rightGo 0 l = true) (x : Sn) (hk : callOk x.c x.s [] = true) (hl : x.r.length ≤ 40) : rightGo 0 (insOf l x) = true := by
  obtain ⟨h1, h2⟩ := right_srt l 0 hr
  refine srt_right _ 0 (srt_ins l h1 x) fun y hy => ?_
  rcases mem_ins l x y hy with rfl | hy
  · refine ⟨?_, hk, hl⟩
    simp [callOk] at hk; omega
  · exact h2 y hy
theorem callOk_nil (c : Int) (s : Nat) (d : List UInt8) (h : callOk c s d = true) : callOk c s [] = true := by
  simp [callOk] at h ⊢; omega
/-- what stands behind a Done -/
theorem done_as (l : List Sn) (hr : rightGo 0 l = true) (c : Int) (s : Nat) (d r : List UInt8) (hk : callOk c s d = true) (hl : r.length ≤ 40) :
    (lastOf l c < s ∧ doneOf l c s d r = insOf l ⟨c, s, r⟩) ∨ (s ≤ lastOf l c ∧ (∃ x, got l c = some x) ∧ doneOf l c s d r = l) := by
  cases hg : got l c with
  | none =>
    refine .inl ⟨?_, ?_⟩
    · rw [last_none l c hg]; simp [callOk] at hk; omega
    · unfold doneOf; rw [ask_none l hr c s d hk hg, if_neg (by simp; omega)]
  | some x =>
    rw [last_some l hr c x hg]
    have ha := ask_some l hr c s d hk x hg
    by_cases h1 : x.s < s
    · rw [if_pos h1] at ha
      refine .inl ⟨h1, ?_⟩
      unfold doneOf; rw [ha, if_neg (by simp; omega)]
    · rw [if_neg h1] at ha
      refine .inr ⟨by omega, ⟨x, rfl⟩, ?_⟩
      unfold doneOf; rw [ha]
      by_cases h2 : s = x.s
      · rw [if_pos h2, if_pos (by simp)]
      · rw [if_neg h2, if_pos (by simp)]
theorem done_right (l : List Sn) (hr : rightGo 0 l = true) (c : Int) (s : Nat) (d r : List UInt8) (hk : callOk c s d = true) (hl : r.length ≤ 40) : rightGo 0 (doneOf l c s d r) = true := by
  rcases done_as l hr c s d r hk hl with ⟨_, h⟩ | ⟨_, _, h⟩
  · rw [h]; exact right_ins l hr _ (callOk_nil c s d hk) hl
  · rw [h]; exact hr
theorem done_len (l : List Sn) (hr : rightGo 0 l = true) (c : Int) (s : Nat) (d r : List UInt8) (hk : callOk c s d = true) (hl : r.length ≤ 40) : (doneOf l c s d r).length = l.length + if lastOf l c = 0 then 1 else 0 := by
  have hl0 : lastOf l c = 0 ↔ got l c = none := by
    cases hg : got l c with
    | none => simp [last_none l c hg]
    | some x =>
      have := last_pos l hr c x hg
      rw [last_some l hr c x hg]; simp; omega
  rcases done_as l hr c s d r hk hl with ⟨_, h⟩ | ⟨_, ⟨x, hx⟩, h⟩
  · rw [h, len_ins _ l (right_srt l 0 hr).1]
    dsimp only
    cases hg : got l c with
    | none => rw [if_pos (hl0.2 hg)]; rfl
    | some x =>
      have hn : ¬ lastOf l c = 0 := fun q => by rw [hl0.1 q] at hg; cases hg
      rw [if_neg hn]; simp
  · rw [h, if_neg (fun q => by rw [hl0.1 q] at hx; cases hx)]; rfl
theorem done_last (l : List Sn) (hr : rightGo 0 l = true) (c : Int) (s : Nat) (d r : List UInt8) (hk : callOk c s d = true) (hl : r.length ≤ 40) (k : Int) : lastOf (doneOf l c s d r) k = if k = c then max (lastOf l c) s else lastOf l k := by
  have hr2 := done_right l hr c s d r hk hl
  rcases done_as l hr c s d r hk hl with ⟨h0, h⟩ | ⟨h0, _, h⟩
  · rw [h] at hr2 ⊢
    have hg := got_ins l ⟨c, s, r⟩ k
    by_cases hc : k = c
    · rw [if_pos hc] at hg
      rw [if_pos hc, last_some _ hr2 k _ hg]
      show s = _; omega
    · rw [if_neg hc] at hg
      rw [if_neg hc]
      unfold lastOf; rw [if_pos hr2, if_pos hr, hg]
  · rw [h]
    by_cases hc : k = c
    · rw [if_pos hc, hc]; omega
    · rw [if_neg hc]
theorem ask_as (l : List Sn) (hr : rightGo 0 l = true) (c : Int) (s : Nat) (d : List UInt8) (hk : callOk c s d = true) :
    (lastOf l c < s ∧ askOf l c s d = ([], 0)) ∨ (lastOf l c = s ∧ ∃ x, got l c = some x ∧ x.s = s ∧ askOf l c s d = (x.r, 14)) ∨ (s < lastOf l c ∧ askOf l c s d = ([], 24)) := by
  cases hg : got l c with
  | none =>
    refine .inl ⟨?_, ask_none l hr c s d hk hg⟩
    rw [last_none l c hg]; simp [callOk] at hk; omega
  | some x =>
    rw [last_some l hr c x hg]
    have ha := ask_some l hr c s d hk x hg
    by_cases h1 : x.s < s
    · rw [if_pos h1] at ha; exact .inl ⟨h1, ha⟩
    · rw [if_neg h1] at ha
      by_cases h2 : s = x.s
      · rw [if_pos h2] at ha; exact .inr (.inl ⟨h2.symm, x, rfl, h2.symm, ha⟩)
      · rw [if_neg h2] at ha; exact .inr (.inr ⟨by omega, ha⟩)

end Go.Proofs.Ytdpkhkiecobkoaa.Abs
