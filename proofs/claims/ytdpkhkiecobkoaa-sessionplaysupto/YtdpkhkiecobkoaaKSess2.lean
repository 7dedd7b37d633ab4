import Derived.Test.YtdpkhkiecobkoaaKSess
set_option linter.all false
set_option linter.unusedVariables false
set_option linter.unusedSimpArgs false
set_option maxRecDepth 10000
set_option maxHeartbeats 1000000
namespace Go.Proofs.Ytdpkhkiecobkoaa.Abs
open Go.Abs
attribute [local congr] ite_congr
theorem sconcat_eq (n1 n2 n3 : Bool) (s1 s2 s3 : Nat) (l1 l2 l3 : List Sn) (r1 r2 r3 : Bool) (h1 : s1 = 3 ∨ l1.length = 0) (h2 : s2 = 3 ∨ l2.length = 0) (h3 : s3 = 3 ∨ l3.length = 0) (hl : l1.length + l2.length + l3.length < 1099511627776) (hp : 0 < l2.length) (rm : Bool) (h : AH) :
    pureK h (call cfg 28 [.slice false 1 [.slice n1 s1 (l1.map aS) (rmB r1), .slice n2 s2 (l2.map aS) (rmB r2), .slice n3 s3 (l3.map aS) (rmB r3)] (rmB rm)] ⟨[], []⟩) = some (.slice false 3 ((l1 ++ l2 ++ l3).map aS) (rmB false), h) := by
  have hg := fun h => (call_prim pr_46 [.slice true 0 [] .full, .int .i64 (l1.length + l2.length + l3.length)] h).trans (growP_eq 3 32 0 .full (l1.length + l2.length + l3.length) h (by omega) (by omega) (by omega))
  rw [cf_28 _ _ (by simp)]
  simp (maxSteps := 1000000) (disch := first | omega | (simp only [List.length_map, List.length_append, List.length_cons, List.length_nil]; omega) | (simp only [List.length_map, List.length_append, List.length_cons, List.length_nil]; done) | fail) [-List.map_take, -List.map_drop, ic28, go_sem, run_loop', ic28l0, ic28l1, hg]
/-- sorted by client -/
def Srt (l : List Sn) : Prop := l.Pairwise fun x y => x.c < y.c
theorem right_srt : ∀ (l : List Sn) (u : Int), rightGo u l = true → Srt l ∧ (∀ x ∈ l, u < x.c ∧ callOk x.c x.s [] = true ∧ x.r.length ≤ 40) := by
  intro l
  induction l with
  | nil => intro u _; exact ⟨List.Pairwise.nil, fun x h => by cases h⟩
  | cons x r ih =>
    intro u h
    simp [rightGo] at h
    obtain ⟨h1, h2, h3, h4⟩ := h
    obtain ⟨k1, k2⟩ := ih x.c h4
    refine ⟨List.Pairwise.cons (fun y hy => (k2 y hy).1) k1, fun y hy => ?_⟩
    rcases List.mem_cons.1 hy with rfl | hy
    · exact ⟨h1, h2, h3⟩
    · have := k2 y hy; exact ⟨by omega, this.2⟩
theorem srt_right : ∀ (l : List Sn) (u : Int), Srt l → (∀ x ∈ l, u < x.c ∧ callOk x.c x.s [] = true ∧ x.r.length ≤ 40) → rightGo u l = true := by
  intro l
  induction l with
  | nil => intro u _ _; rfl
  | cons x r ih =>
    intro u h1 h2
    have hx := h2 x (List.mem_cons_self ..)
    have hp := List.pairwise_cons.1 h1
    simp [rightGo]
    exact ⟨hx.1, hx.2.1, hx.2.2, ih x.c hp.2 fun y hy => ⟨hp.1 y hy, (h2 y (List.mem_cons_of_mem _ hy)).2⟩⟩
/-- what a search finds in a sorted row -/
theorem srt_split (l : List Sn) (hs : Srt l) (b : Int) (i : Nat) (hi : i ≤ l.length) (ha : ∀ y, l[i]? = some y → b ≤ y.c) (hb : ∀ k y, k + 1 = i → l[k]? = some y → y.c < b) :
    l.take i = (l.filter fun x => decide (x.c < b)) ∧ l.drop i = (l.filter fun x => decide (b ≤ x.c)) := by
  have hp := List.pairwise_iff_getElem.1 hs
  have h1 : ∀ x ∈ l.take i, x.c < b := by
    intro x hx
    obtain ⟨k, hk, rfl⟩ := List.getElem_of_mem hx
    rw [List.length_take] at hk
    rw [List.getElem_take]
    have h2 := hb (i - 1) (l[i - 1]'(by omega)) (by omega) (List.getElem?_eq_getElem (by omega))
    by_cases hk2 : k = i - 1
    · subst hk2; exact h2
    · have := hp k (i - 1) (by omega) (by omega) (by omega); omega
  have h2 : ∀ x ∈ l.drop i, b ≤ x.c := by
    intro x hx
    obtain ⟨k, hk, rfl⟩ := List.getElem_of_mem hx
    rw [List.length_drop] at hk
    rw [List.getElem_drop]
    have h3 := ha (l[i]'(by omega)) (List.getElem?_eq_getElem (by omega))
    by_cases hk2 : k = 0
    · subst hk2; exact h3
    · have := hp i (i + k) (by omega) (by omega) (by omega); omega
  have key : l = l.take i ++ l.drop i := (List.take_append_drop i l).symm
  have f1 : (l.take i).filter (fun x => decide (x.c < b)) = l.take i := List.filter_eq_self.2 fun x hx => by simpa using h1 x hx
  have f2 : (l.drop i).filter (fun x => decide (x.c < b)) = [] := List.filter_eq_nil_iff.2 fun x hx => by have := h2 x hx; simp; omega
  have f3 : (l.take i).filter (fun x => decide (b ≤ x.c)) = [] := List.filter_eq_nil_iff.2 fun x hx => by have := h1 x hx; simp; omega
  have f4 : (l.drop i).filter (fun x => decide (b ≤ x.c)) = l.drop i := List.filter_eq_self.2 fun x hx => by simpa using h2 x hx
  constructor
  · conv => rhs; rw [key, List.filter_append, f1, f2, List.append_nil]
  · conv => rhs; rw [key, List.filter_append, f3, f4, List.nil_append]
/-- who is told of -/
def got (l : List Sn) (b : Int) : Option Sn := l.find? fun x => decide (x.c = b)
theorem srt_found (l : List Sn) (hs : Srt l) (b : Int) (i : Nat) (hi : i ≤ l.length) (ha : ∀ y, l[i]? = some y → b ≤ y.c) (hb : ∀ k y, k + 1 = i → l[k]? = some y → y.c < b) :
    got l b = (match l[i]? with | some y => if y.c = b then some y else none | none => none) := by
  obtain ⟨h1, h2⟩ := srt_split l hs b i hi ha hb
  unfold got
  have key : l = l.take i ++ l.drop i := (List.take_append_drop i l).symm
  have f1 : (l.take i).find? (fun x => decide (x.c = b)) = none := by
    rw [List.find?_eq_none]
    intro x hx
    rw [h1] at hx
    have := (List.mem_filter.1 hx).2
    simp at this ⊢; omega
  conv => lhs; rw [key, List.find?_append, f1, Option.none_or]
  by_cases hlt : i < l.length
  · rw [List.getElem?_eq_getElem hlt, List.drop_eq_getElem_cons hlt]
    dsimp only
    by_cases hc : (l[i]).c = b
    · rw [if_pos hc, List.find?_cons_of_pos (by simpa using hc)]
    · rw [if_neg hc, List.find?_cons_of_neg (by simpa using hc), List.find?_eq_none]
      intro x hx
      have hp := List.pairwise_iff_getElem.1 hs
      obtain ⟨k, hk, rfl⟩ := List.getElem_of_mem hx
      rw [List.length_drop] at hk
      rw [List.getElem_drop]
      have h3 := ha _ (List.getElem?_eq_getElem hlt)
      have := hp i (i + 1 + k) (by omega) (by omega) (by omega)
      simp; omega
  · rw [List.getElem?_eq_none (by omega), List.drop_of_length_le (by omega)]; rfl
def lastOf (l : List Sn) (b : Int) : Nat := if rightGo 0 l = true then (match got l b with | some x => x.s | none => 0) else 0
theorem slast_eq (nl : Bool) (sz : Nat) (l : List Sn) (rm : Bool) (b : Int) (hsz : sz = 3 ∨ l.length = 0) (hl : l.length < 1048576) (h : AH) :
    pureK h (call cfg 17 [.slice nl sz (l.map aS) (rmB rm), .int .i64 b] ⟨[], []⟩) = some (.int .u64 (lastOf l b), h) := by
  obtain ⟨i, h1, h2, h3, ea⟩ := at_eq nl sz l rm b hsz hl
  have er := fun h => right_eq nl sz l rm hsz hl h
  rw [cf_17 _ _ (by simp)]
  by_cases hi : i < l.length
  · have h6 : sz = 3 := by omega
    subst h6
    obtain ⟨y, hy⟩ : ∃ y, l[i] = y := ⟨_, rfl⟩
    have hy' : l[i]? = some y := by rw [List.getElem?_eq_getElem hi, hy]
    rw [hy', hitAt_some] at ea
    cases hr : rightGo 0 l with
    | false =>
      rw [hr] at er
      have : lastOf l b = 0 := by unfold lastOf; rw [hr]; rfl
      rw [this]
      cases hd : decide (y.c = b) <;> rw [hd] at ea <;> simp (maxSteps := 1000000) (disch := first | omega | (simp only [List.length_map, List.length_append, List.length_cons, List.length_nil]; omega) | (simp only [List.length_map, List.length_append, List.length_cons, List.length_nil]; done) | fail) [-List.map_take, -List.map_drop, ic17, go_sem, ea, er]
    | true =>
      rw [hr] at er
      have hg := srt_found l (right_srt l 0 hr).1 b i h1 h2 h3
      rw [hy'] at hg
      dsimp only at hg
      by_cases hc : y.c = b
      · rw [if_pos hc] at hg
        have : lastOf l b = y.s := by unfold lastOf; rw [hr, hg]; rfl
        rw [this]
        rw [decide_eq_true hc] at ea
        simp (maxSteps := 1000000) (disch := first | omega | (simp only [List.length_map, List.length_append, List.length_cons, List.length_nil]; omega) | (simp only [List.length_map, List.length_append, List.length_cons, List.length_nil]; done) | fail) [-List.map_take, -List.map_drop, ic17, go_sem, ea, er, hy, aS]
      · rw [if_neg hc] at hg
        have : lastOf l b = 0 := by unfold lastOf; rw [hr, hg]; rfl
        rw [this]
        rw [decide_eq_false hc] at ea
        simp (maxSteps := 1000000) (disch := first | omega | (simp only [List.length_map, List.length_append, List.length_cons, List.length_nil]; omega) | (simp only [List.length_map, List.length_append, List.length_cons, List.length_nil]; done) | fail) [-List.map_take, -List.map_drop, ic17, go_sem, ea, er]
  · rw [List.getElem?_eq_none (by omega), hitAt_none] at ea
    have : lastOf l b = 0 := by
      unfold lastOf
      split
      · rename_i hr
        have hg := srt_found l (right_srt l 0 hr).1 b i h1 h2 h3
        rw [List.getElem?_eq_none (by omega)] at hg
        rw [hg]
      · rfl
    rw [this]
    simp (maxSteps := 1000000) (disch := first | omega | (simp only [List.length_map, List.length_append, List.length_cons, List.length_nil]; omega) | (simp only [List.length_map, List.length_append, List.length_cons, List.length_nil]; done) | fail) [-List.map_take, -List.map_drop, ic17, go_sem, ea]

end Go.Proofs.Ytdpkhkiecobkoaa.Abs
