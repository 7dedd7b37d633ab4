import Derived.Test.YtdpkhkiecobkoaaKRef12d
set_option linter.all false
set_option linter.unusedVariables false
set_option linter.unusedSimpArgs false
set_option maxRecDepth 10000
set_option maxHeartbeats 1000000
namespace Go.Proofs.Ytdpkhkiecobkoaa.Abs
open Go.Abs
attribute [local congr] ite_congr
theorem insOf_ne (l : List Sn) (x : Sn) : (insOf l x).isEmpty = false := by unfold insOf; simp
theorem rdone_eq (nl : Bool) (sz : Nat) (l : List Sn) (rm : Bool) (c : Int) (s : Nat) (d r : List UInt8) (hsz : sz = 3 ∨ l.length = 0) (hl : l.length < 1048575) :
    ∃ nl' sz' k, (sz' = 3 ∨ (doneOf l c s d r).length = 0) ∧ ∀ h, pureK h (call cfg 16 [.slice nl sz (l.map aS) (rmB rm), .agg [.int .i64 c, .int .u64 s, .str (bs d)], .str (bs r)] ⟨[], []⟩) = some (.slice nl' sz' ((doneOf l c s d r).map aS) (rmB k), h) := by
  have ek := fun h => rask_eq nl sz l rm c s d hsz (by omega) h
  by_cases hn : (askOf l c s d).2 ≠ 0 ∨ r.length > 40
  · have hd : doneOf l c s d r = l := by unfold doneOf; rw [if_pos hn]
    rw [hd]
    refine ⟨nl, sz, rm, hsz, fun h => ?_⟩
    rw [cf_16 _ _ (by simp)]
    by_cases h1 : (askOf l c s d).2 = 0
    · have h2 : r.length > 40 := hn.resolve_left (fun q => q h1)
      rw [h1] at ek
      simp (maxSteps := 1000000) (disch := first | omega | (simp only [List.length_map, List.length_append, List.length_cons, List.length_nil]; omega) | (simp only [List.length_map, List.length_append, List.length_cons, List.length_nil]; done) | fail) [-List.map_take, -List.map_drop, ic16, go_sem, ek]
    · generalize (askOf l c s d).2 = e at *
      simp (maxSteps := 1000000) (disch := first | omega | (simp only [List.length_map, List.length_append, List.length_cons, List.length_nil]; omega) | (simp only [List.length_map, List.length_append, List.length_cons, List.length_nil]; done) | fail) [-List.map_take, -List.map_drop, ic16, go_sem, ek]
  · have hd : doneOf l c s d r = insOf l ⟨c, s, r⟩ := by unfold doneOf; rw [if_neg hn]
    have h1 : (askOf l c s d).2 = 0 := Classical.byContradiction fun q => hn (.inl q)
    have h2 : ¬ r.length > 40 := fun q => hn (.inr q)
    have hr : rightGo 0 l = true := by
      cases hr : rightGo 0 l with
      | true => rfl
      | false => unfold askOf at h1; rw [if_neg (by simp [hr])] at h1; cases h1
    rw [h1] at ek
    rw [hd]
    have hs := (right_srt l 0 hr).1
    have hins := rdGo_ins ⟨c, s, r⟩ l [] hs
    have hne := insOf_ne l ⟨c, s, r⟩
    obtain ⟨q, e, hlen⟩ := rd_loop nl sz l rm d ⟨c, s, r⟩ hsz (by omega) l 0 false [] (by simp) (by omega) (by simp)
    simp [rdSt, ownS_nil, ownT_nil] at e
    generalize hg : rdGo ⟨c, s, r⟩ l false [] = g at *
    obtain ⟨a, p⟩ := g
    dsimp only at e hins hlen
    rw [List.nil_append] at hins
    refine ⟨false, 3, false, .inl rfl, fun h => ?_⟩
    rw [cf_16 _ _ (by simp)]
    rw [← hins] at hne ⊢
    cases p with
    | true =>
      simp only [if_true] at hne ⊢
      simp (maxSteps := 1000000) (disch := first | omega | (simp only [List.length_map, List.length_append, List.length_cons, List.length_nil]; omega) | (simp only [List.length_map, List.length_append, List.length_cons, List.length_nil]; done) | fail) [-List.map_take, -List.map_drop, ic16, go_sem, ek, e, hne]
      rfl
    | false =>
      simp only [Bool.false_eq_true, if_false] at hne ⊢
      have hz : ∀ (A : List AV) (v : AV), (A ++ [v]).isEmpty = false := by intro A v; cases A <;> rfl
      simp (maxSteps := 1000000) (disch := first | omega | (simp only [List.length_map, List.length_append, List.length_cons, List.length_nil]; omega) | (simp only [List.length_map, List.length_append, List.length_cons, List.length_nil]; done) | fail) [-List.map_take, -List.map_drop, ic16, go_sem, ek, e, aS, List.map_append]
      rw [hz]; exact ⟨rfl, rfl⟩
def cutS (x : Sn) : Sn := ⟨x.c, x.s, x.r.take 42⟩
def feSt (nl : Bool) (sz : Nat) (l : List Sn) (rm : Bool) (acc : List Sn) (i : Nat) : St :=
  ⟨ofList [(0, .slice nl sz (l.map aS) (rmB rm)), (3, ownS 3 (acc.map aS)), (4, .int .i64 i)], ⟨[], ownT (acc.map aS)⟩⟩
theorem fe_loop (nl : Bool) (sz : Nat) (l : List Sn) (rm : Bool) (hsz : sz = 3 ∨ l.length = 0) (hl : l.length < 1048576) : ∀ (r : List Sn) (i : Nat), l.drop i = r → i ≤ l.length → i ≤ 17 →
    ∃ q, run cfg 0 (.loop ic10l0) (feSt nl sz l rm ((l.take i).map cutS) i) = some (.exit 0, ⟨ofList ([(0, .slice nl sz (l.map aS) (rmB rm)), (3, ownS 3 (((l.take 17).map cutS).map aS))] ++ q), ⟨[], ownT (((l.take 17).map cutS).map aS)⟩⟩) := by
  intro r
  induction r with
  | nil =>
    intro i h1 h2 h3
    have : i = l.length := by have := drop_nil h1; omega
    subst this
    have e1 : l.take 17 = l := List.take_of_length_le h3
    have e2 : l.take l.length = l := List.take_of_length_le (by omega)
    refine ⟨[(4, .int .i64 l.length), (13, .bool false)], ?_⟩
    rw [run_loop', e1, e2]
    generalize hm : l.map cutS = m
    by_cases h17 : l.length < 17
    · simp (maxSteps := 1000000) (disch := first | omega | (simp only [List.length_map, List.length_append, List.length_cons, List.length_nil]; omega) | (simp only [List.length_map, List.length_append, List.length_cons, List.length_nil]; done) | fail) [-List.map_take, -List.map_drop, ic10l0, go_sem, feSt, h17]
    · simp (maxSteps := 1000000) (disch := first | omega | (simp only [List.length_map, List.length_append, List.length_cons, List.length_nil]; omega) | (simp only [List.length_map, List.length_append, List.length_cons, List.length_nil]; done) | fail) [-List.map_take, -List.map_drop, ic10l0, go_sem, feSt, h17]
  | cons y r ih =>
    intro i h1 h2 h3
    obtain ⟨hlt, hx0, hd⟩ := drop_cons h1
    obtain ⟨_, hy⟩ := List.getElem?_eq_some_iff.1 hx0
    have h6 : sz = 3 := by omega
    subst h6
    by_cases h17 : i < 17
    · obtain ⟨q, e⟩ := ih (i + 1) hd (by omega) (by omega)
      refine ⟨q, ?_⟩
      have e3 : (l.take (i + 1)).map cutS = (l.take i).map cutS ++ [cutS y] := by
        rw [List.take_add_one, hx0]; simp
      have hlen : ((l.take i).map cutS).length = i := by simp; omega
      rw [e3] at e
      have key : run cfg 0 ic10l0 (feSt nl 3 l rm ((l.take i).map cutS) i) = some (.normal, feSt nl 3 l rm ((l.take i).map cutS ++ [cutS y]) (i + 1)) := by
        generalize hm : (l.take i).map cutS = m at *
        by_cases h42 : 42 < y.r.length
        · simp (maxSteps := 1000000) (disch := first | omega | (simp only [List.length_map, List.length_append, List.length_cons, List.length_nil]; omega) | (simp only [List.length_map, List.length_append, List.length_cons, List.length_nil]; done) | fail) [-List.map_take, -List.map_drop, ic10l0, go_sem, feSt, hy, aS, cutS, h17, h42, hlen, List.map_append]
        · have e4 : y.r.take 42 = y.r := List.take_of_length_le (by omega)
          simp (maxSteps := 1000000) (disch := first | omega | (simp only [List.length_map, List.length_append, List.length_cons, List.length_nil]; omega) | (simp only [List.length_map, List.length_append, List.length_cons, List.length_nil]; done) | fail) [-List.map_take, -List.map_drop, ic10l0, go_sem, feSt, hy, aS, cutS, h17, h42, hlen, e4, List.map_append]
      rw [run_loop', key, loopK_normal, e]
    · have : i = 17 := by omega
      subst this
      refine ⟨[(4, .int .i64 17), (13, .bool false)], ?_⟩
      rw [run_loop']
      generalize hm : (l.take 17).map cutS = m
      simp (maxSteps := 1000000) (disch := first | omega | (simp only [List.length_map, List.length_append, List.length_cons, List.length_nil]; omega) | (simp only [List.length_map, List.length_append, List.length_cons, List.length_nil]; done) | fail) [-List.map_take, -List.map_drop, ic10l0, go_sem, feSt, h17]
theorem few_eq (nl : Bool) (sz : Nat) (l : List Sn) (rm : Bool) (hsz : sz = 3 ∨ l.length = 0) (hl : l.length < 1048576) :
    ∃ nl' sz' k, (sz' = 3 ∨ ((l.take 17).map cutS).length = 0) ∧ ∀ h, pureK h (call cfg 10 [.slice nl sz (l.map aS) (rmB rm)] ⟨[], []⟩) = some (.slice nl' sz' (((l.take 17).map cutS).map aS) (rmB k), h) := by
  obtain ⟨q, e⟩ := fe_loop nl sz l rm hsz hl l 0 (by simp) (by omega) (by omega)
  generalize hm : (l.take 17).map cutS = m at *
  simp [feSt, ownS_nil, ownT_nil] at e
  refine ⟨m.isEmpty, szB 3 m.isEmpty, m.isEmpty, ?_, fun h => ?_⟩
  · cases m with
    | nil => exact .inr rfl
    | cons => exact .inl rfl
  · rw [cf_10 _ _ (by simp)]
    simp (maxSteps := 1000000) (disch := first | omega | (simp only [List.length_map, List.length_append, List.length_cons, List.length_nil]; omega) | (simp only [List.length_map, List.length_append, List.length_cons, List.length_nil]; done) | fail) [-List.map_take, -List.map_drop, ic10, go_sem, e]

end Go.Proofs.Ytdpkhkiecobkoaa.Abs
