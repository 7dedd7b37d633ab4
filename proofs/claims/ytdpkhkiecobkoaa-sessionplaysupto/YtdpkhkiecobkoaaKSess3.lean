import Derived.Test.YtdpkhkiecobkoaaKSess2
set_option linter.all false
set_option linter.unusedVariables false
set_option linter.unusedSimpArgs false
set_option maxRecDepth 10000
set_option maxHeartbeats 1000000
namespace Go.Proofs.Ytdpkhkiecobkoaa.Abs
open Go.Abs
attribute [local congr] ite_congr
def askOf (l : List Sn) (c : Int) (s : Nat) (d : List UInt8) : List UInt8 × Int :=
  if rightGo 0 l = true ∧ callOk c s d = true then (match got l c with
    | none => ([], 0)
    | some x => if x.s < s then ([], 0) else if s = x.s then (x.r, 14) else ([], 24)) else ([], 1)
theorem ask_eq (nl : Bool) (sz : Nat) (l : List Sn) (rm : Bool) (c : Int) (s : Nat) (d : List UInt8) (hsz : sz = 3 ∨ l.length = 0) (hl : l.length < 1048576) (h : AH) :
    pureK h (call cfg 12 [.slice nl sz (l.map aS) (rmB rm), .agg [.int .i64 c, .int .u64 s, .str (bs d)]] ⟨[], []⟩) = some (.tup [.str (bs (askOf l c s d).1), .int .i64 (askOf l c s d).2], h) := by
  obtain ⟨i, h1, h2, h3, ea⟩ := at_eq nl sz l rm c hsz hl
  have er := fun h => right_eq nl sz l rm hsz hl h
  have ec := fun h => scheck_eq c s d h
  rw [cf_12 _ _ (by simp)]
  cases hr : rightGo 0 l with
  | false =>
    rw [hr] at er
    have : askOf l c s d = ([], 1) := by unfold askOf; rw [if_neg (by simp [hr])]
    rw [this]
    simp (maxSteps := 1000000) (disch := first | omega | (simp only [List.length_map, List.length_append, List.length_cons, List.length_nil]; omega) | (simp only [List.length_map, List.length_append, List.length_cons, List.length_nil]; done) | fail) [-List.map_take, -List.map_drop, ic12, go_sem, er]
  | true =>
    rw [hr] at er
    cases hk : callOk c s d with
    | false =>
      rw [hk] at ec
      have : askOf l c s d = ([], 1) := by unfold askOf; rw [if_neg (by simp [hk])]
      rw [this]
      simp (maxSteps := 1000000) (disch := first | omega | (simp only [List.length_map, List.length_append, List.length_cons, List.length_nil]; omega) | (simp only [List.length_map, List.length_append, List.length_cons, List.length_nil]; done) | fail) [-List.map_take, -List.map_drop, ic12, go_sem, er, ec]
    | true =>
      rw [hk] at ec
      have hg := srt_found l (right_srt l 0 hr).1 c i h1 h2 h3
      have hq : askOf l c s d = (match got l c with
        | none => ([], 0)
        | some x => if x.s < s then ([], 0) else if s = x.s then (x.r, 14) else ([], 24)) := by unfold askOf; rw [if_pos ⟨hr, hk⟩]
      rw [hq, hg]
      by_cases hi : i < l.length
      · have h6 : sz = 3 := by omega
        subst h6
        obtain ⟨y, hy⟩ : ∃ y, l[i] = y := ⟨_, rfl⟩
        have hy' : l[i]? = some y := by rw [List.getElem?_eq_getElem hi, hy]
        rw [hy', hitAt_some] at ea
        rw [hy']
        dsimp only
        by_cases hc : y.c = c
        · rw [if_pos hc]
          rw [decide_eq_true hc] at ea
          dsimp only
          by_cases hs1 : y.s < s
          · rw [if_pos hs1]
            simp (maxSteps := 1000000) (disch := first | omega | (simp only [List.length_map, List.length_append, List.length_cons, List.length_nil]; omega) | (simp only [List.length_map, List.length_append, List.length_cons, List.length_nil]; done) | fail) [-List.map_take, -List.map_drop, ic12, go_sem, er, ec, ea, hy, aS, hs1]
          · rw [if_neg hs1]
            by_cases hs2 : s = y.s
            · rw [if_pos hs2]
              subst hs2
              simp (maxSteps := 1000000) (disch := first | omega | (simp only [List.length_map, List.length_append, List.length_cons, List.length_nil]; omega) | (simp only [List.length_map, List.length_append, List.length_cons, List.length_nil]; done) | fail) [-List.map_take, -List.map_drop, ic12, go_sem, er, ec, ea, hy, aS]
            · rw [if_neg hs2]
              simp (maxSteps := 1000000) (disch := first | omega | (simp only [List.length_map, List.length_append, List.length_cons, List.length_nil]; omega) | (simp only [List.length_map, List.length_append, List.length_cons, List.length_nil]; done) | fail) [-List.map_take, -List.map_drop, ic12, go_sem, er, ec, ea, hy, aS, hs1]
        · rw [if_neg hc]
          rw [decide_eq_false hc] at ea
          simp (maxSteps := 1000000) (disch := first | omega | (simp only [List.length_map, List.length_append, List.length_cons, List.length_nil]; omega) | (simp only [List.length_map, List.length_append, List.length_cons, List.length_nil]; done) | fail) [-List.map_take, -List.map_drop, ic12, go_sem, er, ec, ea]
      · rw [List.getElem?_eq_none (by omega), hitAt_none] at ea
        rw [List.getElem?_eq_none (by omega)]
        dsimp only
        simp (maxSteps := 1000000) (disch := first | omega | (simp only [List.length_map, List.length_append, List.length_cons, List.length_nil]; omega) | (simp only [List.length_map, List.length_append, List.length_cons, List.length_nil]; done) | fail) [-List.map_take, -List.map_drop, ic12, go_sem, er, ec, ea]
def insOf (l : List Sn) (x : Sn) : List Sn := (l.filter fun y => decide (y.c < x.c)) ++ [x] ++ (l.filter fun y => decide (x.c < y.c))
def doneOf (l : List Sn) (c : Int) (s : Nat) (d : List UInt8) (r : List UInt8) : List Sn := if (askOf l c s d).2 ≠ 0 ∨ r.length > 40 then l else insOf l ⟨c, s, r⟩
theorem srt_rest (l : List Sn) (hs : Srt l) (b : Int) (i : Nat) (hi : i ≤ l.length) (ha : ∀ y, l[i]? = some y → b ≤ y.c) (hb : ∀ k y, k + 1 = i → l[k]? = some y → y.c < b) :
    l.drop (if (hitAt l[i]? b) = true then i + 1 else i) = (l.filter fun x => decide (b < x.c)) := by
  obtain ⟨h1, h2⟩ := srt_split l hs b i hi ha hb
  have hp := List.pairwise_iff_getElem.1 hs
  by_cases hlt : i < l.length
  · rw [List.getElem?_eq_getElem hlt, hitAt_some]
    have key : (l.filter fun x => decide (b < x.c)) = (l.drop i).filter fun x => decide (b < x.c) := by
      rw [h2, List.filter_filter]
      congr 1; funext x
      by_cases q : b < x.c
      · simp [q]; omega
      · simp [q]
    rw [key, List.drop_eq_getElem_cons hlt]
    have hgt : ∀ x ∈ l.drop (i + 1), b < x.c := by
      intro x hx
      obtain ⟨k, hk, rfl⟩ := List.getElem_of_mem hx
      rw [List.length_drop] at hk
      rw [List.getElem_drop]
      have h3 := ha _ (List.getElem?_eq_getElem hlt)
      have := hp i (i + 1 + k) (by omega) (by omega) (by omega)
      omega
    have hf : (l.drop (i + 1)).filter (fun x => decide (b < x.c)) = l.drop (i + 1) := List.filter_eq_self.2 fun x hx => by simpa using hgt x hx
    by_cases hc : (l[i]).c = b
    · rw [if_pos (by simpa using hc), List.filter_cons_of_neg (by simp; omega), hf]
    · have h3 := ha _ (List.getElem?_eq_getElem hlt)
      rw [if_neg (by simpa using hc), List.filter_cons_of_pos (by simp; omega), hf, List.drop_eq_getElem_cons hlt]
  · rw [List.getElem?_eq_none (by omega), hitAt_none]
    have : (l.filter fun x => decide (b < x.c)) = [] := by
      rw [List.filter_eq_nil_iff]
      intro x hx
      have h5 : (l.filter fun x => decide (b ≤ x.c)) = [] := by rw [← h2, List.drop_of_length_le (by omega)]
      have := List.filter_eq_nil_iff.1 h5 x hx
      simp at this ⊢; omega
    rw [this]
    simp only [Bool.false_eq_true, if_false]
    exact List.drop_of_length_le (by omega)
theorem done_eq (nl : Bool) (sz : Nat) (l : List Sn) (rm : Bool) (c : Int) (s : Nat) (d r : List UInt8) (hsz : sz = 3 ∨ l.length = 0) (hl : l.length < 1048575) :
    ∃ nl' sz' k, (sz' = 3 ∨ (doneOf l c s d r).length = 0) ∧ ∀ h, pureK h (call cfg 15 [.slice nl sz (l.map aS) (rmB rm), .agg [.int .i64 c, .int .u64 s, .str (bs d)], .str (bs r)] ⟨[], []⟩) = some (.slice nl' sz' ((doneOf l c s d r).map aS) (rmB k), h) := by
  have ek := fun h => ask_eq nl sz l rm c s d hsz (by omega) h
  by_cases hn : (askOf l c s d).2 ≠ 0 ∨ r.length > 40
  · have hd : doneOf l c s d r = l := by unfold doneOf; rw [if_pos hn]
    rw [hd]
    refine ⟨nl, sz, rm, hsz, fun h => ?_⟩
    rw [cf_15 _ _ (by simp)]
    by_cases h1 : (askOf l c s d).2 = 0
    · have h2 : r.length > 40 := hn.resolve_left (fun q => q h1)
      rw [h1] at ek
      simp (maxSteps := 1000000) (disch := first | omega | (simp only [List.length_map, List.length_append, List.length_cons, List.length_nil]; omega) | (simp only [List.length_map, List.length_append, List.length_cons, List.length_nil]; done) | fail) [-List.map_take, -List.map_drop, ic15, go_sem, ek]
    · generalize (askOf l c s d).2 = e at *
      simp (maxSteps := 1000000) (disch := first | omega | (simp only [List.length_map, List.length_append, List.length_cons, List.length_nil]; omega) | (simp only [List.length_map, List.length_append, List.length_cons, List.length_nil]; done) | fail) [-List.map_take, -List.map_drop, ic15, go_sem, ek]
  · have hd : doneOf l c s d r = insOf l ⟨c, s, r⟩ := by unfold doneOf; rw [if_neg hn]
    have h1 : (askOf l c s d).2 = 0 := Classical.byContradiction fun q => hn (.inl q)
    have h2 : ¬ r.length > 40 := fun q => hn (.inr q)
    have hr : rightGo 0 l = true := by
      cases hr : rightGo 0 l with
      | true => rfl
      | false => unfold askOf at h1; rw [if_neg (by simp [hr])] at h1; cases h1
    rw [h1] at ek
    rw [hd]
    obtain ⟨i, g1, g2, g3, ea⟩ := at_eq nl sz l rm c hsz (by omega)
    have hs := (right_srt l 0 hr).1
    have hsp := (srt_split l hs c i g1 g2 g3).1
    have hrs := srt_rest l hs c i g1 g2 g3
    refine ⟨false, 3, false, .inl rfl, fun h => ?_⟩
    rw [cf_15 _ _ (by simp)]
    unfold insOf
    dsimp only
    rw [← hsp, ← hrs]
    generalize hf : hitAt l[i]? c = f at *
    have hx : (List.map aS [⟨c, s, r⟩]) = [.agg [.int .i64 c, .int .u64 s, .str (bs r)]] := rfl
    cases f with
    | true =>
      have hlt : i < l.length := by
        rcases Nat.lt_or_ge i l.length with q | q
        · exact q
        · rw [List.getElem?_eq_none q, hitAt_none] at hf; cases hf
      have ecc := fun c2 c3 h => sconcat_eq nl false nl sz 3 sz (l.take i) [⟨c, s, r⟩] (l.drop (i + 1)) true c2 c3 (by rw [List.length_take]; omega) (.inl rfl) (by rw [List.length_drop]; omega) (by rw [List.length_take, List.length_drop]; simp; omega) (by simp) true h
      rw [hx] at ecc
      simp only [if_true]
      simp (maxSteps := 1000000) (disch := first | omega | (simp only [List.length_map, List.length_append, List.length_cons, List.length_nil]; omega) | (simp only [List.length_map, List.length_append, List.length_cons, List.length_nil]; done) | fail) [-List.map_take, -List.map_drop, ic15, go_sem, ek, ea, ecc]
    | false =>
      have ecc := fun c2 c3 h => sconcat_eq nl false nl sz 3 sz (l.take i) [⟨c, s, r⟩] (l.drop i) true c2 c3 (by rw [List.length_take]; omega) (.inl rfl) (by rw [List.length_drop]; omega) (by rw [List.length_take, List.length_drop]; simp; omega) (by simp) true h
      rw [hx] at ecc
      simp only [Bool.false_eq_true, if_false]
      simp (maxSteps := 1000000) (disch := first | omega | (simp only [List.length_map, List.length_append, List.length_cons, List.length_nil]; omega) | (simp only [List.length_map, List.length_append, List.length_cons, List.length_nil]; done) | fail) [-List.map_take, -List.map_drop, ic15, go_sem, ek, ea, ecc]

end Go.Proofs.Ytdpkhkiecobkoaa.Abs
