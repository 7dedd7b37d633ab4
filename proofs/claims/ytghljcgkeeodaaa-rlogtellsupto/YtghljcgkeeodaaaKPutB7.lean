import Derived.Test.YtghljcgkeeodaaaKHint7
set_option linter.all false
set_option linter.unusedVariables false
set_option linter.unusedSimpArgs false
set_option maxRecDepth 10000
set_option maxHeartbeats 1000000
namespace Go.Proofs.Ytghljcgkeeodaaa.Abs
open Go.Abs
attribute [local congr] ite_congr
/-- entries put behind one another -/
def putGo (l : Lg) : List Ent → Lg
  | [] => l
  | e :: r => if e.i ≤ l.b ∨ ((termOf l e.i).2 = true ∧ (termOf l e.i).1 = e.t) then putGo l r else ⟨l.b, l.t, l.es.take (e.i - l.b - 1) ++ e :: r⟩
def putSt (b t : Nat) (nl : Bool) (sz : Nat) (es : List Ent) (rm : Bool) (n2 : Bool) (s2 : Nat) (more : List Ent) (r2 : Bool) (m i : Nat) (g : List (Option Blk)) (x : List (Nat × AV)) : St :=
  ⟨ofList ((3, .slice n2 s2 (more.map aE) (rmB r2)) :: (4, .ptr 0 0) :: (8, .ptr 1 0) :: (15, .int .u64 m) :: (62, .slice n2 s2 (more.map aE) (rmB r2)) :: (63, .int .i64 more.length) :: (64, .int .i64 i) :: x),
    ⟨lgB b t nl sz es rm :: some ⟨false, [.int .u64 0, .int .u64 0, .slice true 0 [] .full]⟩ :: g, []⟩⟩
theorem put_skip (b t : Nat) (nl : Bool) (sz : Nat) (es : List Ent) (rm : Bool) (n2 : Bool) (s2 : Nat) (more : List Ent) (r2 : Bool) (m i : Nat) (g : List (Option Blk)) (x : List (Nat × AV)) (e : Ent)
    (hsz : sz = 3 ∨ es.length = 0) (hb : b + es.length < 18446744073709551616) (hn : es.length < 9223372036854775808) (hm : more.length < 9223372036854775807)
    (h2 : s2 = 3 ∨ more.length = 0) (he : more[i]? = some e) (hi : e.i < 18446744073709551616) (hc : e.i ≤ b ∨ ((termOf ⟨b, t, es⟩ e.i).2 = true ∧ (termOf ⟨b, t, es⟩ e.i).1 = e.t)) :
    ∃ g', run cfg 0 ic15l0 (putSt b t nl sz es rm n2 s2 more r2 m i g x) = some (.normal, putSt b t nl sz es rm n2 s2 more r2 m (i + 1) g' []) := by
  obtain ⟨hl, he⟩ := List.getElem?_eq_some_iff.1 he
  have h3 : s2 = 3 := by omega
  subst h3
  have ht := term_eq b t nl sz es rm e.i hsz hb hn hi
  refine ⟨g ++ [some ⟨false, [.int .u64 e.i, .int .u64 e.t, .str (bs e.d)]⟩], ?_⟩
  by_cases hc1 : e.i ≤ b
  · simp (maxSteps := 1000000) (disch := first | omega | (simp only [List.length_map, List.length_append, List.length_cons, List.length_nil]; omega) | (simp only [List.length_map, List.length_append, List.length_cons, List.length_nil]; done) | fail) [-List.map_take, -List.map_drop, ic15l0, go_sem, putSt, lgB, ht, he, aE, hc1]
  · obtain ⟨hc2, hc3⟩ := hc.resolve_left hc1
    simp (maxSteps := 1000000) (disch := first | omega | (simp only [List.length_map, List.length_append, List.length_cons, List.length_nil]; omega) | (simp only [List.length_map, List.length_append, List.length_cons, List.length_nil]; done) | fail) [-List.map_take, -List.map_drop, ic15l0, go_sem, putSt, lgB, ht, he, aE, hc1, hc2, hc3]
theorem put_stop (b t : Nat) (nl : Bool) (sz : Nat) (es : List Ent) (rm : Bool) (n2 : Bool) (s2 : Nat) (more : List Ent) (r2 : Bool) (m i : Nat) (g : List (Option Blk)) (x : List (Nat × AV)) (e : Ent)
    (hsz : sz = 3 ∨ es.length = 0) (hb : b + es.length < 18446744073709551616) (hn : es.length < 1048576) (hm : more.length < 1048576)
    (h2 : s2 = 3 ∨ more.length = 0) (he : more[i]? = some e) (hi : e.i ≤ b + es.length + 1) (hi2 : e.i < 18446744073709551616) (hc : ¬ (e.i ≤ b ∨ ((termOf ⟨b, t, es⟩ e.i).2 = true ∧ (termOf ⟨b, t, es⟩ e.i).1 = e.t))) :
    ∃ g' nl' sz' c, (sz' = 3 ∨ (es.take (e.i - b - 1) ++ more.drop i).length = 0) ∧ (nl' = true → (es.take (e.i - b - 1) ++ more.drop i).length = 0) ∧ run cfg 0 ic15l0 (putSt b t nl sz es rm n2 s2 more r2 m i g x) =
      some (.exit 1, ⟨ofList [(4, .ptr 0 0), (8, .ptr 1 0), (15, .int .u64 m)], ⟨lgB b t nl' sz' (es.take (e.i - b - 1) ++ more.drop i) c :: some ⟨false, [.int .u64 0, .int .u64 0, .slice true 0 [] .full]⟩ :: g', []⟩⟩) := by
  obtain ⟨hl, he⟩ := List.getElem?_eq_some_iff.1 he
  have h3 : s2 = 3 := by omega
  subst h3
  have ht := term_eq b t nl sz es rm e.i hsz hb (by omega) (by omega)
  obtain ⟨nl', sz', c, hs', hnl', ec⟩ := concat2_eq nl n2 sz 3 (es.take (e.i - b - 1)) (more.drop i) true r2 (by rw [List.length_take]; omega) (.inl rfl) (by rw [List.length_take, List.length_drop]; omega) true
  have hc1 : ¬ e.i ≤ b := fun q => hc (.inl q)
  have hk : ((e.i : Int) - (b : Int) - 1).toNat = e.i - b - 1 := by omega
  refine ⟨g ++ [some ⟨false, [.int .u64 e.i, .int .u64 e.t, .str (bs e.d)]⟩], nl', sz', c, hs', hnl', ?_⟩
  cases hc2 : (termOf ⟨b, t, es⟩ e.i).2 with
  | false =>
    simp (maxSteps := 1000000) (disch := first | omega | (simp only [List.length_map, List.length_append, List.length_cons, List.length_nil]; omega) | (simp only [List.length_map, List.length_append, List.length_cons, List.length_nil]; done) | fail) [-List.map_take, -List.map_drop, ic15l0, go_sem, putSt, lgB, ht, he, aE, hc1, hc2, hk, ec]
  | true =>
    have hc3 : ¬ (termOf ⟨b, t, es⟩ e.i).1 = e.t := fun q => hc (.inr ⟨hc2, q⟩)
    simp (maxSteps := 1000000) (disch := first | omega | (simp only [List.length_map, List.length_append, List.length_cons, List.length_nil]; omega) | (simp only [List.length_map, List.length_append, List.length_cons, List.length_nil]; done) | fail) [-List.map_take, -List.map_drop, ic15l0, go_sem, putSt, lgB, ht, he, aE, hc1, hc2, hc3, hk, ec]

theorem put_end (b t : Nat) (nl : Bool) (sz : Nat) (es : List Ent) (rm : Bool) (n2 : Bool) (s2 : Nat) (more : List Ent) (r2 : Bool) (m : Nat) (g : List (Option Blk)) (x : List (Nat × AV)) :
    run cfg 0 ic15l0 (putSt b t nl sz es rm n2 s2 more r2 m more.length g x) = some (.exit 1, ⟨ofList [(3, .slice n2 s2 (more.map aE) (rmB r2)), (4, .ptr 0 0), (8, .ptr 1 0), (15, .int .u64 m), (62, .slice n2 s2 (more.map aE) (rmB r2)), (63, .int .i64 more.length), (64, .int .i64 more.length), (65, .bool false)],
      ⟨lgB b t nl sz es rm :: some ⟨false, [.int .u64 0, .int .u64 0, .slice true 0 [] .full]⟩ :: g, []⟩⟩) := by
  simp (maxSteps := 1000000) (disch := first | omega | (simp only [List.length_map, List.length_append, List.length_cons, List.length_nil]; omega) | (simp only [List.length_map, List.length_append, List.length_cons, List.length_nil]; done) | fail) [-List.map_take, -List.map_drop, ic15l0, go_sem, putSt]
/-- in order, from an index on -/
theorem fineGo_nth : ∀ (l : List Ent) (n u : Nat), fineGo n u l = true → ∀ e r, l = e :: r → e.i = n + 1 ∧ fineGo (n + 1) e.t r = true ∧ u ≤ e.t ∧ entOk e = true := by
  rintro l n u h e r rfl
  simp [fineGo] at h
  exact ⟨h.2.1, h.2.2.2, h.2.2.1, h.1⟩
theorem put_loop (b t : Nat) (nl : Bool) (sz : Nat) (es : List Ent) (rm : Bool) (n2 : Bool) (s2 : Nat) (more : List Ent) (r2 : Bool) (m : Nat)
    (hsz : sz = 3 ∨ es.length = 0) (hb : b + es.length < 9223372036854775808) (hn : es.length < 1048576) (hm : more.length < 1048576) (h2 : s2 = 3 ∨ more.length = 0) (hnl : nl = true → es.length = 0) :
    ∀ (r : List Ent) (i n u : Nat) (g : List (Option Blk)) (x : List (Nat × AV)), more.drop i = r → i ≤ more.length → fineGo n u r = true → n ≤ b + es.length →
    ∃ q w nl' sz' c, (sz' = 3 ∨ (putGo ⟨b, t, es⟩ r).es.length = 0) ∧ (nl' = true → (putGo ⟨b, t, es⟩ r).es.length = 0) ∧ run cfg 0 (.loop ic15l0) (putSt b t nl sz es rm n2 s2 more r2 m i g x) =
      some (.exit 1, ⟨ofList q, ⟨lgB b t nl' sz' (putGo ⟨b, t, es⟩ r).es c :: some ⟨false, [.int .u64 0, .int .u64 0, .slice true 0 [] .full]⟩ :: w, []⟩⟩) ∧
      ofList q 4 = some (.ptr 0 0) ∧ ofList q 8 = some (.ptr 1 0) ∧ ofList q 15 = some (.int .u64 m) := by
  intro r
  induction r with
  | nil =>
    intro i n u g x hr hi hf hn'
    have : i = more.length := by have := drop_nil hr; omega
    subst this
    refine ⟨[(3, .slice n2 s2 (more.map aE) (rmB r2)), (4, .ptr 0 0), (8, .ptr 1 0), (15, .int .u64 m), (62, .slice n2 s2 (more.map aE) (rmB r2)), (63, .int .i64 more.length), (64, .int .i64 more.length), (65, .bool false)],
      g, nl, sz, rm, hsz, hnl, ?_, rfl, rfl, rfl⟩
    rw [run_loop', put_end, loopK_exit]; rfl
  | cons e r ih =>
    intro i n u g x hr hi hf hn'
    obtain ⟨h1, h3, h4⟩ := drop_cons hr
    obtain ⟨f1, f2, f3, f4⟩ := fineGo_nth _ _ _ hf e r rfl
    by_cases hc : e.i ≤ b ∨ ((termOf ⟨b, t, es⟩ e.i).2 = true ∧ (termOf ⟨b, t, es⟩ e.i).1 = e.t)
    · obtain ⟨g', eq⟩ := put_skip b t nl sz es rm n2 s2 more r2 m i g x e hsz (by omega) (by omega) (by omega) h2 h3 (by omega) hc
      have hle : n + 1 ≤ b + es.length := by
        rcases hc with hc | ⟨hc, _⟩
        · omega
        · unfold termOf at hc
          split at hc
          · dsimp only at *; omega
          · split at hc
            · rename_i q1 q2; have q3 := q2.2; dsimp only at q3; omega
            · cases hc
      obtain ⟨q, w, nl', sz', c, k1, k1', k2, k3⟩ := ih (i + 1) (n + 1) e.t g' [] h4 (by omega) f2 hle
      have ep : putGo ⟨b, t, es⟩ (e :: r) = putGo ⟨b, t, es⟩ r := by simp only [putGo]; rw [if_pos hc]
      rw [ep]
      refine ⟨q, w, nl', sz', c, k1, k1', ?_, k3⟩
      rw [run_loop', eq, loopK_normal]; exact k2
    · obtain ⟨g', nl', sz', c, k1, k1', k2⟩ := put_stop b t nl sz es rm n2 s2 more r2 m i g x e hsz (by omega) (by omega) (by omega) h2 h3 (by omega) (by omega) hc
      have ep : putGo ⟨b, t, es⟩ (e :: r) = ⟨b, t, es.take (e.i - b - 1) ++ e :: r⟩ := by simp only [putGo]; rw [if_neg hc]
      rw [ep]
      rw [hr] at k1 k1' k2
      refine ⟨[(4, .ptr 0 0), (8, .ptr 1 0), (15, .int .u64 m)], g', nl', sz', c, k1, k1', ?_, rfl, rfl, rfl⟩
      rw [run_loop', k2, loopK_exit]
/-- what a Put comes to -/
def putOf (l : Lg) (index term : Nat) (more : List Ent) : Lg × Nat × Bool :=
  if logOk ⟨index, term, more⟩ = false then (l, 0, false)
  else if index > l.b + l.es.length then (l, l.b + l.es.length, false)
  else if (termOf l index).2 = true ∧ (termOf l index).1 ≠ term then (l, hintOf l (termOf l index).1 index, false)
  else (putGo l more, index + more.length, true)
theorem put_eq (b t : Nat) (nl : Bool) (sz : Nat) (es : List Ent) (rm : Bool) (index term : Nat) (n2 : Bool) (s2 : Nat) (more : List Ent) (r2 : Bool) (hi : index < 18446744073709551616)
    (hsz : sz = 3 ∨ es.length = 0) (hb : b + es.length < 9223372036854775808) (hn : es.length < 1048576) (hm : more.length < 1048576) (h2 : s2 = 3 ∨ more.length = 0) (hnl : nl = true → es.length = 0) :
    ∃ nl' sz' c, (sz' = 3 ∨ (putOf ⟨b, t, es⟩ index term more).1.es.length = 0) ∧ (nl' = true → (putOf ⟨b, t, es⟩ index term more).1.es.length = 0) ∧ ∀ h, pureK h (call cfg 15 [.agg [.int .u64 b, .int .u64 t, .slice nl sz (es.map aE) (rmB rm)], .int .u64 index, .int .u64 term, .slice n2 s2 (more.map aE) (rmB r2)] ⟨[], []⟩) =
      some (.tup [.agg [.int .u64 b, .int .u64 t, .slice nl' sz' ((putOf ⟨b, t, es⟩ index term more).1.es.map aE) (rmB c)], .int .u64 (putOf ⟨b, t, es⟩ index term more).2.1, .bool (putOf ⟨b, t, es⟩ index term more).2.2], h) := by
  have hl := fun rm => last_eq b t nl sz es rm hsz (by omega)
  have hI : lastI ⟨b, t, es⟩ = ((b + es.length : Nat) : Int) := by
    unfold lastI
    split
    · rename_i h; simp at h; subst h; simp
    · rw [wrapU64] <;> push_cast <;> omega
  rw [hI] at hl
  have hck := fun h => check_eq index term n2 s2 more r2 h2 (by omega) h
  have ht := fun h => term_eq b t nl sz es rm index hsz (by omega) (by omega) hi h
  cases hok : logOk ⟨index, term, more⟩ with
  | false =>
    have ep : putOf ⟨b, t, es⟩ index term more = (⟨b, t, es⟩, 0, false) := by unfold putOf; rw [if_pos hok]
    rw [ep]
    refine ⟨nl, sz, rm, hsz, hnl, fun h => ?_⟩
    rw [cf_15 _ _ (by simp)]
    simp (maxSteps := 1000000) (disch := first | omega | (simp only [List.length_map, List.length_append, List.length_cons, List.length_nil]; omega) | (simp only [List.length_map, List.length_append, List.length_cons, List.length_nil]; done) | fail) [-List.map_take, -List.map_drop, ic15, go_sem, hck, hok]
  | true =>
    have hfine : fineGo index term more = true := by simp [logOk] at hok; exact hok.2.2
    have hidx : index ≤ 1099511627776 := by simp [logOk] at hok; omega
    by_cases h1 : index > b + es.length
    · have ep : putOf ⟨b, t, es⟩ index term more = (⟨b, t, es⟩, b + es.length, false) := by unfold putOf; rw [if_neg (by simp [hok]), if_pos h1]
      rw [ep]
      refine ⟨nl, sz, rm, hsz, hnl, fun h => ?_⟩
      rw [cf_15 _ _ (by simp)]
      simp (maxSteps := 1000000) (disch := first | omega | (simp only [List.length_map, List.length_append, List.length_cons, List.length_nil]; omega) | (simp only [List.length_map, List.length_append, List.length_cons, List.length_nil]; done) | fail) [-List.map_take, -List.map_drop, ic15, go_sem, hck, hok, hl, ht, h1]
    · by_cases h3 : (termOf ⟨b, t, es⟩ index).2 = true ∧ (termOf ⟨b, t, es⟩ index).1 ≠ term
      · have hh := fun h => hint_eq b t nl sz es rm index (termOf ⟨b, t, es⟩ index).1 hsz (by omega) (by omega) hi h
        have ep : putOf ⟨b, t, es⟩ index term more = (⟨b, t, es⟩, hintOf ⟨b, t, es⟩ (termOf ⟨b, t, es⟩ index).1 index, false) := by unfold putOf; rw [if_neg (by simp [hok]), if_neg h1, if_pos h3]
        rw [ep]
        refine ⟨nl, sz, rm, hsz, hnl, fun h => ?_⟩
        rw [cf_15 _ _ (by simp)]
        simp (maxSteps := 1000000) (disch := first | omega | (simp only [List.length_map, List.length_append, List.length_cons, List.length_nil]; omega) | (simp only [List.length_map, List.length_append, List.length_cons, List.length_nil]; done) | fail) [-List.map_take, -List.map_drop, ic15, go_sem, hck, hok, hl, ht, h1, h3, hh]
      · obtain ⟨q, w, nl', sz', c, k1, k1', k2, k3, k4, k5⟩ := put_loop b t nl sz es rm n2 s2 more r2 (index + more.length) hsz hb hn hm h2 hnl more 0 index term [] [] (by simp) (by omega) hfine (by omega)
        simp [putSt, lgB] at k2
        have ep : putOf ⟨b, t, es⟩ index term more = (putGo ⟨b, t, es⟩ more, index + more.length, true) := by
          unfold putOf; rw [if_neg (by simp [hok]), if_neg h1, if_neg h3]
        rw [ep]
        refine ⟨nl', sz', c, k1, k1', fun h => ?_⟩
        rw [cf_15 _ _ (by simp)]
        cases h4 : (termOf ⟨b, t, es⟩ index).2 with
        | false =>
          simp (maxSteps := 1000000) (disch := first | omega | (simp only [List.length_map, List.length_append, List.length_cons, List.length_nil]; omega) | (simp only [List.length_map, List.length_append, List.length_cons, List.length_nil]; done) | fail) [-List.map_take, -List.map_drop, ic15, go_sem, hck, hok, hl, ht, h1, h4, k2, k3, k4, k5, lgB]
        | true =>
          have h5 : (termOf ⟨b, t, es⟩ index).1 = term := Classical.byContradiction fun q => h3 ⟨h4, q⟩
          simp (maxSteps := 1000000) (disch := first | omega | (simp only [List.length_map, List.length_append, List.length_cons, List.length_nil]; omega) | (simp only [List.length_map, List.length_append, List.length_cons, List.length_nil]; done) | fail) [-List.map_take, -List.map_drop, ic15, go_sem, hck, hok, hl, ht, h1, h4, h5, k2, k3, k4, k5, lgB]

end Go.Proofs.Ytghljcgkeeodaaa.Abs
