import Derived.Test.YtdpkhkiecobkoaaKOwn12
set_option linter.all false
set_option linter.unusedVariables false
set_option linter.unusedSimpArgs false
set_option maxRecDepth 10000
set_option maxHeartbeats 1000000
namespace Go.Proofs.Ytdpkhkiecobkoaa.Abs
open Go.Abs
attribute [local congr] ite_congr
theorem own_loop (nl0 : Bool) (xs : List (Int × Int)) (hxs : xs.length < 1099511627776) : ∀ (r : List (Int × Int)) (i : Nat) (nl : Bool) (sz : Nat) (s : List Sn) (rm : Bool) (x : List (Nat × AV)), xs.drop i = r → i ≤ xs.length → i ≤ 40 → (sz = 3 ∨ s.length = 0) → rightGo 0 s = true → s.length ≤ i →
    ∃ nl' sz' s' rm' n' i' x', run cfg 0 (.loop ic5l0) (ownSt nl0 xs nl sz s rm s.length i x []) = some (.exit 0, ownSt nl0 xs nl' sz' s' rm' n' i' x' []) := by
  intro r
  induction r with
  | nil =>
    intro i nl sz s rm x h1 h2 h3 h4 h5 h6
    have hi : i = xs.length := by have := drop_nil h1; omega
    subst hi
    by_cases h40 : xs.length < 40
    all_goals
      refine ⟨nl, sz, s, rm, s.length, xs.length, [(18, .bool false)], ?_⟩
      · rw [run_loop']
        simp (maxSteps := 1000000) (disch := first | omega | (simp only [List.length_map, List.length_append, List.length_cons, List.length_nil]; omega) | (simp only [List.length_map, List.length_append, List.length_cons, List.length_nil]; done) | fail) [-List.map_take, -List.map_drop, ic5l0, go_sem, ownSt, h40]
  | cons p r ih =>
    intro i nl sz s rm x h1 h2 h3 h4 h5 h6
    obtain ⟨hlt, hp0, hd⟩ := drop_cons h1
    have hp : xs[i] = p := by rw [List.getElem?_eq_getElem hlt] at hp0; exact Option.some.inj hp0
    by_cases h40 : i < 40
    · obtain ⟨c1, c2, c3, c4⟩ := cli_ok p.1 15 (by omega)
      generalize hC : (p.1.tmod 15 + 15).tmod 15 = C0 at *
      obtain ⟨c, hc⟩ : ∃ c : Nat, 1 + C0 = c := ⟨(1 + C0).toNat, by omega⟩
      obtain ⟨k, hk, hk2⟩ := bits_and p.2 7 (by omega)
      have hk' : bits2 .and .i64 p.2 7 = k := hk
      obtain ⟨q, hq⟩ : ∃ q : Nat, 1 + (k : Int) = q := ⟨1 + k, by push_cast; rfl⟩
      have hok : callOk c q [] = true := by simp [callOk]; omega
      obtain ⟨n1, z1, k1, g1, e1⟩ := done_eq nl sz s rm c q [] [114] h4 (by omega)
      have d1 := done_right s h5 c q [] [114] hok (by simp)
      have d2 := done_len s h5 c q [] [114] hok (by simp)
      have d3 := lastV_set s (doneOf s c q [] [114]) c (max (lastOf s c) q) (by omega) (fun k _ => by
        rw [done_last s h5 c q [] [114] hok (by simp) k]
        by_cases w : k = c
        · subst w; simp
        · rw [if_neg w, if_neg (by omega)])
      generalize doneOf s c q [] [114] = s' at *
      have hr := lastV_read s c (by omega)
      have er := fun h => right_eq n1 z1 s' k1 g1 (by split at d2 <;> omega) h
      rw [d1] at er
      have ein := own_in nl0 xs n1 z1 s' k1 s'.length i g1 (by split at d2 <;> omega) 16 0 [] rfl
      obtain ⟨nl', sz', s2, rm', n', i', x', g⟩ := ih (i + 1) n1 z1 s' k1 [] hd (by omega) (by omega) g1 d1 (by split at d2 <;> omega)
      refine ⟨nl', sz', s2, rm', n', i', x', ?_⟩
      have key : run cfg 0 ic5l0 (ownSt nl0 xs nl sz s rm s.length i x []) = some (.normal, ownSt nl0 xs n1 z1 s' k1 s'.length (i + 1) [] []) := by
        by_cases h0 : lastOf s c = 0
        · rw [if_pos h0] at d2
          rw [h0, Nat.zero_max] at d3
          rw [d2] at ein
          simp only [ownSt] at ein
          push_cast at ein
          simp (maxSteps := 1000000) (disch := first | omega | (simp only [List.length_map, List.length_append, List.length_cons, List.length_nil]; omega) | (simp only [List.length_map, List.length_append, List.length_cons, List.length_nil]; done) | fail) [-List.map_take, -List.map_drop, ic5l0, go_sem, ownSt, h40, hp, aP, hC, hc, hk', hq, hr, e1, er, d2, h0, d3, ein]
        · rw [if_neg h0, Nat.add_zero] at d2
          rw [d2] at ein
          simp only [ownSt] at ein
          push_cast at ein
          by_cases h7 : lastOf s c < q
          · rw [Nat.max_eq_right (by omega)] at d3
            simp (maxSteps := 1000000) (disch := first | omega | (simp only [List.length_map, List.length_append, List.length_cons, List.length_nil]; omega) | (simp only [List.length_map, List.length_append, List.length_cons, List.length_nil]; done) | fail) [-List.map_take, -List.map_drop, ic5l0, go_sem, ownSt, h40, hp, aP, hC, hc, hk', hq, hr, e1, er, d2, h0, h7, d3, ein]
          · rw [Nat.max_eq_left (by omega)] at d3
            simp (maxSteps := 1000000) (disch := first | omega | (simp only [List.length_map, List.length_append, List.length_cons, List.length_nil]; omega) | (simp only [List.length_map, List.length_append, List.length_cons, List.length_nil]; done) | fail) [-List.map_take, -List.map_drop, ic5l0, go_sem, ownSt, h40, hp, aP, hC, hc, hk', hq, hr, e1, er, d2, h0, h7, d3, ein]
      rw [run_loop', key, loopK_normal, g]
    · refine ⟨nl, sz, s, rm, s.length, i, [(18, .bool false)], ?_⟩
      rw [run_loop']
      simp (maxSteps := 1000000) (disch := first | omega | (simp only [List.length_map, List.length_append, List.length_cons, List.length_nil]; omega) | (simp only [List.length_map, List.length_append, List.length_cons, List.length_nil]; done) | fail) [-List.map_take, -List.map_drop, ic5l0, go_sem, ownSt, h40]

theorem SessionOwn_main (xs : List AV) (hs : ShL (lookT tab) 8 [38] xs) (hb : bulkL xs ≤ 1048576) : ∃ h', call cfg 5 xs AH.empty = some (.bool true, h') := by
  obtain ⟨x1, _, rfl, s1, rfl⟩ := hs
  obtain ⟨nl, l, rfl, _⟩ := sh_pairs s1
  have hl : l.length ≤ 1048576 := by
    have h1 := bulk_map (f := aP) (fun a => by simp [aP, AV.bulk, bulkL]) l
    simp only [bulkL, bulk_slice] at hb
    omega
  refine pureK_bool (h := ⟨[], []⟩) (h1 := ⟨[], []⟩) ?_
  obtain ⟨nl', sz', s', rm', n', i', x', g⟩ := own_loop nl l (by omega) l 0 true 0 [] true [] (by simp) (by omega) (by omega) (.inr rfl) rfl (by simp)
  rw [empty_eq, cf_5 _ _ (by simp)]
  simp [ownSt, lastV_nil, show rmB true = Room.full from rfl] at g
  simp (maxSteps := 1000000) (disch := first | omega | (simp only [List.length_map, List.length_append, List.length_cons, List.length_nil]; omega) | (simp only [List.length_map, List.length_append, List.length_cons, List.length_nil]; done) | fail) [-List.map_take, -List.map_drop, ic5, go_sem, awake_eq, g]

end Go.Proofs.Ytdpkhkiecobkoaa.Abs
