import Derived.Test.YtghljcgkeeodaaaKPl7
set_option linter.all false
set_option linter.unusedVariables false
set_option linter.unusedSimpArgs false
set_option maxRecDepth 10000
set_option maxHeartbeats 1000000
namespace Go.Proofs.Ytghljcgkeeodaaa.Abs
open Go.Abs
attribute [local congr] ite_congr
def cutsSt (bx : Option Blk) (b t : Nat) (nl : Bool) (sz : Nat) (es : List Ent) (rm : Bool) (xb xt : Nat) (xnl : Bool) (xsz : Nat) (xes : List Ent) (xrm : Bool) (i k last term a c j : Nat) : St :=
  ⟨ofList [(7, .bool true), (8, .ptr 1 0), (9, .int .u64 i), (10, .int .u64 k), (11, .ptr 2 0), (13, .int .u64 last), (14, .int .u64 term), (16, .int .u64 a), (17, .int .u64 c), (18, .int .u64 j)], ⟨[bx, lgB b t nl sz es rm, lgB xb xt xnl xsz xes xrm], []⟩⟩
theorem cuts_loop (bx : Option Blk) (b t : Nat) (nl : Bool) (sz : Nat) (es : List Ent) (rm : Bool) (xb xt : Nat) (xnl : Bool) (xsz : Nat) (xes : List Ent) (xrm : Bool) (i k last term a c : Nat)
    (hsz : sz = 3 ∨ es.length = 0) (hb : b + es.length < 1000) (xsz' : xsz = 3 ∨ xes.length = 0) (xb' : xb + xes.length < 1000) (hlast : last < 1000)
    (ht : ∀ j, i ≤ j → j ≤ last → termOf ⟨xb, xt, xes⟩ j = termOf ⟨b, t, es⟩ j ∧ (termOf ⟨b, t, es⟩ j).2 = true) :
    ∀ (m j : Nat), j + m = last + 1 → i ≤ j → run cfg 0 (.loop ic6l0) (cutsSt bx b t nl sz es rm xb xt xnl xsz xes xrm i k last term a c j) =
      some (.exit 0, ⟨ofList [(7, .bool true), (8, .ptr 1 0), (9, .int .u64 i), (10, .int .u64 k), (11, .ptr 2 0), (13, .int .u64 last), (14, .int .u64 term), (16, .int .u64 a), (17, .int .u64 c), (18, .int .u64 (last + 1)), (79, .bool false)], ⟨[bx, lgB b t nl sz es rm, lgB xb xt xnl xsz xes xrm], []⟩⟩) := by
  intro m
  induction m with
  | zero =>
    intro j hj hi
    have hj' : j = last + 1 := by omega
    subst hj'
    rw [run_loop']
    simp (maxSteps := 1000000) (disch := first | omega | (simp only [List.length_map, List.length_append, List.length_cons, List.length_nil]; omega) | (simp only [List.length_map, List.length_append, List.length_cons, List.length_nil]; done) | fail) [-List.map_take, -List.map_drop, ic6l0, go_sem, cutsSt]
  | succ m ih =>
    intro j hj hi
    obtain ⟨h1, h2⟩ := ht j hi (by omega)
    have e1 := fun h => term_eq b t nl sz es rm j hsz (by omega) (by omega) (by omega) h
    have e2 := fun h => term_eq xb xt xnl xsz xes xrm j xsz' (by omega) (by omega) (by omega) h
    rw [h1] at e2
    have := ih (j + 1) (by omega) (by omega)
    rw [run_loop']
    simp only [cutsSt, lgB] at this
    simp (maxSteps := 1000000) (disch := first | omega | (simp only [List.length_map, List.length_append, List.length_cons, List.length_nil]; omega) | (simp only [List.length_map, List.length_append, List.length_cons, List.length_nil]; done) | fail) [-List.map_take, -List.map_drop, ic6l0, go_sem, cutsSt, lgB, e1, e2, h2]
    simpa [ic6l0] using this
theorem RlogCuts_main (xs : List AV) (hs : ShL (lookT tab) 8 [22, 3, 44] xs) (hb : bulkL xs ≤ 1048576) : ∃ h', call cfg 6 xs AH.empty = some (.bool true, h') := by
  obtain ⟨x1, _, rfl, s1, x2, _, rfl, s2, x3, _, rfl, s3, rfl⟩ := hs
  obtain ⟨n1, l1, rfl, _⟩ := sh_ints s1
  obtain ⟨base, rfl, _⟩ := sh_int s2
  obtain ⟨a0, a1, rfl⟩ := sh_int2 s3
  refine pureK_bool (h := ⟨[], []⟩) (h1 := ⟨[], []⟩) ?_
  obtain ⟨m1, z1, c1, k1, k1', e1⟩ := made_eq l1 n1 false base
  obtain ⟨p1, p2, p3, p4⟩ := made_small l1 base
  have hok := made_ok l1 base
  obtain ⟨d, hd, hd2⟩ := bits_and a0 15 (by omega)
  obtain ⟨f, hf, hf2⟩ := bits_and a1 15 (by omega)
  have hd' : bits2 .and .i64 a0 15 = d := hd
  have hf' : bits2 .and .i64 a1 15 = f := hf
  generalize madeL l1 base = L at *
  obtain ⟨b, t, es⟩ := L
  dsimp only at *
  have el := fun h => last_eq b t m1 z1 es c1 k1 (by omega) h
  rw [p4] at el
  obtain ⟨xnl, xsz, xc, j1, j2, ec⟩ := cut_eq b t m1 z1 es c1 (b + d) k1 k1' (by omega) (by omega) (by omega)
  rw [empty_eq, cf_6 _ _ (by simp)]
  by_cases h1 : b + d ≤ b + es.length
  · have hcy := cut_yes ⟨b, t, es⟩ (b + d) (by dsimp only; omega) h1
    have hcl := last_cut ⟨b, t, es⟩ (b + d) (by dsimp only; omega) h1
    have hcok := cut_ok ⟨b, t, es⟩ (b + d) (by dsimp only; omega) h1 (by omega) hok
    have hct := fun j hj => term_cut ⟨b, t, es⟩ (b + d) j (by dsimp only; omega) hj h1
    have hcc := fun hj => cut_cut ⟨b, t, es⟩ (b + d) (b + f) (by dsimp only; omega) hj h1
    have hc2 : (cutOf ⟨b, t, es⟩ (b + d)).2 = true := by rw [hcy]
    have hcb : (cutOf ⟨b, t, es⟩ (b + d)).1.b = b + d := by rw [hcy]
    rw [hc2] at ec
    generalize (cutOf ⟨b, t, es⟩ (b + d)).1 = X at *
    obtain ⟨xb, xt, xes⟩ := X
    dsimp only at *
    subst hcb
    have elx := fun h => last_eq (b + d) xt xnl xsz xes xc j1 (by omega) h
    have hlx : lastI ⟨b + d, xt, xes⟩ = ((b + es.length : Nat) : Int) := by
      rw [← hcl.2]; unfold lastI
      split
      · rename_i h; simp at h; subst h; simp
      · rw [wrapU64] <;> push_cast <;> omega
    rw [hlx, hcl.1] at elx
    have eck := fun h => check_eq (b + d) xt xnl xsz xes xc j1 (by omega) h
    rw [hcok] at eck
    obtain ⟨ynl, ysz, yc, y1, y2, ey⟩ := cut_eq (b + d) xt xnl xsz xes xc (b + f) j1 j2 (by omega) (by omega) (by omega)
    have hloop := cuts_loop (some ⟨false, [.int .i64 a0, .int .i64 a1]⟩) b t m1 z1 es c1 (b + d) xt xnl xsz xes xc (b + d) (b + f) (b + es.length) (lastT ⟨b, t, es⟩) (b + es.length) (lastT ⟨b, t, es⟩) k1 (by omega) j1 (by omega) (by omega)
      (fun j hj hj2 => ⟨hct j hj, by rw [term_is _ _ (by dsimp only; omega)]; simpa using hj2⟩) (es.length + 1 - d) (b + d) (by omega) (by omega)
    simp [cutsSt, lgB] at hloop
    by_cases h2 : f < d
    · have hno : cutOf ⟨b + d, xt, xes⟩ (b + f) = (⟨b + d, xt, xes⟩, false) := cut_lo _ _ (by dsimp only; omega)
      rw [hno] at ey y1
      have hsame := fun h => refSame_eq (b + d) xt (b + d) xt xes xes ynl ysz yc xnl xsz xc y1 j1 (by omega) (by omega) h
      push_cast at el ec elx eck ey hsame
      simp (maxSteps := 1000000) (disch := first | omega | (simp only [List.length_map, List.length_append, List.length_cons, List.length_nil]; omega) | (simp only [List.length_map, List.length_append, List.length_cons, List.length_nil]; done) | fail) [-List.map_take, -List.map_drop, ic6, go_sem, awake_eq, e1, hd', hf', el, ec, elx, hloop, eck, ey, hsame]
    · obtain ⟨g1, g2⟩ := hcc (by omega)
      have hmx : (if d < f then (b : Int) + f else (b : Int) + d) = b + f := by split <;> omega
      obtain ⟨znl, zsz, zc, q1, q2, ez⟩ := cut_eq b t m1 z1 es c1 (b + f) k1 k1' (by omega) (by omega) (by omega)
      have hlen : ∀ l : Lg, ∀ k, (cutOf l k).1.es.length ≤ l.es.length := by
        intro l k; unfold cutOf; split <;> simp
      have hsame := fun h => refSame_eq (cutOf ⟨b + d, xt, xes⟩ (b + f)).1.b (cutOf ⟨b + d, xt, xes⟩ (b + f)).1.t (cutOf ⟨b, t, es⟩ (b + f)).1.b (cutOf ⟨b, t, es⟩ (b + f)).1.t _ _ ynl ysz yc znl zsz zc y1 q1
        (by have := hlen ⟨b + d, xt, xes⟩ (b + f); dsimp only at this; omega) (by have := hlen ⟨b, t, es⟩ (b + f); dsimp only at this; omega) h
      rw [g1] at ey
      cases hfin : (cutOf ⟨b, t, es⟩ (b + f)).2 with
      | false =>
        rw [hfin] at ey ez
        generalize (cutOf ⟨b + d, xt, xes⟩ (b + f)).1 = Y at *
        generalize (cutOf ⟨b, t, es⟩ (b + f)).1 = Z at *
        generalize decide (Y.b = Z.b ∧ Y.t = Z.t ∧ Y.es = Z.es) = q at hsame
        push_cast at el ec elx eck ey ez hsame
        cases q
        all_goals simp (maxSteps := 1000000) (disch := first | omega | (simp only [List.length_map, List.length_append, List.length_cons, List.length_nil]; omega) | (simp only [List.length_map, List.length_append, List.length_cons, List.length_nil]; done) | fail) [-List.map_take, -List.map_drop, ic6, go_sem, awake_eq, e1, hd', hf', el, ec, elx, hloop, eck, ey, ez, hsame, hmx]
      | true =>
        rw [hfin] at ey ez
        have g3 := g2 hfin
        rw [g3] at ey hsame y1
        generalize (cutOf ⟨b, t, es⟩ (b + f)).1 = Z at *
        push_cast at el ec elx eck ey ez hsame
        simp (maxSteps := 1000000) (disch := first | omega | (simp only [List.length_map, List.length_append, List.length_cons, List.length_nil]; omega) | (simp only [List.length_map, List.length_append, List.length_cons, List.length_nil]; done) | fail) [-List.map_take, -List.map_drop, ic6, go_sem, awake_eq, e1, hd', hf', el, ec, elx, hloop, eck, ey, ez, hsame, hmx]
  · have hno := cut_no ⟨b, t, es⟩ (b + d) (by dsimp only; omega)
    rw [hno] at ec j1 j2
    have hsame := fun h => refSame_eq b t b t es es xnl xsz xc m1 z1 c1 j1 k1 (by omega) (by omega) h
    push_cast at el ec hsame
    simp (maxSteps := 1000000) (disch := first | omega | (simp only [List.length_map, List.length_append, List.length_cons, List.length_nil]; omega) | (simp only [List.length_map, List.length_append, List.length_cons, List.length_nil]; done) | fail) [-List.map_take, -List.map_drop, ic6, go_sem, awake_eq, e1, hd', hf', el, ec, hsame]

end Go.Proofs.Ytghljcgkeeodaaa.Abs
