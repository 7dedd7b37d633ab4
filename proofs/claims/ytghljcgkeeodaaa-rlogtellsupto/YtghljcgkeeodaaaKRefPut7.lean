import Derived.Test.YtghljcgkeeodaaaKPl7b
set_option linter.all false
set_option linter.unusedVariables false
set_option linter.unusedSimpArgs false
set_option maxRecDepth 10000
set_option maxHeartbeats 1000000
namespace Go.Proofs.Ytghljcgkeeodaaa.Abs
open Go.Abs
attribute [local congr] ite_congr
def rmX (o : Option Nat) (c : Bool) : Room := match o with | some t => .own t | none => rmB c
theorem rmX_strip (o : Option Nat) (c : Bool) : (rmX o c).strip = rmB (o.isNone && c) := by
  cases o with
  | some t => rfl
  | none => simp [rmX, go_sem]
theorem rmX_some (t : Nat) (c : Bool) : rmX (some t) c = .own t := rfl
attribute [go_sem] rmX_strip
def gotB : Option Blk := some ⟨false, [.int .u64 0, .int .u64 0, .slice true 0 [] .full, .int .u64 0, .bool false]⟩
def outB (b t : Nat) (nl : Bool) (sz : Nat) (es : List Ent) (o : Option Nat) (c : Bool) : Option Blk := some ⟨false, [.int .u64 b, .int .u64 t, .slice nl sz (es.map aE) (rmX o c)]⟩
def entB (e : Ent) : Option Blk := some ⟨false, [.int .u64 e.i, .int .u64 e.t, .str (bs e.d)]⟩
section
variable (pb : Option Blk) (b t : Nat) (nl : Bool) (sz : Nat) (es : List Ent) (rm : Bool) (index : Nat) (n2 : Bool) (s2 : Nat) (more : List Ent) (r2 : Bool) (onl : Bool) (osz : Nat) (os : List Ent) (o : Option Nat) (oc : Bool) (g : List (Option Blk)) (T : List Nat) (e : Ent) (i : Nat)
def rpIn (k : Nat) (acc : List Ent) : St :=
  ⟨ofList [(1, .int .u64 index), (3, .slice n2 s2 (more.map aE) (rmB r2)), (4, .ptr 0 0), (8, .ptr 1 0), (16, .ptr 3 0), (17, .int .i64 i), (18, .ptr (g.length + 4) 0), (21, .ptr (g.length + 5) 0), (22, .int .i64 k)],
    ⟨lgB b t nl sz es rm :: gotB :: pb :: outB b t onl osz os o oc :: (g ++ [entB e, some ⟨false, [.int .u64 b, .int .u64 t, ownAt T.length 3 (acc.map aE)]⟩]), tokAt T (acc.map aE)⟩⟩
theorem rp_in (hos : osz = 3 ∨ os.length = 0) (hl : os.length < 1048576) : ∀ (r : List Ent) (k : Nat) (acc : List Ent), os.drop k = r → k ≤ os.length → acc.length ≤ k →
    ∃ q, run cfg 0 (.loop ic28l2) (rpIn pb b t nl sz es rm index n2 s2 more r2 onl osz os o oc g T e i k acc) = some (.exit 4, ⟨ofList ([(1, .int .u64 index), (3, .slice n2 s2 (more.map aE) (rmB r2)), (4, .ptr 0 0), (8, .ptr 1 0), (16, .ptr 3 0), (17, .int .i64 i), (18, .ptr (g.length + 4) 0), (21, .ptr (g.length + 5) 0)] ++ q),
      ⟨lgB b t nl sz es rm :: gotB :: pb :: outB b t onl osz os o oc :: (g ++ [entB e, some ⟨false, [.int .u64 b, .int .u64 t, ownAt T.length 3 ((acc ++ r.filter fun x => decide (x.i < e.i)).map aE)]⟩]), tokAt T ((acc ++ r.filter fun x => decide (x.i < e.i)).map aE)⟩⟩) := by
  intro r
  induction r with
  | nil =>
    intro k acc hr hk ha
    have : k = os.length := by have := drop_nil hr; omega
    subst this
    refine ⟨[(22, .int .i64 os.length), (122, .bool false)], ?_⟩
    rw [run_loop']
    simp (maxSteps := 1000000) (disch := first | omega | (simp only [List.length_map, List.length_append, List.length_cons, List.length_nil]; omega) | (simp only [List.length_map, List.length_append, List.length_cons, List.length_nil]; done) | fail) [-List.map_take, -List.map_drop, ic28l2, go_sem, rpIn, outB]
  | cons x r ih =>
    intro k acc hr hk ha
    obtain ⟨h1, h2, h3⟩ := drop_cons hr
    obtain ⟨_, he⟩ := List.getElem?_eq_some_iff.1 h2
    have h4 : osz = 3 := by omega
    subst h4
    rw [run_loop']
    by_cases hc : x.i < e.i
    · obtain ⟨q, eq⟩ := ih (k + 1) (acc ++ [x]) h3 (by omega) (by simp; omega)
      refine ⟨q, ?_⟩
      have key : run cfg 0 ic28l2 (rpIn pb b t nl sz es rm index n2 s2 more r2 onl 3 os o oc g T e i k acc) = some (.normal, rpIn pb b t nl sz es rm index n2 s2 more r2 onl 3 os o oc g T e i (k + 1) (acc ++ [x])) := by
        simp (maxSteps := 1000000) (disch := first | omega | (simp only [List.length_map, List.length_append, List.length_cons, List.length_nil]; omega) | (simp only [List.length_map, List.length_append, List.length_cons, List.length_nil]; done) | fail) [-List.map_take, -List.map_drop, ic28l2, go_sem, rpIn, outB, entB, he, aE, hc, List.map_append]
      rw [key, loopK_normal, eq]
      simp [hc]
    · obtain ⟨q, eq⟩ := ih (k + 1) acc h3 (by omega) (by omega)
      refine ⟨q, ?_⟩
      have key : run cfg 0 ic28l2 (rpIn pb b t nl sz es rm index n2 s2 more r2 onl 3 os o oc g T e i k acc) = some (.normal, rpIn pb b t nl sz es rm index n2 s2 more r2 onl 3 os o oc g T e i (k + 1) acc) := by
        simp (maxSteps := 1000000) (disch := first | omega | (simp only [List.length_map, List.length_append, List.length_cons, List.length_nil]; omega) | (simp only [List.length_map, List.length_append, List.length_cons, List.length_nil]; done) | fail) [-List.map_take, -List.map_drop, ic28l2, go_sem, rpIn, outB, entB, he, aE, hc]
      rw [key, loopK_normal, eq]
      simp [hc]
end
theorem ownAt_snoc (t ssz : Nat) (l : List AV) (x : AV) : ownAt t ssz (l ++ [x]) = .slice false ssz (l ++ [x]) (.own t) := by cases l <;> rfl
theorem tokAt_snoc (T : List Nat) (l : List AV) (x : AV) : tokAt T (l ++ [x]) = T ++ [l.length + 1] := by cases l <;> simp [tokAt]
def refPutGo (out : Lg) : List Ent → Lg
  | [] => out
  | e :: r => if e.i ≤ out.b ∨ refTermOf out e.i = (e.t, true) then refPutGo out r else refPutGo ⟨out.b, out.t, (out.es.filter fun x => decide (x.i < e.i)) ++ [e]⟩ r
def rpSt (pb : Option Blk) (b t : Nat) (nl : Bool) (sz : Nat) (es : List Ent) (rm : Bool) (index : Nat) (n2 : Bool) (s2 : Nat) (more : List Ent) (r2 : Bool) (onl : Bool) (osz : Nat) (os : List Ent) (o : Option Nat) (oc : Bool) (g : List (Option Blk)) (T : List Nat) (i : Nat) : St :=
  ⟨ofList [(1, .int .u64 index), (3, .slice n2 s2 (more.map aE) (rmB r2)), (4, .ptr 0 0), (8, .ptr 1 0), (16, .ptr 3 0), (17, .int .i64 i)], ⟨lgB b t nl sz es rm :: gotB :: pb :: outB b t onl osz os o oc :: g, T⟩⟩
section
variable (pb : Option Blk) (b t : Nat) (nl : Bool) (sz : Nat) (es : List Ent) (rm : Bool) (index : Nat) (n2 : Bool) (s2 : Nat) (more : List Ent) (r2 : Bool)
theorem rp_loop (hm : s2 = 3 ∨ more.length = 0) (hml : more.length < 10000) : ∀ (r : List Ent) (i : Nat) (onl : Bool) (osz : Nat) (os : List Ent) (o : Option Nat) (oc : Bool) (g : List (Option Blk)) (T : List Nat),
    more.drop i = r → i ≤ more.length → (osz = 3 ∨ os.length = 0) → (onl = true → os.length = 0) → os.length + r.length < 1048576 →
    ∃ onl' osz' o' oc' g' T' q, (osz' = 3 ∨ (refPutGo ⟨b, t, os⟩ r).es.length = 0) ∧ (onl' = true → (refPutGo ⟨b, t, os⟩ r).es.length = 0) ∧ (refPutGo ⟨b, t, os⟩ r).b = b ∧ (refPutGo ⟨b, t, os⟩ r).t = t ∧
      run cfg 0 (.loop ic28l1) (rpSt pb b t nl sz es rm index n2 s2 more r2 onl osz os o oc g T i) =
        some (.exit 2, ⟨ofList ([(1, .int .u64 index), (3, .slice n2 s2 (more.map aE) (rmB r2)), (4, .ptr 0 0), (8, .ptr 1 0), (16, .ptr 3 0)] ++ q), ⟨lgB b t nl sz es rm :: gotB :: pb :: outB b t onl' osz' (refPutGo ⟨b, t, os⟩ r).es o' oc' :: g', T'⟩⟩) := by
  intro r
  induction r with
  | nil =>
    intro i onl osz os o oc g T hr hi h1 h2 h3
    have : i = more.length := by have := drop_nil hr; omega
    subst this
    refine ⟨onl, osz, o, oc, g, T, [(17, .int .i64 more.length), (87, .bool false)], h1, h2, rfl, rfl, ?_⟩
    rw [run_loop']
    simp (maxSteps := 1000000) (disch := first | omega | (simp only [List.length_map, List.length_append, List.length_cons, List.length_nil]; omega) | (simp only [List.length_map, List.length_append, List.length_cons, List.length_nil]; done) | fail) [-List.map_take, -List.map_drop, ic28l1, go_sem, rpSt, refPutGo]
  | cons e r ih =>
    intro i onl osz os o oc g T hr hi h1 h2 h3
    obtain ⟨k1, k2, k3⟩ := drop_cons hr
    obtain ⟨_, he⟩ := List.getElem?_eq_some_iff.1 k2
    have h4 : s2 = 3 := by omega
    subst h4
    have et := fun c h => refTerm_eq b t onl osz os c e.i h1 (by omega) h
    rw [run_loop']
    by_cases hc : e.i ≤ b ∨ refTermOf ⟨b, t, os⟩ e.i = (e.t, true)
    · have ep : refPutGo ⟨b, t, os⟩ (e :: r) = refPutGo ⟨b, t, os⟩ r := by simp only [refPutGo]; rw [if_pos hc]
      rw [ep]
      obtain ⟨onl', osz', o', oc', g', T', q, j1, j2, j3, j4, eq⟩ := ih (i + 1) onl osz os o oc (g ++ [entB e]) T k3 (by omega) h1 h2 (by simp at h3; omega)
      refine ⟨onl', osz', o', oc', g', T', q, j1, j2, j3, j4, ?_⟩
      have key : run cfg 0 ic28l1 (rpSt pb b t nl sz es rm index n2 3 more r2 onl osz os o oc g T i) = some (.normal, rpSt pb b t nl sz es rm index n2 3 more r2 onl osz os o oc (g ++ [entB e]) T (i + 1)) := by
        by_cases hc1 : e.i ≤ b
        · simp (maxSteps := 1000000) (disch := first | omega | (simp only [List.length_map, List.length_append, List.length_cons, List.length_nil]; omega) | (simp only [List.length_map, List.length_append, List.length_cons, List.length_nil]; done) | fail) [-List.map_take, -List.map_drop, ic28l1, go_sem, rpSt, lgB, outB, entB, he, aE, hc1]
        · have hc2 := hc.resolve_left hc1
          rw [hc2] at et
          simp (maxSteps := 1000000) (disch := first | omega | (simp only [List.length_map, List.length_append, List.length_cons, List.length_nil]; omega) | (simp only [List.length_map, List.length_append, List.length_cons, List.length_nil]; done) | fail) [-List.map_take, -List.map_drop, ic28l1, go_sem, rpSt, lgB, outB, entB, he, aE, hc1, et]
      rw [key, loopK_normal, eq]
    · have ep : refPutGo ⟨b, t, os⟩ (e :: r) = refPutGo ⟨b, t, (os.filter fun x => decide (x.i < e.i)) ++ [e]⟩ r := by simp only [refPutGo]; rw [if_neg hc]
      rw [ep]
      have hfl : (os.filter fun x => decide (x.i < e.i)).length ≤ os.length := List.length_filter_le _ _
      obtain ⟨onl', osz', o', oc', g', T', q, j1, j2, j3, j4, eq⟩ := ih (i + 1) false 3 ((os.filter fun x => decide (x.i < e.i)) ++ [e]) (some T.length) false
        (g ++ [entB e, some ⟨false, [.int .u64 b, .int .u64 t, .slice false 3 (((os.filter fun x => decide (x.i < e.i)) ++ [e]).map aE) (.own T.length)]⟩]) (T ++ [(os.filter fun x => decide (x.i < e.i)).length + 1]) k3 (by omega) (.inl rfl) (fun h => by cases h) (by simp at h3 ⊢; omega)
      refine ⟨onl', osz', o', oc', g', T', q, j1, j2, j3, j4, ?_⟩
      have hc1 : ¬ e.i ≤ b := fun h => hc (.inl h)
      have hne : refTermOf ⟨b, t, os⟩ e.i ≠ (e.t, true) := fun h => hc (.inr h)
      obtain ⟨q2, ein⟩ := rp_in pb b t nl sz es rm index n2 3 more r2 onl osz os o oc g T e i h1 (by omega) os 0 [] (by simp) (by omega) (by simp)
      generalize hF : (os.filter fun x => decide (x.i < e.i)) = F at *
      simp only [List.nil_append] at ein
      simp [rpIn, lgB, outB, entB, gotB, ownAt_nil, tokAt_nil] at ein
      have key : run cfg 0 ic28l1 (rpSt pb b t nl sz es rm index n2 3 more r2 onl osz os o oc g T i) = some (.normal, rpSt pb b t nl sz es rm index n2 3 more r2 false 3 (F ++ [e]) (some T.length) false
          (g ++ [entB e, some ⟨false, [.int .u64 b, .int .u64 t, .slice false 3 ((F ++ [e]).map aE) (.own T.length)]⟩]) (T ++ [F.length + 1]) (i + 1)) := by
        generalize hrt : refTermOf ⟨b, t, os⟩ e.i = rt at *
        obtain ⟨v, w⟩ := rt
        have hs := ownAt_snoc T.length 3 (F.map aE) (aE e)
        have htk := tokAt_snoc T (F.map aE) (aE e)
        have h3 : g.length + 4 = g.length + 1 + 1 + 1 + 1 := rfl
        have h4 : g.length + 5 = g.length + 1 + 1 + 1 + 1 + 1 := rfl
        simp only [h3, h4] at ein
        simp only [aE] at hs htk
        cases w with
        | false =>
          simp (maxSteps := 1000000) (disch := first | omega | (simp only [List.length_map, List.length_append, List.length_cons, List.length_nil]; omega) | (simp only [List.length_map, List.length_append, List.length_cons, List.length_nil]; done) | fail) [-List.map_take, -List.map_drop, ic28l1, go_sem, rpSt, lgB, outB, entB, gotB, he, aE, hc1, et, ein, rmX_some, hs, htk]
        | true =>
          have hv : ¬ v = e.t := fun h => hne (by rw [h])
          simp (maxSteps := 1000000) (disch := first | omega | (simp only [List.length_map, List.length_append, List.length_cons, List.length_nil]; omega) | (simp only [List.length_map, List.length_append, List.length_cons, List.length_nil]; done) | fail) [-List.map_take, -List.map_drop, ic28l1, go_sem, rpSt, lgB, outB, entB, gotB, he, aE, hc1, et, ein, rmX_some, hs, htk, hv]
      rw [key, loopK_normal, eq]
end

end Go.Proofs.Ytghljcgkeeodaaa.Abs
