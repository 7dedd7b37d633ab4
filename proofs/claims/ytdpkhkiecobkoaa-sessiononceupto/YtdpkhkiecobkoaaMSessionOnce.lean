import Derived.Test.YtdpkhkiecobkoaaKOnce12
set_option linter.all false
set_option linter.unusedVariables false
set_option linter.unusedSimpArgs false
set_option maxRecDepth 10000
set_option maxHeartbeats 1000000
namespace Go.Proofs.Ytdpkhkiecobkoaa.Abs
open Go.Abs
attribute [local congr] ite_congr
def onceSt (nl0 : Bool) (xs : List (Int × Int)) (nl : Bool) (sz : Nat) (s : List Sn) (rm : Bool) (D : Nat → Int) (T : Nat → List UInt8) (i : Nat) (x : List (Nat × AV)) : St :=
  ⟨ofList ((0, .slice nl0 2 (xs.map aP) (rmB false)) :: (3, .bool true) :: (4, .slice nl sz (s.map aS) (rmB rm)) :: (5, .ptr 0 0) :: (6, .ptr 1 0) :: (7, .int .i64 i) :: x), ⟨[some ⟨false, arrF 68 (fD D)⟩, some ⟨false, arrF 68 (fT T)⟩], []⟩⟩
theorem once_loop (nl0 : Bool) (xs : List (Int × Int)) (hxs : xs.length < 1099511627776) : ∀ (r : List (Int × Int)) (i : Nat) (nl : Bool) (sz : Nat) (s : List Sn) (rm : Bool) (D : Nat → Int) (T : Nat → List UInt8) (x : List (Nat × AV)), xs.drop i = r → i ≤ xs.length → i ≤ 60 → (sz = 3 ∨ s.length = 0) → Onc s D T →
    ∃ nl' sz' s' rm' D' T' i' x', run cfg 0 (.loop ic4l0) (onceSt nl0 xs nl sz s rm D T i x) = some (.exit 0, onceSt nl0 xs nl' sz' s' rm' D' T' i' x') := by
  intro r
  induction r with
  | nil =>
    intro i nl sz s rm D T x h1 h2 h3 h4 h5
    have hi : i = xs.length := by have := drop_nil h1; omega
    subst hi
    by_cases h40 : xs.length < 60
    all_goals
      refine ⟨nl, sz, s, rm, D, T, xs.length, [(21, .bool false)], ?_⟩
      · rw [run_loop']
        simp (maxSteps := 1000000) (disch := first | omega | (simp only [List.length_map, List.length_append, List.length_cons, List.length_nil]; omega) | (simp only [List.length_map, List.length_append, List.length_cons, List.length_nil]; done) | fail) [-List.map_take, -List.map_drop, ic4l0, go_sem, onceSt, h40]
  | cons p r ih =>
    intro i nl sz s rm D T x h1 h2 h3 h4 h5
    obtain ⟨hlt, hp0, hd⟩ := drop_cons h1
    have hp : xs[i] = p := by rw [List.getElem?_eq_getElem hlt] at hp0; exact Option.some.inj hp0
    by_cases h40 : i < 60
    · obtain ⟨c1, c2, c3, c4⟩ := cli_ok p.1 3 (by omega)
      generalize hC : (p.1.tmod 3 + 3).tmod 3 = C0 at *
      obtain ⟨c, hc⟩ : ∃ c : Nat, 1 + C0 = c := ⟨(1 + C0).toNat, by omega⟩
      obtain ⟨k, hk, hk2⟩ := bits_and p.2 15 (by omega)
      have hk' : bits2 .and .i64 p.2 15 = k := hk
      obtain ⟨q, hq⟩ : ∃ q : Nat, 1 + (k : Int) = q := ⟨1 + k, by push_cast; rfl⟩
      have hok : callOk c q [] = true := by simp [callOk]; omega
      have hl3 := h5.len
      have ela := fun h => slast_eq nl sz s rm (c : Int) h4 (by omega) h
      have eas := fun h => ask_eq nl sz s rm (c : Int) q [] h4 (by omega) h
      have er := fun h => right_eq nl sz s rm h4 (by omega) h
      rw [h5.ok] at er
      have hrd : ((arrF 68 (fD D)).drop (c * 17 + q)).take 1 = [.int .i64 (D (c * 17 + q))] := arrF_read 68 (fD D) (c * 17 + q) (by omega)
      have hrt : ((arrF 68 (fT T)).drop (c * 17 + q)).take 1 = [.str (bs (T (c * 17 + q)))] := arrF_read 68 (fT T) (c * 17 + q) (by omega)
      rcases ask_as s h5.ok (c : Int) q [] hok with ⟨a1, a2⟩ | ⟨a1, y, a2, a3, a4⟩ | ⟨a1, a2⟩
      · rw [a2] at eas
        have hD := h5.new c q (by omega) (by omega) (by omega) a1
        rw [hD] at hrd
        have hst := h5.step c q [UInt8.ofNat i] (by omega) (by omega) (by omega) (by omega) (by simp) a1
        have dd : doneOf s c q [] [UInt8.ofNat i] = insOf s ⟨c, q, [UInt8.ofNat i]⟩ := by
          rcases done_as s h5.ok c q [] [UInt8.ofNat i] hok (by simp) with ⟨_, w⟩ | ⟨w, _⟩
          · exact w
          · omega
        obtain ⟨n1, z1, k1, g1, e1⟩ := done_eq nl sz s rm c q [] [UInt8.ofNat i] h4 (by omega)
        rw [dd] at e1 g1
        have hsD := arrD_set D 68 (c * 17 + q) 1 (by omega)
        have hsT := arrT_set T 68 (c * 17 + q) [UInt8.ofNat i] (by omega)
        have hrt2 : ((arrF 68 (fT fun k => if k = c * 17 + q then [UInt8.ofNat i] else T k)).drop (c * 17 + q)).take 1 = [.str (bs [UInt8.ofNat i])] := by
          rw [arrF_read 68 _ _ (by omega)]; simp [fT]
        generalize insOf s ⟨c, q, [UInt8.ofNat i]⟩ = s' at *
        generalize (fun k => if k = c * 17 + q then 1 else D k) = D' at *
        generalize (fun k => if k = c * 17 + q then [UInt8.ofNat i] else T k) = T' at *
        have er' := fun h => right_eq n1 z1 s' k1 g1 (by have := hst.len; omega) h
        rw [hst.ok] at er'
        have hl3' := hst.len
        obtain ⟨nl', sz', s2, rm', D2, T2, i', x', g⟩ := ih (i + 1) n1 z1 s' k1 D' T' [] hd (by omega) (by omega) g1 hst
        refine ⟨nl', sz', s2, rm', D2, T2, i', x', ?_⟩
        have key : run cfg 0 ic4l0 (onceSt nl0 xs nl sz s rm D T i x) = some (.normal, onceSt nl0 xs n1 z1 s' k1 D' T' (i + 1) []) := by
          simp (maxSteps := 1000000) (disch := first | omega | (simp only [List.length_map, List.length_append, List.length_cons, List.length_nil]; omega) | (simp only [List.length_map, List.length_append, List.length_cons, List.length_nil]; done) | fail) [-List.map_take, -List.map_drop, ic4l0, go_sem, onceSt, h40, hp, aP, hC, hc, hk', hq, ela, eas, hrd, hrt2, hsD, hsT, e1, er']
        rw [run_loop', key, loopK_normal, g]
      · rw [a4] at eas
        obtain ⟨b1, b2, b3⟩ := h5.old c y (by omega) (by omega) a2
        rw [a3] at b2 b3
        rw [b2] at hrd
        rw [b3] at hrt
        obtain ⟨nl', sz', s2, rm', D2, T2, i', x', g⟩ := ih (i + 1) nl sz s rm D T [] hd (by omega) (by omega) h4 h5
        refine ⟨nl', sz', s2, rm', D2, T2, i', x', ?_⟩
        have key : run cfg 0 ic4l0 (onceSt nl0 xs nl sz s rm D T i x) = some (.normal, onceSt nl0 xs nl sz s rm D T (i + 1) []) := by
          simp (maxSteps := 1000000) (disch := first | omega | (simp only [List.length_map, List.length_append, List.length_cons, List.length_nil]; omega) | (simp only [List.length_map, List.length_append, List.length_cons, List.length_nil]; done) | fail) [-List.map_take, -List.map_drop, ic4l0, go_sem, onceSt, h40, hp, aP, hC, hc, hk', hq, ela, eas, hrd, hrt, er, a1]
        rw [run_loop', key, loopK_normal, g]
      · rw [a2] at eas
        obtain ⟨nl', sz', s2, rm', D2, T2, i', x', g⟩ := ih (i + 1) nl sz s rm D T [] hd (by omega) (by omega) h4 h5
        refine ⟨nl', sz', s2, rm', D2, T2, i', x', ?_⟩
        have key : run cfg 0 ic4l0 (onceSt nl0 xs nl sz s rm D T i x) = some (.normal, onceSt nl0 xs nl sz s rm D T (i + 1) []) := by
          simp (maxSteps := 1000000) (disch := first | omega | (simp only [List.length_map, List.length_append, List.length_cons, List.length_nil]; omega) | (simp only [List.length_map, List.length_append, List.length_cons, List.length_nil]; done) | fail) [-List.map_take, -List.map_drop, ic4l0, go_sem, onceSt, h40, hp, aP, hC, hc, hk', hq, ela, eas, hrd, hrt, er]
        rw [run_loop', key, loopK_normal, g]
    · refine ⟨nl, sz, s, rm, D, T, i, [(21, .bool false)], ?_⟩
      rw [run_loop']
      simp (maxSteps := 1000000) (disch := first | omega | (simp only [List.length_map, List.length_append, List.length_cons, List.length_nil]; omega) | (simp only [List.length_map, List.length_append, List.length_cons, List.length_nil]; done) | fail) [-List.map_take, -List.map_drop, ic4l0, go_sem, onceSt, h40]

theorem SessionOnce_main (xs : List AV) (hs : ShL (lookT tab) 8 [38] xs) (hb : bulkL xs ≤ 1048576) : ∃ h', call cfg 4 xs AH.empty = some (.bool true, h') := by
  obtain ⟨x1, _, rfl, s1, rfl⟩ := hs
  obtain ⟨nl, l, rfl, _⟩ := sh_pairs s1
  have hl : l.length ≤ 1048576 := by
    have h1 := bulk_map (f := aP) (fun a => by simp [aP, AV.bulk, bulkL]) l
    simp only [bulkL, bulk_slice] at hb
    omega
  refine pureK_bool (h := ⟨[], []⟩) (h1 := ⟨[], []⟩) ?_
  obtain ⟨nl', sz', s', rm', D', T', i', x', g⟩ := once_loop nl l (by omega) l 0 true 0 [] true _ _ [] (by simp) (by omega) (by omega) (.inr rfl) Onc.nil
  rw [empty_eq, cf_4 _ _ (by simp)]
  simp [onceSt, arrD_nil, arrT_nil, show rmB true = Room.full from rfl] at g
  simp (maxSteps := 1000000) (disch := first | omega | (simp only [List.length_map, List.length_append, List.length_cons, List.length_nil]; omega) | (simp only [List.length_map, List.length_append, List.length_cons, List.length_nil]; done) | fail) [-List.map_take, -List.map_drop, ic4, go_sem, awake_eq, g]

end Go.Proofs.Ytdpkhkiecobkoaa.Abs
