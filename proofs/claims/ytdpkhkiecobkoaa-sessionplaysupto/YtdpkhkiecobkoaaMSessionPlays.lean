import Derived.Test.YtdpkhkiecobkoaaKRef12e
import Derived.Test.YtdpkhkiecobkoaaKAwake12
set_option linter.all false
set_option linter.unusedVariables false
set_option linter.unusedSimpArgs false
set_option maxRecDepth 10000
set_option maxHeartbeats 1000000
namespace Go.Proofs.Ytdpkhkiecobkoaa.Abs
open Go.Abs
attribute [local congr] ite_congr
theorem done_len_le (l : List Sn) (c : Int) (s : Nat) (d r : List UInt8) : (doneOf l c s d r).length ≤ l.length + 1 := by
  by_cases hn : (askOf l c s d).2 ≠ 0 ∨ r.length > 40
  · unfold doneOf; rw [if_pos hn]; omega
  · have h1 : (askOf l c s d).2 = 0 := Classical.byContradiction fun q => hn (.inl q)
    have hr : rightGo 0 l = true := by
      cases hr : rightGo 0 l with
      | true => rfl
      | false => unfold askOf at h1; rw [if_neg (by simp [hr])] at h1; cases h1
    unfold doneOf
    rw [if_neg hn, len_ins _ l (right_srt l 0 hr).1]
    split <;> omega
def plSt (nl0 : Bool) (xs : List Sn) (reply : List UInt8) (nlR : Bool) (szR : Nat) (R : List Sn) (rmR : Bool) (n1 : Bool) (z1 : Nat) (r1 : Bool) (n2 : Bool) (z2 : Nat) (r2 : Bool) (S : List Sn) (i : Nat) (x : List (Nat × AV)) : St :=
  ⟨ofList ((1, .slice nl0 3 (xs.map aS) (rmB false)) :: (2, .str (bs reply)) :: (7, .bool true) :: (8, .slice nlR szR (R.map aS) (rmB rmR)) :: (9, .slice n1 z1 (S.map aS) (rmB r1)) :: (10, .slice n2 z2 (S.map aS) (rmB r2)) :: (11, .int .i64 i) :: x), ⟨[], []⟩⟩
theorem pl_loop (nl0 : Bool) (xs : List Sn) (reply : List UInt8) (nlR : Bool) (szR : Nat) (R : List Sn) (rmR : Bool) (hxs : xs.length < 1099511627776) (hzR : szR = 3 ∨ R.length = 0) (hlR : R.length ≤ 17) :
    ∀ (r : List Sn) (i : Nat) (n1 : Bool) (z1 : Nat) (r1 : Bool) (n2 : Bool) (z2 : Nat) (r2 : Bool) (S : List Sn) (x : List (Nat × AV)), xs.drop i = r → i ≤ xs.length → i ≤ 30 → (z1 = 3 ∨ S.length = 0) → (z2 = 3 ∨ S.length = 0) → S.length ≤ i →
    ∃ n1' z1' r1' n2' z2' r2' S' i' x', run cfg 0 (.loop ic3l0) (plSt nl0 xs reply nlR szR R rmR n1 z1 r1 n2 z2 r2 S i x) = some (.exit 0, plSt nl0 xs reply nlR szR R rmR n1' z1' r1' n2' z2' r2' S' i' x') := by
  intro r
  induction r with
  | nil =>
    intro i n1 z1 r1 n2 z2 r2 S x h1 h2 h3 h4 h5 h6
    have hi : i = xs.length := by have := drop_nil h1; omega
    subst hi
    by_cases h40 : xs.length < 30
    all_goals
      refine ⟨n1, z1, r1, n2, z2, r2, S, xs.length, [(33, .bool false)], ?_⟩
      rw [run_loop']
      simp (maxSteps := 1000000) (disch := first | omega | (simp only [List.length_map, List.length_append, List.length_cons, List.length_nil]; omega) | (simp only [List.length_map, List.length_append, List.length_cons, List.length_nil]; done) | fail) [-List.map_take, -List.map_drop, ic3l0, go_sem, plSt, h40]
  | cons y r ih =>
    intro i n1 z1 r1 n2 z2 r2 S x h1 h2 h3 h4 h5 h6
    obtain ⟨hlt, hp0, hd⟩ := drop_cons h1
    obtain ⟨_, hp⟩ := List.getElem?_eq_some_iff.1 hp0
    by_cases h40 : i < 30
    · have s52 := fun h => short_eq y.r 52 (by omega) h
      have s42 := fun h => short_eq reply 42 (by omega) h
      push_cast at s52 s42
      generalize y.r.take 52 = d at *
      generalize reply.take 42 = rp at *
      have a1 := fun h => ask_eq nlR szR R rmR y.c y.s d hzR (by omega) h
      have a2 := fun h => rask_eq nlR szR R rmR y.c y.s d hzR (by omega) h
      generalize (askOf R y.c y.s d).1 = A1 at *
      generalize (askOf R y.c y.s d).2 = A2 at *
      obtain ⟨m1, w1, k1, g1, d1⟩ := done_eq nlR szR R rmR y.c y.s d rp hzR (by omega)
      obtain ⟨m2, w2, k2, g2, d2⟩ := rdone_eq nlR szR R rmR y.c y.s d rp hzR (by omega)
      have hdl := done_len_le R y.c y.s d rp
      generalize doneOf R y.c y.s d rp = DR at *
      have sm := fun h => rsame_eq DR DR m1 w1 k1 m2 w2 k2 g1 g2 (by omega) (by omega) h
      have l1 := fun h => slast_eq nlR szR R rmR y.c hzR (by omega) h
      have l2 := fun h => rlast_eq nlR szR R rmR y.c hzR (by omega) h
      generalize lastOf R y.c = LR at *
      rw [decide_eq_true rfl] at sm
      obtain ⟨c1, c2, c3, c4⟩ := cli_ok y.c 5 (by omega)
      generalize hC : (y.c.tmod 5 + 5).tmod 5 = C0 at *
      obtain ⟨k, hk, hk2⟩ := bits_and i 7 (by omega)
      have hk' : bits2 .and .i64 i 7 = k := hk
      obtain ⟨m, hm, hm2⟩ := bits_andU y.s 7 (by omega)
      have hm' : bits2 .and .u64 y.s 7 = m := hm
      obtain ⟨q, hq⟩ : ∃ q : Nat, 1 + (m : Int) = q := ⟨1 + m, by push_cast; rfl⟩
      obtain ⟨cc, qq, hcc⟩ : ∃ (cc : Int) (qq : Nat), (k = 7 ∧ cc = y.c ∧ qq = y.s) ∨ (k ≠ 7 ∧ cc = 1 + C0 ∧ qq = q) := by
        by_cases h : k = 7
        · exact ⟨y.c, y.s, .inl ⟨h, rfl, rfl⟩⟩
        · exact ⟨1 + C0, q, .inr ⟨h, rfl, rfl⟩⟩
      have b1 := fun h => ask_eq n1 z1 S r1 cc qq d h4 (by omega) h
      have b2 := fun h => rask_eq n2 z2 S r2 cc qq d h5 (by omega) h
      obtain ⟨m3, w3, k3, g3, d3⟩ := done_eq n1 z1 S r1 cc qq d [UInt8.ofNat (97 + (i : Int)).toNat] h4 (by omega)
      obtain ⟨m4, w4, k4, g4, d4⟩ := rdone_eq n2 z2 S r2 cc qq d [UInt8.ofNat (97 + (i : Int)).toNat] h5 (by omega)
      have hdl2 := done_len_le S cc qq d [UInt8.ofNat (97 + (i : Int)).toNat]
      generalize (askOf S cc qq d).1 = B1 at *
      generalize (askOf S cc qq d).2 = B2 at *
      generalize doneOf S cc qq d [UInt8.ofNat (97 + (i : Int)).toNat] = S' at *
      have sm2 := fun h => rsame_eq S' S' m3 w3 k3 m4 w4 k4 g3 g4 (by omega) (by omega) h
      rw [decide_eq_true rfl] at sm2
      have l3 := fun h => slast_eq m3 w3 S' k3 cc g3 (by omega) h
      have l4 := fun h => rlast_eq m4 w4 S' k4 cc g4 (by omega) h
      generalize lastOf S' cc = LS at *
      obtain ⟨n1', z1', r1', n2', z2', r2', S2, i', x', g⟩ := ih (i + 1) m3 w3 k3 m4 w4 k4 S' [] hd (by omega) (by omega) g3 g4 (by omega)
      refine ⟨n1', z1', r1', n2', z2', r2', S2, i', x', ?_⟩
      have key : run cfg 0 ic3l0 (plSt nl0 xs reply nlR szR R rmR n1 z1 r1 n2 z2 r2 S i x) = some (.normal, plSt nl0 xs reply nlR szR R rmR m3 w3 k3 m4 w4 k4 S' (i + 1) []) := by
        rcases hcc with ⟨q1, q2, q3⟩ | ⟨q1, q2, q3⟩
        · subst q1; subst q2; subst q3
          simp (maxSteps := 1000000) (disch := first | omega | (simp only [List.length_map, List.length_append, List.length_cons, List.length_nil]; omega) | (simp only [List.length_map, List.length_append, List.length_cons, List.length_nil]; done) | fail) [-List.map_take, -List.map_drop, ic3l0, go_sem, plSt, h40, hp, aS, s52, s42, a1, a2, d1, d2, sm, l1, l2, hk', b1, b2, d3, d4, sm2, l3, l4]
        · subst q2; subst q3
          simp (maxSteps := 1000000) (disch := first | omega | (simp only [List.length_map, List.length_append, List.length_cons, List.length_nil]; omega) | (simp only [List.length_map, List.length_append, List.length_cons, List.length_nil]; done) | fail) [-List.map_take, -List.map_drop, ic3l0, go_sem, plSt, h40, hp, aS, s52, s42, a1, a2, d1, d2, sm, l1, l2, hk', q1, hC, hm', hq, b1, b2, d3, d4, sm2, l3, l4]
      rw [run_loop', key, loopK_normal, g]
    · refine ⟨n1, z1, r1, n2, z2, r2, S, i, [(33, .bool false)], ?_⟩
      rw [run_loop']
      simp (maxSteps := 1000000) (disch := first | omega | (simp only [List.length_map, List.length_append, List.length_cons, List.length_nil]; omega) | (simp only [List.length_map, List.length_append, List.length_cons, List.length_nil]; done) | fail) [-List.map_take, -List.map_drop, ic3l0, go_sem, plSt, h40]
theorem sh_seens {n : Nat} {x : AV} (h : ShE (aggOf (lookT tab) 22) (Sh (lookT tab) (n + 3) 22) x) : ∃ (nl : Bool) (l : List Sn), x = .slice nl 3 (l.map aS) (rmB false) := by
  obtain ⟨nl, es, h1, _, h3⟩ := sh_slice ty_22 ty_57 (she_one h)
  obtain ⟨l, rfl, _⟩ := list_of (f := aS) (q := fun _ => True) (fun y hy => by
    obtain ⟨cs, rfl, k1⟩ := she_agg (h3 y hy)
    obtain ⟨_, _, rfl, h2, _, _, rfl, h3, _, _, rfl, h4, rfl⟩ := sh_struct ty_57 k1
    obtain ⟨c, rfl, _⟩ := sh_i64 ty_3 h2
    obtain ⟨s, rfl, _⟩ := sh_u64 ty_26 h3
    obtain ⟨d, rfl⟩ := sh_str ty_9 h4
    exact ⟨⟨c, s, d⟩, rfl, trivial⟩)
  exact ⟨nl, l, by simpa [rmB] using h1⟩
theorem sh_calls {n : Nat} {x : AV} (h : ShE (aggOf (lookT tab) 23) (Sh (lookT tab) (n + 3) 23) x) : ∃ (nl : Bool) (l : List Sn), x = .slice nl 3 (l.map aS) (rmB false) := by
  obtain ⟨nl, es, h1, _, h3⟩ := sh_slice ty_23 ty_28 (she_one h)
  obtain ⟨l, rfl, _⟩ := list_of (f := aS) (q := fun _ => True) (fun y hy => by
    obtain ⟨cs, rfl, k1⟩ := she_agg (h3 y hy)
    obtain ⟨_, _, rfl, h2, _, _, rfl, h3, _, _, rfl, h4, rfl⟩ := sh_struct ty_28 k1
    obtain ⟨c, rfl, _⟩ := sh_i64 ty_3 h2
    obtain ⟨s, rfl, _⟩ := sh_u64 ty_26 h3
    obtain ⟨d, rfl⟩ := sh_str ty_9 h4
    exact ⟨⟨c, s, d⟩, rfl, trivial⟩)
  exact ⟨nl, l, by simpa [rmB] using h1⟩
theorem SessionPlays_main (xs : List AV) (hs : ShL (lookT tab) 8 [22, 23, 9] xs) (hb : bulkL xs ≤ 1048576) : ∃ h', call cfg 3 xs AH.empty = some (.bool true, h') := by
  obtain ⟨x1, _, rfl, s1, x2, _, rfl, s2, x3, _, rfl, s3, rfl⟩ := hs
  obtain ⟨nla, a, rfl⟩ := sh_seens s1
  obtain ⟨nl, l, rfl⟩ := sh_calls s2
  obtain ⟨rep, hrep⟩ := sh_str ty_9 (she_one s3)
  obtain rfl : x3 = .str (bs rep) := by simpa using hrep
  have hla := bulk_map (f := aS) (fun a => by simp [aS, AV.bulk, bulkL]) a
  have hll := bulk_map (f := aS) (fun a => by simp [aS, AV.bulk, bulkL]) l
  have hla2 : a.length < 1048576 ∧ l.length < 1048576 := by
    simp only [bulkL, bulk_slice, bulk_str] at hb
    omega
  refine pureK_bool (h := ⟨[], []⟩) (h1 := ⟨[], []⟩) ?_
  obtain ⟨nf, zf, kf, gf, ef⟩ := few_eq nla 3 a false (.inl rfl) (by omega)
  have hlf : ((a.take 17).map cutS).length ≤ 17 := by simp; omega
  generalize (a.take 17).map cutS = R at *
  obtain ⟨n1', z1', r1', n2', z2', r2', S2, i', x', g⟩ := pl_loop nl l rep nf zf R kf (by omega) gf hlf l 0 true 0 true true 0 true [] [] (by simp) (by omega) (by omega) (.inr rfl) (.inr rfl) (by simp)
  rw [empty_eq, cf_3 _ _ (by simp)]
  simp [plSt, show rmB true = Room.full from rfl] at g
  simp (maxSteps := 1000000) (disch := first | omega | (simp only [List.length_map, List.length_append, List.length_cons, List.length_nil]; omega) | (simp only [List.length_map, List.length_append, List.length_cons, List.length_nil]; done) | fail) [-List.map_take, -List.map_drop, ic3, go_sem, awake_eq, ef, g]

end Go.Proofs.Ytdpkhkiecobkoaa.Abs
