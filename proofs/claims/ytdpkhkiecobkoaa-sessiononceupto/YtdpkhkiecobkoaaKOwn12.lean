import Derived.Test.YtdpkhkiecobkoaaKSn12
set_option linter.all false
set_option linter.unusedVariables false
set_option linter.unusedSimpArgs false
set_option maxRecDepth 10000
set_option maxHeartbeats 1000000
namespace Go.Proofs.Ytdpkhkiecobkoaa.Abs
open Go.Abs
attribute [local congr] ite_congr
def aP (p : Int × Int) : AV := .agg [.int .i64 p.1, .int .i64 p.2]
theorem aP_cells (p : Int × Int) : (aP p).cells = [.int .i64 p.1, .int .i64 p.2] := rfl
theorem aP_strip (p : Int × Int) : (aP p).strip = aP p := by simp [aP, go_sem]
theorem aP_refs (nb nt : Nat) (p : Int × Int) : (aP p).refs nb nt = true := by simp [aP, go_sem]
theorem aPs_strip (l : List (Int × Int)) : stripAll (l.map aP) = l.map aP := strip_map aP_strip l
theorem aPs_refs (nb nt : Nat) (l : List (Int × Int)) : refsAll nb nt (l.map aP) = true := refs_map (aP_refs nb nt) l
attribute [go_sem] aP_cells aP_strip aP_refs aPs_strip aPs_refs
theorem sh_pairs {n : Nat} {x : AV} (h : ShE (aggOf (lookT tab) 38) (Sh (lookT tab) (n + 3) 38) x) : ∃ (nl : Bool) (l : List (Int × Int)), x = .slice nl 2 (l.map aP) (rmB false) ∧ (nl = true → l.length = 0) := by
  obtain ⟨nl, es, h1, h2, h3⟩ := sh_slice ty_38 ty_43 (she_one h)
  obtain ⟨l, rfl, _⟩ := list_of (f := aP) (q := fun _ => True) (fun y hy => by
    obtain ⟨cs, rfl, k1⟩ := she_agg (h3 y hy)
    obtain ⟨a, _, rfl, ka, b, _, rfl, kb, rfl⟩ := sh_array ty_43 k1
    obtain ⟨m, rfl, _⟩ := sh_i64 ty_3 ka
    obtain ⟨k, rfl, _⟩ := sh_i64 ty_3 kb
    exact ⟨(m, k), rfl, trivial⟩)
  refine ⟨nl, l, by simpa [rmB] using h1, fun q => ?_⟩
  have := h2 q; simpa using this
def lastV (s : List Sn) : List AV := (List.range 16).map fun k => AV.int .u64 (lastOf s ((k : Nat) : Int))
theorem lastV_len (s : List Sn) : (lastV s).length = 16 := by simp [lastV]
theorem lastV_read (s : List Sn) (c : Nat) (h : c < 16) : ((lastV s).drop c).take 1 = [.int .u64 (lastOf s c)] := by
  rw [List.take_one, List.head?_drop, List.getElem?_eq_getElem (by rw [lastV_len]; exact h)]
  simp [lastV]
theorem lastV_set (s s' : List Sn) (c x : Nat) (h : c < 16) (hx : ∀ k : Nat, k < 16 → lastOf s' k = if k = c then x else lastOf s k) : (lastV s).take c ++ (AV.int .u64 x :: (lastV s).drop (c + 1)) = lastV s' := by
  have hset := List.set_eq_take_append_cons_drop (l := lastV s) (i := c) (a := AV.int .u64 x)
  rw [if_pos (by rw [lastV_len]; exact h)] at hset
  rw [← hset]
  apply List.ext_getElem
  · simp [lastV]
  · intro i h1 h2
    rw [List.getElem_set]
    simp only [lastV, List.getElem_map, List.getElem_range]
    rw [hx i (by rw [lastV_len] at h2; exact h2)]
    by_cases q : c = i
    · rw [if_pos q, if_pos q.symm]
    · rw [if_neg q, if_neg (fun r => q r.symm)]
theorem lastV_nil : lastV [] = [AV.int .u64 0, AV.int .u64 0, AV.int .u64 0, AV.int .u64 0, AV.int .u64 0, AV.int .u64 0, AV.int .u64 0, AV.int .u64 0, AV.int .u64 0, AV.int .u64 0, AV.int .u64 0, AV.int .u64 0, AV.int .u64 0, AV.int .u64 0, AV.int .u64 0, AV.int .u64 0] := by
  simp [lastV, lastOf, got, rightGo]; rfl
theorem lastV_scalar (s : List Sn) : (lastV s).all AV.scalar = true := by
  simp [lastV]; intros; rfl
theorem lastV_strip (s : List Sn) : stripAll (lastV s) = lastV s := by
  unfold lastV; exact strip_map (f := fun k : Nat => AV.int .u64 (lastOf s ((k : Nat) : Int))) (fun _ => by simp [go_sem]) _
theorem lastV_refs (nb nt : Nat) (s : List Sn) : refsAll nb nt (lastV s) = true := by
  unfold lastV; exact refs_map (f := fun k : Nat => AV.int .u64 (lastOf s ((k : Nat) : Int))) (fun _ => by simp [go_sem]) _
theorem lastV_refs_take (nb nt c : Nat) (s : List Sn) : refsAll nb nt ((lastV s).take c) = true := by
  unfold lastV; rw [← List.map_take]; exact refs_map (f := fun k : Nat => AV.int .u64 (lastOf s ((k : Nat) : Int))) (fun _ => by simp [go_sem]) _
theorem lastV_refs_drop (nb nt c : Nat) (s : List Sn) : refsAll nb nt ((lastV s).drop c) = true := by
  unfold lastV; rw [← List.map_drop]; exact refs_map (f := fun k : Nat => AV.int .u64 (lastOf s ((k : Nat) : Int))) (fun _ => by simp [go_sem]) _
attribute [go_sem] lastV_len lastV_strip lastV_refs lastV_refs_take lastV_refs_drop
def ownSt (nl0 : Bool) (xs : List (Int × Int)) (nl : Bool) (sz : Nat) (s : List Sn) (rm : Bool) (n i : Nat) (x : List (Nat × AV)) (B : List (Option Blk)) : St :=
  ⟨ofList ((0, .slice nl0 2 (xs.map aP) (rmB false)) :: (3, .bool true) :: (4, .slice nl sz (s.map aS) (rmB rm)) :: (5, .ptr 0 0) :: (6, .int .i64 n) :: (7, .int .i64 i) :: x), ⟨some ⟨false, lastV s⟩ :: B, []⟩⟩
theorem own_in (nl0 : Bool) (xs : List (Int × Int)) (nl : Bool) (sz : Nat) (s : List Sn) (rm : Bool) (n i : Nat) (hsz : sz = 3 ∨ s.length = 0) (hl : s.length < 1048576) :
    ∀ (m j : Nat) (x : List (Nat × AV)), j + m = 16 → run cfg 0 (.loop ic5l1) (ownSt nl0 xs nl sz s rm n i ((9, .int .i64 j) :: x) []) = some (.exit 2, ownSt nl0 xs nl sz s rm n i [(9, .int .i64 16), (69, .bool false)] []) := by
  intro m
  induction m with
  | zero =>
    intro j x hj
    have : j = 16 := by omega
    subst this
    rw [run_loop']
    simp (maxSteps := 1000000) (disch := first | omega | (simp only [List.length_map, List.length_append, List.length_cons, List.length_nil]; omega) | (simp only [List.length_map, List.length_append, List.length_cons, List.length_nil]; done) | fail) [-List.map_take, -List.map_drop, ic5l1, go_sem, ownSt]
  | succ m ih =>
    intro j x hj
    have el := fun h => slast_eq nl sz s rm (j : Int) hsz hl h
    have er := lastV_read s j (by omega)
    have key : run cfg 0 ic5l1 (ownSt nl0 xs nl sz s rm n i ((9, .int .i64 j) :: x) []) = some (.normal, ownSt nl0 xs nl sz s rm n i ((9, .int .i64 ((j + 1 : Nat) : Int)) :: []) []) := by
      simp (maxSteps := 1000000) (disch := first | omega | (simp only [List.length_map, List.length_append, List.length_cons, List.length_nil]; omega) | (simp only [List.length_map, List.length_append, List.length_cons, List.length_nil]; done) | fail) [-List.map_take, -List.map_drop, ic5l1, go_sem, ownSt, el, er]
    rw [run_loop', key, loopK_normal, ih (j + 1) [] (by omega)]

end Go.Proofs.Ytdpkhkiecobkoaa.Abs
