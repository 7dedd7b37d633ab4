import Derived.Test.YtdpkhkiecobkoaaKOwn12
set_option linter.all false
set_option linter.unusedVariables false
set_option linter.unusedSimpArgs false
set_option maxRecDepth 10000
set_option maxHeartbeats 1000000
namespace Go.Proofs.Ytdpkhkiecobkoaa.Abs
open Go.Abs
attribute [local congr] ite_congr
def arrF (n : Nat) (f : Nat → AV) : List AV := (List.range n).map f
theorem arrF_len (n : Nat) (f : Nat → AV) : (arrF n f).length = n := by simp [arrF]
theorem arrF_read (n : Nat) (f : Nat → AV) (c : Nat) (h : c < n) : ((arrF n f).drop c).take 1 = [f c] := by
  rw [List.take_one, List.head?_drop, List.getElem?_eq_getElem (by rw [arrF_len]; exact h)]
  simp [arrF]
theorem arrF_set (n : Nat) (f : Nat → AV) (c : Nat) (x : AV) (h : c < n) : (arrF n f).take c ++ (x :: (arrF n f).drop (c + 1)) = arrF n fun k => if k = c then x else f k := by
  have hset := List.set_eq_take_append_cons_drop (l := arrF n f) (i := c) (a := x)
  rw [if_pos (by rw [arrF_len]; exact h)] at hset
  rw [← hset]
  apply List.ext_getElem
  · simp [arrF]
  · intro i h1 h2
    rw [List.getElem_set]
    simp only [arrF, List.getElem_map, List.getElem_range]
    by_cases q : c = i
    · rw [if_pos q, if_pos q.symm]
    · rw [if_neg q, if_neg (fun r => q r.symm)]
def fD (D : Nat → Int) (j : Nat) : AV := .int .i64 (D j)
def fT (T : Nat → List UInt8) (j : Nat) : AV := .str (bs (T j))
theorem fD_set (D : Nat → Int) (c : Nat) (x : Int) : (fun k => if k = c then AV.int .i64 x else fD D k) = fD fun k => if k = c then x else D k := by
  funext k; by_cases q : k = c <;> simp [fD, q]
theorem fT_set (T : Nat → List UInt8) (c : Nat) (x : List UInt8) : (fun k => if k = c then AV.str (bs x) else fT T k) = fT fun k => if k = c then x else T k := by
  funext k; by_cases q : k = c <;> simp [fT, q]
theorem arrD_set (D : Nat → Int) (n c : Nat) (x : Int) (h : c < n) : (arrF n (fD D)).take c ++ (AV.int .i64 x :: (arrF n (fD D)).drop (c + 1)) = arrF n (fD fun k => if k = c then x else D k) := by
  rw [arrF_set n _ c _ h, fD_set]
theorem arrT_set (T : Nat → List UInt8) (n c : Nat) (x : List UInt8) (h : c < n) : (arrF n (fT T)).take c ++ (AV.str (bs x) :: (arrF n (fT T)).drop (c + 1)) = arrF n (fT fun k => if k = c then x else T k) := by
  rw [arrF_set n _ c _ h, fT_set]
theorem arrD_strip (D : Nat → Int) (n : Nat) : stripAll (arrF n (fD D)) = arrF n (fD D) := by
  unfold arrF; exact strip_map (f := fD D) (fun _ => by simp [fD, go_sem]) _
theorem arrD_refs (nb nt : Nat) (D : Nat → Int) (n : Nat) : refsAll nb nt (arrF n (fD D)) = true := by
  unfold arrF; exact refs_map (f := fD D) (fun _ => by simp [fD, go_sem]) _
theorem arrT_strip (T : Nat → List UInt8) (n : Nat) : stripAll (arrF n (fT T)) = arrF n (fT T) := by
  unfold arrF; exact strip_map (f := fT T) (fun _ => by simp [fT, go_sem]) _
theorem arrT_refs (nb nt : Nat) (T : Nat → List UInt8) (n : Nat) : refsAll nb nt (arrF n (fT T)) = true := by
  unfold arrF; exact refs_map (f := fT T) (fun _ => by simp [fT, go_sem]) _
theorem arrD_nil : arrF 68 (fD fun _ => 0) = [AV.int .i64 0, AV.int .i64 0, AV.int .i64 0, AV.int .i64 0, AV.int .i64 0, AV.int .i64 0, AV.int .i64 0, AV.int .i64 0, AV.int .i64 0, AV.int .i64 0, AV.int .i64 0, AV.int .i64 0, AV.int .i64 0, AV.int .i64 0, AV.int .i64 0, AV.int .i64 0, AV.int .i64 0, AV.int .i64 0, AV.int .i64 0, AV.int .i64 0, AV.int .i64 0, AV.int .i64 0, AV.int .i64 0, AV.int .i64 0, AV.int .i64 0, AV.int .i64 0, AV.int .i64 0, AV.int .i64 0, AV.int .i64 0, AV.int .i64 0, AV.int .i64 0, AV.int .i64 0, AV.int .i64 0, AV.int .i64 0, AV.int .i64 0, AV.int .i64 0, AV.int .i64 0, AV.int .i64 0, AV.int .i64 0, AV.int .i64 0, AV.int .i64 0, AV.int .i64 0, AV.int .i64 0, AV.int .i64 0, AV.int .i64 0, AV.int .i64 0, AV.int .i64 0, AV.int .i64 0, AV.int .i64 0, AV.int .i64 0, AV.int .i64 0, AV.int .i64 0, AV.int .i64 0, AV.int .i64 0, AV.int .i64 0, AV.int .i64 0, AV.int .i64 0, AV.int .i64 0, AV.int .i64 0, AV.int .i64 0, AV.int .i64 0, AV.int .i64 0, AV.int .i64 0, AV.int .i64 0, AV.int .i64 0, AV.int .i64 0, AV.int .i64 0, AV.int .i64 0] := by rfl
theorem arrT_nil : arrF 68 (fT fun _ => []) = [AV.str (bs []), AV.str (bs []), AV.str (bs []), AV.str (bs []), AV.str (bs []), AV.str (bs []), AV.str (bs []), AV.str (bs []), AV.str (bs []), AV.str (bs []), AV.str (bs []), AV.str (bs []), AV.str (bs []), AV.str (bs []), AV.str (bs []), AV.str (bs []), AV.str (bs []), AV.str (bs []), AV.str (bs []), AV.str (bs []), AV.str (bs []), AV.str (bs []), AV.str (bs []), AV.str (bs []), AV.str (bs []), AV.str (bs []), AV.str (bs []), AV.str (bs []), AV.str (bs []), AV.str (bs []), AV.str (bs []), AV.str (bs []), AV.str (bs []), AV.str (bs []), AV.str (bs []), AV.str (bs []), AV.str (bs []), AV.str (bs []), AV.str (bs []), AV.str (bs []), AV.str (bs []), AV.str (bs []), AV.str (bs []), AV.str (bs []), AV.str (bs []), AV.str (bs []), AV.str (bs []), AV.str (bs []), AV.str (bs []), AV.str (bs []), AV.str (bs []), AV.str (bs []), AV.str (bs []), AV.str (bs []), AV.str (bs []), AV.str (bs []), AV.str (bs []), AV.str (bs []), AV.str (bs []), AV.str (bs []), AV.str (bs []), AV.str (bs []), AV.str (bs []), AV.str (bs []), AV.str (bs []), AV.str (bs []), AV.str (bs []), AV.str (bs [])] := by rfl
attribute [go_sem] arrF_len arrD_strip arrD_refs arrT_strip arrT_refs
theorem ask_as (l : List Sn) (hr : rightGo 0 l = true) (c : Int) (s : Nat) (d : List UInt8) (hk : callOk c s d = true) :
    (lastOf l c < s ∧ askOf l c s d = ([], 0)) ∨ (lastOf l c = s ∧ ∃ x, got l c = some x ∧ x.s = s ∧ askOf l c s d = (x.r, 14)) ∨ (s < lastOf l c ∧ askOf l c s d = ([], 24)) := by
  cases hg : got l c with
  | none =>
    refine .inl ⟨?_, ask_none l hr c s d hk hg⟩
    rw [last_none l c hg]; simp [callOk] at hk; omega
  | some x =>
    rw [last_some l hr c x hg]
    have ha := ask_some l hr c s d hk x hg
    by_cases h1 : x.s < s
    · rw [if_pos h1] at ha; exact .inl ⟨h1, ha⟩
    · rw [if_neg h1] at ha
      by_cases h2 : s = x.s
      · rw [if_pos h2] at ha; exact .inr (.inl ⟨h2.symm, x, rfl, h2.symm, ha⟩)
      · rw [if_neg h2] at ha; exact .inr (.inr ⟨by omega, ha⟩)
theorem len3 (l : List Sn) (hs : Srt l) (h : ∀ x ∈ l, 1 ≤ x.c ∧ x.c ≤ 3) : l.length ≤ 3 := by
  match l, hs, h with
  | [], _, _ => simp
  | [_], _, _ => simp
  | [_, _], _, _ => simp
  | [_, _, _], _, _ => simp
  | a :: b :: c :: d :: r, hs, h =>
    have h1 := h a (by simp)
    have h2 := h d (by simp)
    have h3 := (List.pairwise_cons.1 hs)
    have h4 := h3.1 b (by simp)
    have h5 := List.pairwise_cons.1 h3.2
    have h6 := h5.1 c (by simp)
    have h7 := (List.pairwise_cons.1 h5.2).1 d (by simp)
    omega
structure Onc (s : List Sn) (D : Nat → Int) (T : Nat → List UInt8) : Prop where
  ok : rightGo 0 s = true
  few : ∀ x ∈ s, 1 ≤ x.c ∧ x.c ≤ 3
  new : ∀ c k : Nat, 1 ≤ c → c ≤ 3 → k ≤ 16 → lastOf s c < k → D (c * 17 + k) = 0
  old : ∀ (c : Nat) (x : Sn), 1 ≤ c → c ≤ 3 → got s c = some x → x.s ≤ 16 ∧ D (c * 17 + x.s) = 1 ∧ T (c * 17 + x.s) = x.r
theorem Onc.nil : Onc [] (fun _ => 0) (fun _ => []) := ⟨rfl, fun x h => by simp at h, fun _ _ _ _ _ _ => rfl, fun c x _ _ h => by simp [got] at h⟩
theorem Onc.len {s : List Sn} {D : Nat → Int} {T : Nat → List UInt8} (h : Onc s D T) : s.length ≤ 3 := len3 s (right_srt s 0 h.ok).1 h.few
theorem Onc.step {s : List Sn} {D : Nat → Int} {T : Nat → List UInt8} (h : Onc s D T) (c q : Nat) (r : List UInt8) (c1 : 1 ≤ c) (c2 : c ≤ 3) (q1 : 1 ≤ q) (q2 : q ≤ 16) (hr : r.length ≤ 40) (hl : lastOf s c < q) :
    Onc (insOf s ⟨c, q, r⟩) (fun k => if k = c * 17 + q then 1 else D k) (fun k => if k = c * 17 + q then r else T k) := by
  have hok : callOk (c : Int) q [] = true := by simp [callOk]; omega
  have hri := right_ins s h.ok ⟨c, q, r⟩ hok hr
  have hg := fun k => got_ins s ⟨c, q, r⟩ k
  dsimp only at hg
  refine ⟨hri, fun x hx => ?_, fun c' k a1 a2 a3 a4 => ?_, fun c' x a1 a2 a3 => ?_⟩
  · rcases mem_ins s _ x hx with rfl | hx
    · dsimp only; omega
    · exact h.few x hx
  · have hg' := hg c'
    by_cases hc : c' = c
    · subst hc
      rw [if_pos rfl] at hg'
      rw [last_some _ hri c' _ hg'] at a4
      dsimp only at a4
      rw [if_neg (by omega)]
      exact h.new c' k a1 a2 a3 (by omega)
    · rw [if_neg (by omega)] at hg'
      have he : lastOf (insOf s ⟨c, q, r⟩) c' = lastOf s c' := by unfold lastOf; rw [hri, h.ok, hg']
      rw [he] at a4
      rw [if_neg (by omega)]
      exact h.new c' k a1 a2 a3 a4
  · have hg' := hg c'
    by_cases hc : c' = c
    · subst hc
      rw [if_pos rfl, a3] at hg'
      obtain rfl : x = _ := Option.some.inj hg'
      dsimp only
      refine ⟨q2, if_pos rfl, if_pos rfl⟩
    · rw [if_neg (by omega), a3] at hg'
      obtain ⟨b1, b2, b3⟩ := h.old c' x a1 a2 hg'.symm
      refine ⟨b1, ?_, ?_⟩
      · rw [if_neg (by omega)]; exact b2
      · rw [if_neg (by omega)]; exact b3

end Go.Proofs.Ytdpkhkiecobkoaa.Abs
