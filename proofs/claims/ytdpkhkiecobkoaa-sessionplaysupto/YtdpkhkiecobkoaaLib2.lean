import Derived.Test.YtdpkhkiecobkoaaLib1
import Derived.Laws.IdiomStrings
import Derived.OrdersIn
set_option linter.all false
/- append: what becomes of memory -/
namespace Go.Abs
set_option linter.unusedVariables false
set_option linter.unusedSimpArgs false

def K.setτ (κ : K) (t n : Nat) (k : Tok) : K := { κ with τ := fun t' n' => if t' = t ∧ n' = n then some k else κ.τ t' n' }
theorem K.setτ_le {κ : K} {t n : Nat} {k : Tok} (h : κ.τ t n = none) : K.le κ (κ.setτ t n k) := by
  refine ⟨fun _ _ _ h => h, fun _ _ h => h, fun t' n' k' hk => ?_⟩
  simp only [K.setτ]
  split
  · rename_i e; obtain ⟨rfl, rfl⟩ := e; rw [h] at hk; cases hk
  · exact hk
theorem K.setτ_at (κ : K) (t n : Nat) (k : Tok) : (κ.setτ t n k).τ t n = some k := by simp [K.setτ]

section
variable {P : Program} {T : Tys} (hT : TysOk P T) {κ : K} {h h' : AH} {w : World}

theorem R.τ_new (r : R κ h w) {t n : Nat} (hn : ∀ n', h.toks[t]? = some n' → n' < n) : κ.τ t n = none := by
  cases e : κ.τ t n with
  | none => rfl
  | some k => obtain ⟨n', h1, h2⟩ := r.tlt t n k e; have := hn n' h1; omega

/-- the heap's tokens behind an append: an old one that has grown, or one more -/
structure TokStep (h h' : AH) (t n n' : Nat) : Prop where
  blocks : h'.blocks = h.blocks
  at' : h'.toks[t]? = some n'
  oth : ∀ t', t' ≠ t → h'.toks[t']? = h.toks[t']?
  lt : ∀ q, h.toks[t]? = some q → q = n ∧ q < n'

theorem TokStep.get {t n n' : Nat} (s : TokStep h h' t n n') (id : Nat) : h'.get id = h.get id := by simp [AH.get, s.blocks]

/-- a new array of the call's own -/
theorem R.newArr (r : R κ h w) {t n n' : Nat} (s : TokStep h h' t n n') (e : TypeId) (vs : Array Value) (c sz : Nat) (hsz : vs.size = c * sz) (hn : n' ≤ c) :
    ∃ κ', R κ' h' (w.alloc (.cells vs e)) ∧ Go κ h w κ' h' (w.alloc (.cells vs e)) ∧ κ'.τ t n' = some (.arr w.heap.size c sz) ∧ (∀ j v, j < n' * sz → vs[j]? = some v → κ'.m w.heap.size j = some v) ∧ κ'.φ = κ.φ := by
  have hnone : κ.τ t n' = none := r.τ_new fun q hq => (s.lt q hq).2
  let f : Nat → Option Value := fun o => if o < n' * sz then vs[o]? else none
  let κ' : K := (κ.fix w.heap.size f).setτ t n' (.arr w.heap.size c sz)
  have hle : K.le κ κ' := (K.fix_le κ w.heap.size f).trans (K.setτ_le hnone)
  have hm0 : ∀ b, b ≠ w.heap.size → ∀ o, κ'.m b o = κ.m b o := by intro b hb o; simp [κ', K.setτ, K.fix, hb]
  have hmn : ∀ o, κ'.m w.heap.size o = f o := by intro o; simp [κ', K.setτ, K.fix, r.m_new]
  have hτ : ∀ t' n'' k, κ'.τ t' n'' = some k → (t' = t ∧ n'' = n' ∧ k = .arr w.heap.size c sz) ∨ (κ.τ t' n'' = some k ∧ ¬ (t' = t ∧ n'' = n')) := by
    intro t' n'' k hk
    simp only [κ', K.setτ] at hk
    split at hk
    · rename_i e; cases hk; exact .inl ⟨e.1, e.2, rfl⟩
    · rename_i e; exact .inr ⟨hk, e⟩
  have hcur : ∀ t' q g c' s', h'.toks[t']? = some q → κ'.τ t' q = some (.arr g c' s') → (t' = t ∧ q = n' ∧ g = w.heap.size ∧ c' = c ∧ s' = sz) ∨ (t' ≠ t ∧ h.toks[t']? = some q ∧ κ.τ t' q = some (.arr g c' s')) := by
    intro t' q g c' s' h1 h2
    rcases hτ t' q _ h2 with ⟨rfl, rfl, h3⟩ | ⟨h3, h4⟩
    · cases h3; exact .inl ⟨rfl, rfl, rfl, rfl, rfl⟩
    · by_cases ht : t' = t
      · subst ht; rw [s.at'] at h1; cases h1; exact absurd ⟨rfl, rfl⟩ h4
      · exact .inr ⟨ht, by rw [← s.oth t' ht]; exact h1, h3⟩
  have hrow : (w.alloc (.cells vs e)).heap[w.heap.size]? = some (.cells vs e (0, 0)) := heap_alloc_new w _
  refine ⟨κ', ⟨fun b o v hm => ?_, fun j b hj => ?_, r.inj, fun j bk b hj hb => ?_, fun t' n'' k hk => ?_, fun t' q g c' s' h1 h2 => ?_, fun t' t'' q q' g c' c'' s' s'' h1 h2 h3 h4 => ?_⟩,
    ⟨hle, rfl, rfl, rfl, by simp, fun b hb _ => heap_alloc_lt w _ hb, fun b hf => ?_, fun b o v hv => ?_, by rw [s.blocks]; exact Nat.le_refl _⟩, K.setτ_at _ _ _ _, fun j v hj hv => ?_, rfl⟩
  · by_cases hb : b = w.heap.size
    · subst hb
      rw [hmn] at hm
      simp only [f] at hm
      split at hm
      · rw [World.cell?_alloc_new]; exact hm
      · cases hm
    · rw [hm0 b hb] at hm
      have h0 := r.m b o v hm
      rw [World.cell?_alloc_lt _ _ _ (block_lt_of_cell h0)]; exact h0
  · have := r.dom j b hj; exact ⟨by rw [s.blocks]; exact this.1, by simp; omega⟩
  · rw [s.get] at hj
    obtain ⟨⟨e', vs', h1, h2⟩, h3⟩ := r.blk j bk b hj hb
    exact ⟨⟨e', vs', by rw [heap_alloc_lt _ _ (lt_of_row h1)]; exact h1, h2.mono hle⟩, fun o => by rw [hm0 b (by have := lt_of_row h1; omega)]; exact h3 o⟩
  · rcases hτ t' n'' k hk with ⟨rfl, rfl, _⟩ | ⟨h3, _⟩
    · exact ⟨_, s.at', Nat.le_refl _⟩
    · obtain ⟨q, h4, h5⟩ := r.tlt t' n'' k h3
      by_cases ht : t' = t
      · subst ht; exact ⟨_, s.at', by have := (s.lt q h4).2; omega⟩
      · exact ⟨q, by rw [s.oth t' ht]; exact h4, h5⟩
  · rcases hcur t' q g c' s' h1 h2 with ⟨rfl, rfl, rfl, rfl, rfl⟩ | ⟨ht, h3, h4⟩
    · refine ⟨hn, ⟨e, vs, hrow, hsz⟩, fun o ho => ?_, fun id hid => ?_⟩
      · rw [hmn]; simp only [f]; rw [if_neg (by omega)]
      · have := (r.dom id _ hid).2; simp at this
    · obtain ⟨a1, ⟨e', cur, a2, a3⟩, a4, a5⟩ := r.tok t' q g c' s' h3 h4
      exact ⟨a1, ⟨e', cur, by rw [heap_alloc_lt _ _ (lt_of_row a2)]; exact a2, a3⟩, fun o ho => by rw [hm0 g (by have := lt_of_row a2; omega)]; exact a4 o ho, a5⟩
  · rcases hcur t' q g c' s' h1 h2 with ⟨rfl, rfl, rfl, rfl, rfl⟩ | ⟨ht, a3, a4⟩ <;> rcases hcur t'' q' _ c'' s'' h3 h4 with ⟨rfl, rfl, hg, rfl, rfl⟩ | ⟨ht', b3, b4⟩
    · rfl
    · obtain ⟨_, ⟨_, _, b5, _⟩, _, _⟩ := r.tok t'' q' _ c'' s'' b3 b4
      have := lt_of_row b5; simp at this
    · subst hg
      obtain ⟨_, ⟨_, _, b5, _⟩, _, _⟩ := r.tok t' q _ c' s' a3 a4
      have := lt_of_row b5; simp at this
    · exact r.tdj t' t'' q q' g c' c'' s' s'' a3 a4 b3 b4
  · rcases hf with ⟨j, bk', hj, hb⟩ | ⟨t', q, c', s', h1, h2⟩
    · rw [s.get] at hj; exact .inl (.inl ⟨j, bk', hj, hb⟩)
    · rcases hcur t' q b c' s' h1 h2 with ⟨rfl, rfl, rfl, rfl, rfl⟩ | ⟨ht, h3, h4⟩
      · exact .inr (Nat.le_refl _)
      · exact .inl (.inr ⟨t', q, c', s', h3, h4⟩)
  · by_cases hb : b = w.heap.size
    · exact .inr (.inr (by omega))
    · rw [hm0 b hb] at hv; exact .inl hv
  · rw [hmn]; simp only [f]; rw [if_pos hj]; exact hv

/-- the spare cells of an array of the call's own are written -/
theorem R.growArr (r : R κ h w) {t n n' g c sz : Nat} (s : TokStep h h' t n n') (hold : h.toks[t]? = some n) (hτn : κ.τ t n = some (.arr g c sz)) (hn : n' ≤ c) (cur : Array Value) (e : TypeId) (hg : w.heap[g]? = some (.cells cur e (0, 0)))
    (news : List Value) (hl : news.length = (n' - n) * sz) (hlt : n < n') :
    let vs := (cur.toList.take (n * sz) ++ news ++ cur.toList.drop (n * sz + news.length)).toArray
    ∃ κ', R κ' h' (w.setRow g vs) ∧ Go κ h w κ' h' (w.setRow g vs) ∧ κ'.τ t n' = some (.arr g c sz) ∧ (∀ j v, news[j]? = some v → κ'.m g (n * sz + j) = some v) ∧ κ'.φ = κ.φ := by
  intro vs
  have hnone : κ.τ t n' = none := r.τ_new fun q hq => (s.lt q hq).2
  obtain ⟨hnc, ⟨e0, cur0, hrow0, hcs⟩, hfree, hblk⟩ := r.tok t n g c sz hold hτn
  rw [hg] at hrow0
  cases hrow0
  have hnn : n * sz + news.length = n' * sz := by rw [hl, Nat.sub_mul]; have := Nat.mul_le_mul_right sz (Nat.le_of_lt hlt); omega
  have hns : n' * sz ≤ cur.size := by rw [hcs]; exact Nat.mul_le_mul_right _ hn
  have hvl : vs.size = cur.size := by simp only [vs, List.size_toArray, List.length_append, List.length_take, List.length_drop, Array.length_toList]; omega
  have hvlo : ∀ j, j < n * sz → vs[j]? = cur[j]? := by
    intro j hj
    simp only [vs, List.getElem?_toArray, List.append_assoc]
    rw [List.getElem?_append_left (by simp; omega), List.getElem?_take, if_pos hj, Array.getElem?_toList]
  have hvnew : ∀ j v, news[j]? = some v → vs[n * sz + j]? = some v := by
    intro j v hj
    have hjl : j < news.length := by
      rcases Nat.lt_or_ge j news.length with hx | hx
      · exact hx
      · rw [List.getElem?_eq_none hx] at hj; cases hj
    simp only [vs, List.getElem?_toArray, List.append_assoc]
    have hlen : (cur.toList.take (n * sz)).length = n * sz := by simp; omega
    rw [List.getElem?_append_right (by omega), hlen, Nat.add_sub_cancel_left, List.getElem?_append_left hjl]
    exact hj
  let f : Nat → Option Value := fun o => if n * sz ≤ o then news[o - n * sz]? else none
  let κ' : K := (κ.fix g f).setτ t n' (.arr g c sz)
  have hle : K.le κ κ' := (K.fix_le κ g f).trans (K.setτ_le hnone)
  have hm0 : ∀ b, b ≠ g → ∀ o, κ'.m b o = κ.m b o := by intro b hb o; simp [κ', K.setτ, K.fix, hb]
  have hmg : ∀ o v, κ'.m g o = some v → κ.m g o = some v ∧ o < n * sz ∨ (n * sz ≤ o ∧ news[o - n * sz]? = some v) := by
    intro o v hv
    simp only [κ', K.setτ, K.fix, if_true] at hv
    cases e' : κ.m g o with
    | some u =>
      rw [e'] at hv
      left
      refine ⟨hv, ?_⟩
      rcases Nat.lt_or_ge o (n * sz) with hx | hx
      · exact hx
      · rw [hfree o hx] at e'; cases e'
    | none =>
      rw [e'] at hv
      simp only [f] at hv
      split at hv
      · exact .inr ⟨by assumption, hv⟩
      · cases hv
  have hτ : ∀ t' n'' k, κ'.τ t' n'' = some k → (t' = t ∧ n'' = n' ∧ k = .arr g c sz) ∨ (κ.τ t' n'' = some k ∧ ¬ (t' = t ∧ n'' = n')) := by
    intro t' n'' k hk
    simp only [κ', K.setτ] at hk
    split at hk
    · rename_i e; cases hk; exact .inl ⟨e.1, e.2, rfl⟩
    · rename_i e; exact .inr ⟨hk, e⟩
  have hcur : ∀ t' q g' c' s', h'.toks[t']? = some q → κ'.τ t' q = some (.arr g' c' s') → (t' = t ∧ q = n' ∧ g' = g ∧ c' = c ∧ s' = sz) ∨ (t' ≠ t ∧ h.toks[t']? = some q ∧ κ.τ t' q = some (.arr g' c' s')) := by
    intro t' q g' c' s' h1 h2
    rcases hτ t' q _ h2 with ⟨rfl, rfl, h3⟩ | ⟨h3, h4⟩
    · cases h3; exact .inl ⟨rfl, rfl, rfl, rfl, rfl⟩
    · by_cases ht : t' = t
      · subst ht; rw [s.at'] at h1; cases h1; exact absurd ⟨rfl, rfl⟩ h4
      · exact .inr ⟨ht, by rw [← s.oth t' ht]; exact h1, h3⟩
  have hrow : (w.setRow g vs).heap[g]? = some (.cells vs e (0, 0)) := setRow_heap w g cur vs e (0, 0) hg
  refine ⟨κ', ⟨fun b o v hm => ?_, fun j b hj => ?_, r.inj, fun j bk b hj hb => ?_, fun t' n'' k hk => ?_, fun t' q g' c' s' h1 h2 => ?_, fun t' t'' q q' g' c' c'' s' s'' h1 h2 h3 h4 => ?_⟩,
    ⟨hle, rfl, rfl, rfl, by simp, fun b hb hf => ?_, fun b hf => ?_, fun b o v hv => ?_, by rw [s.blocks]; exact Nat.le_refl _⟩, K.setτ_at _ _ _ _, fun j v hj => ?_, rfl⟩
  · by_cases hb : b = g
    · subst hb
      rw [cell_of_row _ _ _ _ _ _ hrow]
      rcases hmg o v hm with ⟨h1, h2⟩ | ⟨h1, h2⟩
      · rw [hvlo o h2]
        have := r.m b o v h1
        rwa [cell_of_row _ _ _ _ _ _ hg] at this
      · have := hvnew _ v h2
        rwa [show n * sz + (o - n * sz) = o by omega] at this
    · rw [hm0 b hb] at hm
      rw [cell_setRow_other w g vs _ hb]
      exact r.m b o v hm
  · have := r.dom j b hj; exact ⟨by rw [s.blocks]; exact this.1, by simpa using this.2⟩
  · rw [s.get] at hj
    obtain ⟨⟨e', vs', h1, h2⟩, h3⟩ := r.blk j bk b hj hb
    have hbg : b ≠ g := by rintro rfl; exact hblk j hb
    exact ⟨⟨e', vs', by rw [setRow_other w g b vs hbg]; exact h1, h2.mono hle⟩, fun o => by rw [hm0 b hbg]; exact h3 o⟩
  · rcases hτ t' n'' k hk with ⟨rfl, rfl, _⟩ | ⟨h3, _⟩
    · exact ⟨_, s.at', Nat.le_refl _⟩
    · obtain ⟨q, h4, h5⟩ := r.tlt t' n'' k h3
      by_cases ht : t' = t
      · subst ht; exact ⟨_, s.at', by have := (s.lt q h4).2; omega⟩
      · exact ⟨q, by rw [s.oth t' ht]; exact h4, h5⟩
  · rcases hcur t' q g' c' s' h1 h2 with ⟨rfl, rfl, rfl, rfl, rfl⟩ | ⟨ht, h3, h4⟩
    · refine ⟨hn, ⟨e, vs, hrow, by rw [hvl, hcs]⟩, fun o ho => ?_, hblk⟩
      cases e' : κ'.m g' o with
      | none => rfl
      | some v =>
        rcases hmg o v e' with ⟨_, h2⟩ | ⟨h1, h2⟩
        · omega
        · rw [List.getElem?_eq_none (by omega)] at h2; cases h2
    · obtain ⟨a1, ⟨e', cur', a2, a3⟩, a4, a5⟩ := r.tok t' q g' c' s' h3 h4
      have hgg : g' ≠ g := by rintro rfl; exact ht (r.tdj t' t q n g' c' c s' sz h3 h4 hold hτn)
      exact ⟨a1, ⟨e', cur', by rw [setRow_other w g g' vs hgg]; exact a2, a3⟩, fun o ho => by rw [hm0 g' hgg]; exact a4 o ho, a5⟩
  · rcases hcur t' q g' c' s' h1 h2 with ⟨rfl, rfl, rfl, rfl, rfl⟩ | ⟨ht, a3, a4⟩ <;> rcases hcur t'' q' _ c'' s'' h3 h4 with ⟨rfl, rfl, hg', rfl, rfl⟩ | ⟨ht', b3, b4⟩
    · rfl
    · exact absurd (r.tdj t'' t' q' n g' c'' c' s'' s' b3 b4 hold hτn) ht'
    · subst hg'
      exact absurd (r.tdj t' t'' q n g' c' c'' s' s'' a3 a4 hold hτn) ht
    · exact r.tdj t' t'' q q' g' c' c'' s' s'' a3 a4 b3 b4
  · refine setRow_other w g b vs ?_
    rintro rfl
    exact hf (.inr ⟨t, n, c, sz, hold, hτn⟩)
  · rcases hf with ⟨j, bk', hj, hb⟩ | ⟨t', q, c', s', h1, h2⟩
    · rw [s.get] at hj; exact .inl (.inl ⟨j, bk', hj, hb⟩)
    · rcases hcur t' q b c' s' h1 h2 with ⟨rfl, rfl, rfl, rfl, rfl⟩ | ⟨ht, h3, h4⟩
      · exact .inl (.inr ⟨t', n, c', s', hold, hτn⟩)
      · exact .inl (.inr ⟨t', q, c', s', h3, h4⟩)
  · by_cases hb : b = g
    · subst hb; exact .inr (.inl (.inr ⟨t, n, c, sz, hold, hτn⟩))
    · rw [hm0 b hb] at hv; exact .inl hv
  · simp only [κ', K.setτ, K.fix, if_true]
    rw [hfree (n * sz + j) (by omega)]
    simp only [f]
    rw [if_pos (by omega), Nat.add_sub_cancel_left]
    exact hj
end
end Go.Abs
/- append, whole; new values in memory -/
namespace Go.Abs
set_option linter.unusedVariables false
set_option linter.unusedSimpArgs false
section
variable {P : Program} {T : Tys} (hT : TysOk P T) {κ : K} {h h' : AH} {w : World} {v : AV} (r : R κ h w)

theorem cells_scalar {e : AV} (h : e.cells.all AV.scalar = true) : ∀ c ∈ e.cells, c.scalar = true := fun c hc => List.all_eq_true.1 h c hc

theorem ofBytes_length (s : ByteArray) : (ofBytes s).length = s.size := by
  unfold ofBytes
  rw [List.length_map, Array.length_toList]; rfl
theorem ofBytes_flat (s : ByteArray) : (ofBytes s).flatMap AV.cells = ofBytes s := by
  unfold ofBytes
  induction s.data.toList with
  | nil => rfl
  | cons b l ih => rw [List.map_cons, List.flatMap_cons, ih]; rfl
theorem ofBytes_VL (κ : K) (s : ByteArray) : VL κ (ofBytes s) (s.data.toList.map fun b => Value.int .u8 b.toNat) := by
  unfold ofBytes
  induction s.data.toList with
  | nil => exact VL.nil κ
  | cons b l ih => exact VL.cons (.int _ _) ih

include r in
/-- what is to be appended -/
theorem elems_sound (x : AV) (y : Value) (hx : V κ x y) (sz : Nat) (xs : List AV) (he : aElems x = some (sz, xs)) (hsz : sz ≠ 0) :
    ∃ news : List Value, (∀ w', (Builtin.lenOf y).run P w' = .ok xs.length w') ∧ (∀ w', (∀ b o u, κ.m b o = some u → w'.cell? ⟨b, o, none⟩ = some u) → (Builtin.firstCells sz xs.length y).run P w' = .ok news.toArray w') ∧
      news.length = xs.length * sz ∧ VL κ (xs.flatMap AV.cells) news ∧ (∀ e ∈ xs, e.cells.length = sz ∧ e.cells.all AV.scalar = true) ∧
      (xs = [] → (∃ b c, y = .slice b 0 c) ∨ ∃ s, y = .string s ∧ s.size = 0) := by
  cases x <;> simp only [aElems] at he <;> first | (cases he; done) | skip
  case str s =>
    simp only [Option.some.injEq, Prod.mk.injEq] at he
    obtain ⟨rfl, rfl⟩ := he
    cases hx
    have hlen : (ofBytes s).length = s.size := ofBytes_length s
    refine ⟨s.data.toList.map fun b => .int .u8 b.toNat, fun w' => by simp [Builtin.lenOf, hlen], fun w' _ => ?_, by simp [ofBytes], by rw [ofBytes_flat]; exact ofBytes_VL κ s, fun e he => ?_, fun h0 => .inr ⟨s, rfl, by rw [← hlen, h0]; rfl⟩⟩
    · rw [hlen]
      simp only [Builtin.firstCells, Sem.run_pure]
      congr 1
      have : s.extract 0 s.size = s := by simp
      rw [this]
      apply Array.ext'
      simp
    · simp only [ofBytes, List.mem_map] at he
      obtain ⟨b, _, rfl⟩ := he
      exact ⟨rfl, rfl⟩
  case slice nl sz' es rm =>
    simp only [Option.some.injEq, Prod.mk.injEq] at he
    obtain ⟨rfl, rfl⟩ := he
    rcases V.slice_iff.1 hx with ⟨_, rfl, rfl⟩ | ⟨_, b, o, cap, rfl, hcap, _, _, hel⟩
    · exact ⟨[], fun w' => by simp [Builtin.lenOf], fun w' _ => by simp [Builtin.firstCells], by simp, VL.nil κ, fun e he => by simp at he, fun _ => .inl ⟨_, _, rfl⟩⟩
    · obtain ⟨⟨vs, h1, h2⟩, h3⟩ := EL.flat hel
      have hvl : vs.length = es.length * sz' := by rw [← h1.1, h3]
      refine ⟨vs, fun w' => by simp [Builtin.lenOf], fun w' hw' => ?_, hvl, h1, hel.sz, fun h0 => .inl ⟨_, _, by subst h0; rfl⟩⟩
      exact run_firstCells_some (P := P) w' sz' es.length ⟨b, o, none⟩ es.length cap vs hvl (fun j u hj => by rw [addr_add]; exact hw' _ _ _ (h2 j u hj))

include hT r in
theorem append_sound (t u ty : TypeId) (e : TypeId) (ei : TI) (du : TypeDesc) (ht : P.underlying t = some (.slice e)) (hei : T e = some ei) (hu : P.underlying u = some du) (hdu : strOrSlice du)
    (s x : AV) (su xu : Value) (hs : V κ s su) (hx : V κ x xu) (sz' : Nat) (xs : List AV) (hxs : aElems x = some (sz', xs)) (he : aAppend ei.size ei.bytes h s sz' xs = some (v, h')) :
    ∃ z w' κ', (Builtin.append_ #[t, u] ty #[su, xu]).run P w = .ok z w' ∧ V κ' v z ∧ R κ' h' w' ∧ Go κ h w κ' h' w' ∧ κ'.φ = κ.φ := by
  have tok := hT e ei hei
  obtain ⟨i, hi, hsize, hbytes, z, hz, hzc, _, hzs⟩ := tok.info
  cases s <;> simp only [aAppend] at he <;> first | (cases he; done) | skip
  rename_i nl sz es rm
  split at he
  case isTrue hemp =>
    have hnil : xs = [] := by simpa using hemp
    subst hnil
    simp only [Option.some.injEq, Prod.mk.injEq] at he
    obtain ⟨rfl, rfl⟩ := he
    have hxx : (∃ b c, xu = .slice b 0 c) ∨ ∃ s, xu = .string s ∧ s.size = 0 := by
      cases x <;> simp only [aElems] at hxs <;> first | (cases hxs; done) | skip
      · simp only [Option.some.injEq, Prod.mk.injEq] at hxs
        obtain ⟨rfl, hb⟩ := hxs
        cases hx
        rename_i q
        refine .inr ⟨q, rfl, ?_⟩
        have := ofBytes_length q
        rw [hb] at this; simpa using this.symm
      · simp only [Option.some.injEq, Prod.mk.injEq] at hxs
        obtain ⟨rfl, rfl⟩ := hxs
        rcases V.slice_iff.1 hx with ⟨_, _, rfl⟩ | ⟨_, b, o, cap, rfl, _⟩
        · exact .inl ⟨_, _, rfl⟩
        · exact .inl ⟨_, _, rfl⟩
    rcases V.slice_iff.1 hs with ⟨rfl, rfl, rfl⟩ | ⟨rfl, b, o, cap, rfl, hcap, _⟩
    · exact ⟨_, w, κ, append_empty t u ty e du ht ⟨i, hi⟩ hu hdu none 0 0 (Nat.le_refl _) xu hxx, hs, r, Go.refl κ h w, rfl⟩
    · exact ⟨_, w, κ, append_empty t u ty e du ht ⟨i, hi⟩ hu hdu _ es.length cap hcap xu hxx, hs, r, Go.refl κ h w, rfl⟩
  case isFalse hne =>
    split at he
    case isFalse => cases he
    case isTrue hc =>
    obtain ⟨c1, c2, rfl, c4, c5⟩ := hc
    have hxne : xs ≠ [] := by simpa using hne
    have hxpos : 0 < xs.length := List.length_pos_iff.2 hxne
    obtain ⟨news, hlen, hfirst, hnl, hnV, hnsz, _⟩ := elems_sound (P := P) r x xu hx _ xs hxs c1
    have hone : ∀ q ∈ news, q.oneCell' = true := by
      intro q hq
      obtain ⟨j, hj, rfl⟩ := List.getElem_of_mem hq
      have hj' : j < (xs.flatMap AV.cells).length := by rw [hnV.1]; exact hj
      have hV := hnV.to j _ _ (List.getElem?_eq_getElem hj') (List.getElem?_eq_getElem hj)
      rw [hV.scalar]
      have hm := List.getElem_mem hj'
      rw [List.mem_flatMap] at hm
      obtain ⟨e', he', hce⟩ := hm
      exact cells_scalar (hnsz e' he').2 _ hce
    -- the old elements
    have hold : ∃ (base : Option Addr) (cap : Nat) (olds : List Value), su = .slice base es.length cap ∧ es.length ≤ cap ∧ olds.length = es.length * ei.size ∧ VL κ (es.flatMap AV.cells) olds ∧ (∀ e ∈ es, e.cells.length = ei.size ∧ e.cells.all AV.scalar = true) ∧
        (∀ w', (∀ b o u, κ.m b o = some u → w'.cell? ⟨b, o, none⟩ = some u) → (Builtin.firstCells i.size es.length (.slice base es.length cap)).run P w' = .ok olds.toArray w') ∧
        ((rm = .full ∨ nl = true) → cap = es.length) ∧
        (nl = false → ∀ q, rm = .own q → ∃ b o, base = some ⟨b, o, none⟩ ∧ ∃ k, κ.τ q es.length = some k ∧ (k = .tight → cap = es.length) ∧ (∀ g c s, k = .arr g c s → b = g ∧ o = 0 ∧ cap = c ∧ s = ei.size) ∧ EL κ b o ei.size es) := by
      rcases V.slice_iff.1 hs with ⟨rfl, rfl, rfl⟩ | ⟨rfl, b, o, cap, rfl, hcap, hfull, hown, hel⟩
      · exact ⟨none, 0, [], rfl, Nat.le_refl _, by simp, VL.nil κ, fun e he => by simp at he, fun w' _ => by simp [Builtin.firstCells], fun _ => rfl, fun h0 => by cases h0⟩
      · have hel' : EL κ b o ei.size es := by
          rcases c2 with rfl | ⟨c2, _⟩
          · exact hel
          · have : es = [] := by simpa using c2
            subst this; exact EL.nil _ _ _ _
        obtain ⟨⟨vs, h1, h2⟩, h3⟩ := EL.flat hel'
        have hvl : vs.length = es.length * ei.size := by rw [← h1.1, h3]
        refine ⟨_, cap, vs, rfl, hcap, hvl, h1, hel'.sz, fun w' hw' => ?_, fun h0 => ?_, fun _ q hq => ?_⟩
        · exact run_firstCells_some (P := P) w' i.size es.length ⟨b, o, none⟩ es.length cap vs (by rw [hsize]; exact hvl) (fun j u hj => by rw [addr_add]; exact hw' _ _ _ (h2 j u hj))
        · rcases h0 with h0 | h0
          · exact hfull h0
          · cases h0
        · obtain ⟨k, k1, k2, k3⟩ := hown q hq
          refine ⟨b, o, rfl, k, k1, k2, fun g c s hk => ?_, hel'⟩
          obtain ⟨q1, q2, q3, q4⟩ := k3 g c s hk
          refine ⟨q1, q2, q3, ?_⟩
          rcases c2 with rfl | ⟨_, c2⟩
          · exact q4
          · rcases c2 with c2 | c2
            · cases c2
            · rw [hq] at c2; cases c2
    obtain ⟨base, cap, olds, rfl, hcap, hol, hoV, hosz, hofirst, htight, hown⟩ := hold
    -- the token
    have htok : ∃ tk, v = .slice false ei.size (es ++ xs) (.own tk) ∧ TokStep h h' tk es.length (es.length + xs.length) ∧ (∀ q, rm = .own q → q = tk ∧ h.toks[tk]? = some es.length) ∧ rm ≠ .unk := by
      split at he
      · simp only [Option.some.injEq, Prod.mk.injEq] at he
        obtain ⟨rfl, rfl⟩ := he
        refine ⟨h.toks.length, rfl, ⟨rfl, by simp, fun t' ht' => ?_, fun q hq => by simp at hq⟩, ⟨fun q hq => by (cases hq), by simp⟩⟩
        rcases Nat.lt_or_ge t' h.toks.length with hx | hx
        · exact List.getElem?_append_left hx
        · rw [List.getElem?_eq_none (by simp; omega), List.getElem?_eq_none hx]
      · rename_i tk
        split at he
        case isFalse => cases he
        case isTrue hcur =>
          simp only [Option.some.injEq, Prod.mk.injEq] at he
          obtain ⟨rfl, rfl⟩ := he
          have hlt : tk < h.toks.length := by
            rcases Nat.lt_or_ge tk h.toks.length with hx | hx
            · exact hx
            · rw [List.getElem?_eq_none hx] at hcur; cases hcur
          refine ⟨tk, rfl, ⟨rfl, by simp [hlt], fun t' ht' => by simp [List.getElem?_set, ht'.symm], fun q hq => ?_⟩, fun q hq => by cases hq; exact ⟨rfl, hcur⟩, by simp⟩
          rw [hcur] at hq; cases hq; omega
      · cases he
    obtain ⟨tk, rfl, hstep, htk, hunk⟩ := htok
    have hallsz : ∀ e ∈ es ++ xs, e.cells.length = ei.size ∧ e.cells.all AV.scalar = true := by
      intro e' he'
      rcases List.mem_append.1 he' with h1 | h1
      · exact hosz e' h1
      · exact hnsz e' h1
    have hcellm : ∀ b o u, κ.m b o = some u → w.cell? ⟨b, o, none⟩ = some u := r.m
    unfold appendLimit at c4 c5
    by_cases hroom : es.length + xs.length ≤ cap
    · -- there is room: the slice is not nil, and owns an array
      have hnl0 : nl = false := by
        cases nl with
        | false => rfl
        | true => have := htight (.inr rfl); omega
      obtain ⟨q, rfl⟩ : ∃ q, rm = .own q := by
        cases rm with
        | unk => exact absurd rfl hunk
        | full => have := htight (.inl rfl); omega
        | own q => exact ⟨q, rfl⟩
      obtain ⟨b, o, rfl, k, k1, k2, k3, hel⟩ := hown hnl0 q rfl
      obtain ⟨rfl, hcur⟩ := htk q rfl
      cases k with
      | tight => have := k2 rfl; omega
      | arr g c s =>
        obtain ⟨rfl, rfl, rfl, rfl⟩ := k3 g c s rfl
        obtain ⟨hnc, ⟨te, cur, hrow, hcs⟩, _, _⟩ := r.tok q es.length b cap ei.size hcur k1
        have hfit : es.length * ei.size + news.length ≤ cur.size := by
          rw [hnl, hcs, ← Nat.add_mul]; exact Nat.mul_le_mul_right _ hroom
        have hrun := append_room (P := P) (w := w) t u ty e i du ht hi hu hdu b es.length cap cur te hrow xu xs.length news (hlen w) (by rw [hsize]; exact hfirst w hcellm) hone hroom (by rw [hsize]; exact hfit)
        obtain ⟨κ', hR, hG, hτ, hnm, hφ⟩ := r.growArr hstep hcur k1 hroom cur te hrow news (by rw [hnl]; congr 1; omega) (by omega)
        rw [hsize] at hrun
        refine ⟨_, _, κ', hrun, ?_, hR, hG, hφ⟩
        rw [show es.length + xs.length = (es ++ xs).length by simp]
        refine V.slice_iff.2 (.inr ⟨rfl, b, 0, cap, rfl, by simpa using hroom, by simp, fun q' hq' => ?_, ?_⟩)
        · cases hq'
          exact ⟨_, by simpa using hτ, by simp, fun g c s hk => by cases hk; exact ⟨rfl, rfl, rfl, rfl⟩⟩
        · refine (hel.mono hG.le).append ?_
          rw [Nat.zero_add]
          exact EL.of_flat hnsz ⟨news, hnV.mono hG.le, hnm⟩
    · -- a new array
      have hbb : (es.length + xs.length) * i.bytes ≤ 140737488355328 := by rw [hbytes]; omega
      have hfit := growslice_fits (old := cap) (need := es.length + xs.length) (bytes := i.bytes) (by omega) hbb
      have hd : ∀ b o u, κ.m b o = some u → w.drew.cell? ⟨b, o, none⟩ = some u := by intro b o u hm; rw [World.cell?_drew]; exact r.m b o u hm
      have hrun := append_grow (P := P) (w := w) t u ty e i z du ht hi hz hu hdu base es.length cap olds (hofirst w.drew hd) xu xs.length news (hlen w) (by rw [hsize]; exact hfirst w.drew hd) (by omega) (by omega) hfit
      have hge := grownCap_ge w (es.length + xs.length) cap e
      obtain ⟨κ', hR, hG, hτ, hnm, hφ⟩ := r.drew.newArr hstep e (olds.toArray ++ news.toArray ++ Builtin.zeroCells z.cells (grownCap w (es.length + xs.length) cap e - (es.length + xs.length)))
        (grownCap w (es.length + xs.length) cap e) ei.size (by
          simp only [Array.size_append, List.size_toArray, size_zeroCells, hzs, hol, hnl, hsize, ← Nat.add_mul]
          congr 1
          omega) hge
      refine ⟨_, _, κ', hrun, ?_, hR, (Go.drew κ h w).trans hG, hφ⟩
      rw [show es.length + xs.length = (es ++ xs).length by simp] at hτ hnm ⊢
      refine V.slice_iff.2 (.inr ⟨rfl, _, 0, _, rfl, by simpa using hge, by simp, fun q' hq' => ?_, ?_⟩)
      · cases hq'
        exact ⟨_, hτ, by simp, fun g c s hk => by cases hk; exact ⟨rfl, rfl, by simp, rfl⟩⟩
      · refine EL.of_flat hallsz ⟨olds ++ news, ?_, fun j u hj => ?_⟩
        · rw [List.flatMap_append]
          exact (hoV.append hnV).mono hG.le
        · rw [Nat.zero_add]
          have hjl : j < (olds ++ news).length := by
            rcases Nat.lt_or_ge j (olds ++ news).length with hx | hx
            · exact hx
            · rw [List.getElem?_eq_none hx] at hj; cases hj
          refine hnm j u ?_ ?_
          · rw [List.length_append, hol, hnl, ← Nat.add_mul] at hjl
            simpa using hjl
          · rw [Array.getElem?_append_left (by simpa using hjl)]
            simpa using hj
end
end Go.Abs
/- New values in memory. -/
namespace Go.Abs
set_option linter.unusedVariables false
set_option linter.unusedSimpArgs false
set_option linter.unusedSectionVars false

theorem flat_replicate (z : AV) (sz : Nat) (hz : z.cells.length = sz) (n j : Nat) : ((List.replicate n z).flatMap AV.cells)[j]? = if j < n * sz then z.cells[j % sz]? else none := by
  induction n generalizing j with
  | zero => simp
  | succ n ih =>
    rw [List.replicate_succ, List.flatMap_cons]
    rcases Nat.lt_or_ge j sz with hj | hj
    · rw [List.getElem?_append_left (by omega), Nat.mod_eq_of_lt hj, if_pos (by rw [Nat.succ_mul]; omega)]
    · rw [List.getElem?_append_right (by omega), ih, hz]
      have : (j - sz) % sz = j % sz := by
        conv => rhs; rw [show j = (j - sz) + sz by omega, Nat.add_mod_right]
      rw [this]
      by_cases h : j - sz < n * sz
      · rw [if_pos h, if_pos (by rw [Nat.succ_mul]; omega)]
      · rw [if_neg h, if_neg (by rw [Nat.succ_mul]; omega)]
theorem flat_replicate_length (z : AV) (sz : Nat) (hz : z.cells.length = sz) (n : Nat) : ((List.replicate n z).flatMap AV.cells).length = n * sz := by
  induction n with
  | zero => simp
  | succ n ih => rw [List.replicate_succ, List.flatMap_cons, List.length_append, ih, hz, Nat.succ_mul]; omega

theorem ofConst0_scalar {v : Value} {a : AV} (h : ofConst0 v = some a) : a.scalar = true := by
  unfold ofConst0 at h
  split at h <;> simp at h <;> subst h <;> rfl
theorem ofConsts_scalar : ∀ (l : List Value) (r : List AV), ofConsts l = some r → r.all AV.scalar = true := by
  intro l
  induction l with
  | nil => intro r h; simp [ofConsts] at h; subst h; rfl
  | cons v l ih =>
    intro r h
    obtain ⟨a, ha, h⟩ := ob_eq_some.1 h
    obtain ⟨q, hq, h⟩ := ob_eq_some.1 h
    simp at h; subst h
    simp [ofConst0_scalar ha, List.all_eq_true.1 (ih q hq)]
    exact List.all_eq_true.1 (ih q hq)
theorem cells_of_scalar {a : AV} (h : a.scalar = true) : a.cells = [a] := by cases a <;> first | rfl | (simp [AV.scalar] at h)

theorem zeroOf_cells {ei : TI} {z : AV} (hs : ei.zero.all AV.scalar = true) (h : zeroOf ei = some z) : z.cells = ei.zero ∧ ei.zero.length = ei.size := by
  unfold zeroOf shapeOf at h
  split at h
  case isFalse => cases h
  case isTrue hl =>
    split at h
    · simp only [Option.some.injEq] at h; subst h; exact ⟨rfl, hl⟩
    · split at h
      · rename_i c hc
        simp only [Option.some.injEq] at h; subst h
        refine ⟨?_, hl⟩
        rw [hc] at hs ⊢
        exact cells_of_scalar (by simpa using hs)
      · cases h

theorem flat_length {sz : Nat} : ∀ (es : List AV), (∀ e ∈ es, e.cells.length = sz) → (es.flatMap AV.cells).length = es.length * sz := by
  intro es
  induction es with
  | nil => intro _; simp
  | cons e es ih => intro h; rw [List.flatMap_cons, List.length_append, h e (by simp), ih fun x hx => h x (by simp [hx]), List.length_cons, Nat.succ_mul]; omega

theorem flat_set (sz : Nat) : ∀ (es : List AV) (i : Nat) (v : AV), (∀ e ∈ es, e.cells.length = sz) → i < es.length → v.cells.length = sz →
    (es.set i v).flatMap AV.cells = overwrite (es.flatMap AV.cells) (i * sz) v.cells := by
  intro es
  induction es with
  | nil => intro i v _ h; simp at h
  | cons e es ih =>
    intro i v hs hi hv
    have he := hs e (by simp)
    cases i with
    | zero =>
      simp only [List.set_cons_zero, List.flatMap_cons, overwrite, Nat.zero_mul, List.take_zero, List.nil_append, Nat.zero_add]
      rw [hv, ← he, List.drop_append, List.drop_length, Nat.sub_self, List.drop_zero, List.nil_append]
    | succ i =>
      simp only [List.set_cons_succ, List.flatMap_cons]
      rw [ih i v (fun x hx => hs x (by simp [hx])) (by simpa using hi) hv]
      simp only [overwrite]
      have e1 : (i + 1) * sz = e.cells.length + i * sz := by rw [Nat.succ_mul, he]; omega
      rw [e1, Nat.add_assoc, List.take_length_add_append, List.drop_length_add_append, List.append_assoc]

section
variable {P : Program} {T : Tys} (hT : TysOk P T) {κ : K} {h h' : AH} {w : World} {σ : Nat → Option AV} {a : Act} {v : AV} (r : R κ h w)

theorem setAll_flat (sz : Nat) : ∀ (l : List (Nat × Src)) (es es' : List AV), (∀ e ∈ es, e.cells.length = sz ∧ e.cells.all AV.scalar = true) → setAll σ sz es l = some es' →
    fillA σ (es.flatMap AV.cells) (l.map fun p => (p.1 * sz, sz, p.2)) = some (es'.flatMap AV.cells) ∧ (∀ e ∈ es', e.cells.length = sz ∧ e.cells.all AV.scalar = true) ∧ es'.length = es.length := by
  intro l
  induction l with
  | nil => intro es es' hs h; simp only [setAll, Option.some.injEq] at h; subst h; exact ⟨rfl, hs, rfl⟩
  | cons p l ih =>
    intro es es' hs h
    obtain ⟨i, x⟩ := p
    obtain ⟨y, hy, h⟩ := ob_eq_some.1 h
    split at h
    case isFalse => cases h
    case isTrue hc =>
      obtain ⟨c1, c2, c3⟩ := hc
      obtain ⟨h1, h2, h3⟩ := ih _ _ (fun e he => by
        rcases List.mem_or_eq_of_mem_set he with h0 | h0
        · exact hs e h0
        · subst h0; exact ⟨c1, c2⟩) h
      refine ⟨?_, h2, by rw [h3]; simp⟩
      rw [List.map_cons, fillA, hy]
      simp only [ob]
      have hfl : (es.flatMap AV.cells).length = es.length * sz := flat_length es fun e he => (hs e he).1
      have hm : (i + 1) * sz ≤ es.length * sz := Nat.mul_le_mul_right sz c3
      rw [Nat.succ_mul] at hm
      rw [if_pos ⟨c1, by rw [hfl, c1]; exact hm⟩, ← flat_set sz es i y (fun e he => (hs e he).1) c3 c1]
      exact h1

theorem madeCells_VL {ei : TI} {z : Value} (hz : ofConsts z.cells.toList = some ei.zero) {a : AV} (ha : zeroOf ei = some a) (hsz : ei.size ≠ 0) (n : Nat) :
    VL κ ((List.replicate n a).flatMap AV.cells) (madeCells z.cells (n * ei.size)).toList := by
  obtain ⟨h1, h2⟩ := zeroOf_cells (ofConsts_scalar _ _ hz) ha
  have hV : VL κ a.cells z.cells.toList := by rw [h1]; exact VL.consts κ hz
  have hl : a.cells.length = ei.size := by rw [h1, h2]
  have hzs : z.cells.size = ei.size := by rw [← hl, hV.1]; simp
  refine ⟨by rw [flat_replicate_length a ei.size hl]; simp [size_madeCells], fun j x hx => ?_⟩
  rw [flat_replicate a ei.size hl] at hx
  split at hx
  case isFalse => cases hx
  case isTrue hj =>
    obtain ⟨u, hu, hVu⟩ := hV.2 _ x hx
    refine ⟨u, ?_, hVu⟩
    have hlt : j % ei.size < z.cells.size := by rw [hzs]; exact Nat.mod_lt _ (by omega)
    simp only [madeCells, Array.toList_map, List.getElem?_map, Array.toList_range, hzs]
    rw [List.getElem?_range hj, Option.map_some]
    rw [getElem!_pos z.cells (j % ei.size) hlt]
    rw [Array.getElem?_toList, Array.getElem?_eq_getElem hlt] at hu
    exact hu

theorem AH.get_lt {h : AH} {id : Nat} {b : Blk} (e : h.get id = some b) : id < h.blocks.length := by
  rcases Nat.lt_or_ge id h.blocks.length with hx | hx
  · exact hx
  · simp only [AH.get] at e; rw [List.getElem?_eq_none hx] at e; cases e
theorem AH.get_push (h : AH) (b : Blk) (id : Nat) : (h.push b).get id = if id = h.blocks.length then some b else h.get id := by
  simp only [AH.get, AH.push]
  rcases Nat.lt_trichotomy id h.blocks.length with hx | hx | hx
  · rw [List.getElem?_append_left hx, if_neg (by omega)]
  · subst hx; simp
  · rw [if_neg (by omega), List.getElem?_eq_none (by simp; omega), List.getElem?_eq_none (by omega)]
theorem AH.length_push (h : AH) (b : Blk) : (h.push b).blocks.length = h.blocks.length + 1 := by simp [AH.push]

include r in
theorem R.φ_new {id : Nat} (hid : h.blocks.length ≤ id) : κ.φ id = none := by
  cases e : κ.φ id with
  | none => rfl
  | some b => have := (r.dom id b e).1; omega

include r in
theorem push_sound (bk : Blk) (e : TypeId) (vs : Array Value) (hv : VL κ bk.cs vs.toList) :
    R (κ.bind h.blocks.length w.heap.size) (h.push bk) (w.alloc (.cells vs e)) ∧ Go κ h w (κ.bind h.blocks.length w.heap.size) (h.push bk) (w.alloc (.cells vs e)) ∧
    ∀ i, i < h.blocks.length → (κ.bind h.blocks.length w.heap.size).φ i = κ.φ i := by
  obtain ⟨h1, h2⟩ := r.newBlk (h' := h.push bk) h.blocks.length bk e vs hv (r.φ_new (Nat.le_refl _)) (by rw [AH.length_push]; omega) (by rw [AH.length_push]; omega) rfl
    (by rw [AH.get_push, if_pos rfl]) (fun j hj => by rw [AH.get_push, if_neg hj])
  refine ⟨h1, h2, fun i hi => ?_⟩
  simp only [K.bind]; rw [if_neg (by omega)]

include hT r in
theorem alloc_sound (e : TypeId) (ei : TI) (hei : T e = some ei) (aid : Option Nat) (haid : ∀ i, aid = some i → κ.φ i = none ∧ h.get i = some ⟨false, ei.zero⟩) :
    ∃ z w' κ', (Instr.alloc e true (.tuple #[])).run P w = .ok z w' ∧ V κ' (.ptr (Abs.newBlk h aid ⟨false, ei.zero⟩).1 0) z ∧ R κ' (Abs.newBlk h aid ⟨false, ei.zero⟩).2 w' ∧ Go κ h w κ' (Abs.newBlk h aid ⟨false, ei.zero⟩).2 w' ∧
      ∀ i, i < h.blocks.length → aid ≠ some i → κ'.φ i = κ.φ i := by
  obtain ⟨zv, hz, _, hzs, hzr⟩ := run_zero (hT e ei hei)
  have hrun : (Instr.alloc e true (.tuple #[])).run P w = .ok (.pointer (some ⟨w.heap.size, 0, none⟩)) (w.alloc (.cells zv.cells e)) := by
    simp [Instr.alloc, hzr, newVar, newRow]
  cases aid with
  | none =>
    obtain ⟨h1, h2, h3⟩ := push_sound r ⟨false, ei.zero⟩ e zv.cells (VL.consts κ hz)
    exact ⟨_, _, _, hrun, .ptr (K.bind_at _ _ _), h1, h2, fun i hi _ => h3 i hi⟩
  | some id =>
    obtain ⟨hφ, hget⟩ := haid id rfl
    obtain ⟨h1, h2⟩ := r.newBlk (h' := h) id ⟨false, ei.zero⟩ e zv.cells (VL.consts κ hz) hφ (AH.get_lt hget) (Nat.le_refl _) rfl hget (fun j hj => rfl)
    refine ⟨_, _, _, hrun, .ptr (K.bind_at _ _ _), h1, h2, fun i hi hne => ?_⟩
    simp only [K.bind]; rw [if_neg]; rintro rfl; exact hne rfl

include r in
theorem box_sound (e : TypeId) (x : AV) (u : Value) (hx : V κ x u) :
    ∃ z w' κ', (Instr.box e u).run P w = .ok z w' ∧ V κ' (.ptr h.blocks.length 0) z ∧ R κ' (h.push ⟨false, x.cells⟩) w' ∧ Go κ h w κ' (h.push ⟨false, x.cells⟩) w' ∧ ∀ i, i < h.blocks.length → κ'.φ i = κ.φ i := by
  obtain ⟨h1, h2, h3⟩ := push_sound r ⟨false, x.cells⟩ e u.cells hx.cells
  exact ⟨.pointer (some ⟨w.heap.size, 0, none⟩), _, _, by simp [Instr.box, newVar, newRow], .ptr (K.bind_at _ _ _), h1, h2, h3⟩

include hT r in
theorem mkSlice_sound (t e : TypeId) (ei : TI) (hei : T e = some ei) (ht : P.underlying t = some (.slice e)) (z : AV) (hz : zeroOf ei = some z) (hs1 : ei.size = 1) (hagg : ei.agg = false) (k k' : IntKind) (n : Int) (h0 : 0 ≤ n) (hb : n * ei.bytes ≤ appendLimit) (hn : n ≤ appendLimit) :
    ∃ u w' κ', (Instr.makeSlice t (.int k n) (.int k' n)).run P w = .ok u w' ∧ V κ' (.sref h.blocks.length 0 n.toNat n.toNat) u ∧ R κ' (h.push ⟨true, List.replicate n.toNat z⟩) w' ∧ Go κ h w κ' (h.push ⟨true, List.replicate n.toNat z⟩) w' ∧
      ∀ i, i < h.blocks.length → κ'.φ i = κ.φ i := by
  obtain ⟨i, hi, hsize, hbytes, zv, hzv, hzc, _, hzs⟩ := (hT e ei hei).info
  unfold appendLimit at hb hn
  have hrun := run_make (P := P) w t e i zv ht hi hzv k k' n n h0 (Int.le_refl _) (by rw [hbytes, Int.mul_comm]; omega) (by omega)
  have hV := madeCells_VL (κ := κ) hzc hz (by omega) n.toNat
  have hzcells : (List.replicate n.toNat z).flatMap AV.cells = List.replicate n.toNat z := by
    have hz1 : z.cells = [z] := by
      unfold zeroOf shapeOf at hz
      rw [hagg] at hz
      have hsc := ofConsts_scalar _ _ hzc
      split at hz
      · simp only [Bool.false_eq_true, if_false] at hz
        split at hz
        · rename_i c hc
          simp only [Option.some.injEq] at hz; subst hz
          rw [hc] at hsc
          exact cells_of_scalar (by simpa using hsc)
        · cases hz
      · cases hz
    induction n.toNat with
    | zero => rfl
    | succ m ih => rw [List.replicate_succ, List.flatMap_cons, ih, hz1]; rfl
  rw [hzcells, ← hsize] at hV
  obtain ⟨h1, h2, h3⟩ := push_sound r ⟨true, List.replicate n.toNat z⟩ e _ hV
  exact ⟨_, _, _, hrun, .sref (K.bind_at _ _ _) (Nat.le_refl _), h1, h2, h3⟩
end
end Go.Abs
/- A slice of its own text; bytes of a string. -/
namespace Go.Abs
set_option linter.unusedVariables false
set_option linter.unusedSimpArgs false
set_option linter.unusedSectionVars false
section
variable {P : Program} {T : Tys} (hT : TysOk P T) {κ : K} {h h' : AH} {w : World} {σ : Nat → Option AV} {a : Act} {v : AV} (r : R κ h w)

theorem partsOfL_sound {sz : Nat} : ∀ (ps : List (Nat × Operand)) (l : List (Nat × Src)), partsOfL ps = some l → partsOfA sz ps = some (l.map fun p => (p.1 * sz, sz, p.2)) := by
  intro ps
  induction ps with
  | nil => intro l h; simp [partsOfL] at h; subst h; rfl
  | cons p ps ih =>
    intro l h
    obtain ⟨n, x⟩ := p
    obtain ⟨s, hs, h⟩ := ob_eq_some.1 h
    obtain ⟨q, hq, h⟩ := ob_eq_some.1 h
    simp only [Option.some.injEq] at h; subst h
    show ob (srcOf x) _ = _
    rw [hs]; simp only [ob]; rw [ih q hq]; rfl

include hT r in
theorem bslice_sound (hs : VS κ σ a.tmps) (t e : TypeId) (ei : TI) (hei : T e = some ei) (ht : P.underlying t = some (.slice e)) (z : AV) (hz : zeroOf ei = some z) (n : Nat) (ps : Array (Nat × Operand)) (l : List (Nat × Src))
    (hl : partsOfL ps.toList = some l) (hsz : ei.size ≠ 0) (hbig : n * ei.size ≤ 16777216) (es : List AV) (he : setAll σ ei.size (List.replicate n z) l = some es) :
    ∃ u w' κ', (Instr.buildSlice t n (ps.map fun (i, x) => (i, a.eval x))).run P w = .ok u w' ∧ V κ' (.slice false ei.size es .full) u ∧ R κ' h w' ∧ Go κ h w κ' h w' ∧ κ'.φ = κ.φ := by
  have tok := hT e ei hei
  obtain ⟨zv, hzc, _, hzs, hzr⟩ := run_zero tok
  obtain ⟨hz1, hz2⟩ := zeroOf_cells (ofConsts_scalar _ _ hzc) hz
  have hzsc : z.cells.length = ei.size ∧ z.cells.all AV.scalar = true := ⟨by rw [hz1, hz2], by rw [hz1]; exact ofConsts_scalar _ _ hzc⟩
  obtain ⟨h1, h2, h3⟩ := setAll_flat (σ := σ) ei.size l (List.replicate n z) es (fun e he => by rw [List.eq_of_mem_replicate he]; exact hzsc) he
  obtain ⟨hlen, hp⟩ := partsOfA_sound (sz := ei.size) ps.toList _ (partsOfL_sound ps.toList l hl)
  have hV := madeCells_VL (κ := κ) hzc hz hsz n
  obtain ⟨vs, hvs, hVs⟩ := fill_sound (a := a) (fun i => some (i * ei.size, ei.size)) hs ps.toList _ _ (madeCells zv.cells (n * ei.size)) _ hlen hp hV h1
  have hlist : (ps.map fun (i, x) => (i, a.eval x)).toList = ps.toList.map fun p => (p.1, a.eval p.2) := by simp
  have hrun : (Instr.buildSlice t n (ps.map fun (i, x) => (i, a.eval x))).run P w = .ok (.slice (some ⟨w.heap.size, 0, none⟩) n n) (w.alloc (.cells vs e)) := by
    unfold Instr.buildSlice
    simp only [Sem.run_bind, run_under ht, run_size tok, Result.andThen_ok]
    rw [if_neg (by omega)]
    by_cases h0 : n * ei.size = 0
    · have hm0 : madeCells zv.cells (n * ei.size) = #[] := by rw [h0]; simp [madeCells, Array.range_zero']
      rw [hm0] at hvs
      simp [h0, Array.range_zero', hvs, newRow]
    · have hm1 : (Array.range (n * ei.size)).map (zv.cells[· % zv.cells.size]!) = madeCells zv.cells (n * ei.size) := rfl
      simp only [h0, if_false, Sem.run_bind, hzr, Result.andThen_ok, Sem.run_pure, hm1, hlist, hvs]
      simp [newRow]
  obtain ⟨hR, hG, hm⟩ := r.newFix e vs
  refine ⟨_, _, _, hrun, ?_, hR, hG, rfl⟩
  have hn : es.length = n := by rw [h3]; simp
  rw [← hn]
  exact V.slice_iff.2 (.inr ⟨rfl, _, 0, _, rfl, Nat.le_refl _, fun _ => rfl, by simp, EL.of_flat h2 ⟨vs.toList, hVs.mono hG.le, fun j u hj => by rw [Nat.zero_add]; exact hm j u (by simpa using hj)⟩⟩)

include r in
theorem toBytes_sound (s d el : TypeId) (us : P.underlying s = some .string) (ud : P.underlying d = some (.slice el)) (ue : P.underlying el = some (.int .u8)) (x : ByteArray) :
    ∃ u w' κ', (convert s d (.string x)).run P w = .ok u w' ∧ V κ' (.slice false 1 (ofBytes x) .unk) u ∧ R κ' h w' ∧ Go κ h w κ' h w' ∧ κ'.φ = κ.φ := by
  have hrun := run_bytes_of_string (P := P) w s d el x us ud ue
  obtain ⟨hR, hG, hm⟩ := r.drew.newFix el (bytesRow x (grownCap w x.size 0 el)) ((bytesRow x (grownCap w x.size 0 el)).size, (bytesRow x (grownCap w x.size 0 el)).size + 1)
  refine ⟨_, _, _, hrun, ?_, hR, (Go.drew κ h w).trans hG, rfl⟩
  have hge := grownCap_ge w x.size 0 el
  have key : V (κ.fix w.drew.heap.size fun o => (bytesRow x (grownCap w x.size 0 el))[o]?) (.slice false 1 (ofBytes x) .unk) (.slice (some ⟨w.heap.size, 0, none⟩) (ofBytes x).length (grownCap w x.size 0 el)) := by
    refine V.slice_iff.2 (.inr ⟨rfl, _, 0, _, rfl, by rw [ofBytes_length]; exact hge, by simp, by simp, EL.of_flat (fun e he => ?_) ⟨_, by rw [ofBytes_flat]; exact ofBytes_VL _ x, fun j u hj => ?_⟩⟩)
    · simp only [ofBytes, List.mem_map] at he
      obtain ⟨b, _, rfl⟩ := he
      exact ⟨rfl, rfl⟩
    · rw [Nat.zero_add]
      refine hm j u ?_
      have hjl : j < x.data.size := by
        rcases Nat.lt_or_ge j x.data.size with hx | hx
        · exact hx
        · rw [List.getElem?_eq_none (by simpa using hx)] at hj; cases hj
      unfold bytesRow
      rw [Array.getElem?_append_left (by simpa using hjl)]
      simpa using hj
  rwa [ofBytes_length] at key
end
end Go.Abs
/- Each operation that is no call of a function. -/
namespace Go.Abs
set_option linter.unusedVariables false
set_option linter.unusedSimpArgs false
set_option linter.unusedSectionVars false

theorem srcsOf_length {l : List Operand} {ss : List Src} (h : srcsOf l = some ss) : ss.length = l.length := by
  induction l generalizing ss with
  | nil => simp [srcsOf] at h; subst h; rfl
  | cons x l ih =>
    obtain ⟨s, hs, h⟩ := ob_eq_some.1 h
    obtain ⟨q, hq, h⟩ := ob_eq_some.1 h
    simp only [Option.some.injEq] at h; subst h
    simp [ih hq]

section
variable {P : Program} {T : Tys} (hT : TysOk P T) {κ : K} {h h' : AH} {w : World} {σ : Nat → Option AV} {a : Act} {v : AV} (r : R κ h w) (hs : VS κ σ a.tmps)

def NoCall : IOp → Prop
  | .call _ _ | .bad => False
  | _ => True

/-- the state is not touched -/
theorem Res.val (r : R κ h w) {aid : Option Nat} {s : Sem Value} (hh : ∃ z, s.run P w = .ok z w ∧ V κ v z) : Res ((do let y ← s; Pure.pure (Next.value y) : Sem Next).run P w) κ h w aid v h :=
  let ⟨z, e, hv⟩ := hh; Res.of0 r e hv
theorem Res.mem {aid : Option Nat} {s : Sem Value} (hh : ∃ z w' κ', s.run P w = .ok z w' ∧ V κ' v z ∧ R κ' h' w' ∧ Go κ h w κ' h' w' ∧ κ'.φ = κ.φ) : Res ((do let y ← s; Pure.pure (Next.value y) : Sem Next).run P w) κ h w aid v h' :=
  let ⟨z, w', κ', e, hv, hr, hg, hφ⟩ := hh; Res.of e hv hr hg (fun _ _ _ => by rw [hφ])
theorem Res.new {aid : Option Nat} {s : Sem Value} (hh : ∃ z w' κ', s.run P w = .ok z w' ∧ V κ' v z ∧ R κ' h' w' ∧ Go κ h w κ' h' w' ∧ ∀ i, i < h.blocks.length → κ'.φ i = κ.φ i) : Res ((do let y ← s; Pure.pure (Next.value y) : Sem Next).run P w) κ h w aid v h' :=
  let ⟨z, w', κ', e, hv, hr, hg, hφ⟩ := hh; Res.of e hv hr hg (fun i hi _ => hφ i hi)

include hT r hs in
theorem op_sound (o : Oper) (iop : IOp) (aid : Option Nat) (hc : opOf T o.op = some iop) (hn : NoCall iop) (he : aop σ h aid iop = some (v, h')) (haid : ∀ i z, aid = some i → iop = .alloc z → κ.φ i = none ∧ h.get i = some ⟨false, z⟩) :
    Res ((execOp a.eval o).run P w) κ h w aid v h' := by
  unfold execOp
  cases ho : o.op <;> rw [ho] at hc <;> simp only [opOf] at hc <;> first | (cases hc; done) | skip
  case move x =>
    obtain ⟨s, h1, hc⟩ := ob_eq_some.1 hc
    simp only [Option.some.injEq] at hc; subst hc
    obtain ⟨e1, rfl⟩ := ret1_eq.1 he
    exact Res.pure r (srcOf_sound hs h1 e1)
  case assign x =>
    obtain ⟨s, h1, hc⟩ := ob_eq_some.1 hc
    simp only [Option.some.injEq] at hc; subst hc
    obtain ⟨e1, rfl⟩ := ret1_eq.1 he
    exact Res.pure r (srcOf_sound hs h1 e1)
  case pick c x y =>
    obtain ⟨s1, h1, hc⟩ := ob_eq_some.1 hc
    obtain ⟨s2, h2, hc⟩ := ob_eq_some.1 hc
    obtain ⟨s3, h3, hc⟩ := ob_eq_some.1 hc
    simp only [Option.some.injEq] at hc; subst hc
    obtain ⟨b, e1, he⟩ := ob_eq_some.1 he
    have hb := srcOf_sound hs h1 e1
    split at he
    · obtain ⟨e2, rfl⟩ := ret1_eq.1 he
      cases hbv : a.eval c <;> rw [hbv] at hb <;> cases hb
      have := Res.pure (aid := aid) r (srcOf_sound hs h2 e2)
      simpa [hbv, asBool] using this
    · obtain ⟨e2, rfl⟩ := ret1_eq.1 he
      cases hbv : a.eval c <;> rw [hbv] at hb <;> cases hb
      have := Res.pure (aid := aid) r (srcOf_sound hs h3 e2)
      simpa [hbv, asBool] using this
    · cases he
  case alloc e =>
    obtain ⟨ti, h1, hc⟩ := ob_eq_some.1 hc
    simp only [Option.some.injEq] at hc; subst hc
    simp only [aop, Option.some.injEq, Prod.mk.injEq] at he
    obtain ⟨rfl, rfl⟩ := he
    obtain ⟨z, w', κ', q1, q2, q3, q4, q5⟩ := alloc_sound hT r e ti h1 aid (fun i hi => haid i _ hi rfl)
    exact Res.of q1 q2 q3 q4 q5
  case box e x =>
    obtain ⟨s, h1, hc⟩ := ob_eq_some.1 hc
    simp only [Option.some.injEq] at hc; subst hc
    obtain ⟨u, e1, he⟩ := ob_eq_some.1 he
    split at he
    case isFalse => cases he
    case isTrue hsc =>
      simp only [Option.some.injEq, Prod.mk.injEq] at he
      obtain ⟨rfl, rfl⟩ := he
      exact Res.new (box_sound r e u _ (srcOf_sound hs h1 e1))
  case build t ps =>
    obtain ⟨ti, h1, hc0⟩ := ob_eq_some.1 hc
    have hform : ∃ z l, iop = .build z l := by
      split at hc0
      · obtain ⟨l, _, hc0⟩ := ob_eq_some.1 hc0; simp only [Option.some.injEq] at hc0; exact ⟨_, _, hc0.symm⟩
      · obtain ⟨_, _, hc0⟩ := ob_eq_some.1 hc0; obtain ⟨l, _, hc0⟩ := ob_eq_some.1 hc0; simp only [Option.some.injEq] at hc0; exact ⟨_, _, hc0.symm⟩
      · cases hc0
    obtain ⟨z, l, rfl⟩ := hform
    obtain ⟨cs, e1, he⟩ := ob_eq_some.1 he
    simp only [Option.some.injEq, Prod.mk.injEq] at he
    obtain ⟨rfl, rfl⟩ := he
    obtain ⟨vs, q1, q2⟩ := build_sound (w := w) hT hs t ps z l cs hc e1
    exact Res.val r ⟨_, q1, V.agg_iff.2 q2⟩
  case buildSlice t n ps =>
    obtain ⟨ti, h1, hc⟩ := ob_eq_some.1 hc
    have hu := (hT t ti h1).under
    split at hc
    case h_2 => cases hc
    case h_1 e hd =>
      rw [hd] at hu
      obtain ⟨ei, h2, hc⟩ := ob_eq_some.1 hc
      obtain ⟨z, h3, hc⟩ := ob_eq_some.1 hc
      obtain ⟨l, h4, hc⟩ := ob_eq_some.1 hc
      split at hc
      case isTrue => cases hc
      case isFalse hsz =>
        simp only [Option.some.injEq] at hc; subst hc
        obtain ⟨es, e1, he⟩ := ob_eq_some.1 he
        simp only [Option.some.injEq, Prod.mk.injEq] at he
        obtain ⟨rfl, rfl⟩ := he
        exact Res.mem (bslice_sound hT r hs t e ei h2 hu z h3 n ps l h4 (by omega) (by omega) es e1)
  case load t x =>
    obtain ⟨ti, h1, hc⟩ := ob_eq_some.1 hc
    obtain ⟨s, h2, hc⟩ := ob_eq_some.1 hc
    simp only [Option.some.injEq] at hc; subst hc
    obtain ⟨u, e1, he⟩ := ob_eq_some.1 he
    obtain ⟨e2, rfl⟩ := ret1_eq.1 he
    exact Res.val r (load_sound hT r t ti h1 u _ (srcOf_sound hs h2 e1) e2)
  case store t x y =>
    obtain ⟨ti, h1, hc⟩ := ob_eq_some.1 hc
    obtain ⟨s, h2, hc⟩ := ob_eq_some.1 hc
    obtain ⟨s', h3, hc⟩ := ob_eq_some.1 hc
    simp only [Option.some.injEq] at hc; subst hc
    obtain ⟨u, e1, he⟩ := ob_eq_some.1 he
    obtain ⟨u', e2, he⟩ := ob_eq_some.1 he
    obtain ⟨h'', e3, he⟩ := ob_eq_some.1 he
    simp only [Option.some.injEq, Prod.mk.injEq] at he
    obtain ⟨rfl, rfl⟩ := he
    obtain ⟨w', q1, q2, q3⟩ := store_sound hT r t ti h1 u u' _ _ (srcOf_sound hs h2 e1) (srcOf_sound hs h3 e2) e3
    exact ⟨undef, w', κ, .inr ⟨by simp [q1], rfl⟩, V.undef κ, q2, q3, fun _ _ _ => rfl⟩
  case nilCheck x =>
    obtain ⟨s, h1, hc⟩ := ob_eq_some.1 hc
    simp only [Option.some.injEq] at hc; subst hc
    obtain ⟨u, e1, he⟩ := ob_eq_some.1 he
    have hV := srcOf_sound hs h1 e1
    split at he
    · simp only [Option.some.injEq, Prod.mk.injEq] at he
      obtain ⟨rfl, rfl⟩ := he
      cases hx : a.eval x <;> rw [hx] at hV <;> cases hV
      rename_i hφ
      dsimp only; rw [hx]; exact Res.pure r (.ptr hφ)
    · simp only [Option.some.injEq, Prod.mk.injEq] at he
      obtain ⟨rfl, rfl⟩ := he
      cases hx : a.eval x <;> rw [hx] at hV <;> cases hV
      rename_i q1 q2
      dsimp only; rw [hx]; exact Res.pure r (.eptr q1 q2)
    · cases he
  case binOp op t x y yt =>
    obtain ⟨s, h1, hc⟩ := ob_eq_some.1 hc
    obtain ⟨s', h2, hc⟩ := ob_eq_some.1 hc
    have hform : ∃ d, iop = .bin op d s s' ∧ ((op = .eql ∨ op = .neq) → d = eqOf T 20 t) := by
      split at hc
      · simp only [Option.some.injEq] at hc; exact ⟨_, hc.symm, fun _ => rfl⟩
      · simp only [Option.some.injEq] at hc; exact ⟨_, hc.symm, fun _ => rfl⟩
      · simp only [Option.some.injEq] at hc; exact ⟨_, hc.symm, fun hop => by rcases hop with rfl | rfl <;> simp_all⟩
    obtain ⟨d, rfl, hd⟩ := hform
    obtain ⟨u, e1, he⟩ := ob_eq_some.1 he
    obtain ⟨u', e2, he⟩ := ob_eq_some.1 he
    obtain ⟨e3, rfl⟩ := ret1_eq.1 he
    exact Res.val r (bin_any hT op t d hd u u' _ _ (srcOf_sound hs h1 e1) (srcOf_sound hs h2 e2) v e3 x y)
  case unOp op t x =>
    obtain ⟨s, h1, hc⟩ := ob_eq_some.1 hc
    simp only [Option.some.injEq] at hc; subst hc
    obtain ⟨u, e1, he⟩ := ob_eq_some.1 he
    obtain ⟨e2, rfl⟩ := ret1_eq.1 he
    exact Res.val r (un_any op u v _ (srcOf_sound hs h1 e1) e2)
  case convert s d x =>
    obtain ⟨k, h1, hc⟩ := ob_eq_some.1 hc
    obtain ⟨sx, h2, hc⟩ := ob_eq_some.1 hc
    simp only [Option.some.injEq] at hc; subst hc
    obtain ⟨u, e1, he⟩ := ob_eq_some.1 he
    obtain ⟨e2, rfl⟩ := ret1_eq.1 he
    by_cases hb : k = .toBytes
    · subst hb
      obtain ⟨si, hsi, h1⟩ := ob_eq_some.1 h1
      obtain ⟨di, hdi, h1⟩ := ob_eq_some.1 h1
      have us := (hT s si hsi).under
      have ud := (hT d di hdi).under
      split at h1 <;> first | (cases h1; done) | skip
      case h_3 el ds dd =>
        obtain ⟨ei, hei, h1⟩ := ob_eq_some.1 h1
        split at h1
        case h_2 => cases h1
        case h_1 de =>
          have ue := (hT el ei hei).under
          rw [ds] at us; rw [dd] at ud; rw [de] at ue
          cases u <;> simp only [aConv] at e2 <;> first | (cases e2; done) | skip
          rename_i str
          simp only [Option.some.injEq] at e2; subst e2
          have hV := srcOf_sound hs h2 e1
          cases hx : a.eval x <;> rw [hx] at hV <;> cases hV
          dsimp only; rw [hx]
          exact Res.mem (toBytes_sound r s d el us ud ue _)
      case h_4 el ds dd =>
        obtain ⟨ei, hei, h1⟩ := ob_eq_some.1 h1
        split at h1 <;> cases h1
    · exact Res.val r (conv_sound hT s d k h1 u _ (srcOf_sound hs h2 e1) e2 hb r)
  case makeInterface t x =>
    obtain ⟨ti, h1, hc⟩ := ob_eq_some.1 hc
    have hu := (hT t ti h1).under
    split at hc
    · cases hc
    · cases hc
    · rename_i n1 n2
      obtain ⟨sx, h2, hc⟩ := ob_eq_some.1 hc
      simp only [Option.some.injEq] at hc; subst hc
      obtain ⟨u, e1, he⟩ := ob_eq_some.1 he
      simp only [Option.some.injEq, Prod.mk.injEq] at he
      obtain ⟨rfl, rfl⟩ := he
      refine Res.val r ⟨.iface t (a.eval x), ?_, .iface (srcOf_sound hs h2 e1)⟩
      unfold Instr.makeInterface
      cases e : ti.d <;> rw [e] at hu <;> simp only [descOk] at hu
      case struct fs => obtain ⟨l, hl, _⟩ := hu; simp [run_under hl]
      case func => obtain ⟨a, b, c, hl⟩ := hu; simp [run_under hl]
      case iface => exact absurd e n1
      case other => exact absurd e n2
      all_goals simp [run_under hu]
  case makeFunc fn first captured =>
    cases fn with
    | func f =>
      dsimp only at hc
      obtain ⟨s1, h1, hc⟩ := ob_eq_some.1 hc
      obtain ⟨s2, h2, hc⟩ := ob_eq_some.1 hc
      simp only [Option.some.injEq] at hc; subst hc
      obtain ⟨u1, e1, he⟩ := ob_eq_some.1 he
      obtain ⟨u2, e2, he⟩ := ob_eq_some.1 he
      simp only [Option.some.injEq, Prod.mk.injEq] at he
      obtain ⟨rfl, rfl⟩ := he
      refine Res.val r ⟨.func (.func f) (first.map a.eval) (captured.map a.eval), rfl, V.func_iff.2 ⟨⟨f, rfl, rfl⟩, ?_, ?_⟩⟩
      · simpa using srcsOf_sound hs h1 e1
      · simpa using srcsOf_sound hs h2 e2
    | _ => cases hc
  case makeSlice t l c =>
    obtain ⟨ti, h1, hc⟩ := ob_eq_some.1 hc
    have hu := (hT t ti h1).under
    split at hc
    case h_2 => cases hc
    case h_1 e hd =>
      rw [hd] at hu
      obtain ⟨ei, h2, hc⟩ := ob_eq_some.1 hc
      obtain ⟨z, h3, hc⟩ := ob_eq_some.1 hc
      obtain ⟨sl, h4, hc⟩ := ob_eq_some.1 hc
      obtain ⟨sc, h5, hc⟩ := ob_eq_some.1 hc
      split at hc
      case isFalse => cases hc
      case isTrue hsz =>
        simp only [Option.some.injEq] at hc; subst hc
        obtain ⟨u, e1, he⟩ := ob_eq_some.1 he
        obtain ⟨u', e2, he⟩ := ob_eq_some.1 he
        have hV1 := srcOf_sound hs h4 e1
        have hV2 := srcOf_sound hs h5 e2
        split at he
        case h_2 => cases he
        case h_1 =>
          split at he
          case isFalse => cases he
          case isTrue hcond =>
            obtain ⟨c1, rfl, c3, c4⟩ := hcond
            simp only [Option.some.injEq, Prod.mk.injEq] at he
            obtain ⟨rfl, rfl⟩ := he
            cases hx : a.eval l <;> rw [hx] at hV1 <;> cases hV1
            cases hy : a.eval c <;> rw [hy] at hV2 <;> cases hV2
            dsimp only; rw [hx, hy]
            exact Res.new (mkSlice_sound hT r t e ei h2 hu z h3 hsz.1 hsz.2 _ _ _ c1 c3 c4)
  case slice t x lo hi mx =>
    obtain ⟨k, h1, hc⟩ := ob_eq_some.1 hc
    obtain ⟨sx, h2, hc⟩ := ob_eq_some.1 hc
    obtain ⟨sl, h3, hc⟩ := ob_eq_some.1 hc
    obtain ⟨sh, h4, hc⟩ := ob_eq_some.1 hc
    obtain ⟨sm, h5, hc⟩ := ob_eq_some.1 hc
    simp only [Option.some.injEq] at hc; subst hc
    obtain ⟨u, e1, he⟩ := ob_eq_some.1 he
    obtain ⟨l1, e2, he⟩ := ob_eq_some.1 he
    obtain ⟨l2, e3, he⟩ := ob_eq_some.1 he
    obtain ⟨l3, e4, he⟩ := ob_eq_some.1 he
    obtain ⟨e5, rfl⟩ := ret1_eq.1 he
    exact Res.val r (slice_sound hT t k h1 u _ (srcOf_sound hs h2 e1) l1 l2 l3 _ _ _ (optInt_sound hs h3 e2) (optInt_sound hs h4 e3) (optInt_sound hs h5 e4) e5)
  case fieldAddr t x i =>
    obtain ⟨ti, h1, hc⟩ := ob_eq_some.1 hc
    split at hc
    case h_2 => cases hc
    case h_1 fs hd =>
      obtain ⟨f, h2, hc⟩ := ob_eq_some.1 hc
      obtain ⟨fi, h3, hc⟩ := ob_eq_some.1 hc
      split at hc
      case isTrue => cases hc
      case isFalse hsz =>
        obtain ⟨sx, h4, hc⟩ := ob_eq_some.1 hc
        simp only [Option.some.injEq] at hc; subst hc
        obtain ⟨u, e1, he⟩ := ob_eq_some.1 he
        have hV := srcOf_sound hs h4 e1
        split at he
        · simp only [Option.some.injEq, Prod.mk.injEq] at he
          obtain ⟨rfl, rfl⟩ := he
          cases hx : a.eval x <;> rw [hx] at hV <;> cases hV
          rename_i hφ
          dsimp only; rw [hx]
          exact Res.val r ⟨_, faddr_run hT t i fs ti fi h1 hd f h2 h3 hsz _ _, .ptr hφ⟩
        · simp only [Option.some.injEq, Prod.mk.injEq] at he
          obtain ⟨rfl, rfl⟩ := he
          obtain ⟨b, o, hx, hm⟩ := V.eptr_iff.1 hV
          dsimp only; rw [hx]
          exact Res.val r ⟨_, faddr_run hT t i fs ti fi h1 hd f h2 h3 hsz _ _, V.eptr_iff.2 ⟨_, _, rfl, hm.drop _⟩⟩
        · cases he
  case field t x i =>
    obtain ⟨ti, h1, hc⟩ := ob_eq_some.1 hc
    split at hc
    case h_2 => cases hc
    case h_1 fs hd =>
      obtain ⟨f, h2, hc⟩ := ob_eq_some.1 hc
      obtain ⟨fi, h3, hc⟩ := ob_eq_some.1 hc
      obtain ⟨sx, h4, hc⟩ := ob_eq_some.1 hc
      simp only [Option.some.injEq] at hc; subst hc
      obtain ⟨u, e1, he⟩ := ob_eq_some.1 he
      have hV := srcOf_sound hs h4 e1
      split at he
      case h_2 => cases he
      case h_1 =>
        obtain ⟨e2, rfl⟩ := ret1_eq.1 he
        exact Res.val r (field_sound hT t i fs ti fi h1 hd f h2 h3 _ _ hV e2)
  case indexAddr t x i =>
    obtain ⟨k, h1, hc⟩ := ob_eq_some.1 hc
    obtain ⟨sx, h2, hc⟩ := ob_eq_some.1 hc
    obtain ⟨si, h3, hc⟩ := ob_eq_some.1 hc
    split at hc
    · cases hc
    · rename_i hk
      simp only [Option.some.injEq] at hc; subst hc
      obtain ⟨u, e1, he⟩ := ob_eq_some.1 he
      obtain ⟨ui, e2, he⟩ := ob_eq_some.1 he
      have hV := srcOf_sound hs h3 e2
      split at he
      case h_2 => cases he
      case h_1 =>
        obtain ⟨e3, rfl⟩ := ret1_eq.1 he
        cases hx : a.eval i <;> rw [hx] at hV <;> cases hV
        dsimp only; rw [hx]
        exact Res.val r (iaddr_sound hT t k h1 u _ (srcOf_sound hs h2 e1) _ _ e3 hk)
  case index t x i =>
    obtain ⟨k, h1, hc⟩ := ob_eq_some.1 hc
    obtain ⟨sx, h2, hc⟩ := ob_eq_some.1 hc
    obtain ⟨si, h3, hc⟩ := ob_eq_some.1 hc
    split at hc
    · cases hc
    · rename_i hk
      simp only [Option.some.injEq] at hc; subst hc
      obtain ⟨u, e1, he⟩ := ob_eq_some.1 he
      obtain ⟨ui, e2, he⟩ := ob_eq_some.1 he
      have hV := srcOf_sound hs h3 e2
      split at he
      case h_2 => cases he
      case h_1 =>
        obtain ⟨e3, rfl⟩ := ret1_eq.1 he
        cases hx : a.eval i <;> rw [hx] at hV <;> cases hV
        dsimp only; rw [hx]
        exact Res.val r (idx_sound hT t k h1 u _ (srcOf_sound hs h2 e1) _ _ e3)
  case extract x i =>
    obtain ⟨sx, h1, hc⟩ := ob_eq_some.1 hc
    simp only [Option.some.injEq] at hc; subst hc
    obtain ⟨u, e1, he⟩ := ob_eq_some.1 he
    have hV := srcOf_sound hs h1 e1
    split at he
    case h_2 => cases he
    case h_1 vs =>
      obtain ⟨e2, rfl⟩ := ret1_eq.1 he
      cases hx : a.eval x <;> rw [hx] at hV <;> try (cases hV; done)
      rename_i ys
      obtain ⟨z, q1, q2⟩ := (V.tup_iff.1 hV).get e2
      dsimp only; rw [hx]
      refine Res.val r ⟨z, ?_, q2⟩
      rw [Array.getElem?_toList] at q1
      simp [Instr.extract, q1]
  case call c =>
    obtain ⟨callee, args, argTypes⟩ := c
    cases callee with
    | invoke r m => cases hc
    | value f =>
      dsimp only at hc
      obtain ⟨_, _, hc⟩ := ob_eq_some.1 hc
      obtain ⟨_, _, hc⟩ := ob_eq_some.1 hc
      simp only [Option.some.injEq] at hc; subst hc; exact hn.elim
    | builtin b =>
      cases b <;> dsimp only at hc <;> first | (cases hc; done) | skip
      case append =>
        show Res ((do let y ← Builtin.append_ argTypes o.type (args.map a.eval); Pure.pure (Next.value y) : Sem Next).run P w) κ h w aid v h'
        split at hc
        case h_2 => cases hc
        case h_1 xs ys s x t u hxs hys =>
          obtain ⟨ti, h1, hc⟩ := ob_eq_some.1 hc
          have hu := (hT t ti h1).under
          split at hc
          case h_2 => cases hc
          case h_1 e hd =>
            rw [hd] at hu
            obtain ⟨ei, h2, hc⟩ := ob_eq_some.1 hc
            obtain ⟨ui, h3, hc⟩ := ob_eq_some.1 hc
            have huu := (hT u ui h3).under
            have key : ∀ du, P.underlying u = some du → strOrSlice du → (ob (srcOf s) fun s => ob (srcOf x) fun x => some (IOp.append ei.size ei.bytes s x)) = some iop →
                Res ((do let y ← Builtin.append_ argTypes o.type (args.map a.eval); Pure.pure (Next.value y) : Sem Next).run P w) κ h w aid v h' := by
              intro du hdu hss hc
              obtain ⟨ss, h4, hc⟩ := ob_eq_some.1 hc
              obtain ⟨sx, h5, hc⟩ := ob_eq_some.1 hc
              simp only [Option.some.injEq] at hc; subst hc
              obtain ⟨u1, e1, he⟩ := ob_eq_some.1 he
              obtain ⟨u2, e2, he⟩ := ob_eq_some.1 he
              obtain ⟨p, e3, he⟩ := ob_eq_some.1 he
              have hargs : args = #[s, x] := by apply Array.ext'; exact hxs
              have hats : argTypes = #[t, u] := by apply Array.ext'; exact hys
              subst hargs; subst hats
              rw [show (#[s, x] : Array Operand).map a.eval = #[a.eval s, a.eval x] by simp]
              exact Res.mem (append_sound hT r t u o.type e ei du hu h2 hdu hss u1 u2 _ _ (srcOf_sound hs h4 e1) (srcOf_sound hs h5 e2) p.1 p.2 e3 he)
            split at hc
            · rename_i el hud
              rw [hud] at huu
              exact key _ huu (by simp [strOrSlice]) hc
            · rename_i hud
              rw [hud] at huu
              exact key _ huu (by simp [strOrSlice]) hc
            · simp only [Option.some.injEq] at hc; subst hc; exact hn.elim
      case cap =>
        show Res ((do let y ← Builtin.cap_ argTypes o.type (args.map a.eval); Pure.pure (Next.value y) : Sem Next).run P w) κ h w aid v h'
        split at hc
        case h_2 => cases hc
        case h_1 xs ys x t hxs hys =>
          obtain ⟨ti, h1, hc⟩ := ob_eq_some.1 hc
          have hu := (hT t ti h1).under
          split at hc
          case h_2 => cases hc
          case h_1 e hd =>
            rw [hd] at hu
            obtain ⟨sx, h2, hc⟩ := ob_eq_some.1 hc
            simp only [Option.some.injEq] at hc; subst hc
            obtain ⟨u1, e1, he⟩ := ob_eq_some.1 he
            obtain ⟨e2, rfl⟩ := ret1_eq.1 he
            have hargs : args = #[x] := by apply Array.ext'; exact hxs
            have hats : argTypes = #[t] := by apply Array.ext'; exact hys
            subst hargs; subst hats
            rw [show (#[x] : Array Operand).map a.eval = #[a.eval x] by simp]
            exact Res.val r (cap_sound t o.type e hu u1 _ (srcOf_sound hs h2 e1) e2)
      case len =>
        show Res ((do let y ← Builtin.len_ argTypes o.type (args.map a.eval); Pure.pure (Next.value y) : Sem Next).run P w) κ h w aid v h'
        split at hc
        case h_2 => cases hc
        case h_1 xs ys x t hxs hys =>
          obtain ⟨k, h1, hc⟩ := ob_eq_some.1 hc
          obtain ⟨sx, h2, hc⟩ := ob_eq_some.1 hc
          simp only [Option.some.injEq] at hc; subst hc
          obtain ⟨u1, e1, he⟩ := ob_eq_some.1 he
          obtain ⟨e2, rfl⟩ := ret1_eq.1 he
          have hargs : args = #[x] := by apply Array.ext'; exact hxs
          have hats : argTypes = #[t] := by apply Array.ext'; exact hys
          subst hargs; subst hats
          rw [show (#[x] : Array Operand).map a.eval = #[a.eval x] by simp]
          exact Res.val r (len_sound hT t o.type k h1 u1 _ (srcOf_sound hs h2 e1) e2)
      case max =>
        show Res ((do let y ← Builtin.max_ argTypes o.type (args.map a.eval); Pure.pure (Next.value y) : Sem Next).run P w) κ h w aid v h'
        obtain ⟨ss, h1, hc⟩ := ob_eq_some.1 hc
        simp only [Option.some.injEq] at hc; subst hc
        obtain ⟨l, e1, he⟩ := ob_eq_some.1 he
        obtain ⟨e2, rfl⟩ := ret1_eq.1 he
        have hV := srcsOf_sound hs h1 e1
        cases l with
        | nil => cases e2
        | cons x l =>
          obtain ⟨u, us, hus, h3, h4⟩ := hV.inv_cons
          obtain ⟨z, q1, q2⟩ := minmax_list (P := P) (w := w) true l us h4 x v u h3 e2
          refine Res.val r ⟨z, ?_, q2⟩
          unfold Builtin.max_
          rw [show (args.map a.eval).toList = u :: us by rw [Array.toList_map]; exact hus]
          exact q1
      case min =>
        show Res ((do let y ← Builtin.min_ argTypes o.type (args.map a.eval); Pure.pure (Next.value y) : Sem Next).run P w) κ h w aid v h'
        obtain ⟨ss, h1, hc⟩ := ob_eq_some.1 hc
        simp only [Option.some.injEq] at hc; subst hc
        obtain ⟨l, e1, he⟩ := ob_eq_some.1 he
        obtain ⟨e2, rfl⟩ := ret1_eq.1 he
        have hV := srcsOf_sound hs h1 e1
        cases l with
        | nil => cases e2
        | cons x l =>
          obtain ⟨u, us, hus, h3, h4⟩ := hV.inv_cons
          obtain ⟨z, q1, q2⟩ := minmax_list (P := P) (w := w) false l us h4 x v u h3 e2
          refine Res.val r ⟨z, ?_, q2⟩
          unfold Builtin.min_
          rw [show (args.map a.eval).toList = u :: us by rw [Array.toList_map]; exact hus]
          exact q1
  case panic x =>
    simp only [Option.some.injEq] at hc; subst hc; exact hn.elim
end
end Go.Abs
/- Values that forget: tokens; numbers of blocks. -/
namespace Go.Abs
set_option linter.unusedVariables false
set_option linter.unusedSimpArgs false

theorem stripAll_map (l : List AV) : stripAll l = l.map AV.strip := by
  induction l with
  | nil => rw [stripAll]; rfl
  | cons v l ih => rw [stripAll, ih]; rfl
theorem refsAll_iff {nb nt : Nat} {l : List AV} : refsAll nb nt l = true ↔ ∀ v ∈ l, v.refs nb nt = true := by
  induction l with
  | nil => rw [refsAll]; simp
  | cons v l ih => rw [refsAll]; simp [ih]

theorem getElem?_mem {α : Type} {l : List α} {i : Nat} {a : α} (h : l[i]? = some a) : a ∈ l := by
  obtain ⟨hi, rfl⟩ := List.getElem?_eq_some_iff.1 h
  exact List.getElem_mem hi

theorem strip_cells (e : AV) : e.strip.cells = e.cells.map AV.strip := by
  cases e <;> simp [AV.strip, AV.cells, stripAll_map]
theorem strip_scalar (e : AV) : e.strip.scalar = e.scalar := by
  cases e <;> simp [AV.strip, AV.scalar]
theorem refs_cells {nb nt : Nat} {e c : AV} (h : e.refs nb nt = true) (hc : c ∈ e.cells) : c.refs nb nt = true := by
  cases e with
  | agg cs => simp only [AV.refs] at h; exact refsAll_iff.1 h c hc
  | _ =>
    simp only [AV.cells, List.mem_singleton] at hc
    subst hc; exact h

theorem V.strip {κ : K} {a : AV} {x : Value} (h : V κ a x) : V κ a.strip x := by
  induction h with
  | bool b => simp [AV.strip]; exact .bool b
  | int k n => simp [AV.strip]; exact .int k n
  | str s => simp [AV.strip]; exact .str s
  | nilp => simp [AV.strip]; exact .nilp
  | ptr e => simp [AV.strip]; exact .ptr e
  | eptr hm _ ih =>
    simp only [AV.strip, stripAll_map]
    refine .eptr (fun j c hc => ?_) (fun j c v hc hv => ?_)
    · rw [List.getElem?_map, Option.map_eq_some_iff] at hc
      obtain ⟨d, hd, rfl⟩ := hc
      exact hm j d hd
    · rw [List.getElem?_map, Option.map_eq_some_iff] at hc
      obtain ⟨d, hd, rfl⟩ := hc
      exact ih j d v hd hv
  | slnil sz rm => simp only [AV.strip, stripAll_map, List.map_nil]; exact .slnil sz _
  | @slice sz es rm b o cap hcap hfull hown hsz hm hv ih =>
    simp only [AV.strip, stripAll_map]
    have key : V κ (.slice false sz (es.map AV.strip) rm.strip) (.slice (some ⟨b, o, none⟩) (es.map AV.strip).length cap) := by
      refine .slice (by simpa using hcap) (fun h => ?_) (fun t h => ?_) (fun i e he => ?_) (fun i e he j c hc => ?_) (fun i e he j c v hc hv' => ?_)
      · rw [List.length_map]; refine hfull ?_; cases rm <;> simp [Room.strip] at h ⊢
      · cases rm <;> simp [Room.strip] at h
      · rw [List.getElem?_map, Option.map_eq_some_iff] at he
        obtain ⟨d, hd, rfl⟩ := he
        obtain ⟨h1, h2⟩ := hsz i d hd
        rw [strip_cells]
        refine ⟨by simpa using h1, ?_⟩
        rw [List.all_map, List.all_eq_true]
        intro x hx
        simp only [Function.comp, strip_scalar]
        exact List.all_eq_true.1 h2 x hx
      · rw [List.getElem?_map, Option.map_eq_some_iff] at he
        obtain ⟨d, hd, rfl⟩ := he
        rw [strip_cells, List.getElem?_map, Option.map_eq_some_iff] at hc
        obtain ⟨c', hc', rfl⟩ := hc
        exact hm i d hd j c' hc'
      · rw [List.getElem?_map, Option.map_eq_some_iff] at he
        obtain ⟨d, hd, rfl⟩ := he
        rw [strip_cells, List.getElem?_map, Option.map_eq_some_iff] at hc
        obtain ⟨c', hc', rfl⟩ := hc
        exact ih i d hd j c' v hc' hv'
    rwa [List.length_map] at key
  | sref e hl => simp [AV.strip]; exact .sref e hl
  | func hx _ hy _ ihx ihy =>
    simp only [AV.strip, stripAll_map]
    refine .func (by simpa using hx) (fun i a v ha hv => ?_) (by simpa using hy) (fun i a v ha hv => ?_)
    · rw [List.getElem?_map, Option.map_eq_some_iff] at ha
      obtain ⟨d, hd, rfl⟩ := ha
      exact ihx i d v hd hv
    · rw [List.getElem?_map, Option.map_eq_some_iff] at ha
      obtain ⟨d, hd, rfl⟩ := ha
      exact ihy i d v hd hv
  | nilf => simp [AV.strip]; exact .nilf
  | iface _ ih => simp only [AV.strip]; exact .iface ih
  | nili => simp [AV.strip]; exact .nili
  | agg hl _ ih =>
    simp only [AV.strip, stripAll_map]
    refine .agg (by simpa using hl) (fun i a v ha hv => ?_)
    rw [List.getElem?_map, Option.map_eq_some_iff] at ha
    obtain ⟨d, hd, rfl⟩ := ha
    exact ih i d v hd hv
  | tup hl _ ih =>
    simp only [AV.strip, stripAll_map]
    refine .tup (by simpa using hl) (fun i a v ha hv => ?_)
    rw [List.getElem?_map, Option.map_eq_some_iff] at ha
    obtain ⟨d, hd, rfl⟩ := ha
    exact ih i d v hd hv

/-- the second knows all that the first does, of blocks below 'nb' and tokens below 'nt' -/
structure K.below (nb nt : Nat) (κ κ' : K) : Prop where
  m : ∀ b o v, κ.m b o = some v → κ'.m b o = some v
  φ : ∀ i b, i < nb → κ.φ i = some b → κ'.φ i = some b
  τ : ∀ t n k, t < nt → κ.τ t n = some k → κ'.τ t n = some k
theorem K.below.same {nb nt : Nat} {κ κ' : K} (h : K.below nb nt κ κ') {b o : Nat} {v : Value} (hs : (κ.m b o).isSome = true) (hv : κ'.m b o = some v) : κ.m b o = some v := by
  cases e : κ.m b o with
  | none => rw [e] at hs; cases hs
  | some u => have := h.m _ _ _ e; rw [this] at hv; exact hv
theorem K.below.isSome {nb nt : Nat} {κ κ' : K} (h : K.below nb nt κ κ') {b o : Nat} (hs : (κ.m b o).isSome = true) : (κ'.m b o).isSome = true := by
  cases e : κ.m b o with
  | none => rw [e] at hs; cases hs
  | some u => rw [h.m _ _ _ e]; rfl

theorem V.lower {κ κ' : K} {nb nt : Nat} (h : K.below nb nt κ κ') {a : AV} {x : Value} (hv : V κ a x) : a.refs nb nt = true → V κ' a x := by
  induction hv with
  | bool b => intro _; exact .bool b
  | int k n => intro _; exact .int k n
  | str s => intro _; exact .str s
  | nilp => intro _; exact .nilp
  | ptr e => intro hr; simp only [AV.refs, decide_eq_true_eq] at hr; exact .ptr (h.φ _ _ hr e)
  | eptr hm _ ih =>
    intro hr
    simp only [AV.refs] at hr
    exact .eptr (fun j c hc => h.isSome (hm j c hc)) fun j c v hc hv => ih j c v hc (h.same (hm j c hc) hv) (refsAll_iff.1 hr c (getElem?_mem hc))
  | slnil sz rm => intro _; exact .slnil sz rm
  | slice hcap hfull hown hsz hm _ ih =>
    intro hr
    have hes : ∀ e ∈ _, AV.refs nb nt e = true := refsAll_iff.1 (by simp only [AV.refs, Bool.and_eq_true] at hr; exact hr.2)
    refine .slice hcap hfull (fun t e => ?_) hsz (fun i e he j c hc => h.isSome (hm i e he j c hc))
      (fun i e he j c v hc hv => ih i e he j c v hc (h.same (hm i e he j c hc) hv) (refs_cells (hes e (getElem?_mem he)) (getElem?_mem hc)))
    obtain ⟨k, h1, h2⟩ := hown t e
    subst e
    simp only [AV.refs, Bool.and_eq_true, decide_eq_true_eq] at hr
    exact ⟨k, h.τ _ _ _ hr.1 h1, h2⟩
  | sref e hl => intro hr; simp only [AV.refs, decide_eq_true_eq] at hr; exact .sref (h.φ _ _ hr e) hl
  | func hx _ hy _ ihx ihy =>
    intro hr
    simp only [AV.refs, Bool.and_eq_true] at hr
    exact .func hx (fun i a v ha hv => ihx i a v ha hv (refsAll_iff.1 hr.1 a (getElem?_mem ha))) hy (fun i a v ha hv => ihy i a v ha hv (refsAll_iff.1 hr.2 a (getElem?_mem ha)))
  | nilf => intro _; exact .nilf
  | iface _ ih => intro hr; simp only [AV.refs] at hr; exact .iface (ih hr)
  | nili => intro _; exact .nili
  | agg hl _ ih =>
    intro hr
    simp only [AV.refs] at hr
    exact .agg hl fun i a v ha hv => ih i a v ha hv (refsAll_iff.1 hr a (getElem?_mem ha))
  | tup hl _ ih =>
    intro hr
    simp only [AV.refs] at hr
    exact .tup hl fun i a v ha hv => ih i a v ha hv (refsAll_iff.1 hr a (getElem?_mem ha))

/-- what is fixed alone -/
def K.bare (κ : K) : K := ⟨κ.m, fun _ => none, fun _ _ => none⟩
theorem K.below_zero {κ κ' : K} (h : ∀ b o v, κ.m b o = some v → κ'.m b o = some v) : K.below 0 0 κ κ' := ⟨h, fun _ _ hi => absurd hi (by omega), fun _ _ _ hi => absurd hi (by omega)⟩
theorem V.forget {κ κ' : K} (h : ∀ b o v, κ.m b o = some v → κ'.m b o = some v) {a : AV} {x : Value} (hv : V κ a x) (hr : a.strip.refs 0 0 = true) : V κ' a.strip x :=
  V.lower (K.below_zero h) hv.strip hr
theorem VL.forget {κ κ' : K} (h : ∀ b o v, κ.m b o = some v → κ'.m b o = some v) {l : List AV} {xs : List Value} (hv : VL κ l xs) (hr : refsAll 0 0 (stripAll l) = true) : VL κ' (stripAll l) xs := by
  rw [stripAll_map] at hr ⊢
  refine VL.of (by simpa using hv.1) fun i a v ha hv' => ?_
  rw [List.getElem?_map, Option.map_eq_some_iff] at ha
  obtain ⟨d, hd, rfl⟩ := ha
  exact (hv.to i d v hd hv').forget h (refsAll_iff.1 hr _ (List.mem_map.2 ⟨d, getElem?_mem hd, rfl⟩))

theorem R.bare {κ : K} {h : AH} {w : World} (r : R κ h w) : R κ.bare AH.empty w :=
  ⟨r.m, fun _ _ e => by simp [K.bare] at e, fun _ _ _ e => by simp [K.bare] at e, fun _ _ _ e => by simp [AH.get, AH.empty] at e, fun _ _ _ e => by simp [K.bare] at e,
    fun _ _ _ _ _ e => by simp [AH.empty] at e, fun _ _ _ _ _ _ _ _ _ e => by simp [AH.empty] at e⟩
theorem foot_bare (κ : K) (b : Nat) : ¬ Foot κ.bare AH.empty b := by
  rintro (⟨_, _, e, _⟩ | ⟨_, _, _, _, e, _⟩)
  · simp [AH.get, AH.empty] at e
  · simp [AH.empty] at e

/-- back from a call on values alone -/
def K.back (κ κ' : K) : K := ⟨κ'.m, κ.φ, κ.τ⟩
theorem K.back_le {κ κ' : K} (h : K.le κ.bare κ') : K.le κ (κ.back κ') := ⟨h.m, fun _ _ e => e, fun _ _ _ e => e⟩
theorem R.back {κ κ' : K} {h h' : AH} {w w' : World} (r : R κ h w) (r' : R κ' h' w') (g : Go κ.bare AH.empty w κ' h' w') : R (κ.back κ') h w' ∧ Go κ h w (κ.back κ') h w' := by
  have hle := K.back_le g.le
  have old : ∀ b o, b < w.heap.size → κ.m b o = none → κ'.m b o = none := by
    intro b o hb hn
    cases e : κ'.m b o with
    | none => rfl
    | some v =>
      rcases g.grow b o v e with h1 | h1 | h1
      · rw [show κ.bare.m b o = κ.m b o from rfl, hn] at h1; cases h1
      · exact absurd h1 (foot_bare κ b)
      · omega
  have keep : ∀ b, b < w.heap.size → w'.heap[b]? = w.heap[b]? := fun b hb => g.frame b hb (foot_bare κ b)
  refine ⟨⟨r'.m, fun id b e => ⟨(r.dom id b e).1, Nat.lt_of_lt_of_le (r.dom id b e).2 g.size⟩, r.inj, fun id bk b h1 h2 => ?_, r.tlt, fun t n g' c s h1 h2 => ?_, r.tdj⟩,
    ⟨hle, g.os, g.tape, g.output, g.size, fun b hb _ => keep b hb, fun b hf => .inl hf, fun b o v hv => ?_, Nat.le_refl _⟩⟩
  · obtain ⟨⟨e, vs, q1, q2⟩, q3⟩ := r.blk id bk b h1 h2
    have hb := (r.dom id b h2).2
    exact ⟨⟨e, vs, by rw [keep b hb]; exact q1, q2.mono hle⟩, fun o => old b o hb (q3 o)⟩
  · obtain ⟨q1, ⟨e, cur, q2, q3⟩, q4, q5⟩ := r.tok t n g' c s h1 h2
    have hb := lt_of_row q2
    exact ⟨q1, ⟨e, cur, by rw [keep g' hb]; exact q2, q3⟩, fun o ho => old g' o hb (q4 o ho), q5⟩
  · rcases g.grow b o v hv with h1 | h1 | h1
    · exact .inl h1
    · exact absurd h1 (foot_bare κ b)
    · exact .inr (.inr h1)
end Go.Abs
/- Frozen slices; slices that are kept; what is forgotten at a region's end. -/
namespace Go.Abs
set_option linter.unusedVariables false
set_option linter.unusedSimpArgs false

theorem AH.get_set (h : AH) (id : Nat) (b : Option Blk) (hid : id < h.blocks.length) (j : Nat) : (h.set id b).get j = if j = id then b else h.get j := by
  simp only [AH.get, AH.set, List.getElem?_set]
  by_cases hj : j = id
  · subst hj; simp [hid]
  · rw [if_neg (fun e => hj e.symm), if_neg hj]
theorem AH.length_set (h : AH) (id : Nat) (b : Option Blk) : (h.set id b).blocks.length = h.blocks.length := by simp [AH.set]

theorem flat_scalar : ∀ (l : List AV), l.all AV.scalar = true → l.flatMap AV.cells = l := by
  intro l
  induction l with
  | nil => intro _; rfl
  | cons a l ih =>
    intro h
    simp only [List.all_cons, Bool.and_eq_true] at h
    rw [List.flatMap_cons, ih h.2, cells_of_scalar h.1]; rfl

section
variable {κ : K} {h : AH} {w : World}

theorem freeze_sound (r : R κ h w) (a : AV) (x : Value) (hv : V κ a x) :
    ∃ κ', V κ' (freeze h a).1 x ∧ R κ' (freeze h a).2 w ∧ Go κ h w κ' (freeze h a).2 w ∧ κ'.φ = κ.φ ∧ (freeze h a).2.blocks.length = h.blocks.length ∧ (freeze h a).2.toks = h.toks := by
  have triv : ∃ κ', V κ' a x ∧ R κ' h w ∧ Go κ h w κ' h w ∧ κ'.φ = κ.φ ∧ h.blocks.length = h.blocks.length ∧ h.toks = h.toks := ⟨κ, hv, r, Go.refl κ h w, rfl, rfl, rfl⟩
  cases a <;> try exact triv
  rename_i id off len cap
  by_cases hcond : ∃ b, h.get id = some b ∧ (b.made = true ∧ off = 0 ∧ len = cap ∧ len = b.cs.length ∧ b.cs.all AV.scalar = true)
  case neg =>
    have hf : freeze h (.sref id off len cap) = (.sref id off len cap, h) := by
      unfold freeze
      dsimp only
      cases hg : h.get id with
      | none => rfl
      | some b => exact if_neg (fun hc => hcond ⟨b, hg, hc⟩)
    rw [hf]; exact triv
  case pos =>
      obtain ⟨b, hg, hc⟩ := hcond
      have hf : freeze h (.sref id off len cap) = (.slice false 1 b.cs .full, h.set id none) := by
        unfold freeze
        dsimp only
        rw [hg]
        exact if_pos hc
      rw [hf]
      obtain ⟨c1, c2, c3, c4, c5⟩ := hc
      subst c2; subst c3
      cases hv with
      | sref hφ hl =>
      rename_i blk
      obtain ⟨⟨e, vs, hrow, hV⟩, hfree⟩ := r.blk id b blk hg hφ
      have hid := AH.get_lt hg
      have hle := K.fix_le κ blk fun o => vs[o]?
      have hne : ∀ b', b' ≠ blk → ∀ o, (κ.fix blk fun o => vs[o]?).m b' o = κ.m b' o := by intro b' hb o; simp [K.fix, hb]
      have hat : ∀ o, (κ.fix blk fun o => vs[o]?).m blk o = vs[o]? := by intro o; simp [K.fix, hfree o]
      refine ⟨κ.fix blk fun o => vs[o]?, ?_, ⟨fun b' o v hm => ?_, fun j b' hj => by rw [AH.length_set]; exact r.dom j b' hj, r.inj, fun j bk' b' hj hb => ?_, r.tlt, fun t n g c s h1 h2 => ?_, r.tdj⟩,
        ⟨hle, rfl, rfl, rfl, Nat.le_refl _, fun _ _ _ => rfl, fun b' hf => .inl ?_, fun b' o v hm => ?_, by rw [AH.length_set]; exact Nat.le_refl _⟩, rfl, AH.length_set _ _ _, rfl⟩
      · rw [c4]
        refine V.slice_iff.2 (.inr ⟨rfl, blk, 0, b.cs.length, rfl, Nat.le_refl _, fun _ => rfl, by simp, EL.of_flat (fun e he => ?_) ?_⟩)
        · have hs := List.all_eq_true.1 c5 e he
          rw [cells_of_scalar hs]; simp [hs]
        · rw [flat_scalar _ c5]
          exact ⟨vs.toList, hV.mono hle, fun j v hj => by rw [Nat.zero_add, hat]; simpa using hj⟩
      · by_cases hb : b' = blk
        · subst hb
          rw [hat] at hm
          rw [cell_of_row _ _ _ _ _ _ hrow]; exact hm
        · rw [hne b' hb] at hm; exact r.m b' o v hm
      · rw [AH.get_set h id none hid] at hj
        split at hj
        · cases hj
        · rename_i hji
          obtain ⟨⟨e', vs', q1, q2⟩, q3⟩ := r.blk j bk' b' hj hb
          have hbb : b' ≠ blk := by rintro rfl; exact hji (r.inj j id _ hb hφ)
          exact ⟨⟨e', vs', q1, q2.mono hle⟩, fun o => by rw [hne b' hbb]; exact q3 o⟩
      · obtain ⟨q1, q2, q3, q4⟩ := r.tok t n g c s h1 h2
        have hgb : g ≠ blk := by rintro rfl; exact q4 id hφ
        exact ⟨q1, q2, fun o ho => by rw [hne g hgb]; exact q3 o ho, q4⟩
      · rcases hf with ⟨j, bk', hj, hb⟩ | hf
        · rw [AH.get_set h id none hid] at hj
          split at hj
          · cases hj
          · exact .inl ⟨j, bk', hj, hb⟩
        · exact .inr hf
      · by_cases hb : b' = blk
        · subst hb; exact .inr (.inl (.inl ⟨id, b, hg, hφ⟩))
        · rw [hne b' hb] at hm; exact .inl hm

theorem freezeAll_sound : ∀ (l : List AV) {κ : K} {h : AH} (r : R κ h w) (xs : List Value) (hv : VL κ l xs),
    ∃ κ', VL κ' (freezeAll h l).1 xs ∧ R κ' (freezeAll h l).2 w ∧ Go κ h w κ' (freezeAll h l).2 w ∧ κ'.φ = κ.φ ∧ (freezeAll h l).2.blocks.length = h.blocks.length ∧ (freezeAll h l).2.toks = h.toks := by
  intro l
  induction l with
  | nil => intro κ h r xs hv; exact ⟨κ, hv, r, Go.refl κ h w, rfl, rfl, rfl⟩
  | cons a l ih =>
    intro κ h r xs hv
    obtain ⟨x, q, rfl, h1, h2⟩ := hv.inv_cons
    obtain ⟨κ1, a1, a2, a3, a4, a5, a6⟩ := freeze_sound r a x h1
    obtain ⟨κ2, b1, b2, b3, b4, b5, b6⟩ := ih a2 q (h2.mono a3.le)
    exact ⟨κ2, VL.cons (a1.mono b3.le) b1, b2, a3.trans b3, by rw [b4, a4], by rw [freezeAll]; exact b5.trans a5, by rw [freezeAll]; exact b6.trans a6⟩

/-- a slice with its spare cells comes back from a call on values alone -/
theorem keep_sound {κ' : K} {h' : AH} {w' : World} (r : R κ h w) (r' : R κ' h' w') (g : Go κ.bare AH.empty w κ' h' w') (v : AV) (x : Value) (hv : V κ' v x) (u : AV) (n : Nat) (he : keepV h.toks.length (v, h') = some (u, n)) :
    ∃ κ'', V κ'' u x ∧ R κ'' ⟨h.blocks, h.toks ++ [n]⟩ w' ∧ Go κ h w κ'' ⟨h.blocks, h.toks ++ [n]⟩ w' ∧ κ''.φ = κ.φ := by
  cases v <;> simp only [keepV] at he <;> first | (cases he; done) | skip
  rename_i nl sz es rm
  split at he
  case isFalse => cases he
  case isTrue hrefs =>
  obtain ⟨rb, gb⟩ := r.back r' g
  -- the token's array
  have htk : ∃ k : Tok, u = .slice nl sz (stripAll es) (.own h.toks.length) ∧ n = es.length ∧ (nl = false → ∃ b o cap, x = .slice (some ⟨b, o, none⟩) es.length cap ∧ es.length ≤ cap ∧ (k = .tight → cap = es.length) ∧ (∀ g c s, k = .arr g c s → b = g ∧ o = 0 ∧ cap = c ∧ s = sz)) ∧
      (∀ g c s, k = .arr g c s → TokOk κ' w' es.length g c s ∧ w.heap.size ≤ g) := by
    cases rm with
    | unk => cases he
    | full =>
      simp only [Option.some.injEq, Prod.mk.injEq] at he
      obtain ⟨rfl, rfl⟩ := he
      refine ⟨.tight, rfl, rfl, fun hnl => ?_, fun g c s hk => by cases hk⟩
      rcases V.slice_iff.1 hv with ⟨h0, _, _⟩ | ⟨_, b, o, cap, rfl, hcap, hfull, _, _⟩
      · rw [hnl] at h0; cases h0
      · exact ⟨b, o, cap, rfl, hcap, fun _ => hfull rfl, fun g c s hk => by cases hk⟩
    | own t =>
      dsimp only at he
      split at he
      case isFalse => cases he
      case isTrue ht =>
        simp only [Option.some.injEq, Prod.mk.injEq] at he
        obtain ⟨rfl, rfl⟩ := he
        rcases V.slice_iff.1 hv with ⟨h0, he0, hx⟩ | ⟨_, b, o, cap, rfl, hcap, _, hown, _⟩
        · exact ⟨.tight, rfl, rfl, fun hnl => by (rw [hnl] at h0; cases h0), fun g c s hk => by cases hk⟩
        · obtain ⟨k, k1, k2, k3⟩ := hown t rfl
          refine ⟨k, rfl, rfl, fun _ => ⟨b, o, cap, rfl, hcap, k2, k3⟩, fun g' c s hk => ?_⟩
          subst hk
          refine ⟨r'.tok t _ g' c s ht k1, ?_⟩
          rcases g.foot g' (.inr ⟨t, _, c, s, ht, k1⟩) with hf | hf
          · exact absurd hf (foot_bare κ g')
          · exact hf
  obtain ⟨k, rfl, rfl, hx, hk⟩ := htk
  have hnone : (κ.back κ').τ h.toks.length es.length = none := by
    cases e : κ.τ h.toks.length es.length with
    | none => exact e
    | some q =>
      obtain ⟨n', h1, _⟩ := r.tlt _ _ _ e
      rw [List.getElem?_eq_none (Nat.le_refl _)] at h1; cases h1
  have hle := K.setτ_le (k := k) hnone
  have hm : ∀ b o, ((κ.back κ').setτ h.toks.length es.length k).m b o = κ'.m b o := fun _ _ => rfl
  have hτ : ∀ t n' q, ((κ.back κ').setτ h.toks.length es.length k).τ t n' = some q → (t = h.toks.length ∧ n' = es.length ∧ q = k) ∨ (κ.τ t n' = some q ∧ t < h.toks.length) := by
    intro t n' q hq
    simp only [K.setτ] at hq
    split at hq
    · rename_i e; cases hq; exact .inl ⟨e.1, e.2, rfl⟩
    · refine .inr ⟨hq, ?_⟩
      obtain ⟨n'', h1, _⟩ := r.tlt t n' q hq
      rcases Nat.lt_or_ge t h.toks.length with hx | hx
      · exact hx
      · rw [List.getElem?_eq_none hx] at h1; cases h1
  have hold : ∀ t, t < h.toks.length → (h.toks ++ [es.length])[t]? = h.toks[t]? := fun t ht => List.getElem?_append_left ht
  refine ⟨(κ.back κ').setτ h.toks.length es.length k, ?_, ⟨rb.m, rb.dom, rb.inj, fun id bk b h1 h2 => ?_, fun t n' q hq => ?_, fun t n' g' c s h1 h2 => ?_, fun t t' n1 n2 g' c c' s s' h1 h2 h3 h4 => ?_⟩,
    ⟨gb.le.trans hle, gb.os, gb.tape, gb.output, gb.size, gb.frame, fun b hf => ?_, gb.grow, gb.len⟩, rfl⟩
  · have hf := V.forget (κ := κ') (κ' := (κ.back κ').setτ h.toks.length es.length k) (fun b o v e => e) hv (by
      simp only [AV.strip]; cases rm <;> simp [Room.strip, AV.refs, hrefs])
    simp only [AV.strip] at hf
    rcases V.slice_iff.1 hf with ⟨h1, h2, h3⟩ | ⟨h1, b, o, cap, h2, h3, _, _, h5⟩
    · exact V.slice_iff.2 (.inl ⟨h1, h2, h3⟩)
    · obtain ⟨b', o', cap', q1, q2, q3, q4⟩ := hx h1
      have hlen : (stripAll es).length = es.length := by rw [stripAll_map, List.length_map]
      rw [q1] at h2
      injection h2 with i1 i2 i3
      injection i1 with i1
      injection i1 with i4 i5 _
      subst i4; subst i5; subst i3
      refine V.slice_iff.2 (.inr ⟨h1, b', o', cap', by rw [hlen]; exact q1, by rw [hlen]; exact q2, by simp, fun t ht => ?_, h5⟩)
      cases ht
      rw [hlen]
      exact ⟨k, K.setτ_at _ _ _ _, q3, q4⟩
  · obtain ⟨⟨e, vs, q1, q2⟩, q3⟩ := rb.blk id bk b h1 h2
    exact ⟨⟨e, vs, q1, q2.mono hle⟩, q3⟩
  · rcases hτ t n' q hq with ⟨rfl, rfl, rfl⟩ | ⟨hq, ht⟩
    · exact ⟨_, by simp, Nat.le_refl _⟩
    · show ∃ n'', (h.toks ++ [es.length])[t]? = some n'' ∧ _
      rw [hold t ht]; exact r.tlt t n' q hq
  · rcases hτ t n' _ h2 with ⟨rfl, rfl, hkk⟩ | ⟨hq, ht⟩
    · obtain ⟨⟨q1, q2, q3, q4⟩, hge⟩ := hk g' c s hkk.symm
      refine ⟨q1, q2, q3, fun id hid => ?_⟩
      have := (r.dom id g' hid).2; omega
    · change (h.toks ++ [es.length])[t]? = some n' at h1
      rw [hold t ht] at h1
      obtain ⟨q1, q2, q3, q4⟩ := rb.tok t n' g' c s h1 hq
      exact ⟨q1, q2, q3, q4⟩
  · change (h.toks ++ [es.length])[t]? = some n1 at h1
    change (h.toks ++ [es.length])[t']? = some n2 at h3
    rcases hτ t n1 _ h2 with ⟨rfl, rfl, hkk⟩ | ⟨hq, ht⟩ <;> rcases hτ t' n2 _ h4 with ⟨rfl, rfl, hkk'⟩ | ⟨hq', ht'⟩
    · rfl
    · have := (hk g' c s hkk.symm).2
      rw [hold t' ht'] at h3
      obtain ⟨_, ⟨_, _, q, _⟩, _, _⟩ := r.tok t' n2 g' c' s' h3 hq'
      have := lt_of_row q; omega
    · have := (hk g' c' s' hkk'.symm).2
      rw [hold t ht] at h1
      obtain ⟨_, ⟨_, _, q, _⟩, _, _⟩ := r.tok t n1 g' c s h1 hq
      have := lt_of_row q; omega
    · rw [hold t ht] at h1; rw [hold t' ht'] at h3
      exact r.tdj t t' n1 n2 g' c c' s s' h1 hq h3 hq'
  · rcases hf with ⟨j, bk', hj, hb⟩ | ⟨t, n', c, s, h1, h2⟩
    · exact .inl (.inl ⟨j, bk', hj, hb⟩)
    · change (h.toks ++ [es.length])[t]? = some n' at h1
      rcases hτ t n' _ h2 with ⟨rfl, rfl, hkk⟩ | ⟨hq, ht⟩
      · exact .inr (hk b c s hkk.symm).2
      · rw [hold t ht] at h1; exact .inl (.inr ⟨t, n', c, s, h1, hq⟩)

/-! #### a region's end -/
theorem restrict_get (σ : Nat → Option AV) : ∀ (ks : List Nat) (t : Nat) (v : AV), ofList (restrict σ ks) t = some v → σ t = some v ∧ (t, v) ∈ restrict σ ks := by
  intro ks
  induction ks with
  | nil => intro t v h; simp [restrict, ofList] at h
  | cons k ks ih =>
    intro t v h
    unfold restrict at h ⊢
    cases hk : σ k with
    | none => rw [hk] at h; exact ih t v h
    | some u =>
      rw [hk] at h
      dsimp only at h ⊢
      unfold ofList at h
      split at h
      · rename_i e; subst e; cases h; exact ⟨hk, by simp⟩
      · obtain ⟨h1, h2⟩ := ih t v h
        exact ⟨h1, by simp [h2]⟩

theorem refsS_mem {nb nt : Nat} : ∀ (l : List (Nat × AV)), refsS nb nt l = true → ∀ p ∈ l, p.2.refs nb nt = true := by
  intro l
  induction l with
  | nil => intro _ p hp; simp at hp
  | cons q l ih =>
    intro h p hp
    obtain ⟨k, v⟩ := q
    simp only [refsS, Bool.and_eq_true] at h
    rcases List.mem_cons.1 hp with rfl | hp
    · exact h.1
    · exact ih h.2 p hp
theorem blkRefs_get {nb nt : Nat} : ∀ (l : List (Option Blk)), blkRefs nb nt l = true → ∀ (j : Nat) (b : Blk), l[j]? = some (some b) → refsAll nb nt b.cs = true := by
  intro l
  induction l with
  | nil => intro _ j b h; simp at h
  | cons q l ih =>
    intro h j b hj
    cases q with
    | none =>
      simp only [blkRefs] at h
      cases j with
      | zero => simp at hj
      | succ j => exact ih h j b (by simpa using hj)
    | some q =>
      simp only [blkRefs, Bool.and_eq_true] at h
      cases j with
      | zero => simp at hj; subst hj; exact h.1
      | succ j => exact ih h.2 j b (by simpa using hj)

theorem popTo_spec (base nt : Nat) (vs : List (Nat × AV)) (bs : List (Option Blk)) : ∀ (k : Nat), base ≤ k → k ≤ bs.length → (k = bs.length ∨ (refsS k nt vs = true ∧ blkRefs k nt (bs.take k) = true)) →
    ∃ p, popTo base nt vs bs k = p ∧ base ≤ p ∧ p ≤ bs.length ∧ (p = bs.length ∨ (refsS p nt vs = true ∧ blkRefs p nt (bs.take p) = true)) := by
  intro k
  induction k with
  | zero => intro hb hk h; exact ⟨0, rfl, hb, hk, h⟩
  | succ k ih =>
    intro hb hk h
    unfold popTo
    split
    · rename_i hc
      simp only [Bool.and_eq_true, decide_eq_true_eq] at hc
      exact ih hc.1 (by omega) (.inr hc.2)
    · exact ⟨k + 1, rfl, hb, hk, h⟩

/-- what is known behind a region's end -/
def K.cut (κ : K) (p : Nat) : K := ⟨κ.m, fun i => if i < p then κ.φ i else none, κ.τ⟩

theorem settle_sound {κe : K} {he : AH} {we : World} (base : Nat) (ks : List Nat) (pop : Bool) (s : St) (tmps : Array Value) (r : R κ s.h w) (hs : VS κ s.σ tmps) (g : Go κe he we κ s.h w) (hb : base ≤ s.h.blocks.length) (hbe : he.blocks.length ≤ base)
    (hφ : ∀ i, i < base → κ.φ i = κe.φ i) (hdom : ∀ i b, κe.φ i = some b → i < base) :
    ∃ κ', R κ' (settle base ks pop s).h w ∧ VS κ' (settle base ks pop s).σ tmps ∧ Go κe he we κ' (settle base ks pop s).h w ∧ base ≤ (settle base ks pop s).h.blocks.length ∧ ∀ i, i < base → κ'.φ i = κe.φ i := by
  cases pop with
  | false =>
    exact ⟨κ, r, fun t v h => hs t v (restrict_get s.σ ks t v h).1, g, hb, hφ⟩
  | true =>
    obtain ⟨p, hp, p1, p2, p3⟩ := popTo_spec base s.h.toks.length (restrict s.σ ks) s.h.blocks s.h.blocks.length hb (Nat.le_refl _) (.inl rfl)
    have hh : (settle base ks true s).h = ⟨s.h.blocks.take p, s.h.toks⟩ := by simp only [settle, if_true, popH, hp]
    have hget : ∀ j, (⟨s.h.blocks.take p, s.h.toks⟩ : AH).get j = if j < p then s.h.get j else none := by
      intro j
      simp only [AH.get, List.getElem?_take]
      by_cases hj : j < p
      · rw [if_pos hj, if_pos hj]
      · rw [if_neg hj, if_neg hj]
    have hlow : K.below p s.h.toks.length κ (κ.cut p) := ⟨fun _ _ _ e => e, fun i b hi e => by simp only [K.cut]; rw [if_pos hi]; exact e, fun _ _ _ _ e => e⟩
    have hfull : p = s.h.blocks.length → κ.cut p = κ := by
      intro e
      subst e
      unfold K.cut
      congr 1
      funext i
      split
      · rfl
      · rename_i hi
        cases e : κ.φ i with
        | none => rfl
        | some b => exact absurd (r.dom i b e).1 hi
    have hcut : ∀ i b, (κ.cut p).φ i = some b → κ.φ i = some b ∧ i < p := by
      intro i b e
      simp only [K.cut] at e
      split at e
      · exact ⟨e, by assumption⟩
      · cases e
    have hlen : (s.h.blocks.take p).length = p := by rw [List.length_take]; omega
    refine ⟨κ.cut p, ?_, ?_, ?_, by rw [hh]; show base ≤ (s.h.blocks.take p).length; rw [hlen]; exact p1, fun i hi => ?_⟩
    · rw [hh]
      refine ⟨r.m, fun id b e => ?_, fun i j b e1 e2 => r.inj i j b (hcut i b e1).1 (hcut j b e2).1, fun id bk b h1 h2 => ?_, r.tlt, fun t n g' c s' h1 h2 => ?_, r.tdj⟩
      · obtain ⟨h1, h2⟩ := hcut id b e
        show id < (s.h.blocks.take p).length ∧ _
        rw [hlen]; exact ⟨h2, (r.dom id b h1).2⟩
      · obtain ⟨h3, h4⟩ := hcut id b h2
        rw [hget, if_pos h4] at h1
        obtain ⟨⟨e, vs, q1, q2⟩, q3⟩ := r.blk id bk b h1 h3
        refine ⟨⟨e, vs, q1, ?_⟩, q3⟩
        rcases p3 with p3 | ⟨p4, p5⟩
        · rw [hfull p3]; exact q2
        · have hr : refsAll p s.h.toks.length bk.cs = true := by
            refine blkRefs_get _ p5 id bk ?_
            rw [List.getElem?_take, if_pos h4]
            unfold AH.get at h1
            cases e : s.h.blocks[id]? with
            | none => rw [e] at h1; cases h1
            | some o => rw [e] at h1; dsimp only at h1; rw [h1]
          exact VL.of q2.1 fun i a v ha hv => (q2.to i a v ha hv).lower hlow (refsAll_iff.1 hr a (getElem?_mem ha))
      · obtain ⟨q1, q2, q3, q4⟩ := r.tok t n g' c s' h1 h2
        exact ⟨q1, q2, q3, fun id e => q4 id (hcut id g' e).1⟩
    · intro t v h
      obtain ⟨h1, h2⟩ := restrict_get s.σ ks t v h
      have hV := hs t v h1
      rcases p3 with p3 | ⟨p4, p5⟩
      · rw [hfull p3]; exact hV
      · exact hV.lower hlow (refsS_mem _ p4 (t, v) h2)
    · rw [hh]
      refine ⟨⟨g.le.m, fun i b e => ?_, g.le.τ⟩, g.os, g.tape, g.output, g.size, g.frame, fun b hf => ?_, g.grow, ?_⟩
      · simp only [K.cut]
        rw [if_pos (Nat.lt_of_lt_of_le (hdom i b e) p1)]
        exact g.le.φ i b e
      · refine g.foot b ?_
        rcases hf with ⟨j, bk', hj, hb'⟩ | hf
        · obtain ⟨h3, h4⟩ := hcut j b hb'
          rw [hget, if_pos h4] at hj
          exact .inl ⟨j, bk', hj, h3⟩
        · exact .inr hf
      · show _ ≤ (s.h.blocks.take p).length
        rw [hlen]; omega
    · simp only [K.cut]
      rw [if_pos (by omega)]
      exact hφ i hi
end
end Go.Abs
/- Calls. -/
namespace Go.Abs
set_option linter.unusedVariables false
set_option linter.unusedSimpArgs false

/-- the fence of all functions -/
abbrev Wd (ro : Option Nat) : Fence := { Fence.wide with round := ro }
theorem callsIn_Wd {ro : Option Nat} {n : Nat} {P : Program} {f : FuncId} {args : Array Value} {w : World} {R : Ending → World → Prop} (h : Calls P f args w R) : CallsIn (Wd ro) n P f args w R :=
  show CallsIn Fence.wide n P f args w R from callsIn_wide.2 h

/-- a function that is entered -/
def Enters (P : Program) (f : FuncId) : Prop := ∃ fn : Func, P.funcs[f]? = some fn ∧ (fn.name == "runtime.NumGoroutine") = false ∧ fn.body.isNone = false

/-- what a call must come to -/
def Post (κ : K) (h : AH) (w : World) (v : AV) (h' : AH) (e : Ending) (w' : World) : Prop :=
  ∃ x κ', e = .returned x ∧ V κ' v x ∧ R κ' h' w' ∧ Go κ h w κ' h' w' ∧ ∀ i, i < h.blocks.length → κ'.φ i = κ.φ i

def CallOk (P : Program) (cf : CallF) : Prop := ∀ f args h v h', cf f args h = some (v, h') → Enters P f ∧ ∀ (κ : K) (w : World) (vals : Array Value), R κ h w → VL κ args vals.toList → Calls P f vals w (Post κ h w v h')

section
variable {P : Program} {C : Cfg} {cf : CallF} {κ : K} {h h' : AH} {w : World} {v : AV}

theorem back_post {κ1 : K} {h1 : AH} (r1 : R κ1 h1 w) (g1 : Go κ h w κ1 h1 w) (hφ : κ1.φ = κ.φ) {v0 : AV} {h0 : AH} {e : Ending} {w' : World} (hp : Post κ1.bare AH.empty w v0 h0 e w')
    (hr : (freeze h0 v0).1.strip.refs 0 0 = true) : Post κ h w (freeze h0 v0).1.strip h1 e w' := by
  obtain ⟨x, κ', rfl, a1, a2, a3, _⟩ := hp
  obtain ⟨κ2, b1, b2, b3, _, _, _⟩ := freeze_sound a2 v0 x a1
  obtain ⟨c1, c2⟩ := r1.back b2 (a3.trans b3)
  exact ⟨x, κ1.back κ2, rfl, V.forget (κ := κ2) (κ' := κ1.back κ2) (fun _ _ _ e => e) b1 hr, c1, g1.trans c2, fun i _ => by show κ1.φ i = κ.φ i; rw [hφ]⟩

theorem aCallP_sound (hcf : CallOk P cf) (f : FuncId) (args : List AV) (he : aCallP C cf f args h = some (v, h')) : Enters P f ∧ ∀ (κ : K) (w : World) (vals : Array Value), R κ h w → VL κ args vals.toList → Calls P f vals w (Post κ h w v h') := by
  unfold aCallP at he
  split at he
  case isFalse => cases he
  case isTrue hc =>
    obtain ⟨q, hq, he⟩ := ob_eq_some.1 he
    split at he
    case isFalse => cases he
    case isTrue hr =>
      simp only [Option.some.injEq, Prod.mk.injEq] at he
      obtain ⟨rfl, rfl⟩ := he
      obtain ⟨e1, e2⟩ := hcf f _ _ q.1 q.2 hq
      refine ⟨e1, fun κ w vals r hv => ?_⟩
      exact (e2 κ.bare w vals r.bare (VL.forget (κ := κ) (κ' := κ.bare) (fun _ _ _ e => e) hv hc.2)).mono fun e w' hp => back_post r (Go.refl κ h w) rfl hp hr

theorem aCall_sound (hcf : CallOk P cf) (f : FuncId) (args : List AV) (he : aCall C cf f args h = some (v, h')) : Enters P f ∧ ∀ (κ : K) (w : World) (vals : Array Value), R κ h w → VL κ args vals.toList → Calls P f vals w (Post κ h w v h') := by
  unfold aCall at he
  split at he
  · exact hcf f args h v h' he
  · split at he
    case isFalse => cases he
    case isTrue hc =>
      obtain ⟨q, hq, he⟩ := ob_eq_some.1 he
      split at he
      case isFalse => cases he
      case isTrue hr =>
        simp only [Option.some.injEq, Prod.mk.injEq] at he
        obtain ⟨rfl, rfl⟩ := he
        obtain ⟨e1, e2⟩ := hcf f _ _ q.1 q.2 hq
        refine ⟨e1, fun κ w vals r hv => ?_⟩
        obtain ⟨κ1, a1, a2, a3, a4, _, _⟩ := freezeAll_sound args r vals.toList hv
        exact (e2 κ1.bare w vals a2.bare (VL.forget (κ := κ1) (κ' := κ1.bare) (fun _ _ _ e => e) a1 hc)).mono fun e w' hp => back_post a2 a3 a4 hp hr
  · split at he
    case isFalse => cases he
    case isTrue hc =>
      obtain ⟨q, hq, he⟩ := ob_eq_some.1 he
      obtain ⟨u, hu, he⟩ := ob_eq_some.1 he
      simp only [Option.some.injEq, Prod.mk.injEq] at he
      obtain ⟨rfl, rfl⟩ := he
      obtain ⟨e1, e2⟩ := hcf f _ _ q.1 q.2 hq
      refine ⟨e1, fun κ w vals r hv => ?_⟩
      obtain ⟨κ1, a1, a2, a3, a4, _, _⟩ := freezeAll_sound args r vals.toList hv
      refine (e2 κ1.bare w vals a2.bare (VL.forget (κ := κ1) (κ' := κ1.bare) (fun _ _ _ e => e) a1 hc)).mono fun e w' hp => ?_
      obtain ⟨x, κ', rfl, b1, b2, b3, _⟩ := hp
      obtain ⟨κ2, c1, c2, c3, c4⟩ := keep_sound a2 b2 b3 q.1 x b1 u.1 u.2 hu
      exact ⟨x, κ2, rfl, c1, c2, a3.trans c3, fun i _ => by rw [c4, a4]⟩

/-- the run of the operation 'call of a value' -/
theorem run_callValue (a : Act) (o : Oper) (g : Operand) (args : Array Operand) (ats : Array TypeId) (ho : o.op = .call { callee := .value g, args := args, argTypes := ats }) (f : FuncId) (first captured : Array Value)
    (hg : a.eval g = .func (.func f) first captured) (hf : Enters P f) (w : World) :
    (execOp a.eval o).run P w = .ok (.enter f ((first ++ args.map a.eval) ++ captured)) w := by
  obtain ⟨fn, h1, h2, h3⟩ := hf
  unfold execOp
  rw [ho]
  have h2' : ¬ fn.name = "runtime.NumGoroutine" := by simpa using h2
  have h3' : ¬ fn.body = none := by intro e; rw [e] at h3; cases h3
  simp [resolve, hg, Deferred.ofValue, invoke, callFunc, h1, h2', h3']
end
end Go.Abs
/- One operation's step. -/
namespace Go.Abs
set_option linter.unusedVariables false
set_option linter.unusedSimpArgs false

/-- what stands for an operation -/
structure OperOk (T : Tys) (nt : Nat) (ops : Array Oper) (o : Oper) (io : IOper) : Prop where
  dst : io.dst = o.dst
  lt : ∀ d, o.dst = some d → d < nt
  guard : guardOf ops o.guard = some io.guard
  op : opOf T o.op = some io.op ∨ ∃ f args, io.op = .pcall f args ∧ opOf T o.op = some (.call f args)

theorem operOf_ok {T : Tys} {nt : Nat} {ops : Array Oper} {o : Oper} {io : IOper} (h : operOf T nt ops o = some io) : OperOk T nt ops o io := by
  obtain ⟨op, h1, h⟩ := ob_eq_some.1 h
  obtain ⟨g, h2, h⟩ := ob_eq_some.1 h
  cases hd : o.dst with
  | none =>
    rw [hd] at h
    simp only [Option.some.injEq] at h; subst h
    refine ⟨hd.symm, fun d e => ?_, h2, .inl h1⟩
    rw [hd] at e; cases e
  | some d =>
    rw [hd] at h
    dsimp only at h
    split at h
    case isFalse => cases h
    case isTrue hlt =>
      simp only [Option.some.injEq] at h; subst h
      refine ⟨hd.symm, fun d' e => ?_, h2, .inl h1⟩
      rw [hd] at e; cases e; exact hlt

section
variable {P : Program} {T : Tys} (hT : TysOk P T) {C : Cfg} {cf : CallF} (hcf : CallOk P cf) {κ : K} {h h' : AH} {w : World} {σ : Nat → Option AV} {a : Act} {v : AV}

theorem wanted_sound {ops : Array Oper} {o : Oper} {g : Option (Nat × Bool)} (hs : VS κ σ a.tmps) (hg : guardOf ops o.guard = some g) {b : Bool} (he : aWanted g σ = some b) : Region.wanted o (yielded ops a.tmps) = b := by
  unfold Region.wanted
  cases ho : o.guard with
  | none =>
    rw [ho] at hg
    simp only [guardOf, Option.some.injEq] at hg; subst hg
    simp only [aWanted, Option.some.injEq] at he; subst he
    rfl
  | some p =>
    obtain ⟨j, want⟩ := p
    rw [ho] at hg
    simp only [guardOf] at hg
    split at hg
    case h_2 => cases hg
    case h_1 o' hj =>
      split at hg
      case h_2 => cases hg
      case h_1 d hd =>
        simp only [Option.some.injEq] at hg; subst hg
        obtain ⟨u, hu, he⟩ := ob_eq_some.1 (show ob (σ d) _ = some b from he)
        have hV := hs d u hu
        dsimp only
        have hy : yielded ops a.tmps j = match a.tmps[d]? with | some (.bool b) => some b | _ => none := by
          unfold yielded
          rw [hj]
          simp only [Option.bind_some, hd]
          rfl
        rw [hy]
        rw [Array.getD_eq_getD_getElem?] at hV
        split at he
        · rename_i bb
          simp only [Option.some.injEq] at he; subst he
          cases ht : a.tmps[d]? with
          | none => rw [ht] at hV; cases hV
          | some x =>
            rw [ht] at hV
            simp only [Option.getD_some] at hV
            cases hV
            dsimp only
            cases bb <;> cases want <;> rfl
        · simp only [Option.some.injEq] at he; subst he
          cases ht : a.tmps[d]? with
          | none => rfl
          | some x =>
            rw [ht] at hV
            simp only [Option.getD_some] at hV
            cases hV
            rfl
        · cases he

theorem put_sound {nt : Nat} {dst : Option Nat} (hs : VS κ σ a.tmps) (hn : nt ≤ a.tmps.size) (hd : ∀ d, dst = some d → d < nt) {x : Value} (hv : V κ v x) : VS κ (aPut dst v σ) (a.put dst x).tmps := by
  cases dst with
  | none => exact hs
  | some d =>
    intro t u hu
    have hlt := hd d rfl
    simp only [aPut, upd] at hu
    simp only [Act.put, Array.getD_eq_getD_getElem?]
    by_cases e : d = t
    · subst e
      rw [if_pos rfl] at hu
      cases hu
      rw [Array.getElem?_setIfInBounds_self_of_lt (by omega)]
      exact hv
    · rw [if_neg e] at hu
      rw [Array.getElem?_setIfInBounds_ne e]
      have := hs t u hu
      rwa [Array.getD_eq_getD_getElem?] at this
theorem put_size (a : Act) (dst : Option Tmp) (x : Value) : (a.put dst x).tmps.size = a.tmps.size := by cases dst <;> simp [Act.put]
theorem put_defers' (a : Act) (dst : Option Tmp) (x : Value) : (a.put dst x).defers = a.defers := by cases dst <;> rfl

/-- what a step must come to, told to what follows -/
def StepTo (κ : K) (σ : Nat → Option AV) (h : AH) (w : World) (a : Act) (dst : Option Nat) (aid : Option Nat) (s' : St) (K : Act → World → Prop) : Prop :=
  ∀ v x w' κ', s'.σ = aPut dst v σ → V κ' v x → R κ' s'.h w' → Go κ h w κ' s'.h w' → (∀ i, i < h.blocks.length → aid ≠ some i → κ'.φ i = κ.φ i) → K (a.put dst x) w'

theorem not_defer {T : Tys} {op : Op} {io : IOp} (h : opOf T op = some io) : ∀ c, op ≠ .defer c := by rintro c rfl; cases h

def isCall : IOp → Bool
  | .call _ _ | .pcall _ _ => true
  | _ => false
theorem opOf_noCall {o : Op} {io : IOp} (h : opOf T o = some io) (hc : ∀ c, o ≠ .call c) : isCall io = false := by
  cases o <;> simp only [opOf] at h <;> first | (exact absurd rfl (hc _)) | skip
  all_goals
    repeat (first
      | (contradiction)
      | (simp only [Option.some.injEq] at h; subst h; rfl)
      | (rw [ob_eq_some] at h; obtain ⟨_, _, h⟩ := h)
      | (split at h))
theorem opOf_builtin {b : Builtin} {as : Array Operand} {ts : Array TypeId} {io : IOp} (h : opOf T (.call { callee := .builtin b, args := as, argTypes := ts }) = some io) : isCall io = false := by
  cases b <;> simp only [opOf] at h
  all_goals
    repeat (first
      | (contradiction)
      | (simp only [Option.some.injEq] at h; subst h; rfl)
      | (rw [ob_eq_some] at h; obtain ⟨_, _, h⟩ := h)
      | (split at h))

theorem opOf_call {o : Op} {io : IOp} (h : opOf T o = some io) (hc : isCall io = true) :
    ∃ g as ts f args, io = .call f args ∧ o = .call { callee := .value g, args := as, argTypes := ts } ∧ srcOf g = some f ∧ srcsOf as.toList = some args := by
  by_cases ho : ∃ c, o = .call c
  · obtain ⟨⟨callee, as, ts⟩, rfl⟩ := ho
    cases callee with
    | value g =>
      simp only [opOf] at h
      obtain ⟨s, h1, h⟩ := ob_eq_some.1 h
      obtain ⟨l, h2, h⟩ := ob_eq_some.1 h
      simp only [Option.some.injEq] at h
      exact ⟨g, as, ts, s, l, h.symm, rfl, h1, h2⟩
    | invoke r m => simp only [opOf] at h; cases h
    | builtin b => rw [opOf_builtin h] at hc; cases hc
  · rw [opOf_noCall h (fun c e => ho ⟨c, e⟩)] at hc; cases hc

theorem aOper_plain {io : IOp} {aid : Option Nat} (h1 : ∀ f l, io ≠ .call f l) (h2 : ∀ f l, io ≠ .pcall f l) : aOper C cf σ h aid io = aop σ h aid io := by
  cases io <;> first | rfl | exact absurd rfl (h1 _ _) | exact absurd rfl (h2 _ _)

include hT hcf in
theorem step_sound {ro : Option Nat} {n nt : Nat} {ops : Array Oper} {o : Oper} {io : IOper} (ok : OperOk T nt ops o io) (aid : Option Nat) (s' : St) (he : aStep C cf io aid ⟨σ, h⟩ = some s') (r : R κ h w) (hs : VS κ σ a.tmps)
    (haid : ∀ i z, aid = some i → io.op = .alloc z → κ.φ i = none ∧ h.get i = some ⟨false, z⟩) (K : Act → World → Prop) (Q : Exit → Act → World → Prop) (hK : StepTo κ σ h w a o.dst aid s' K) :
    if Region.wanted o (yielded ops a.tmps) then o.wpIn (Wd ro) n P a w K Q else (∀ f, o.about P w a.eval = some f → (Wd ro).fn f) ∧ K (a.put o.dst undef) w := by
  obtain ⟨b, hb, he⟩ := ob_eq_some.1 he
  rw [wanted_sound hs ok.guard hb]
  cases b with
  | false =>
    simp only [Bool.false_eq_true, if_false, Option.some.injEq] at he ⊢
    subst he
    refine ⟨fun _ _ => trivial, ?_⟩
    exact hK AV.undef undef w κ (by rw [ok.dst]) (V.undef κ) r (Go.refl κ h w) (fun _ _ _ => rfl)
  | true =>
    simp only [if_true] at he ⊢
    obtain ⟨q, hq, he⟩ := ob_eq_some.1 he
    simp only [Option.some.injEq] at he; subst he
    refine ⟨fun _ _ => trivial, ?_⟩
    have callcase : ∀ f args, opOf T o.op = some (.call f args) → (∀ p fv l, src σ f = some fv → srcs σ args = some l → aTarget fv l = some p →
        Enters P p.1 ∧ ∀ (vals : Array Value), VL κ p.2 vals.toList → Calls P p.1 vals w (Post κ h w q.1 q.2)) → (∃ fv l p, src σ f = some fv ∧ srcs σ args = some l ∧ aTarget fv l = some p) →
        o.uponIn (Wd ro) n P a K Q ((o.semAt (Wd ro).round a.eval).run P w) := by
      intro f args hop hcall hex
      obtain ⟨g, as, ts, f', args', heq, ho, hg, has⟩ := opOf_call hop rfl
      cases heq
      obtain ⟨fv, l, p, e1, e2, e3⟩ := hex
      obtain ⟨hen, hc⟩ := hcall p fv l e1 e2 e3
      have hV := srcOf_sound hs hg e1
      have hVL := srcsOf_sound hs has e2
      cases fv <;> simp only [aTarget] at e3 <;> try (cases e3; done)
      rename_i fn first captured
      cases fn <;> simp only at e3 <;> try (cases e3; done)
      rename_i fid
      simp only [Option.some.injEq] at e3; subst e3
      cases hgv : a.eval g <;> rw [hgv] at hV <;> try (cases hV; done)
      obtain ⟨⟨f', h1, h2⟩, h3, h4⟩ := V.func_iff.1 hV
      cases h1; subst h2
      rw [Oper.semAt_eq _ _ _ (not_defer hop), run_callValue a o g as ts ho fid _ _ hgv hen w, Oper.uponIn_enter]
      refine ⟨fun h0 => by simp [Fence.wide] at h0, callsIn_Wd ((hc _ ?_).mono fun e w' hp => ?_)⟩
      · simp only [Array.toList_append, Array.toList_map, List.append_assoc]
        exact h3.append (hVL.append h4)
      · obtain ⟨x, κ', rfl, q1, q2, q3, q4⟩ := hp
        exact hK q.1 x w' κ' (by rw [ok.dst]) q1 q2 q3 (fun i hi _ => q4 i hi)
    rcases ok.op with hop | ⟨f, args, hio, hop⟩
    · by_cases hcall : ∃ f l, io.op = .call f l
      · obtain ⟨f, args, hio⟩ := hcall
        rw [hio] at hop hq
        obtain ⟨fv, e1, hq⟩ := ob_eq_some.1 (show ob (src σ f) _ = some q from hq)
        obtain ⟨l, e2, hq⟩ := ob_eq_some.1 hq
        obtain ⟨p, e3, hq⟩ := ob_eq_some.1 hq
        obtain ⟨c1, c2⟩ := aCall_sound (v := q.1) (h' := q.2) hcf p.1 p.2 hq
        refine callcase f args hop (fun p' fv' l' e1' e2' e3' => ?_) ⟨fv, l, p, e1, e2, e3⟩
        rw [e1] at e1'; cases e1'
        rw [e2] at e2'; cases e2'
        rw [e3] at e3'; cases e3'
        exact ⟨c1, fun vals hv => c2 κ w vals r hv⟩
      · by_cases hpc : ∃ f l, io.op = .pcall f l
        · obtain ⟨f, l, hio⟩ := hpc
          exfalso
          obtain ⟨g, as, ts, f', args', heq, _⟩ := opOf_call hop (by rw [hio]; rfl)
          rw [hio] at heq; cases heq
        · by_cases hbad : io.op = .bad
          · rw [hbad] at hq; cases hq
          have hnc : NoCall io.op := by
            cases hio : io.op <;> first | trivial | exact absurd ⟨_, _, hio⟩ hcall | exact hbad hio
          rw [aOper_plain (fun f l e => hcall ⟨f, l, e⟩) (fun f l e => hpc ⟨f, l, e⟩)] at hq
          obtain ⟨x, w', κ', hx, q1, q2, q3, q4⟩ := op_sound hT r hs o io.op aid hop hnc hq haid
          rw [Oper.semAt_eq _ _ _ (not_defer hop)]
          rcases hx with hx | ⟨hx, rfl⟩
          · rw [hx, Oper.uponIn_value]
            exact hK q.1 x w' κ' (by rw [ok.dst]) q1 q2 q3 q4
          · rw [hx, Oper.uponIn_skip]
            exact hK q.1 undef w' κ' (by rw [ok.dst]) q1 q2 q3 q4
    · rw [hio] at hq
      obtain ⟨fv, e1, hq⟩ := ob_eq_some.1 (show ob (src σ f) _ = some q from hq)
      obtain ⟨l, e2, hq⟩ := ob_eq_some.1 hq
      obtain ⟨p, e3, hq⟩ := ob_eq_some.1 hq
      obtain ⟨c1, c2⟩ := aCallP_sound (v := q.1) (h' := q.2) hcf p.1 p.2 hq
      refine callcase f args hop (fun p' fv' l' e1' e2' e3' => ?_) ⟨fv, l, p, e1, e2, e3⟩
      rw [e1] at e1'; cases e1'
      rw [e2] at e2'; cases e2'
      rw [e3] at e3'; cases e3'
      exact ⟨c1, fun vals hv => c2 κ w vals r hv⟩
end
end Go.Abs
/- A region, in the order of its text. -/
namespace Go.Abs
set_option linter.unusedVariables false
set_option linter.unusedSimpArgs false

/-- where a call began -/
structure Ctx where
  κ : K
  h : AH
  w : World
  nt : Nat
  r : R κ h w

/-- an activation stands as a state says -/
structure RelK (c : Ctx) (κ : K) (s : St) (a : Act) (w : World) : Prop where
  r : R κ s.h w
  vs : VS κ s.σ a.tmps
  go : Go c.κ c.h c.w κ s.h w
  φ : ∀ i, i < c.h.blocks.length → κ.φ i = c.κ.φ i
  size : c.nt ≤ a.tmps.size
  defers : a.defers = []
def Rel (c : Ctx) (s : St) (a : Act) (w : World) : Prop := ∃ κ, RelK c κ s a w

theorem RelK.step {c : Ctx} {κ κ' : K} {s s' : St} {a : Act} {w w' : World} (x : RelK c κ s a w) {dst : Option Nat} (hd : ∀ d, dst = some d → d < c.nt) {aid : Option Nat} {v : AV} {u : Value} (hσ : s'.σ = aPut dst v s.σ) (hv : V κ' v u)
    (hr : R κ' s'.h w') (hg : Go κ s.h w κ' s'.h w') (hφ : ∀ i, i < s.h.blocks.length → aid ≠ some i → κ'.φ i = κ.φ i) (haid : ∀ i, aid = some i → c.h.blocks.length ≤ i) : RelK c κ' s' (a.put dst u) w' where
  r := hr
  vs := by rw [hσ]; exact put_sound (x.vs.mono hg.le) x.size hd hv
  go := x.go.trans hg
  φ := fun i hi => by rw [hφ i (Nat.lt_of_lt_of_le hi x.go.len) (fun e => by have := haid i e; omega)]; exact x.φ i hi
  size := by rw [put_size]; exact x.size
  defers := by rw [put_defers']; exact x.defers

theorem Rel.settle {c : Ctx} {s : St} {a : Act} {w : World} (x : Rel c s a w) (ks : List Nat) (pop : Bool) : Rel c (settle c.h.blocks.length ks pop s) a w := by
  obtain ⟨κ, x⟩ := x
  obtain ⟨κ', h1, h2, h3, h4, h5⟩ := settle_sound c.h.blocks.length ks pop s a.tmps x.r x.vs x.go x.go.len (Nat.le_refl _) x.φ (fun i b e => (c.r.dom i b e).1)
  exact ⟨κ', h1, h2, h3, h5, x.size, x.defers⟩

section
variable {P : Program} {T : Tys} (hT : TysOk P T) {C : Cfg} {cf : CallF} (hcf : CallOk P cf) {c : Ctx} {ro : Option Nat} {n : Nat} {ops : Array Oper} {Q : Exit → Act → World → Prop}

/-- the texts of a list of operations -/
def OpersOk (T : Tys) (nt : Nat) (ops : Array Oper) (ios : List IOper) : Prop := ios.length = ops.size ∧ ∀ (i : Nat) (o : Oper) (io : IOper), ops[i]? = some o → ios[i]? = some io → OperOk T nt ops o io

theorem opersOf_ok {T : Tys} {nt : Nat} {ops : Array Oper} : ∀ (l : List Oper) (ios : List IOper), opersOf T nt ops l = some ios → ios.length = l.length ∧ ∀ (i : Nat) (o : Oper) (io : IOper), l[i]? = some o → ios[i]? = some io → OperOk T nt ops o io := by
  intro l
  induction l with
  | nil => intro ios h; simp [opersOf] at h; subst h; exact ⟨rfl, fun i o io h => by simp at h⟩
  | cons o l ih =>
    intro ios h
    obtain ⟨io, h1, h⟩ := ob_eq_some.1 h
    obtain ⟨q, h2, h⟩ := ob_eq_some.1 h
    simp only [Option.some.injEq] at h; subst h
    obtain ⟨e1, e2⟩ := ih q h2
    refine ⟨by simp [e1], fun i o' io' ho hio => ?_⟩
    cases i with
    | zero => simp at ho hio; subst ho; subst hio; exact operOf_ok h1
    | succ i => exact e2 i o' io' (by simpa using ho) (by simpa using hio)

include hT hcf in
theorem seq_sound (ios : List IOper) (ok : OpersOk T c.nt ops ios) : ∀ (m k : Nat) (s s' : St) (a : Act) (w : World), k + m = ops.size → aOps C cf (ios.drop k) s = some s' → Rel c s a w → (∀ a w, Rel c s' a w → Q .normal a w) →
    wpOpsIn (Wd ro) n P ops Q (List.range' k m) a w := by
  intro m
  induction m with
  | zero =>
    intro k s s' a w hk he hrel hQ
    rw [List.drop_of_length_le (by rw [ok.1]; omega)] at he
    simp only [aOps, Option.some.injEq] at he; subst he
    exact hQ a w hrel
  | succ m ih =>
    intro k s s' a w hk he hrel hQ
    have hlt : k < ios.length := by rw [ok.1]; omega
    have hlt' : k < ops.size := by omega
    rw [List.drop_eq_getElem_cons hlt] at he
    obtain ⟨s1, h1, he⟩ := ob_eq_some.1 (show ob (aStep C cf ios[k] none s) _ = some s' from he)
    rw [List.range'_succ, wpOpsIn_cons]
    unfold wpOpIn
    have ho : ops[k]? = some ops[k] := Array.getElem?_eq_getElem hlt'
    rw [ho]
    have hok := ok.2 k ops[k] ios[k] ho (List.getElem?_eq_getElem hlt)
    obtain ⟨κ, x⟩ := hrel
    exact step_sound hT hcf hok none s1 h1 x.r x.vs (fun i z e => by cases e) _ Q (fun v u w' κ' hσ hv hr hg hφ => ih (k + 1) s1 s' _ w' (by omega) he ⟨κ', x.step hok.lt hσ hv hr hg hφ (fun i e => by cases e)⟩ hQ)

include hT hcf in
theorem reg_sound (id : Nat) (ios : List IOper) (ok : OpersOk T c.nt ops ios) (s s' : St) (a : Act) (w : World) (he : aOps C cf ios s = some s') (hrel : Rel c s a w) (hQ : ∀ a w, Rel c s' a w → Q .normal a w) :
    (Code.region id ops false).wpIn (Wd ro) n P Q a w := by
  refine wpIn_region ?_
  rw [List.range_eq_range']
  exact seq_sound hT hcf ios ok ops.size 0 s s' a w (by omega) he hrel hQ
end
end Go.Abs
/- What an operation looks at. -/
namespace Go.Abs
set_option linter.unusedVariables false
set_option linter.unusedSimpArgs false

def slotsS : Src → List Nat
  | .slot t => [t]
  | .lit _ => []
def slotsL : List Src → List Nat
  | [] => []
  | x :: r => slotsS x ++ slotsL r
def slotsO : Option Src → List Nat
  | none => []
  | some x => slotsS x
def slots3 : List (Nat × Nat × Src) → List Nat
  | [] => []
  | x :: r => slotsS x.2.2 ++ slots3 r
def slots2 : List (Nat × Src) → List Nat
  | [] => []
  | x :: r => slotsS x.2 ++ slots2 r
def slots : IOp → List Nat
  | .mov x | .box x | .nilck x | .un _ x | .conv _ x | .mkIface _ x | .faddr _ x | .field _ _ _ x | .extract x _ | .len _ x | .cap x | .load _ _ x => slotsS x
  | .pick c a b => slotsS c ++ (slotsS a ++ slotsS b)
  | .alloc _ | .bad => []
  | .build _ ps => slots3 ps
  | .bslice _ _ _ ps => slots2 ps
  | .store _ a x => slotsS a ++ slotsS x
  | .bin _ _ x y => slotsS x ++ slotsS y
  | .mkFunc _ a c => slotsL a ++ slotsL c
  | .mkSlice _ _ l c => slotsS l ++ slotsS c
  | .sl _ x lo hi mx => slotsS x ++ (slotsO lo ++ (slotsO hi ++ slotsO mx))
  | .iaddr _ x i | .idx _ x i => slotsS x ++ slotsS i
  | .minmax _ xs => slotsL xs
  | .append _ _ s x => slotsS s ++ slotsS x
  | .call f as | .pcall f as => slotsS f ++ slotsL as
def slotsG (io : IOper) : List Nat := (match io.guard with | some (d, _) => [d] | none => []) ++ slots io.op

/-- what may turn the heap -/
def isChain : IOp → Bool
  | .store .. | .append .. | .call .. | .box .. | .mkSlice .. => true
  | _ => false
def isReader : IOp → Bool
  | .load .. | .conv .ofBytes _ => true
  | _ => false

section
variable {σ σ' : Nat → Option AV} {h h' : AH} {aid : Option Nat} {v : AV}

def Agree (σ σ' : Nat → Option AV) (l : List Nat) : Prop := ∀ t ∈ l, σ t = σ' t
theorem Agree.left {l r : List Nat} (h : Agree σ σ' (l ++ r)) : Agree σ σ' l := fun t ht => h t (List.mem_append_left _ ht)
theorem Agree.right {l r : List Nat} (h : Agree σ σ' (l ++ r)) : Agree σ σ' r := fun t ht => h t (List.mem_append_right _ ht)

theorem src_agree {x : Src} (h : Agree σ σ' (slotsS x)) : src σ x = src σ' x := by
  cases x with
  | slot t => exact h t (by simp [slotsS])
  | lit v => rfl
theorem srcs_agree : ∀ {l : List Src}, Agree σ σ' (slotsL l) → srcs σ l = srcs σ' l := by
  intro l
  induction l with
  | nil => intro _; rfl
  | cons x l ih => intro h; simp only [srcs]; rw [src_agree (Agree.left h), ih (Agree.right h)]
theorem optInt_agree {x : Option Src} (h : Agree σ σ' (slotsO x)) : optInt σ x = optInt σ' x := by
  cases x with
  | none => rfl
  | some x => simp only [optInt]; rw [src_agree h]
theorem fillA_agree : ∀ {l : List (Nat × Nat × Src)} {cs : List AV}, Agree σ σ' (slots3 l) → fillA σ cs l = fillA σ' cs l := by
  intro l
  induction l with
  | nil => intro cs _; rfl
  | cons x l ih =>
    intro cs h
    obtain ⟨off, sz, x⟩ := x
    simp only [fillA]
    rw [src_agree (Agree.left h)]
    congr 1
    funext v
    rw [ih (Agree.right h)]
theorem setAll_agree : ∀ {l : List (Nat × Src)} {sz : Nat} {es : List AV}, Agree σ σ' (slots2 l) → setAll σ sz es l = setAll σ' sz es l := by
  intro l
  induction l with
  | nil => intro sz es _; rfl
  | cons x l ih =>
    intro sz es h
    obtain ⟨i, x⟩ := x
    simp only [setAll]
    rw [src_agree (Agree.left h)]
    congr 1
    funext v
    rw [ih (Agree.right h)]

theorem aop_agree (io : IOp) (ha : Agree σ σ' (slots io)) : aop σ h aid io = aop σ' h aid io := by
  cases io <;> simp only [slots] at ha <;> simp only [aop]
  case mov => rw [src_agree ha]
  case pick => rw [src_agree ha.left, src_agree ha.right.left, src_agree ha.right.right]
  case box => rw [src_agree ha]
  case build => rw [fillA_agree ha]
  case bslice => rw [setAll_agree ha]
  case load => rw [src_agree ha]
  case store => rw [src_agree ha.left, src_agree ha.right]
  case nilck => rw [src_agree ha]
  case bin => rw [src_agree ha.left, src_agree ha.right]
  case un => rw [src_agree ha]
  case conv => rw [src_agree ha]
  case mkIface => rw [src_agree ha]
  case mkFunc => rw [srcs_agree ha.left, srcs_agree ha.right]
  case mkSlice => rw [src_agree ha.left, src_agree ha.right]
  case sl => rw [src_agree ha.left, optInt_agree ha.right.left, optInt_agree ha.right.right.left, optInt_agree ha.right.right.right]
  case faddr => rw [src_agree ha]
  case field => rw [src_agree ha]
  case iaddr => rw [src_agree ha.left, src_agree ha.right]
  case idx => rw [src_agree ha.left, src_agree ha.right]
  case extract => rw [src_agree ha]
  case len => rw [src_agree ha]
  case cap => rw [src_agree ha]
  case minmax => rw [srcs_agree ha]
  case append => rw [src_agree ha.left, src_agree ha.right]

theorem aOper_agree {C : Cfg} {cf : CallF} (io : IOp) (ha : Agree σ σ' (slots io)) : aOper C cf σ h aid io = aOper C cf σ' h aid io := by
  by_cases h1 : ∃ f l, io = .call f l
  · obtain ⟨f, l, rfl⟩ := h1
    simp only [aOper]
    rw [src_agree (Agree.left ha), srcs_agree (Agree.right ha)]
  · by_cases h2 : ∃ f l, io = .pcall f l
    · obtain ⟨f, l, rfl⟩ := h2
      simp only [aOper]
      rw [src_agree (Agree.left ha), srcs_agree (Agree.right ha)]
    · rw [aOper_plain (fun f l e => h1 ⟨f, l, e⟩) (fun f l e => h2 ⟨f, l, e⟩), aOper_plain (fun f l e => h1 ⟨f, l, e⟩) (fun f l e => h2 ⟨f, l, e⟩)]
      exact aop_agree io ha

theorem aWanted_agree {g : Option (Nat × Bool)} (ha : Agree σ σ' (match g with | some (d, _) => [d] | none => [])) : aWanted g σ = aWanted g σ' := by
  cases g with
  | none => rfl
  | some p =>
    obtain ⟨d, b⟩ := p
    simp only [aWanted]
    rw [ha d (by simp)]

/-- an operation that does not turn the heap looks at one block of it at most -/
theorem aop_free {io : IOp} (hc : isChain io = false) (hal : ∀ z, io = .alloc z → aid ≠ none) (he : aop σ h aid io = some (v, h')) :
    h' = h ∧ ∀ h2 : AH, (∀ id, readId σ io = some id → h2.get id = h.get id) → aop σ h2 aid io = some (v, h2) := by
  have fin : ∀ (x : Option AV), ret1 h x = some (v, h') → h' = h ∧ ∀ h2 : AH, ret1 h2 x = some (v, h2) := by
    intro x hx
    obtain ⟨h1, h2⟩ := ret1_eq.1 hx
    exact ⟨h2, fun h2 => ret1_eq.2 ⟨h1, rfl⟩⟩
  cases io <;> simp only [isChain] at hc <;> try (cases hc; done)
  case mov x => obtain ⟨q1, q2⟩ := fin _ he; exact ⟨q1, fun h2 _ => q2 h2⟩
  case pick c x y =>
    obtain ⟨b, e1, he⟩ := ob_eq_some.1 he
    split at he
    · obtain ⟨q1, q2⟩ := fin _ he; exact ⟨q1, fun h2 _ => ob_eq_some.2 ⟨_, e1, q2 h2⟩⟩
    · obtain ⟨q1, q2⟩ := fin _ he; exact ⟨q1, fun h2 _ => ob_eq_some.2 ⟨_, e1, q2 h2⟩⟩
    · cases he
  case alloc z =>
    cases aid with
    | none => exact absurd rfl (hal z rfl)
    | some id =>
      simp only [aop, newBlk, Option.some.injEq, Prod.mk.injEq] at he
      obtain ⟨rfl, rfl⟩ := he
      exact ⟨rfl, fun h2 _ => rfl⟩
  case build z ps =>
    obtain ⟨cs, e1, he⟩ := ob_eq_some.1 he
    simp only [Option.some.injEq, Prod.mk.injEq] at he
    obtain ⟨rfl, rfl⟩ := he
    exact ⟨rfl, fun h2 _ => ob_eq_some.2 ⟨_, e1, rfl⟩⟩
  case bslice sz z n ps =>
    obtain ⟨cs, e1, he⟩ := ob_eq_some.1 he
    simp only [Option.some.injEq, Prod.mk.injEq] at he
    obtain ⟨rfl, rfl⟩ := he
    exact ⟨rfl, fun h2 _ => ob_eq_some.2 ⟨_, e1, rfl⟩⟩
  case load sz agg a =>
    obtain ⟨u, e1, he⟩ := ob_eq_some.1 he
    obtain ⟨e2, rfl⟩ := ret1_eq.1 he
    refine ⟨rfl, fun h2 hr => ob_eq_some.2 ⟨_, e1, ret1_eq.2 ⟨?_, rfl⟩⟩⟩
    cases u <;> simp only [aLoad] at e2 ⊢ <;> try (cases e2; done)
    · rename_i id off
      rw [hr id (by simp only [readId, e1, ob])]
      exact e2
    · exact e2
  case nilck x =>
    obtain ⟨u, e1, he⟩ := ob_eq_some.1 he
    split at he
    · simp only [Option.some.injEq, Prod.mk.injEq] at he
      obtain ⟨rfl, rfl⟩ := he
      exact ⟨rfl, fun h2 _ => ob_eq_some.2 ⟨_, e1, rfl⟩⟩
    · simp only [Option.some.injEq, Prod.mk.injEq] at he
      obtain ⟨rfl, rfl⟩ := he
      exact ⟨rfl, fun h2 _ => ob_eq_some.2 ⟨_, e1, rfl⟩⟩
    · cases he
  case bin op d x y =>
    obtain ⟨u, e1, he⟩ := ob_eq_some.1 he
    obtain ⟨u', e2, he⟩ := ob_eq_some.1 he
    obtain ⟨q1, q2⟩ := fin _ he
    exact ⟨q1, fun h2 _ => ob_eq_some.2 ⟨_, e1, ob_eq_some.2 ⟨_, e2, q2 h2⟩⟩⟩
  case un op x =>
    obtain ⟨u, e1, he⟩ := ob_eq_some.1 he
    obtain ⟨q1, q2⟩ := fin _ he
    exact ⟨q1, fun h2 _ => ob_eq_some.2 ⟨_, e1, q2 h2⟩⟩
  case conv k x =>
    obtain ⟨u, e1, he⟩ := ob_eq_some.1 he
    obtain ⟨e2, rfl⟩ := ret1_eq.1 he
    refine ⟨rfl, fun h2 hr => ob_eq_some.2 ⟨_, e1, ret1_eq.2 ⟨?_, rfl⟩⟩⟩
    cases k <;> cases u <;> simp only [aConv] at e2 ⊢ <;> try (cases e2; done)
    all_goals first | exact e2 | skip
    rename_i id off len cap
    rw [hr id (by simp only [readId, e1, ob])]
    exact e2
  case mkIface t x =>
    obtain ⟨u, e1, he⟩ := ob_eq_some.1 he
    simp only [Option.some.injEq, Prod.mk.injEq] at he
    obtain ⟨rfl, rfl⟩ := he
    exact ⟨rfl, fun h2 _ => ob_eq_some.2 ⟨_, e1, rfl⟩⟩
  case mkFunc f a c =>
    obtain ⟨u, e1, he⟩ := ob_eq_some.1 he
    obtain ⟨u', e2, he⟩ := ob_eq_some.1 he
    simp only [Option.some.injEq, Prod.mk.injEq] at he
    obtain ⟨rfl, rfl⟩ := he
    exact ⟨rfl, fun h2 _ => ob_eq_some.2 ⟨_, e1, ob_eq_some.2 ⟨_, e2, rfl⟩⟩⟩
  case sl k x lo hi mx =>
    obtain ⟨u, e1, he⟩ := ob_eq_some.1 he
    obtain ⟨u2, e2, he⟩ := ob_eq_some.1 he
    obtain ⟨u3, e3, he⟩ := ob_eq_some.1 he
    obtain ⟨u4, e4, he⟩ := ob_eq_some.1 he
    obtain ⟨q1, q2⟩ := fin _ he
    exact ⟨q1, fun h2 _ => ob_eq_some.2 ⟨_, e1, ob_eq_some.2 ⟨_, e2, ob_eq_some.2 ⟨_, e3, ob_eq_some.2 ⟨_, e4, q2 h2⟩⟩⟩⟩⟩
  case faddr off x =>
    obtain ⟨u, e1, he⟩ := ob_eq_some.1 he
    split at he
    · simp only [Option.some.injEq, Prod.mk.injEq] at he
      obtain ⟨rfl, rfl⟩ := he
      exact ⟨rfl, fun h2 _ => ob_eq_some.2 ⟨_, e1, rfl⟩⟩
    · simp only [Option.some.injEq, Prod.mk.injEq] at he
      obtain ⟨rfl, rfl⟩ := he
      exact ⟨rfl, fun h2 _ => ob_eq_some.2 ⟨_, e1, rfl⟩⟩
    · cases he
  case field off sz agg x =>
    obtain ⟨u, e1, he⟩ := ob_eq_some.1 he
    split at he
    · obtain ⟨q1, q2⟩ := fin _ he; exact ⟨q1, fun h2 _ => ob_eq_some.2 ⟨_, e1, q2 h2⟩⟩
    · cases he
  case iaddr k x i =>
    obtain ⟨u, e1, he⟩ := ob_eq_some.1 he
    obtain ⟨u', e2, he⟩ := ob_eq_some.1 he
    split at he
    · obtain ⟨q1, q2⟩ := fin _ he; exact ⟨q1, fun h2 _ => ob_eq_some.2 ⟨_, e1, ob_eq_some.2 ⟨_, e2, q2 h2⟩⟩⟩
    · cases he
  case idx k x i =>
    obtain ⟨u, e1, he⟩ := ob_eq_some.1 he
    obtain ⟨u', e2, he⟩ := ob_eq_some.1 he
    split at he
    · obtain ⟨q1, q2⟩ := fin _ he; exact ⟨q1, fun h2 _ => ob_eq_some.2 ⟨_, e1, ob_eq_some.2 ⟨_, e2, q2 h2⟩⟩⟩
    · cases he
  case extract x i =>
    obtain ⟨u, e1, he⟩ := ob_eq_some.1 he
    split at he
    · obtain ⟨q1, q2⟩ := fin _ he; exact ⟨q1, fun h2 _ => ob_eq_some.2 ⟨_, e1, q2 h2⟩⟩
    · cases he
  case len k x =>
    obtain ⟨u, e1, he⟩ := ob_eq_some.1 he
    obtain ⟨q1, q2⟩ := fin _ he; exact ⟨q1, fun h2 _ => ob_eq_some.2 ⟨_, e1, q2 h2⟩⟩
  case cap x =>
    obtain ⟨u, e1, he⟩ := ob_eq_some.1 he
    obtain ⟨q1, q2⟩ := fin _ he; exact ⟨q1, fun h2 _ => ob_eq_some.2 ⟨_, e1, q2 h2⟩⟩
  case minmax mx xs =>
    obtain ⟨u, e1, he⟩ := ob_eq_some.1 he
    obtain ⟨q1, q2⟩ := fin _ he; exact ⟨q1, fun h2 _ => ob_eq_some.2 ⟨_, e1, q2 h2⟩⟩
  case pcall => cases he
  case bad => cases he

theorem aOper_free {C : Cfg} {cf : CallF} {io : IOp} (hc : isChain io = false) (hal : ∀ z, io = .alloc z → aid ≠ none) (he : aOper C cf σ h aid io = some (v, h')) :
    h' = h ∧ ∀ h2 : AH, (∀ id, readId σ io = some id → h2.get id = h.get id) → aOper C cf σ h2 aid io = some (v, h2) := by
  by_cases h2 : ∃ f l, io = .pcall f l
  · obtain ⟨f, l, rfl⟩ := h2
    simp only [aOper] at he ⊢
    obtain ⟨u, e1, he⟩ := ob_eq_some.1 he
    obtain ⟨u', e2, he⟩ := ob_eq_some.1 he
    obtain ⟨p, e3, he⟩ := ob_eq_some.1 he
    unfold aCallP at he
    split at he
    case isFalse => cases he
    case isTrue hcond =>
      obtain ⟨q, e4, he⟩ := ob_eq_some.1 he
      split at he
      case isFalse => cases he
      case isTrue hr =>
        simp only [Option.some.injEq, Prod.mk.injEq] at he
        obtain ⟨rfl, rfl⟩ := he
        refine ⟨rfl, fun h2 _ => ob_eq_some.2 ⟨_, e1, ob_eq_some.2 ⟨_, e2, ob_eq_some.2 ⟨_, e3, ?_⟩⟩⟩⟩
        unfold aCallP
        rw [if_pos hcond]
        exact ob_eq_some.2 ⟨q, e4, by rw [if_pos hr]⟩
  · have h1 : ∀ f l, io ≠ .call f l := by rintro f l rfl; cases hc
    rw [aOper_plain h1 (fun f l e => h2 ⟨f, l, e⟩)] at he
    obtain ⟨q1, q2⟩ := aop_free hc hal he
    exact ⟨q1, fun h3 hr => by rw [aOper_plain h1 (fun f l e => h2 ⟨f, l, e⟩)]; exact q2 h3 hr⟩
end
end Go.Abs
/- A region that draws its order: what is checked of it. -/
namespace Go.Abs
set_option linter.unusedVariables false
set_option linter.unusedSimpArgs false

def eOn (o : Oper) : List Nat := (o.after.toList.filter fun e => Region.binds .any e).map (·.on)
theorem mem_eOn {o : Oper} {e : Edge} (h : e ∈ o.after) (hb : Region.binds .any e = true) : e.on ∈ eOn o :=
  List.mem_map.2 ⟨e, List.mem_filter.2 ⟨by simpa using h, hb⟩, rfl⟩
theorem eOn_mem {o : Oper} {k : Nat} (h : k ∈ eOn o) : ∃ e ∈ o.after, Region.binds .any e = true ∧ e.on = k := by
  obtain ⟨e, he, rfl⟩ := List.mem_map.1 h
  obtain ⟨h1, h2⟩ := List.mem_filter.1 he
  exact ⟨e, by simpa using h1, h2, rfl⟩

def masks : List (List Nat) → List Nat → List Nat
  | [], acc => acc
  | on :: r, acc => masks r (acc ++ [on.foldl (fun s k => s ||| 2 ^ k ||| acc.getD k 0) 0])

def storeSlot : IOp → Bool
  | .append .. => true
  | .store _ (.slot _) _ => true
  | _ => false
def isAlloc : IOp → Bool
  | .alloc _ => true
  | _ => false

/-- what is checked -/
def drawOk (ops : Array Oper) (ios : List IOper) (pairs : List (Nat × Nat)) : Bool :=
  let N := ops.size
  let ons := ops.toList.map eOn
  let bs := masks ons []
  let ds := ios.map (·.dst)
  let us := ios.map slotsG
  let chs := ios.map (isChain ·.op)
  let rds := ios.map (isReader ·.op)
  (!ios.any (isAlloc ·.op) || ios.all fun io => !isChain io.op || storeSlot io.op) &&
  (List.range N).all fun j =>
    ((ons.getD j []).all fun k => decide (k < j)) &&
    (((us.getD j []).all fun t => (List.range N).all fun i => ds.getD i none != some t || (decide (i < j) && (bs.getD j 0).testBit i) || (decide (j < i) && (bs.getD i 0).testBit j)) &&
    (List.range N).all fun i =>
      (!(bs.getD j 0).testBit i || (decide (i < j) && (ons.getD j []).any fun k => k == i || (bs.getD k 0).testBit i)) &&
      ((ds.getD i none == none || i == j || ds.getD i none != ds.getD j none) &&
      ((!(chs.getD i false && (chs.getD j false && decide (i < j))) || (bs.getD j 0).testBit i) &&
      (!(rds.getD j false && (chs.getD i false && i != j)) || (bs.getD j 0).testBit i || (bs.getD i 0).testBit j || pairs.contains (j, i)))))

structure DrawOk (ops : Array Oper) (ios : List IOper) (B : Nat → Nat → Bool) (pairs : List (Nat × Nat)) : Prop where
  edge : ∀ (j : Nat) (o : Oper), ops[j]? = some o → ∀ k ∈ eOn o, k < j
  bef : ∀ (j i : Nat), j < ops.size → i < ops.size → B j i = true → i < j ∧ ∃ o, ops[j]? = some o ∧ ∃ k ∈ eOn o, k = i ∨ B k i = true
  uses : ∀ (j : Nat) (io : IOper), ios[j]? = some io → ∀ t ∈ slotsG io, ∀ (i : Nat) (io' : IOper), ios[i]? = some io' → io'.dst = some t → (i < j ∧ B j i = true) ∨ (j < i ∧ B i j = true)
  dsts : ∀ (i j : Nat) (io io' : IOper) (d : Nat), ios[i]? = some io → ios[j]? = some io' → io.dst = some d → io'.dst = some d → i = j
  chain : ∀ (i j : Nat) (io io' : IOper), ios[i]? = some io → ios[j]? = some io' → isChain io.op = true → isChain io'.op = true → i < j → B j i = true
  read : ∀ (j i : Nat) (io io' : IOper), ios[j]? = some io → ios[i]? = some io' → isReader io.op = true → isChain io'.op = true → i ≠ j → B j i = true ∨ B i j = true ∨ (j, i) ∈ pairs
  alloc : (∃ (i : Nat) (io : IOper), ios[i]? = some io ∧ isAlloc io.op = true) → ∀ (i : Nat) (io : IOper), ios[i]? = some io → isChain io.op = true → storeSlot io.op = true

theorem getD_map {α β : Type} {l : List α} {f : α → β} {i : Nat} {a : α} {d : β} (h : l[i]? = some a) : (l.map f).getD i d = f a := by
  rw [List.getD_eq_getElem?_getD, List.getElem?_map, h]; rfl

theorem drawOk_spec {ops : Array Oper} {ios : List IOper} {pairs : List (Nat × Nat)} (hl : ios.length = ops.size) (h : drawOk ops ios pairs = true) :
    DrawOk ops ios (fun j i => ((masks (ops.toList.map eOn) []).getD j 0).testBit i) pairs := by
  unfold drawOk at h
  simp only [Bool.and_eq_true, List.all_eq_true, List.mem_range] at h
  obtain ⟨hal, h⟩ := h
  have lt : ∀ {i : Nat} {io : IOper}, ios[i]? = some io → i < ops.size := by
    intro i io e
    obtain ⟨hi, _⟩ := List.getElem?_eq_some_iff.1 e
    omega
  refine ⟨fun j o ho k hk => ?_, fun j i hj hi hb => ?_, fun j io hj t ht i io' hi hd => ?_, fun i j io io' d hi hj h1 h2 => ?_, fun i j io io' hi hj h1 h2 hlt => ?_, fun j i io io' hj hi h1 h2 hne => ?_, fun hex i io hi hc => ?_⟩
  · have hj : j < ops.size := (Array.getElem?_eq_some_iff.1 ho).1
    have h1 := (h j hj).1
    rw [getD_map (l := ops.toList) (a := o) (by simpa using ho)] at h1
    simpa using h1 k hk
  · have h1 := ((h j hj).2.2 i hi).1
    simp only [hb, Bool.not_true, Bool.false_or, Bool.and_eq_true, decide_eq_true_eq, List.any_eq_true, Bool.or_eq_true, beq_iff_eq] at h1
    obtain ⟨h2, k, hk, h3⟩ := h1
    have ho : ops[j]? = some ops[j] := Array.getElem?_eq_getElem hj
    rw [getD_map (l := ops.toList) (a := ops[j]) (by simpa using ho)] at hk
    exact ⟨h2, ops[j], ho, k, hk, h3⟩
  · have h1 := (h j (lt hj)).2.1
    rw [getD_map hj] at h1
    have h2 := h1 t ht i (lt hi)
    rw [getD_map hi] at h2
    simp only [hd, bne_self_eq_false, Bool.false_or, Bool.or_eq_true, Bool.and_eq_true, decide_eq_true_eq] at h2
    exact h2
  · have h3 := ((h j (lt hj)).2.2 i (lt hi)).2.1
    rw [getD_map hi, getD_map hj, h1, h2] at h3
    simpa using h3
  · have h3 := ((h j (lt hj)).2.2 i (lt hi)).2.2.1
    rw [getD_map hi, getD_map hj, h1, h2] at h3
    simpa [hlt] using h3
  · have h3 := ((h j (lt hj)).2.2 i (lt hi)).2.2.2
    rw [getD_map hi, getD_map hj, h1, h2] at h3
    simp only [Bool.true_and, bne_iff_ne, Bool.or_eq_true, Bool.not_eq_true', List.contains_iff_mem] at h3
    rcases h3 with ((h3 | h3) | h3) | h3
    · simp [hne] at h3
    · exact .inl h3
    · exact .inr (.inl h3)
    · exact .inr (.inr h3)
  · obtain ⟨i', io', hi', ha⟩ := hex
    rcases Bool.or_eq_true _ _ ▸ hal with h0 | h0
    · simp only [Bool.not_eq_true', List.any_eq_false] at h0
      exact absurd ha (h0 io' (getElem?_mem hi'))
    · rw [List.all_eq_true] at h0
      have := h0 io (getElem?_mem hi)
      rw [hc] at this
      simpa using this

/-! #### blocks that stand ready -/
def hoist : Nat → List IOper → List (IOper × Option Nat)
  | _, [] => []
  | k, io :: r => if isAlloc io.op then (io, some k) :: hoist (k + 1) r else (io, none) :: hoist k r
def zsOf : List IOper → List (List AV)
  | [] => []
  | io :: r => match io.op with | .alloc z => z :: zsOf r | _ => zsOf r

theorem hoist_length : ∀ (l : List IOper) (k : Nat), (hoist k l).length = l.length := by
  intro l
  induction l with
  | nil => intro k; rfl
  | cons io l ih => intro k; unfold hoist; split <;> simp [ih]
theorem hoist_get : ∀ (l : List IOper) (k i : Nat) (p : IOper × Option Nat), (hoist k l)[i]? = some p → l[i]? = some p.1 ∧ (p.2 = none → isAlloc p.1.op = false) ∧
    (∀ rk, p.2 = some rk → k ≤ rk ∧ ∃ z, p.1.op = .alloc z ∧ (zsOf l)[rk - k]? = some z) := by
  intro l
  induction l with
  | nil => intro k i p h; simp [hoist] at h
  | cons io l ih =>
    intro k i p h
    unfold hoist at h
    by_cases ha : isAlloc io.op = true
    · rw [if_pos ha] at h
      have hz : ∃ z, io.op = .alloc z := by cases ho : io.op <;> rw [ho] at ha <;> first | exact ⟨_, rfl⟩ | cases ha
      obtain ⟨z, hz⟩ := hz
      have hzs : zsOf (io :: l) = z :: zsOf l := by rw [zsOf, hz]
      cases i with
      | zero =>
        simp at h; subst h
        refine ⟨by simp, (fun e => by cases e), fun rk e => ?_⟩
        cases e
        exact ⟨Nat.le_refl _, z, hz, by rw [hzs]; simp⟩
      | succ i =>
        obtain ⟨h1, h2, h3⟩ := ih (k + 1) i p (by simpa using h)
        refine ⟨by simpa using h1, h2, fun rk e => ?_⟩
        obtain ⟨h4, z', h5, h6⟩ := h3 rk e
        refine ⟨by omega, z', h5, ?_⟩
        rw [hzs, show rk - k = (rk - (k + 1)) + 1 by omega]
        simpa using h6
    · rw [if_neg ha] at h
      have hzs : zsOf (io :: l) = zsOf l := by
        rw [zsOf]
        split
        · rename_i z hz; rw [hz] at ha; exact absurd rfl ha
        · rfl
      cases i with
      | zero =>
        simp at h; subst h
        exact ⟨by simp, (fun _ => by simpa using ha), (fun rk e => by cases e)⟩
      | succ i =>
        obtain ⟨h1, h2, h3⟩ := ih k i p (by simpa using h)
        exact ⟨by simpa using h1, h2, by rw [hzs]; exact h3⟩
theorem hoist_inj : ∀ (l : List IOper) (k i j : Nat) (p q : IOper × Option Nat) (rk : Nat), (hoist k l)[i]? = some p → (hoist k l)[j]? = some q → p.2 = some rk → q.2 = some rk → i = j := by
  intro l
  induction l with
  | nil => intro k i j p q rk h; simp [hoist] at h
  | cons io l ih =>
    intro k i j p q rk hi hj hp hq
    have hi0 := hi; have hj0 := hj
    unfold hoist at hi hj
    by_cases ha : isAlloc io.op = true
    · rw [if_pos ha] at hi hj
      cases i with
      | zero =>
        simp at hi; subst hi; cases hp
        cases j with
        | zero => rfl
        | succ j =>
          have := ((hoist_get l (k + 1) j q (by simpa using hj)).2.2 k hq).1
          omega
      | succ i =>
        cases j with
        | zero =>
          simp at hj; subst hj; cases hq
          have := ((hoist_get l (k + 1) i p (by simpa using hi)).2.2 k hp).1
          omega
        | succ j => rw [ih (k + 1) i j p q rk (by simpa using hi) (by simpa using hj) hp hq]
    · rw [if_neg ha] at hi hj
      cases i with
      | zero => simp at hi; subst hi; cases hp
      | succ i =>
        cases j with
        | zero => simp at hj; subst hj; cases hq
        | succ j => rw [ih k i j p q rk (by simpa using hi) (by simpa using hj) hp hq]
end Go.Abs
/- A region that draws its order: in whatever order, it comes to what the text's order comes to. -/
namespace Go.Abs
set_option linter.unusedVariables false
set_option linter.unusedSimpArgs false
open Classical

theorem readId_agree {σ σ' : Nat → Option AV} (io : IOp) (ha : Agree σ σ' (slots io)) : readId σ io = readId σ' io := by
  cases io <;> simp only [readId, slots] at ha ⊢
  case load => rw [src_agree ha]
  case conv k x => cases k <;> simp only [readId] <;> rw [src_agree ha]
theorem readId_reader {σ : Nat → Option AV} {io : IOp} {id : Nat} (h : readId σ io = some id) : isReader io = true := by
  cases io <;> simp only [readId] at h <;> try (cases h; done)
  · rfl
  · rename_i k x; cases k <;> simp only [readId] at h <;> first | rfl | (cases h; done)

theorem aTr_states {C : Cfg} {cf : CallF} {base : Nat} : ∀ (L : List (IOper × Option Nat)) (s : St) (q : List St × St), aTr C cf base L s = some q →
    ∃ S : Nat → St, S 0 = s ∧ S L.length = q.2 ∧ (∀ i o, L[i]? = some o → aStep C cf o.1 (o.2.map (base + ·)) (S i) = some (S (i + 1))) ∧ ∀ i, i ≤ L.length → (q.1 ++ [q.2])[i]? = some (S i) := by
  intro L
  induction L with
  | nil =>
    intro s q h
    simp only [aTr, Option.some.injEq] at h; subst h
    exact ⟨fun _ => s, rfl, rfl, fun i o h => by simp at h, fun i hi => by simp at hi; subst hi; rfl⟩
  | cons o L ih =>
    intro s q h
    obtain ⟨s1, h1, h⟩ := ob_eq_some.1 h
    obtain ⟨q1, h2, h⟩ := ob_eq_some.1 h
    simp only [Option.some.injEq] at h; subst h
    obtain ⟨S, e0, e1, e2, e3⟩ := ih s1 q1 h2
    refine ⟨fun i => match i with | 0 => s | i + 1 => S i, rfl, e1, fun i o' ho => ?_, fun i hi => ?_⟩
    · cases i with
      | zero => simp at ho; subst ho; show aStep C cf o.1 _ s = some (S 0); rw [e0]; exact h1
      | succ i => exact e2 i o' (by simpa using ho)
    · cases i with
      | zero => rfl
      | succ i => simpa using e3 i (by simpa using hi)

section
variable {P : Program} {T : Tys} (hT : TysOk P T) {C : Cfg} {cf : CallF} (hcf : CallOk P cf) {c : Ctx} {ro : Option Nat} {n : Nat} {ops : Array Oper} {Q : Exit → Act → World → Prop}

/-- the region, and its run in the text's order -/
structure Draw (C : Cfg) (cf : CallF) (T : Tys) (c : Ctx) (ops : Array Oper) (ios : List IOper) (B : Nat → Nat → Bool) (pairs : List (Nat × Nat)) (b : Nat) (S : Nat → St) : Prop where
  ok : OpersOk T c.nt ops ios
  chk : DrawOk ops ios B pairs
  step : ∀ i o, (hoist 0 ios)[i]? = some o → aStep C cf o.1 (o.2.map (b + ·)) (S i) = some (S (i + 1))
  pairs : ∀ j i io, (j, i) ∈ pairs → ios[j]? = some io → ∀ id, readId (S j).σ io.op = some id → (S i).h.get id = (S (i + 1)).h.get id
  base : c.h.blocks.length ≤ b

variable {ios : List IOper} {B : Nat → Nat → Bool} {pairs : List (Nat × Nat)} {b : Nat} {S : Nat → St} (D : Draw C cf T c ops ios B pairs b S)

theorem Draw.at' (D : Draw C cf T c ops ios B pairs b S) {i : Nat} (hi : i < ops.size) : ∃ p, (hoist 0 ios)[i]? = some p ∧ ios[i]? = some p.1 := by
  have h1 : i < (hoist 0 ios).length := by rw [hoist_length, D.ok.1]; exact hi
  have h2 := List.getElem?_eq_getElem h1
  exact ⟨_, h2, (hoist_get ios 0 i _ h2).1⟩
theorem Draw.lt (D : Draw C cf T c ops ios B pairs b S) {i : Nat} {io : IOper} (h : ios[i]? = some io) : i < ops.size := by
  obtain ⟨hi, _⟩ := List.getElem?_eq_some_iff.1 h
  rw [D.ok.1] at hi; exact hi

theorem aStep_σ {io : IOper} {aid : Option Nat} {s s' : St} (h : aStep C cf io aid s = some s') : ∃ v, s'.σ = aPut io.dst v s.σ := by
  obtain ⟨w, hw, h⟩ := ob_eq_some.1 h
  cases w with
  | false => simp only [Bool.false_eq_true, if_false, Option.some.injEq] at h; subst h; exact ⟨_, rfl⟩
  | true =>
    simp only [if_true] at h
    obtain ⟨q, hq, h⟩ := ob_eq_some.1 h
    simp only [Option.some.injEq] at h; subst h; exact ⟨_, rfl⟩
theorem aPut_ne {dst : Option Nat} {v : AV} {σ : Nat → Option AV} {t : Nat} (h : dst ≠ some t) : aPut dst v σ t = σ t := by
  cases dst with
  | none => rfl
  | some d => simp only [aPut, upd]; rw [if_neg]; rintro rfl; exact h rfl
theorem aPut_eq {d : Nat} {v : AV} {σ : Nat → Option AV} : aPut (some d) v σ d = some v := by simp [aPut, upd]

/-- a slot that nobody writes between two places -/
theorem Draw.stable (D : Draw C cf T c ops ios B pairs b S) {t : Nat} (i : Nat) : ∀ m, i + m ≤ ops.size → (∀ k io, i ≤ k → k < i + m → ios[k]? = some io → io.dst ≠ some t) → (S (i + m)).σ t = (S i).σ t := by
  intro m
  induction m with
  | zero => intro _ _; rfl
  | succ m ih =>
    intro hm hk
    obtain ⟨p, h1, h2⟩ := D.at' (i := i + m) (by omega)
    obtain ⟨v, hv⟩ := aStep_σ (D.step _ _ h1)
    rw [show i + (m + 1) = i + m + 1 by omega, hv, aPut_ne (hk (i + m) p.1 (by omega) (by omega) h2)]
    exact ih (by omega) fun k io a1 a2 a3 => hk k io a1 (by omega) a3
theorem Draw.heap (D : Draw C cf T c ops ios B pairs b S) {id : Nat} (i : Nat) : ∀ m, i + m ≤ ops.size → (∀ k io, i ≤ k → k < i + m → ios[k]? = some io → isChain io.op = true → (S k).h.get id = (S (k + 1)).h.get id) → (S (i + m)).h.get id = (S i).h.get id := by
  intro m
  induction m with
  | zero => intro _ _; rfl
  | succ m ih =>
    intro hm hk
    obtain ⟨p, h1, h2⟩ := D.at' (i := i + m) (by omega)
    rw [← ih (by omega) fun k io a1 a2 a3 => hk k io a1 (by omega) a3]
    rw [show i + (m + 1) = i + m + 1 by omega]
    by_cases hc : isChain p.1.op = true
    · exact (hk (i + m) p.1 (by omega) (by omega) h2 hc).symm
    · have hst := D.step _ _ h1
      obtain ⟨w, hw, he⟩ := ob_eq_some.1 hst
      cases w with
      | false => simp only [Bool.false_eq_true, if_false, Option.some.injEq] at he; rw [← he]
      | true =>
        simp only [if_true] at he
        obtain ⟨q, hq, he⟩ := ob_eq_some.1 he
        simp only [Option.some.injEq] at he
        have := (aOper_free (v := q.1) (h' := q.2) (by simpa using hc) (fun z hz e => by
          obtain ⟨_, g1, _⟩ := hoist_get ios 0 _ p h1
          cases h2' : p.2 with
          | none => have := g1 h2'; rw [hz] at this; cases this
          | some rk => rw [h2'] at e; cases e) hq).1
        rw [← he]; simp only; rw [this]
theorem Draw.heapEq (D : Draw C cf T c ops ios B pairs b S) (i : Nat) : ∀ m, i + m ≤ ops.size → (∀ k io, i ≤ k → k < i + m → ios[k]? = some io → isChain io.op = false) → (S (i + m)).h = (S i).h := by
  intro m
  induction m with
  | zero => intro _ _; rfl
  | succ m ih =>
    intro hm hk
    obtain ⟨p, h1, h2⟩ := D.at' (i := i + m) (by omega)
    rw [← ih (by omega) fun k io a1 a2 a3 => hk k io a1 (by omega) a3]
    rw [show i + (m + 1) = i + m + 1 by omega]
    have hc := hk (i + m) p.1 (by omega) (by omega) h2
    have hst := D.step _ _ h1
    obtain ⟨w, hw, he⟩ := ob_eq_some.1 hst
    cases w with
    | false => simp only [Bool.false_eq_true, if_false, Option.some.injEq] at he; rw [← he]
    | true =>
      simp only [if_true] at he
      obtain ⟨q, hq, he⟩ := ob_eq_some.1 he
      simp only [Option.some.injEq] at he
      have := (aOper_free (v := q.1) (h' := q.2) hc (fun z hz e => by
        obtain ⟨_, g1, _⟩ := hoist_get ios 0 _ p h1
        cases h2' : p.2 with
        | none => have := g1 h2'; rw [hz] at this; cases this
        | some rk => rw [h2'] at e; cases e) hq).1
      rw [← he]; simp only; rw [this]

def lst (listed : Array Bool) (i : Nat) : Prop := listed.getD i false = true
/-- the slots behind the operations that have been -/
noncomputable def σL (ops : Array Oper) (ios : List IOper) (S : Nat → St) (listed : Array Bool) : Nat → Option AV := fun t =>
  if ∃ i io, ios[i]? = some io ∧ io.dst = some t ∧ lst listed i then (S ops.size).σ t else (S 0).σ t

structure Inv (c : Ctx) (ops : Array Oper) (ios : List IOper) (b : Nat) (S : Nat → St) (listed : Array Bool) (a : Act) (w : World) (p : Nat) (κ : K) : Prop where
  size : listed.size = ops.size
  pos : p ≤ ops.size
  chain : ∀ i io, ios[i]? = some io → isChain io.op = true → (lst listed i ↔ i < p)
  closed : ∀ j o, ops[j]? = some o → lst listed j → ∀ k ∈ eOn o, lst listed k
  rel : RelK c κ ⟨σL ops ios S listed, (S p).h⟩ a w
  al : ∀ i io rk, (hoist 0 ios)[i]? = some (io, some rk) → ¬ lst listed i → κ.φ (b + rk) = none ∧ ∀ z, io.op = .alloc z → (S p).h.get (b + rk) = some ⟨false, z⟩

/-- what is ahead of one that has been, or may be, has been -/
theorem bef_listed {listed : Array Bool} (chk : DrawOk ops ios B pairs) (hcl : ∀ j o, ops[j]? = some o → lst listed j → ∀ k ∈ eOn o, lst listed k) : ∀ (j : Nat) (o : Oper), ops[j]? = some o → (∀ k ∈ eOn o, lst listed k) → ∀ i, i < ops.size → B j i = true → lst listed i := by
  intro j
  induction j using Nat.strongRecOn with
  | _ j ih =>
    intro o ho hk i hi hb
    have hj : j < ops.size := (Array.getElem?_eq_some_iff.1 ho).1
    obtain ⟨hlt, o', ho', k, hkk, h⟩ := chk.bef j i hj hi hb
    rw [ho] at ho'; cases ho'
    have hl := hk k hkk
    rcases h with rfl | h
    · exact hl
    · have hkj := chk.edge j o ho k hkk
      have hok : ops[k]? = some ops[k] := Array.getElem?_eq_getElem (by omega)
      exact ih k hkj ops[k] hok (hcl k _ hok hl) i hi h

theorem lst_set {listed : Array Bool} {j i : Nat} (hj : j < listed.size) : lst (listed.setIfInBounds j true) i ↔ i = j ∨ lst listed i := by
  unfold lst
  by_cases h : j = i
  · subst h
    simp [hj]
  · rw [getD_set_ne false h]
    constructor
    · exact fun e => .inr e
    · rintro (rfl | e)
      · exact absurd rfl h
      · exact e
end
end Go.Abs
/- A region that draws its order, whole. -/
namespace Go.Abs
set_option linter.unusedVariables false
set_option linter.unusedSimpArgs false
open Classical

section
variable {P : Program} {T : Tys} (hT : TysOk P T) {C : Cfg} {cf : CallF} (hcf : CallOk P cf) {c : Ctx} {ro : Option Nat} {n : Nat} {ops : Array Oper} {Q : Exit → Act → World → Prop}
variable {ios : List IOper} {B : Nat → Nat → Bool} {pairs : List (Nat × Nat)} {b : Nat} {S : Nat → St} (D : Draw C cf T c ops ios B pairs b S)

/-- one operation that is ready: its step from where the activation stands -/
theorem Inv.ready (D : Draw C cf T c ops ios B pairs b S) {listed : Array Bool} {a : Act} {w : World} {p : Nat} {κ : K} (x : Inv c ops ios b S listed a w p κ) {j : Nat} (hj : j ∈ Region.ready .any ops listed) (q : IOper × Option Nat)
    (hq : (hoist 0 ios)[j]? = some q) (hqi : ios[j]? = some q.1) :
    ∃ v p', aStep C cf q.1 (q.2.map (b + ·)) ⟨σL ops ios S listed, (S p).h⟩ = some ⟨aPut q.1.dst v (σL ops ios S listed), (S p').h⟩ ∧ σL ops ios S (listed.setIfInBounds j true) = aPut q.1.dst v (σL ops ios S listed) ∧ p' ≤ ops.size ∧
      (∀ i io, ios[i]? = some io → isChain io.op = true → (lst (listed.setIfInBounds j true) i ↔ i < p')) ∧
      (∀ id, κ.φ id = none → (∃ (i : Nat) (io : IOper), ios[i]? = some io ∧ isAlloc io.op = true) → (S p').h.get id = (S p).h.get id) := by
  obtain ⟨hun, o, ho, hall⟩ := mem_ready.1 hj
  have hjN : j < ops.size := (Array.getElem?_eq_some_iff.1 ho).1
  have hjs : j < listed.size := by rw [x.size]; exact hjN
  have hnl : ¬ lst listed j := by
    unfold lst
    intro e
    simp only [Array.getD_eq_getD_getElem?, Array.getElem?_eq_getElem hjs, Option.getD_some] at hun e
    rw [hun] at e; cases e
  have hkl : ∀ k ∈ eOn o, lst listed k := by
    intro k hk
    obtain ⟨e, he, hb, rfl⟩ := eOn_mem hk
    exact hall e he hb
  have hbef : ∀ i, i < ops.size → B j i = true → lst listed i := bef_listed D.chk x.closed j o ho hkl
  have haft : ∀ i, i < ops.size → B i j = true → ¬ lst listed i := by
    intro i hi hb hl
    have hoi : ops[i]? = some ops[i] := Array.getElem?_eq_getElem hi
    exact hnl (bef_listed D.chk x.closed i _ hoi (x.closed i _ hoi hl) j hjN hb)
  -- the operands
  have hag : Agree (S j).σ (σL ops ios S listed) (slotsG q.1) := by
    intro t ht
    unfold σL
    by_cases hd : ∃ (i : Nat) (io : IOper), ios[i]? = some io ∧ io.dst = some t
    · obtain ⟨i, io, hi, hdt⟩ := hd
      have hiN := D.lt hi
      have uniq : ∀ k io', ios[k]? = some io' → io'.dst = some t → k = i := fun k io' hk hd' => D.chk.dsts k i io' io t hk hi hd' hdt
      rcases D.chk.uses j q.1 hqi t ht i io hi hdt with ⟨hlt, hb⟩ | ⟨hlt, hb⟩
      · rw [if_pos ⟨i, io, hi, hdt, hbef i hiN hb⟩]
        have h1 := D.stable (t := t) (i + 1) (j - (i + 1)) (by omega) (fun k io' a1 a2 a3 e => by have := uniq k io' a3 e; omega)
        have h2 := D.stable (t := t) (i + 1) (ops.size - (i + 1)) (by omega) (fun k io' a1 a2 a3 e => by have := uniq k io' a3 e; omega)
        rw [show i + 1 + (j - (i + 1)) = j by omega] at h1
        rw [show i + 1 + (ops.size - (i + 1)) = ops.size by omega] at h2
        rw [h1, h2]
      · rw [if_neg (by
          rintro ⟨k, io', hk, hkd, hkl⟩
          have := uniq k io' hk hkd
          subst this
          exact haft k hiN hb hkl)]
        have h1 := D.stable (t := t) 0 j (by omega) (fun k io' a1 a2 a3 e => by have := uniq k io' a3 e; omega)
        rw [Nat.zero_add] at h1
        exact h1
    · rw [if_neg (fun ⟨i, io, hi, hdt, _⟩ => hd ⟨i, io, hi, hdt⟩)]
      have h1 := D.stable (t := t) 0 j (by omega) (fun k io' a1 a2 a3 e => hd ⟨k, io', a3, e⟩)
      rw [Nat.zero_add] at h1
      exact h1
  have hagG : Agree (S j).σ (σL ops ios S listed) (match q.1.guard with | some (d, _) => [d] | none => []) := Agree.left (l := (match q.1.guard with | some (d, _) => [d] | none => [])) hag
  have hagO : Agree (S j).σ (σL ops ios S listed) (slots q.1.op) := Agree.right (l := (match q.1.guard with | some (d, _) => [d] | none => [])) hag
  -- the slots behind it
  have hσ : ∀ v, (S (j + 1)).σ = aPut q.1.dst v (S j).σ → σL ops ios S (listed.setIfInBounds j true) = aPut q.1.dst v (σL ops ios S listed) := by
    intro v hv
    funext t
    by_cases hd : q.1.dst = some t
    · rw [hd, aPut_eq]
      unfold σL
      rw [if_pos ⟨j, q.1, hqi, hd, (lst_set hjs).2 (.inl rfl)⟩]
      have h2 := D.stable (t := t) (j + 1) (ops.size - (j + 1)) (by omega) (fun k io' a1 a2 a3 e => by have := D.chk.dsts k j io' q.1 t a3 hqi e hd; omega)
      rw [show j + 1 + (ops.size - (j + 1)) = ops.size by omega] at h2
      rw [h2, hv, hd, aPut_eq]
    · rw [aPut_ne hd]
      unfold σL
      have : (∃ (i : Nat) (io : IOper), ios[i]? = some io ∧ io.dst = some t ∧ lst (listed.setIfInBounds j true) i) ↔ (∃ (i : Nat) (io : IOper), ios[i]? = some io ∧ io.dst = some t ∧ lst listed i) := by
        constructor
        · rintro ⟨i, io, h1, h2, h3⟩
          rcases (lst_set hjs).1 h3 with rfl | h3
          · rw [hqi] at h1; cases h1; exact absurd h2 hd
          · exact ⟨i, io, h1, h2, h3⟩
        · rintro ⟨i, io, h1, h2, h3⟩
          exact ⟨i, io, h1, h2, (lst_set hjs).2 (.inr h3)⟩
      simp only [this]
  have hst := D.step j q hq
  obtain ⟨wd, hw, he⟩ := ob_eq_some.1 hst
  have hw' : aWanted q.1.guard (σL ops ios S listed) = some wd := by rw [← aWanted_agree hagG]; exact hw
  by_cases hc : isChain q.1.op = true
  · -- it may turn the heap: those ahead of it have been, and no others
    have hpj : p ≤ j := by
      rcases Nat.lt_or_ge j p with h | h
      · exact absurd ((x.chain j q.1 hqi hc).2 h) hnl
      · exact h
    have hheap : (S j).h = (S p).h := by
      have := D.heapEq p (j - p) (by omega) (fun k io a1 a2 a3 => by
        cases hkc : isChain io.op with
        | false => rfl
        | true =>
          have h1 := hbef k (by omega) (D.chk.chain k j io q.1 a3 hqi hkc hc (by omega))
          have := (x.chain k io a3 hkc).1 h1
          omega)
      rwa [show p + (j - p) = j by omega] at this
    have hpos : ∀ i io, ios[i]? = some io → isChain io.op = true → (lst (listed.setIfInBounds j true) i ↔ i < j + 1) := by
      intro i io hi hic
      rw [lst_set hjs]
      constructor
      · rintro (rfl | h)
        · omega
        · have := (x.chain i io hi hic).1 h; omega
      · intro h
        by_cases hij : i = j
        · exact .inl hij
        · exact .inr (hbef i (D.lt hi) (D.chk.chain i j io q.1 hi hqi hic hc (by omega)))
    cases wd with
    | false =>
      simp only [Bool.false_eq_true, if_false, Option.some.injEq] at he
      refine ⟨AV.undef, j + 1, ?_, hσ _ (by rw [← he]), by omega, hpos, fun id _ _ => by rw [← he, ← hheap]⟩
      refine ob_eq_some.2 ⟨false, hw', ?_⟩
      simp only [Bool.false_eq_true, if_false]
      rw [← he, ← hheap]
    | true =>
      simp only [if_true] at he
      obtain ⟨r, hr, he⟩ := ob_eq_some.1 he
      simp only [Option.some.injEq] at he
      have hr' : aOper C cf (σL ops ios S listed) (S p).h (q.2.map (b + ·)) q.1.op = some r := by
        rw [← aOper_agree q.1.op hagO, ← hheap]; exact hr
      refine ⟨r.1, j + 1, ob_eq_some.2 ⟨true, hw', ?_⟩, hσ _ (by rw [← he]), by omega, hpos, fun id hid hex => ?_⟩
      · simp only [if_true]
        exact ob_eq_some.2 ⟨r, hr', by rw [← he]⟩
      · have hss := D.chk.alloc hex j q.1 hqi hc
        rw [← he]
        show r.2.get id = (S p).h.get id
        cases hop : q.1.op <;> rw [hop] at hss hr' <;> simp only [storeSlot] at hss <;> try (cases hss; done)
        case store sz ad xx =>
          cases ad <;> simp only at hss <;> try (cases hss; done)
          rename_i t
          obtain ⟨u, e1, hr'⟩ := ob_eq_some.1 (show ob (src (σL ops ios S listed) (.slot t)) _ = some r from hr')
          obtain ⟨u', e2, hr'⟩ := ob_eq_some.1 hr'
          obtain ⟨h'', e3, hr'⟩ := ob_eq_some.1 hr'
          simp only [Option.some.injEq] at hr'; subst hr'
          have hV := x.rel.vs t u e1
          cases u <;> simp only [aStore] at e3 <;> try (cases e3; done)
          rename_i id' off
          obtain ⟨bk, hbk, e3⟩ := ob_eq_some.1 e3
          split at e3
          case isFalse => cases e3
          case isTrue hcond =>
            simp only [Option.some.injEq] at e3; subst e3
            rw [AH.get_set _ _ _ (AH.get_lt hbk), if_neg]
            rintro rfl
            generalize a.tmps.getD t undef = y at hV
            cases hV with
            | ptr hφ => rw [hid] at hφ; cases hφ
        case append sz bytes s xx =>
          obtain ⟨u, e1, hr'⟩ := ob_eq_some.1 (show ob (src (σL ops ios S listed) s) _ = some r from hr')
          obtain ⟨u', e2, hr'⟩ := ob_eq_some.1 hr'
          obtain ⟨pp, e3, hr'⟩ := ob_eq_some.1 hr'
          have : r.2.blocks = (S p).h.blocks := by
            cases u <;> simp only [aAppend] at hr' <;> try (cases hr'; done)
            split at hr'
            · cases hr'; rfl
            · split at hr'
              case isFalse => cases hr'
              case isTrue =>
                split at hr'
                · cases hr'; rfl
                · split at hr'
                  · cases hr'; rfl
                  · cases hr'
                · cases hr'
          unfold AH.get
          rw [this]
  · -- it does not
    have hc' : isChain q.1.op = false := by simpa using hc
    have hpos : ∀ i io, ios[i]? = some io → isChain io.op = true → (lst (listed.setIfInBounds j true) i ↔ i < p) := by
      intro i io hi hic
      rw [lst_set hjs, ← x.chain i io hi hic]
      constructor
      · rintro (rfl | h)
        · rw [hqi] at hi; cases hi; rw [hc'] at hic; cases hic
        · exact h
      · exact .inr
    cases wd with
    | false =>
      simp only [Bool.false_eq_true, if_false, Option.some.injEq] at he
      refine ⟨AV.undef, p, ob_eq_some.2 ⟨false, hw', ?_⟩, hσ _ (by rw [← he]), x.pos, hpos, fun _ _ _ => rfl⟩
      simp only [Bool.false_eq_true, if_false]
    | true =>
      simp only [if_true] at he
      obtain ⟨r, hr, he⟩ := ob_eq_some.1 he
      simp only [Option.some.injEq] at he
      have hal : ∀ z, q.1.op = .alloc z → q.2.map (b + ·) ≠ none := by
        intro z hz e
        obtain ⟨_, g1, _⟩ := hoist_get ios 0 _ q hq
        cases h2' : q.2 with
        | none => have := g1 h2'; rw [hz] at this; cases this
        | some rk => rw [h2'] at e; cases e
      obtain ⟨_, hfree⟩ := aOper_free (v := r.1) (h' := r.2) hc' hal hr
      have hr' : aOper C cf (σL ops ios S listed) (S p).h (q.2.map (b + ·)) q.1.op = some (r.1, (S p).h) := by
        rw [← aOper_agree q.1.op hagO]
        refine hfree _ fun id hid => ?_
        have hrd := readId_reader hid
        have hbetween : ∀ k io, ios[k]? = some io → isChain io.op = true → (p ≤ k ∧ k < j ∨ j ≤ k ∧ k < p) → (S k).h.get id = (S (k + 1)).h.get id := by
          intro k io hk hkc hrange
          have hkN := D.lt hk
          have hne : k ≠ j := by rintro rfl; rw [hqi] at hk; cases hk; rw [hc'] at hkc; cases hkc
          rcases D.chk.read j k q.1 io hqi hk hrd hkc hne with h1 | h1 | h1
          · have hl := hbef k hkN h1
            have := (x.chain k io hk hkc).1 hl
            have := (D.chk.bef j k hjN hkN h1).1
            omega
          · have hl := haft k hkN h1
            have : ¬ k < p := fun h => hl ((x.chain k io hk hkc).2 h)
            have := (D.chk.bef k j hkN hjN h1).1
            omega
          · exact D.pairs j k q.1 h1 hqi id hid
        rcases Nat.le_total p j with hpj | hjp
        · have := D.heap (id := id) p (j - p) (by omega) (fun k io a1 a2 a3 a4 => hbetween k io a3 a4 (.inl ⟨a1, by omega⟩))
          rw [show p + (j - p) = j by omega] at this
          exact this.symm
        · have := D.heap (id := id) j (p - j) (by have := x.pos; omega) (fun k io a1 a2 a3 a4 => hbetween k io a3 a4 (.inr ⟨a1, by omega⟩))
          rw [show j + (p - j) = p by omega] at this
          exact this
      refine ⟨r.1, p, ob_eq_some.2 ⟨true, hw', ?_⟩, hσ _ (by rw [← he]), x.pos, hpos, fun _ _ _ => rfl⟩
      simp only [if_true]
      exact ob_eq_some.2 ⟨_, hr', rfl⟩

/-- how many are still to come -/
def cnt (listed : Array Bool) : Nat → Nat
  | 0 => 0
  | k + 1 => cnt listed k + (if listed.getD k false then 0 else 1)
theorem cnt_succ (listed : Array Bool) (k : Nat) : cnt listed (k + 1) = cnt listed k + (if listed.getD k false = true then 0 else 1) := rfl
theorem cnt_set {listed : Array Bool} {j : Nat} (hj : j < listed.size) (hn : ¬ lst listed j) : ∀ k, cnt (listed.setIfInBounds j true) k + (if j < k then 1 else 0) = cnt listed k := by
  intro k
  induction k with
  | zero => simp [cnt]
  | succ k ih =>
    rw [cnt_succ, cnt_succ]
    by_cases hk : k = j
    · subst hk
      have h1 : (listed.setIfInBounds k true).getD k false = true := (lst_set hj).2 (.inl rfl)
      have h2 : listed.getD k false = false := by simpa [lst] using hn
      rw [if_neg (Nat.lt_irrefl k)] at ih
      rw [h1, h2, if_pos (Nat.lt_succ_self k), ← ih]
      simp
    · have h1 : (listed.setIfInBounds j true).getD k false = listed.getD k false := getD_set_ne false (fun e => hk e.symm)
      rw [h1, ← ih]
      by_cases hjk : j < k
      · have e1 : (if j < k then 1 else 0 : Nat) = 1 := if_pos hjk
        have e2 : (if j < k + 1 then 1 else 0 : Nat) = 1 := if_pos (by omega)
        rw [e1, e2]; omega
      · have e1 : (if j < k then 1 else 0 : Nat) = 0 := if_neg hjk
        have e2 : (if j < k + 1 then 1 else 0 : Nat) = 0 := if_neg (by omega)
        rw [e1, e2]; omega
theorem cnt_zero {listed : Array Bool} : ∀ k, cnt listed k = 0 → ∀ i, i < k → lst listed i := by
  intro k
  induction k with
  | zero => intro _ i hi; omega
  | succ k ih =>
    intro h i hi
    rw [cnt_succ] at h
    by_cases hk : i = k
    · subst hk
      unfold lst
      cases e : listed.getD i false with
      | true => rfl
      | false => rw [e] at h; simp at h
    · exact ih (by omega) i (by omega)

theorem all_listed {listed : Array Bool} (chk : DrawOk ops ios B pairs) (hs : listed.size = ops.size) (hr : Region.ready .any ops listed = []) : ∀ i, i < ops.size → lst listed i := by
  intro i
  induction i using Nat.strongRecOn with
  | _ i ih =>
    intro hi
    have ho : ops[i]? = some ops[i] := Array.getElem?_eq_getElem hi
    unfold lst
    cases e : listed.getD i false with
    | true => rfl
    | false =>
      have : i ∈ Region.ready .any ops listed := by
        refine mem_ready.2 ⟨?_, ops[i], ho, fun ed he hb => ?_⟩
        · simp only [Array.getD_eq_getD_getElem?, Array.getElem?_eq_getElem (show i < listed.size by omega), Option.getD_some] at e ⊢
          exact e
        · have hk := chk.edge i _ ho ed.on (mem_eOn he hb)
          exact ih _ hk (by omega)
      rw [hr] at this; cases this

include hT hcf in
theorem draw_any (D : Draw C cf T c ops ios B pairs b S) (hQ : ∀ a w, Rel c (S ops.size) a w → Q .normal a w) :
    ∀ (fuel : Nat) (listed : Array Bool) (a : Act) (w : World) (p : Nat) (κ : K), cnt listed ops.size ≤ fuel → Inv c ops ios b S listed a w p κ → wpAnyIn (Wd ro) n P .any ops Q fuel listed a w := by
  have fin : ∀ (listed : Array Bool) (a : Act) (w : World) (p : Nat) (κ : K), Inv c ops ios b S listed a w p κ → (∀ i, i < ops.size → lst listed i) → Q .normal a w := by
    intro listed a w p κ x hall
    refine hQ a w ⟨κ, ?_⟩
    have hheap : (S ops.size).h = (S p).h := by
      have := D.heapEq p (ops.size - p) (by have := x.pos; omega) (fun k io a1 a2 a3 => by
        cases hkc : isChain io.op with
        | false => rfl
        | true => have := (x.chain k io a3 hkc).1 (hall k (D.lt a3)); omega)
      rwa [show p + (ops.size - p) = ops.size by have := x.pos; omega] at this
    have hσ : σL ops ios S listed = (S ops.size).σ := by
      funext t
      unfold σL
      split
      · rfl
      · rename_i h
        have := D.stable (t := t) 0 ops.size (by omega) (fun k io a1 a2 a3 e => h ⟨k, io, a3, e, hall k (D.lt a3)⟩)
        rw [Nat.zero_add] at this
        exact this.symm
    have hr := x.rel
    rw [hσ, ← hheap] at hr
    exact hr
  intro fuel
  induction fuel with
  | zero =>
    intro listed a w p κ hc x
    have hall := cnt_zero ops.size (by omega : cnt listed ops.size = 0)
    refine ⟨?_, fin listed a w p κ x hall⟩
    cases hr : Region.ready .any ops listed with
    | nil => rfl
    | cons j l =>
      have hj : j ∈ Region.ready .any ops listed := by rw [hr]; simp
      obtain ⟨hun, o, ho, _⟩ := mem_ready.1 hj
      have hjN : j < ops.size := (Array.getElem?_eq_some_iff.1 ho).1
      have := hall j hjN
      unfold lst at this
      simp only [Array.getD_eq_getD_getElem?, Array.getElem?_eq_getElem (show j < listed.size by rw [x.size]; exact hjN), Option.getD_some] at hun this
      rw [hun] at this; cases this
  | succ fuel ih =>
    intro listed a w p κ hc x
    refine ⟨fun hr => fin listed a w p κ x (all_listed D.chk x.size hr), fun j hj => ?_⟩
    obtain ⟨hun, o, ho, hall⟩ := mem_ready.1 hj
    have hjN : j < ops.size := (Array.getElem?_eq_some_iff.1 ho).1
    have hjs : j < listed.size := by rw [x.size]; exact hjN
    have hnl : ¬ lst listed j := by
      unfold lst
      intro e
      simp only [Array.getD_eq_getD_getElem?, Array.getElem?_eq_getElem hjs, Option.getD_some] at hun e
      rw [hun] at e; cases e
    obtain ⟨q, hq, hqi⟩ := D.at' hjN
    obtain ⟨v, p', hst, hσ, hp', hpos, hget⟩ := x.ready D hj q hq hqi
    have hok := D.ok.2 j o q.1 ho hqi
    unfold wpOpIn
    rw [ho]
    obtain ⟨g0, g1, g2⟩ := hoist_get ios 0 j q hq
    refine step_sound hT hcf hok (q.2.map (b + ·)) _ hst x.rel.r x.rel.vs (fun i z e hz => ?_) _ Q (fun v' u w' κ' hσ' hv hr hg hφ => ?_)
    · cases h2 : q.2 with
      | none => rw [h2] at e; cases e
      | some rk =>
        rw [h2] at e
        simp only [Option.map_some, Option.some.injEq] at e
        subst e
        have hq' : (hoist 0 ios)[j]? = some (q.1, some rk) := by rw [hq, ← h2]
        obtain ⟨a1, a2⟩ := x.al j q.1 rk hq' hnl
        exact ⟨a1, a2 z hz⟩
    · have hrel := x.rel.step (s' := ⟨aPut q.1.dst v (σL ops ios S listed), (S p').h⟩) (aid := q.2.map (b + ·)) (dst := o.dst) hok.lt hσ' hv hr hg hφ (fun i e => by
        cases h2 : q.2 with
        | none => rw [h2] at e; cases e
        | some rk => rw [h2] at e; simp only [Option.map_some, Option.some.injEq] at e; have := D.base; omega)
      refine ih (listed.setIfInBounds j true) _ w' p' κ' ?_ ⟨by simpa using x.size, hp', hpos, fun k o' ho' hk kk hkk => ?_, by rw [hσ]; exact hrel, fun i io rk hi hni => ?_⟩
      · have := cnt_set hjs hnl ops.size
        rw [if_pos hjN] at this
        omega
      · rcases (lst_set hjs).1 hk with rfl | hk
        · rw [ho] at ho'; cases ho'
          obtain ⟨e, he, hb', rfl⟩ := eOn_mem hkk
          exact (lst_set hjs).2 (.inr (hall e he hb'))
        · exact (lst_set hjs).2 (.inr (x.closed k o' ho' hk kk hkk))
      · have hij : i ≠ j := by rintro rfl; exact hni ((lst_set hjs).2 (.inl rfl))
        have hnl' : ¬ lst listed i := fun e => hni ((lst_set hjs).2 (.inr e))
        obtain ⟨a1, a2⟩ := x.al i io rk hi hnl'
        obtain ⟨k0, k1, k2⟩ := hoist_get ios 0 i _ hi
        obtain ⟨_, z, hz, _⟩ := k2 rk rfl
        have hget' := hget (b + rk) a1 ⟨i, io, k0, by rw [hz]; rfl⟩
        have hlen : b + rk < (S p).h.blocks.length := AH.get_lt (a2 z hz)
        refine ⟨?_, fun z' hz' => by rw [hget']; exact a2 z' hz'⟩
        rw [hφ (b + rk) hlen ?_]
        · exact a1
        · intro e
          cases h2 : q.2 with
          | none => rw [h2] at e; cases e
          | some rk' =>
            rw [h2] at e
            simp only [Option.map_some, Option.some.injEq] at e
            have : rk' = rk := by omega
            subst this
            exact hij (hoist_inj ios 0 i j _ q rk' hi hq rfl h2)

theorem R.pushZ {κ : K} {h : AH} {w : World} (r : R κ h w) (zs : List (List AV)) : R κ (pushZ h zs) w ∧ Go κ h w κ (pushZ h zs) w := by
  have hget : ∀ id b, κ.φ id = some b → (Abs.pushZ h zs).get id = h.get id := by
    intro id b e
    have := (r.dom id b e).1
    simp only [AH.get, Abs.pushZ]
    rw [List.getElem?_append_left this]
  have hlen : h.blocks.length ≤ (Abs.pushZ h zs).blocks.length := by simp [Abs.pushZ]
  exact ⟨⟨r.m, fun id b e => ⟨Nat.lt_of_lt_of_le (r.dom id b e).1 hlen, (r.dom id b e).2⟩, r.inj, fun id bk b h1 h2 => r.blk id bk b (by rw [← hget id b h2]; exact h1) h2, r.tlt, r.tok, r.tdj⟩,
    ⟨K.le.refl κ, rfl, rfl, rfl, Nat.le_refl _, fun _ _ _ => rfl, fun b hf => .inl (by
      rcases hf with ⟨j, bk, hj, hb⟩ | hf
      · rw [hget j b hb] at hj; exact .inl ⟨j, bk, hj, hb⟩
      · exact .inr hf), fun _ _ _ e => .inl e, hlen⟩⟩

theorem pairsOk_mem {L : List (IOper × Option Nat)} {tr : List St} : ∀ {ps : List (Nat × Nat)}, PairsOk L tr ps → ∀ p ∈ ps, pairOk L tr p := by
  intro ps
  induction ps with
  | nil => intro _ p hp; cases hp
  | cons x ps ih =>
    intro h p hp
    rcases List.mem_cons.1 hp with rfl | hp
    · exact h.1
    · exact ih h.2 p hp

include hT hcf in
theorem regd_sound (hm : P.follows .mixedOrders = true) (id : Nat) (ok : OpersOk T c.nt ops ios) (chk : drawOk ops ios pairs = true) (s : St) (q : List St × St) (a : Act) (w : World)
    (he : aTr C cf s.h.blocks.length (hoist 0 ios) ⟨s.σ, Abs.pushZ s.h (zsOf ios)⟩ = some q) (hp : PairsOk (hoist 0 ios) (q.1 ++ [q.2]) pairs) (hrel : Rel c s a w) (hQ : ∀ a w, Rel c q.2 a w → Q .normal a w) :
    (Code.region id ops true).wpIn (Wd ro) n P Q a w := by
  obtain ⟨S, e0, e1, e2, e3⟩ := aTr_states _ _ _ he
  rw [hoist_length, ok.1] at e1 e3
  have hchk := drawOk_spec ok.1 chk
  obtain ⟨κ, x⟩ := hrel
  have D : Draw C cf T c ops ios (fun j i => ((masks (ops.toList.map eOn) []).getD j 0).testBit i) pairs s.h.blocks.length S := by
    refine ⟨ok, hchk, e2, fun j i io hji hio id hid => ?_, x.go.len⟩
    have hpo := pairsOk_mem hp _ hji
    unfold pairOk at hpo
    dsimp only at hpo
    have hjl : j < (hoist 0 ios).length := by rw [hoist_length]; exact (List.getElem?_eq_some_iff.1 hio).1
    have hj' := List.getElem?_eq_getElem hjl
    have hjo := (hoist_get ios 0 j _ hj').1
    rw [hio] at hjo
    rw [hj', e3 j (by rw [hoist_length, ok.1] at hjl; omega)] at hpo
    split at hpo
    case h_2 => exact hpo.elim
    case h_1 o s0 s1 s2 q1 q2 q3 q4 =>
      cases q1; cases q2
      have hi : i + 1 ≤ ops.size := by
        obtain ⟨hlt, _⟩ := List.getElem?_eq_some_iff.1 q4
        have : (q.1 ++ [q.2]).length = ops.size + 1 := by
          rcases Nat.lt_or_ge (ops.size + 1) (q.1 ++ [q.2]).length with hx | hx
          · exfalso
            have hl : ∀ (L : List (IOper × Option Nat)) (s : St) (q : List St × St) (bb : Nat), aTr C cf bb L s = some q → q.1.length = L.length := by
              intro L
              induction L with
              | nil => intro s q bb h; simp only [aTr, Option.some.injEq] at h; subst h; rfl
              | cons o L ih =>
                intro s q bb h
                obtain ⟨s1, h1, h⟩ := ob_eq_some.1 h
                obtain ⟨q1, h2, h⟩ := ob_eq_some.1 h
                simp only [Option.some.injEq] at h; subst h
                simp [ih s1 q1 bb h2]
            have := hl _ _ _ _ he
            rw [List.length_append, this, hoist_length, ok.1] at hx
            simp at hx
          · have := e3 ops.size (Nat.le_refl _)
            obtain ⟨h1, _⟩ := List.getElem?_eq_some_iff.1 this
            omega
        omega
      rw [e3 i (by omega)] at q3
      rw [e3 (i + 1) hi] at q4
      cases q3; cases q4
      injection hjo with hjo
      rw [← hjo, hid] at hpo
      exact hpo
  refine wpIn_region_any hm ?_
  rw [World.drew_eq]
  obtain ⟨r1, g1⟩ := x.r.drew.pushZ (zsOf ios)
  have hS0 : ∀ i, ¬ lst (Array.replicate ops.size false) i := by
    intro i
    unfold lst
    simp only [Array.getD_eq_getD_getElem?, Array.getElem?_replicate]
    split <;> simp
  refine draw_any hT hcf D (fun a w h => hQ a w (by rw [← e1]; exact h)) ops.size (Array.replicate ops.size false) a w.drew 0 κ ?_ ⟨by simp, Nat.zero_le _, fun i io _ _ => ⟨fun h => absurd h (hS0 i), fun h => by omega⟩, fun j o _ h => absurd h (hS0 j), ?_, fun i io rk hi _ => ?_⟩
  · have : ∀ k, cnt (Array.replicate ops.size false) k ≤ k := by
      intro k
      induction k with
      | zero => simp [cnt]
      | succ k ih => rw [cnt_succ]; split <;> omega
    exact this _
  · have hσ : σL ops ios S (Array.replicate ops.size false) = s.σ := by
      funext t
      unfold σL
      rw [if_neg (fun ⟨i, _, _, _, h⟩ => hS0 i h), e0]
    rw [hσ, e0]
    exact ⟨r1, x.vs, (x.go.trans (Go.drew κ s.h w)).trans g1, x.φ, x.size, x.defers⟩
  · obtain ⟨k0, k1, k2⟩ := hoist_get ios 0 i _ hi
    obtain ⟨_, z, hz, hzz⟩ := k2 rk rfl
    refine ⟨x.r.φ_new (by omega), fun z' hz' => ?_⟩
    rw [e0]
    rw [hz] at hz'; cases hz'
    simp only [AH.get, Abs.pushZ]
    rw [List.getElem?_append_right (by omega), Nat.add_sub_cancel_left, List.getElem?_map]
    rw [Nat.sub_zero] at hzz
    rw [hzz]; rfl
end
end Go.Abs
