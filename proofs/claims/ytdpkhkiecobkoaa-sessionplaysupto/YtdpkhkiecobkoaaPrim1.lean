import Derived.Test.YtdpkhkiecobkoaaLib3
import Derived.Lib.Join
import Derived.Lib.BitFns
import Derived.Shelf.Spec.SlicesGrow
set_option linter.all false
/- Functions whose answers are proved elsewhere: strings.Join. -/
namespace Go.Abs
open Go.RowKit
set_option linter.unusedVariables false
set_option linter.unusedSimpArgs false

theorem cell_below {w w' : World} {b o : Nat} (hb : w'.heap[b]? = w.heap[b]?) : w'.cell? ⟨b, o, none⟩ = w.cell? ⟨b, o, none⟩ := by
  unfold World.cell?; simp only [hb]

/-- a call that has written nothing that was there -/
theorem Post.of_below {κ : K} {h : AH} {w w' : World} {v : AV} {x : Value} (r : R κ h w) (b : Below w.heap.size w w') (hv : V κ v x) : Post κ h w v h (.returned x) w' := by
  refine ⟨x, κ, rfl, hv, ⟨fun b' o u hm => ?_, fun id b' e => ⟨(r.dom id b' e).1, Nat.lt_of_lt_of_le (r.dom id b' e).2 b.size⟩, r.inj, fun id bk b' h1 h2 => ?_, r.tlt, fun t n g c s h1 h2 => ?_, r.tdj⟩,
    ⟨K.le.refl κ, b.os, b.tape, b.output, b.size, fun b' hb' _ => b.block b' hb', fun _ hf => .inl hf, fun _ _ _ e => .inl e, Nat.le_refl _⟩, fun _ _ => rfl⟩
  · have h0 := r.m b' o u hm
    have hlt : b' < w.heap.size := by have := block_lt_of_cell h0; simpa using this
    rw [cell_below (b.block b' hlt)]; exact h0
  · obtain ⟨⟨e, vs, q1, q2⟩, q3⟩ := r.blk id bk b' h1 h2
    exact ⟨⟨e, vs, by rw [b.block b' (lt_of_row q1)]; exact q1, q2⟩, q3⟩
  · obtain ⟨q1, ⟨e, cur, q2, q3⟩, q4, q5⟩ := r.tok t n g c s h1 h2
    exact ⟨q1, ⟨e, cur, by rw [b.block g (lt_of_row q2)]; exact q2, q3⟩, q4, q5⟩

def strsOf : List AV → Option (List ByteArray)
  | [] => some []
  | .str s :: r => ob (strsOf r) fun l => some (s :: l)
  | _ => none
def joinS (xs : List ByteArray) (sep : ByteArray) : ByteArray := ⟨(Lib.join (xs.map (·.data.toList)) sep.data.toList).toArray⟩
def joinP : List AV → AH → Option (AV × AH)
  | [.slice _ _ es _, .str sep], h => ob (strsOf es) fun xs => if xs.length ≤ 140737488355328 ∧ (joinS xs sep).size ≤ 140737488355328 then some (.str (joinS xs sep), h) else none
  | _, _ => none

theorem strsOf_spec : ∀ (es : List AV) (xs : List ByteArray), strsOf es = some xs → es = xs.map AV.str := by
  intro es
  induction es with
  | nil => intro xs h; simp [strsOf] at h; subst h; rfl
  | cons e es ih =>
    intro xs h
    cases e <;> simp only [strsOf] at h <;> try (cases h; done)
    obtain ⟨l, h1, h⟩ := ob_eq_some.1 h
    simp only [Option.some.injEq] at h; subst h
    rw [ih l h1]; rfl

theorem joinP_ok {P : Program} {f : FuncId}
    (hnone : ∀ (a : Option Addr) (c : Nat) (sep : ByteArray) (w : World), Calls P f #[.slice a 0 c, .string sep] w fun e w' => e = .returned (.string ⟨#[]⟩) ∧ w' = w)
    (hmany : ∀ (bk o c : Nat) (xs : List ByteArray) (sep : ByteArray) (w : World), (∀ (j : Nat) x, xs[j]? = some x → w.cell? ⟨bk, o + j, none⟩ = some (.string x)) → bk < w.heap.size → xs.length ≤ 140737488355328 → xs.length ≤ c →
      (Lib.join (xs.map (·.data.toList)) sep.data.toList).length ≤ 140737488355328 →
      Calls P f #[.slice (some ⟨bk, o, none⟩) xs.length c, .string sep] w fun e w' => e = .returned (.string ⟨(Lib.join (xs.map (·.data.toList)) sep.data.toList).toArray⟩) ∧ Below w.heap.size w w') :
    PrimOk P joinP f := by
  intro args h v h' he κ w vals r hv
  match args, he with
  | [.slice nl sz es rm, .str sep], he =>
    obtain ⟨xs, hx, he⟩ := ob_eq_some.1 (show ob (strsOf es) _ = some (v, h') from he)
    split at he
    case isFalse => cases he
    case isTrue hc =>
      simp only [Option.some.injEq, Prod.mk.injEq] at he
      obtain ⟨rfl, rfl⟩ := he
      have hes := strsOf_spec es xs hx
      obtain ⟨v0, q0, e0, hv0, hr0⟩ := hv.inv_cons
      obtain ⟨v1, q1, e1, hv1, hr1⟩ := hr0.inv_cons
      have := hr1.inv_nil
      subst this; subst e1
      have hvals : vals = #[v0, v1] := by apply Array.ext'; exact e0
      cases hv1
      have none' : xs = [] → ∀ a c, Calls P f #[.slice a 0 c, .string sep] w (Post κ h w (.str (joinS xs sep)) h) := by
        rintro rfl a c
        refine (hnone a c sep w).mono ?_
        rintro e w' ⟨rfl, rfl⟩
        exact Post.of_below r (Below.refl _ _) (.str _)
      rcases V.slice_iff.1 hv0 with ⟨_, h2, rfl⟩ | ⟨_, b, o, cap, rfl, hcap, _, _, hel⟩
      · rw [hvals]
        exact none' (by rw [h2] at hes; simpa using hes.symm) none 0
      · rw [hvals]
        have hlen : es.length = xs.length := by rw [hes]; simp
        cases hxs : xs with
        | nil =>
          rw [hlen, hxs]
          have := none' hxs (some ⟨b, o, none⟩) cap
          rw [hxs] at this
          exact this
        | cons y ys =>
          have hcell : ∀ (j : Nat) x, xs[j]? = some x → w.cell? ⟨b, o + j, none⟩ = some (.string x) := by
            intro j x hj
            have hj' : es[j]? = some (.str x) := by rw [hes, List.getElem?_map, hj]; rfl
            obtain ⟨⟨k1, _⟩, us, k2, k3⟩ := hel j _ hj'
            have hsz : sz = 1 := by rw [← k1]; rfl
            subst hsz
            obtain ⟨u, q, rfl, k4, k5⟩ := k2.inv_cons
            cases k4
            have := k3 0 _ rfl
            rw [Nat.mul_one, Nat.add_zero] at this
            exact r.m _ _ _ this
          have hb : b < w.heap.size := by
            have := hcell 0 y (by rw [hxs]; rfl)
            have := block_lt_of_cell this
            simpa using this
          rw [hlen, ← hxs]
          have hj : (Lib.join (xs.map (·.data.toList)) sep.data.toList).length ≤ 140737488355328 := by
            have := hc.2
            unfold joinS at this
            simpa [ByteArray.size] using this
          refine (hmany b o cap xs sep w hcell hb hc.1 (by rw [← hlen]; exact hcap) hj).mono ?_
          rintro e w' ⟨rfl, hbel⟩
          exact Post.of_below r hbel (.str _)

/-- a function of one whole number -/
def intP (k kr : IntKind) (hi : Int) (g : Int → Int) : List AV → AH → Option (AV × AH)
  | [.int k' x], h => if k' = k ∧ 0 ≤ x ∧ x ≤ hi then some (.int kr (g x), h) else none
  | _, _ => none
theorem intP_ok {P : Program} {f : FuncId} {k kr : IntKind} {hi : Int} {g : Int → Int} (hc : ∀ (x : Int) (w : World), 0 ≤ x → x ≤ hi → Calls P f #[.int k x] w fun e w' => e = .returned (.int kr (g x)) ∧ w' = w) :
    PrimOk P (intP k kr hi g) f := by
  intro args h v h' he κ w vals r hv
  match args, he with
  | [.int k' x], he =>
    have he2 : (if k' = k ∧ 0 ≤ x ∧ x ≤ hi then some (AV.int kr (g x), h) else none) = some (v, h') := he
    by_cases hcond : k' = k ∧ 0 ≤ x ∧ x ≤ hi
    case neg => rw [if_neg hcond] at he2; cases he2
    case pos =>
      rw [if_pos hcond] at he2
      obtain ⟨rfl, h0, h1⟩ := hcond
      simp only [Option.some.injEq, Prod.mk.injEq] at he2
      obtain ⟨rfl, rfl⟩ := he2
      obtain ⟨v0, q0, e0, hv0, hr0⟩ := hv.inv_cons
      have := hr0.inv_nil
      subst this
      have hvals : vals = #[v0] := by apply Array.ext'; exact e0
      cases hv0
      rw [hvals]
      refine (hc x w h0 h1).mono ?_
      rintro e w' ⟨rfl, rfl⟩
      exact Post.of_below r (Below.refl _ _) (.int _ _)
theorem intP_eq (k kr : IntKind) (hi : Int) (g : Int → Int) (x : Int) (h : AH) (h0 : 0 ≤ x) (h1 : x ≤ hi) : intP k kr hi g [.int k x] h = some (.int kr (g x), h) := by
  simp [intP, h0, h1]
end Go.Abs
/- slices.Grow at nil. -/
namespace Go.Abs
open Go.RowKit Go.Lib
set_option linter.unusedVariables false
set_option linter.unusedSimpArgs false

def growP (sz bytes : Nat) : List AV → AH → Option (AV × AH)
  | [.slice nl _ es _, .int .i64 n], h =>
      if nl = true ∧ es.isEmpty = true ∧ 0 ≤ n ∧ n * bytes ≤ appendLimit ∧ n ≤ appendLimit then
        (if n = 0 then some (.slice true sz [] .full, h) else some (.slice false sz [] (.own h.toks.length), ⟨h.blocks, h.toks ++ [0]⟩))
      else none
  | _, _ => none

theorem growP_ok {P : Program} {f : FuncId} {sz bytes : Nat}
    (hzero : ∀ (w : World), Calls P f #[.slice none 0 0, .int .i64 0] w fun e w' => e = .returned (.slice none 0 0) ∧ w' = w)
    (hgrow : ∀ (n : Nat) (w : World), 0 < n → n * bytes ≤ 140737488355328 → n ≤ 4611686018427387904 →
      Calls P f #[.slice none 0 0, .int .i64 n] w fun e w' => ∃ G vs ty, e = .returned (.slice (some ⟨w.heap.size, 0, none⟩) 0 G) ∧ w' = w.drew.alloc (.cells vs ty) ∧ vs.size = G * sz) :
    PrimOk P (growP sz bytes) f := by
  intro args h v h' he κ w vals r hv
  match args, he with
  | [.slice nl s0 es rm, .int .i64 n], he =>
    have he2 : (if nl = true ∧ es.isEmpty = true ∧ 0 ≤ n ∧ n * bytes ≤ appendLimit ∧ n ≤ appendLimit then
        (if n = 0 then some (AV.slice true sz [] .full, h) else some (AV.slice false sz [] (.own h.toks.length), (⟨h.blocks, h.toks ++ [0]⟩ : AH))) else none) = some (v, h') := he
    split at he2
    case isFalse => cases he2
    case isTrue hc =>
      obtain ⟨rfl, hes, h0, h1, h2⟩ := hc
      have hes' : es = [] := by simpa using hes
      subst hes'
      obtain ⟨v0, q0, e0, hv0, hr0⟩ := hv.inv_cons
      obtain ⟨v1, q1, e1, hv1, hr1⟩ := hr0.inv_cons
      have := hr1.inv_nil
      subst this; subst e1
      have hvals : vals = #[v0, v1] := by apply Array.ext'; exact e0
      cases hv1
      rcases V.slice_iff.1 hv0 with ⟨_, _, rfl⟩ | ⟨hf, _⟩
      case inr => cases hf
      case inl =>
      rw [hvals]
      by_cases hn : n = 0
      · subst hn
        rw [if_pos rfl] at he2
        simp only [Option.some.injEq, Prod.mk.injEq] at he2
        obtain ⟨rfl, rfl⟩ := he2
        refine (hzero w).mono ?_
        rintro e w' ⟨rfl, rfl⟩
        exact Post.of_below r (Below.refl _ _) (.slnil sz .full)
      · rw [if_neg hn] at he2
        simp only [Option.some.injEq, Prod.mk.injEq] at he2
        obtain ⟨rfl, rfl⟩ := he2
        obtain ⟨m, rfl⟩ : ∃ m : Nat, n = m := ⟨n.toNat, by omega⟩
        have hm : m * bytes ≤ 140737488355328 := by
          have : ((m * bytes : Nat) : Int) ≤ appendLimit := by push_cast; exact h1
          unfold appendLimit at this; omega
        refine (hgrow m w (by omega) hm (by unfold appendLimit at h2; omega)).mono ?_
        rintro e w' ⟨G, vs, ty, rfl, rfl, hsz⟩
        have s : TokStep h ⟨h.blocks, h.toks ++ [0]⟩ h.toks.length 0 0 := ⟨rfl, by simp, fun t' ht => by
          show (h.toks ++ [0])[t']? = h.toks[t']?
          rcases Nat.lt_or_ge t' h.toks.length with hl | hl
          · rw [List.getElem?_append_left hl]
          · rw [List.getElem?_eq_none (by simp; omega), List.getElem?_eq_none hl], fun q hq => by
          rw [List.getElem?_eq_none (Nat.le_refl _)] at hq; cases hq⟩
        obtain ⟨κ', r', g', ht, _, hφ⟩ := r.drew.newArr s ty vs G sz hsz (Nat.zero_le _)
        refine ⟨_, κ', rfl, ?_, r', (Go.drew κ h w).trans g', fun i _ => by rw [hφ]⟩
        refine V.slice_iff.2 (.inr ⟨rfl, w.heap.size, 0, G, rfl, Nat.zero_le _, (fun h => by cases h), fun t e => ?_, fun i e h => by simp at h⟩)
        cases e
        exact ⟨_, ht, (fun h => by cases h), fun g c s' e => by cases e; exact ⟨rfl, rfl, rfl, rfl⟩⟩
open Go.Shelf Go.Proofs in
theorem growP_lay {P : Program} {ρ : Ren} (L : Lays8.n4 P ρ) {ti : TI} (ok : TyOk P (ρ.t 25) ti) (hs0 : 0 < ti.size) : PrimOk P (growP ti.size ti.bytes) (ρ.f 4) := by
  obtain ⟨i0, hi0, hs, hb, z, hz, _, _, hzs⟩ := ok.info
  refine growP_ok (fun w => ?_) fun n w h0 h1 h2 => ?_
  · exact Any8.slices_Grow_room L none 0 0 0 w (by omega) (by omega) (by omega) (by omega)
  · refine (Any8.slices_Grow_grow L i0 z hi0 hz (by omega) none 0 0 n [] w (by omega) (by omega) (by rw [Nat.zero_add, hb]; exact h1) (by omega) (by simp) (fun _ => rfl) (fun a h => by cases h)).mono ?_
    rintro e w' ⟨rfl, rfl⟩
    refine ⟨_, _, _, rfl, rfl, ?_⟩
    have hge := grownCap_ge w (0 + n) 0 (ρ.t 25)
    simp only [List.toArray, Array.size_append, size_zeroCells, hzs, hs, Nat.zero_add, Nat.sub_zero]
    simp only [Nat.zero_add] at hge
    rw [show (#[] : Array Value).size = 0 from rfl, Nat.zero_add, ← Nat.add_mul, Nat.add_sub_cancel' hge]
theorem growP_eq (sz bytes : Nat) (s0 : Nat) (rm : Room) (n : Int) (h : AH) (h0 : 0 < n) (h1 : n * bytes ≤ 70368744177664) (h2 : n ≤ 70368744177664) :
    growP sz bytes [.slice true s0 [] rm, .int .i64 n] h = some (.slice false sz [] (.own h.toks.length), ⟨h.blocks, h.toks ++ [0]⟩) := by
  have : ¬ n = 0 := by omega
  have h3 : 0 ≤ n := by omega
  simp [growP, appendLimit, h1, h2, h3, this]
theorem growP_zero (sz bytes : Nat) (s0 : Nat) (rm : Room) (h : AH) :
    growP sz bytes [.slice true s0 [] rm, .int .i64 0] h = some (.slice true sz [] .full, h) := by
  simp [growP, appendLimit]
end Go.Abs
