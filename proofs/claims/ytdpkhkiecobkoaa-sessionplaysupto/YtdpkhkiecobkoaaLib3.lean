import Derived.Test.YtdpkhkiecobkoaaLib2
import GoSem.ClaimChange
import GoSem.ClaimWide
import Derived.Below
import Derived.Carry
import Derived.ProofKit
import Derived.OpenShut
import Derived.JoinedCond
import Derived.Test.YtdpkhkiecobkoaaLib1
import Derived.Attr
import Derived.Laws.BitsLemmas
set_option linter.all false
/- Texts: what they are reckoned out of; their runs. -/
namespace Go.Abs
set_option linter.unusedVariables false
set_option linter.unusedSimpArgs false

/-- what is noted at a region: the slots that are still asked for behind it; whether blocks may be dropped; which calls work on values alone; what is read and written in no order -/
structure Note where
  keep : List Nat
  pop : Bool := false
  pc : List Nat := []
  pairs : List (Nat × Nat) := []
  deriving Inhabited

def applyP (pc : List Nat) : Nat → List IOper → List IOper
  | _, [] => []
  | k, io :: r => (match io.op with | .call f as => if pc.contains k then ⟨io.dst, .pcall f as, io.guard⟩ else io | _ => io) :: applyP pc (k + 1) r

def compC (T : Tys) (nt : Nat) (note : Nat → Note) : Code → Option IC
  | .skip => some .skip
  | .region id ops draw => ob (opersOf T nt ops ops.toList) fun ios =>
      if draw then
        (if drawOk ops (applyP (note id).pc 0 ios) (note id).pairs then
          some (.regd (zsOf (applyP (note id).pc 0 ios)) (hoist 0 (applyP (note id).pc 0 ios)) (note id).pairs (note id).keep (note id).pop) else none)
      else some (.reg ios (note id).keep (note id).pop)
  | .seq a b => ob (compC T nt note a) fun x => ob (compC T nt note b) fun y => some (.seq x y)
  | .cond c a b => ob (srcOf c) fun s => ob (compC T nt note a) fun x => ob (compC T nt note b) fun y => some (.cond s x y)
  | .block id c => ob (compC T nt note c) fun x => some (.block id x)
  | .loop c => ob (compC T nt note c) fun x => some (.loop x)
  | .exit id => some (.exit id)
  | .label _ => some .skip
  | .scope c => ob (compC T nt note c) fun x => some (.scope x)
  | .ret => some .ret
  | _ => none

def compR (T : Tys) : List ResultVar → Option (List (Nat ⊕ (Nat × Nat × Bool)))
  | [] => some []
  | .tmp t :: r => ob (compR T r) fun l => some (.inl t :: l)
  | .cell a t :: r => ob (T t) fun ti => ob (compR T r) fun l => some (.inr (a, ti.size, ti.agg) :: l)

theorem applyP_length (pc : List Nat) : ∀ (l : List IOper) (k : Nat), (applyP pc k l).length = l.length := by
  intro l
  induction l with
  | nil => intro k; rfl
  | cons io l ih => intro k; simp [applyP, ih]
theorem applyP_get (pc : List Nat) : ∀ (l : List IOper) (k i : Nat) (io : IOper), (applyP pc k l)[i]? = some io → ∃ io', l[i]? = some io' ∧ (io = io' ∨ ∃ f as, io'.op = .call f as ∧ io = ⟨io'.dst, .pcall f as, io'.guard⟩) := by
  intro l
  induction l with
  | nil => intro k i io h; simp [applyP] at h
  | cons x l ih =>
    intro k i io h
    unfold applyP at h
    cases i with
    | succ i =>
      obtain ⟨io', h1, h2⟩ := ih (k + 1) i io (by simpa using h)
      exact ⟨io', by simpa using h1, h2⟩
    | zero =>
      simp only [List.getElem?_cons_zero, Option.some.injEq] at h
      refine ⟨x, by simp, ?_⟩
      split at h
      · rename_i f as hop
        split at h
        · exact .inr ⟨f, as, hop, h.symm⟩
        · exact .inl h.symm
      · exact .inl h.symm
theorem applyP_ok {T : Tys} {nt : Nat} {ops : Array Oper} {ios : List IOper} (pc : List Nat) (ok : OpersOk T nt ops ios) : OpersOk T nt ops (applyP pc 0 ios) := by
  refine ⟨by rw [applyP_length]; exact ok.1, fun i o io ho hio => ?_⟩
  obtain ⟨io', h1, h2⟩ := applyP_get pc ios 0 i io hio
  have h3 := ok.2 i o io' ho h1
  rcases h2 with rfl | ⟨f, as, hop, rfl⟩
  · exact h3
  · refine ⟨h3.dst, h3.lt, h3.guard, .inr ⟨f, as, rfl, ?_⟩⟩
    rcases h3.op with h4 | ⟨f', as', h4, _⟩
    · rw [hop] at h4; exact h4
    · rw [hop] at h4; cases h4

/-- a scope that nobody jumps about in -/
theorem wpIn_scope' {F : Fence} {n : Nat} {P : Program} {Q : Exit → Act → World → Prop} {a : Act} {w : World} {c : Code} (h : c.wpIn F n P (fun e a w => (∀ l, e ≠ .goto l) ∧ Q e a w) a w) : (Code.scope c).wpIn F n P Q a w := by
  intro b k cs hro hb hr
  have h0 : (lone (b.atR a (.code (.scope c) :: k)) cs w).fenced P F := fenced_calm hb hr rfl
  have h1 : step P (lone (b.atR a (.code (.scope c) :: k)) cs w) = .next (lone (b.atR a (.code c :: .inScope c :: k)) cs w) := step_lone_go (by simp [stepG, stepG.exec, Frame.atR])
  have h2 : ∀ a w, step P (lone (b.atR a (.inScope c :: k)) cs w) = .next (lone (b.atR a k) cs w) := fun a w => step_lone_go (by simp [stepG, stepG.exec, Frame.atR])
  obtain ⟨e, a₁, w₁, ⟨hng, hq⟩, harr⟩ := h b (.inScope c :: k) cs hro hb hr
  cases e with
  | normal => exact ⟨.normal, a₁, w₁, hq, .head h0 h1 (StepsIn.trans harr (.one (fenced_calm hb hr rfl) (h2 _ _)))⟩
  | exit id =>
    have hx : exitTo id (.inScope c :: k) = exitTo id k := by simp [exitTo]
    exact ⟨.exit id, a₁, w₁, hq, fun k' hk => .head h0 h1 (harr.1 k' (by rw [hx]; exact hk)),
      fun hr' hk => let ⟨k₁, q1, q2⟩ := harr.2 hr' (by rw [hx]; exact hk); ⟨k₁, q1, .head h0 h1 q2⟩⟩
  | goto l => exact absurd rfl (hng l)
  | ret => exact ⟨_, a₁, w₁, hq, .of_steps (.one h0 h1) harr⟩
  | panic ch => exact ⟨_, a₁, w₁, hq, .of_steps (.one h0 h1) harr⟩
  | outgrown => exact ⟨_, a₁, w₁, hq, .of_steps (.one h0 h1) harr⟩

def exitOf : AExit → Exit
  | .normal => .normal
  | .exit id => .exit id
  | .ret => .ret

open Classical in
noncomputable def least (p : Nat → Prop) : Nat := if h : ∃ j, p j ∧ ∀ i, i < j → ¬ p i then Classical.choose h else 0
theorem least_exists {p : Nat → Prop} : ∀ j, p j → ∃ j, p j ∧ ∀ i, i < j → ¬ p i := by
  intro j
  induction j using Nat.strongRecOn with
  | _ j ih =>
    intro hj
    by_cases h : ∃ i, i < j ∧ p i
    · obtain ⟨i, h1, h2⟩ := h; exact ih i h1 h2
    · exact ⟨j, hj, fun i hi hp => h ⟨i, hi, hp⟩⟩
theorem least_spec {p : Nat → Prop} {j : Nat} (hj : p j) : p (least p) ∧ least p ≤ j := by
  have h := least_exists j hj
  have h2 := Classical.choose_spec h
  have e : least p = Classical.choose h := by unfold least; rw [dif_pos h]
  rw [e]
  refine ⟨h2.1, ?_⟩
  rcases Nat.lt_or_ge j (Classical.choose h) with hlt | hge
  · exact absurd hj (h2.2 j hlt)
  · exact hge

section
variable {P : Program} {T : Tys} (hT : TysOk P T) {C : Cfg} {cf : CallF} (hcf : CallOk P cf) (hm : P.follows .mixedOrders = true) {c : Ctx} {ro : Option Nat} {n : Nat}

include hT hcf hm in
theorem exec_sound (note : Nat → Note) (fuel : Nat) : ∀ (code : Code) (ic : IC), compC T c.nt note code = some ic → ∀ (s : St) (r : AExit × St) (a : Act) (w : World), exec C cf fuel c.h.blocks.length ic s = some r → Rel c s a w →
    code.wpIn (Wd ro) n P (fun e a' w' => e = exitOf r.1 ∧ Rel c r.2 a' w') a w := by
  intro code
  induction code with
  | skip =>
    intro ic hc s r a w he hrel
    simp only [compC, Option.some.injEq] at hc; subst hc
    simp only [exec, Option.some.injEq] at he; subst he
    exact wpIn_skip ⟨rfl, hrel⟩
  | label l =>
    intro ic hc s r a w he hrel
    simp only [compC, Option.some.injEq] at hc; subst hc
    simp only [exec, Option.some.injEq] at he; subst he
    exact wpIn_label ⟨rfl, hrel⟩
  | exit id =>
    intro ic hc s r a w he hrel
    simp only [compC, Option.some.injEq] at hc; subst hc
    simp only [exec, Option.some.injEq] at he; subst he
    exact wpIn_exit ⟨rfl, hrel⟩
  | ret =>
    intro ic hc s r a w he hrel
    simp only [compC, Option.some.injEq] at hc; subst hc
    simp only [exec, Option.some.injEq] at he; subst he
    exact wpIn_ret ⟨rfl, hrel⟩
  | region id ops draw =>
    intro ic hc s r a w he hrel
    obtain ⟨ios, h1, hc⟩ := ob_eq_some.1 hc
    obtain ⟨hl, hok⟩ := opersOf_ok ops.toList ios h1
    have ok : OpersOk T c.nt ops ios := ⟨by simpa using hl, fun i o io ho hio => hok i o io (by simpa using ho) hio⟩
    cases draw with
    | true =>
      simp only [if_true] at hc
      split at hc
      case isFalse => cases hc
      case isTrue hd =>
        simp only [Option.some.injEq] at hc; subst hc
        obtain ⟨q, hq, he⟩ := ob_eq_some.1 (show ob _ _ = some r from he)
        unfold checked at he
        split at he
        case isFalse => cases he
        case isTrue hp =>
          simp only [Option.some.injEq] at he; subst he
          exact regd_sound hT hcf hm id (applyP_ok (note id).pc ok) hd s q a w hq hp hrel (fun a w h => ⟨rfl, h.settle _ _⟩)
    | false =>
      simp only [Bool.false_eq_true, if_false, Option.some.injEq] at hc; subst hc
      obtain ⟨s1, h2, he⟩ := ob_eq_some.1 (show ob _ _ = some r from he)
      simp only [Option.some.injEq] at he; subst he
      exact reg_sound hT hcf id ios ok s s1 a w h2 hrel (fun a w h => ⟨rfl, h.settle _ _⟩)
  | seq x y ihx ihy =>
    intro ic hc s r a w he hrel
    obtain ⟨ix, h1, hc⟩ := ob_eq_some.1 hc
    obtain ⟨iy, h2, hc⟩ := ob_eq_some.1 hc
    simp only [Option.some.injEq] at hc; subst hc
    obtain ⟨r1, h3, he⟩ := ob_eq_some.1 (show ob _ _ = some r from he)
    refine wpIn_seq (wpIn_mono (ihx ix h1 s r1 a w h3 hrel) fun e a' w' hq => ?_)
    obtain ⟨rfl, hrel'⟩ := hq
    unfold andThen at he
    cases hr : r1.1 with
    | normal =>
      rw [hr] at he
      exact ihy iy h2 r1.2 r a' w' he hrel'
    | exit id =>
      rw [hr] at he
      simp only [Option.some.injEq] at he; subst he
      exact ⟨rfl, hrel'⟩
    | ret =>
      rw [hr] at he
      simp only [Option.some.injEq] at he; subst he
      exact ⟨rfl, hrel'⟩
  | cond o x y ihx ihy =>
    intro ic hc s r a w he hrel
    obtain ⟨so, h0, hc⟩ := ob_eq_some.1 hc
    obtain ⟨ix, h1, hc⟩ := ob_eq_some.1 hc
    obtain ⟨iy, h2, hc⟩ := ob_eq_some.1 hc
    simp only [Option.some.injEq] at hc; subst hc
    obtain ⟨v, h3, he⟩ := ob_eq_some.1 (show ob _ _ = some r from he)
    obtain ⟨κ, xk⟩ := hrel
    have hV := srcOf_sound xk.vs h0 h3
    split at he
    case h_2 => cases he
    case h_1 b =>
      cases hx : a.eval o <;> rw [hx] at hV <;> try (cases hV; done)
      cases hV
      refine wpIn_cond hx ?_
      cases b with
      | true => exact ihx ix h1 s r a w he ⟨κ, xk⟩
      | false => exact ihy iy h2 s r a w he ⟨κ, xk⟩
  | block id x ih =>
    intro ic hc s r a w he hrel
    obtain ⟨ix, h1, hc⟩ := ob_eq_some.1 hc
    simp only [Option.some.injEq] at hc; subst hc
    obtain ⟨r1, h3, he⟩ := ob_eq_some.1 (show ob _ _ = some r from he)
    simp only [Option.some.injEq] at he; subst he
    refine wpIn_block (wpIn_mono (ih ix h1 s r1 a w h3 hrel) fun e a' w' hq => ?_)
    obtain ⟨rfl, hrel'⟩ := hq
    cases hr : r1.1 with
    | normal => simp only [exitOf, Exit.inBlock, outOf, hr]; exact ⟨by simp [exitOf], hrel'⟩
    | ret => simp only [exitOf, Exit.inBlock, outOf, hr]; exact ⟨by simp [exitOf], hrel'⟩
    | exit id' =>
      simp only [exitOf, Exit.inBlock, outOf, hr]
      by_cases hid : id' = id
      · subst hid; simp [exitOf, hrel']
      · have h1 : (AExit.exit id' = AExit.exit id) = False := by simp [hid]
        simp only [hid, h1, if_false]
        exact ⟨trivial, hrel'⟩
  | scope x ih =>
    intro ic hc s r a w he hrel
    obtain ⟨ix, h1, hc⟩ := ob_eq_some.1 hc
    simp only [Option.some.injEq] at hc; subst hc
    refine wpIn_scope' (wpIn_mono (ih ix h1 s r a w he hrel) fun e a' w' hq => ⟨?_, hq⟩)
    rw [hq.1]
    cases r.1 <;> simp [exitOf]
  | loop x ih =>
    intro ic hc s r a w he hrel
    obtain ⟨ix, h1, hc⟩ := ob_eq_some.1 hc
    simp only [Option.some.injEq] at hc; subst hc
    let Pj : Act → World → Nat → Prop := fun a w j => ∃ s, loopN (exec C cf fuel c.h.blocks.length ix) j s = some r ∧ Rel c s a w
    refine wpIn_loop (fun a w => ∃ j, Pj a w j) (fun a w => least (Pj a w)) ⟨fuel, s, he, hrel⟩ fun a w hI => ?_
    obtain ⟨j0, hj0⟩ := hI
    obtain ⟨hl, _⟩ := least_spec hj0
    obtain ⟨s, hs, hrel⟩ := hl
    cases hj : least (Pj a w) with
    | zero => rw [hj] at hs; cases hs
    | succ j =>
      rw [hj] at hs
      obtain ⟨r1, h3, hs⟩ := ob_eq_some.1 (show ob _ _ = some r from hs)
      refine wpIn_mono (ih ix h1 s r1 a w h3 hrel) fun e a' w' hq => ?_
      obtain ⟨rfl, hrel'⟩ := hq
      cases hr : r1.1 with
      | normal =>
        rw [hr] at hs
        have hp : Pj a' w' j := ⟨r1.2, hs, hrel'⟩
        exact ⟨⟨j, hp⟩, Nat.lt_of_le_of_lt (least_spec hp).2 (Nat.lt_succ_self j)⟩
      | exit id =>
        rw [hr] at hs
        simp only [Option.some.injEq] at hs; subst hs
        exact ⟨rfl, hrel'⟩
      | ret =>
        rw [hr] at hs
        simp only [Option.some.injEq] at hs; subst hs
        exact ⟨rfl, hrel'⟩
  | _ => intro ic hc; cases hc
end
end Go.Abs
/- Functions. -/
namespace Go.Abs
set_option linter.unusedVariables false
set_option linter.unusedSimpArgs false

/-- a function whose answer is proved elsewhere -/
def PrimOk (P : Program) (p : List AV → AH → Option (AV × AH)) (f : FuncId) : Prop := ∀ args h v h', p args h = some (v, h') → ∀ (κ : K) (w : World) (vals : Array Value), R κ h w → VL κ args vals.toList → Calls P f vals w (Post κ h w v h')

structure FnOk (P : Program) (T : Tys) (f : FuncId) (ifn : IFn) : Prop where
  ex : ∃ (fn : Func) (code : Code) (note : Nat → Note), P.funcs[f]? = some fn ∧ (fn.name == "runtime.NumGoroutine") = false ∧ fn.body = some code ∧ fn.ntmps = ifn.nt ∧ compC T ifn.nt note code = some ifn.body ∧ compR T fn.results.toList = some ifn.results

structure CfgOk (P : Program) (T : Tys) (C : Cfg) : Prop where
  tys : TysOk P T
  mixed : P.follows .mixedOrders = true
  fn : ∀ f ifn, C.prim f = none → C.fn f = some ifn → FnOk P T f ifn
  prim : ∀ f p, C.prim f = some p → Enters P f ∧ PrimOk P p f

section
variable {P : Program} {T : Tys} {C : Cfg} {cf : CallF} {κ : K} {h h' : AH} {w : World} {σ : Nat → Option AV} {a : Act} {v : AV}

theorem run_mapM_list {α : Type} {f : α → Sem Value} : ∀ (l : List α) (us : List Value), l.length = us.length → (∀ (i : Nat) (x : α) (u : Value), l[i]? = some x → us[i]? = some u → (f x).run P w = .ok u w) → (l.mapM f).run P w = .ok us w := by
  intro l
  induction l with
  | nil => intro us hl _; have : us = [] := List.eq_nil_of_length_eq_zero (by simpa using hl.symm); subst this; rfl
  | cons x l ih =>
    intro us hl hf
    cases us with
    | nil => simp at hl
    | cons u us =>
      have h1 := hf 0 x u rfl rfl
      have h2 := ih us (by simpa using hl) (fun i y z hy hz => hf (i + 1) y z (by simpa using hy) (by simpa using hz))
      simp [List.mapM_cons, h1, h2]

def resVal (tmps : Array Value) : ResultVar → Sem Value
  | .tmp t => pure (tmps.getD t undef)
  | .cell a t => do loadVar t (← asAddr (tmps.getD a undef))
theorem results_eq (fn : Func) (tmps : Array Value) : results fn tmps = (do let vs ← fn.results.mapM (resVal tmps); pure (if h : vs.size = 1 then vs[0] else .tuple vs)) := rfl

theorem resultsL_sound (hT : TysOk P T) (r : R κ h w) (hs : VS κ σ a.tmps) : ∀ (rs : List ResultVar) (l : List (Nat ⊕ (Nat × Nat × Bool))) (vs : List AV), compR T rs = some l → resultsL ⟨σ, h⟩ l = some vs →
    ∃ us : List Value, VL κ vs us ∧ rs.length = us.length ∧ ∀ (i : Nat) (x : ResultVar) (u : Value), rs[i]? = some x → us[i]? = some u →
      (resVal a.tmps x).run P w = .ok u w := by
  intro rs
  induction rs with
  | nil =>
    intro l vs hl hv
    simp only [compR, Option.some.injEq] at hl; subst hl
    simp only [resultsL, Option.some.injEq] at hv; subst hv
    exact ⟨[], VL.nil κ, rfl, fun i x u h => by simp at h⟩
  | cons x rs ih =>
    intro l vs hl hv
    have key : ∀ (y : Nat ⊕ (Nat × Nat × Bool)) (l' : List (Nat ⊕ (Nat × Nat × Bool))), compR T rs = some l' → l = y :: l' → (∀ u, resultOf ⟨σ, h⟩ y = some u → ∃ z, V κ u z ∧
        (resVal a.tmps x).run P w = .ok z w) →
        ∃ us : List Value, VL κ vs us ∧ (x :: rs).length = us.length ∧ ∀ (i : Nat) (x' : ResultVar) (u : Value), (x :: rs)[i]? = some x' → us[i]? = some u →
          (resVal a.tmps x').run P w = .ok u w := by
      intro y l' h1 h2 h3
      subst h2
      obtain ⟨u, e1, hv⟩ := ob_eq_some.1 (show ob (resultOf ⟨σ, h⟩ y) _ = some vs from hv)
      obtain ⟨us', e2, hv⟩ := ob_eq_some.1 hv
      simp only [Option.some.injEq] at hv; subst hv
      obtain ⟨z, q1, q2⟩ := h3 u e1
      obtain ⟨us, p1, p2, p3⟩ := ih l' us' h1 e2
      refine ⟨z :: us, VL.cons q1 p1, by simp [p2], fun i x' u' hx hu => ?_⟩
      cases i with
      | zero => simp at hx hu; subst hx; subst hu; exact q2
      | succ i => exact p3 i x' u' (by simpa using hx) (by simpa using hu)
    cases x with
    | tmp t =>
      obtain ⟨l', h1, hl⟩ := ob_eq_some.1 (show ob (compR T rs) _ = some l from hl)
      simp only [Option.some.injEq] at hl
      exact key _ l' h1 hl.symm fun u hu => ⟨_, hs t u hu, rfl⟩
    | cell ad t =>
      obtain ⟨ti, h0, hl⟩ := ob_eq_some.1 (show ob (T t) _ = some l from hl)
      obtain ⟨l', h1, hl⟩ := ob_eq_some.1 hl
      simp only [Option.some.injEq] at hl
      refine key _ l' h1 hl.symm fun u hu => ?_
      obtain ⟨y, hy, hu⟩ := ob_eq_some.1 (show ob (σ ad) _ = some u from hu)
      have hV := hs ad y hy
      split at hu
      case h_2 => cases hu
      case h_1 id off =>
        obtain ⟨z, q1, q2⟩ := load_sound hT r t ti h0 _ _ hV hu
        refine ⟨z, q2, ?_⟩
        show Sem.run P (do let y ← asAddr (a.tmps.getD ad undef); loadVar t y) w = _
        generalize a.tmps.getD ad undef = y' at hV q1
        cases hV
        simpa [Instr.loadAt, Instr.sureAddr, asAddr] using q1

theorem results_sound (hT : TysOk P T) (r : R κ h w) (hs : VS κ σ a.tmps) (fn : Func) (l : List (Nat ⊕ (Nat × Nat × Bool))) (vs : List AV) (hl : compR T fn.results.toList = some l) (hv : resultsL ⟨σ, h⟩ l = some vs) :
    ∃ x, (results fn a.tmps).run P w = .ok x w ∧ V κ (tupOf vs) x := by
  obtain ⟨us, h1, h2, h3⟩ := resultsL_sound hT r hs fn.results.toList l vs hl hv
  have hm := run_mapM_list (P := P) (w := w) fn.results.toList us h2 h3
  have hrun : (results fn a.tmps).run P w = .ok (if h : us.toArray.size = 1 then us.toArray[0] else .tuple us.toArray) w := by
    rw [results_eq, Array.mapM_eq_mapM_toList, Sem.run_bind]
    have : (List.toArray <$> fn.results.toList.mapM (resVal a.tmps)).run P w = .ok us.toArray w := by
      simp [hm]
    rw [this]
    rfl
  refine ⟨_, hrun, ?_⟩
  match vs, us, h1 with
  | [], us, h1 => have := h1.inv_nil; subst this; exact V.tup_iff.2 (VL.nil κ)
  | [v], us, h1 =>
    obtain ⟨u, q, rfl, e1, e2⟩ := h1.inv_cons
    have := e2.inv_nil; subst this
    exact e1
  | v :: v' :: vs, us, h1 =>
    obtain ⟨u, q, rfl, e1, e2⟩ := h1.inv_cons
    obtain ⟨u', q', rfl, e3, e4⟩ := e2.inv_cons
    have : ¬ (u :: u' :: q').toArray.size = 1 := by simp
    rw [dif_neg this]
    exact V.tup_iff.2 (by simpa using h1)

theorem argList_get : ∀ (l : List AV) (k t : Nat) (v : AV), ofList (argList l k) t = some v → k ≤ t ∧ l[t - k]? = some v := by
  intro l
  induction l with
  | nil => intro k t v h; simp [argList, ofList] at h
  | cons x l ih =>
    intro k t v h
    unfold argList ofList at h
    split at h
    · rename_i e; subst e; cases h; exact ⟨Nat.le_refl _, by simp⟩
    · obtain ⟨h1, h2⟩ := ih (k + 1) t v h
      refine ⟨by omega, ?_⟩
      rw [show t - k = (t - (k + 1)) + 1 by omega]
      simpa using h2

theorem callB_ok (ok : CfgOk P T C) (hcf : CallOk P cf) (fuel : Nat) : CallOk P (callB C cf fuel) := by
  intro f args h v h' he
  unfold callB at he
  cases hp : C.prim f with
  | some p =>
    rw [hp] at he
    obtain ⟨h1, h2⟩ := ok.prim f p hp
    exact ⟨h1, h2 args h v h' he⟩
  | none =>
    rw [hp] at he
    dsimp only at he
    obtain ⟨ifn, hf, he⟩ := ob_eq_some.1 he
    split at he
    case isFalse => cases he
    case isTrue hlen =>
      obtain ⟨r, hr, he⟩ := ob_eq_some.1 he
      obtain ⟨fn, code, note, f1, f2, f3, f4, f5, f6⟩ := (ok.fn f ifn hp hf).ex
      refine ⟨⟨fn, f1, f2, by rw [f3]; rfl⟩, fun κ w vals hR hV => ?_⟩
      let c : Ctx := ⟨κ, h, w, ifn.nt, hR⟩
      have hvl : vals.size = args.length := by rw [hV.1]; simp
      have hrel : Rel c ⟨ofList (argList args 0), h⟩ { tmps := vals ++ Array.replicate (fn.ntmps - vals.size) undef, defers := [] } w := by
        refine ⟨κ, hR, fun t u hu => ?_, Go.refl κ h w, fun _ _ => rfl, ?_, rfl⟩
        · obtain ⟨_, h2⟩ := argList_get args 0 t u hu
          rw [Nat.sub_zero] at h2
          obtain ⟨x, q1, q2⟩ := hV.get h2
          rw [Array.getD_eq_getD_getElem?]
          have hlt : t < vals.size := by rw [hvl]; exact (List.getElem?_eq_some_iff.1 h2).1
          show V κ u (((vals ++ Array.replicate (fn.ntmps - vals.size) undef)[t]?).getD undef)
          rw [Array.getElem?_append_left hlt]
          rw [Array.getElem?_toList] at q1
          rw [q1]; exact q2
        · show ifn.nt ≤ (vals ++ Array.replicate (fn.ntmps - vals.size) undef).size
          rw [Array.size_append, Array.size_replicate, ← f4]; omega
      have hw := exec_sound (ro := none) (n := 0) ok.tys hcf ok.mixed (c := c) note fuel code ifn.body f5 _ r _ w hr hrel
      refine callsIn_wide.1 (callsIn_of_wp (F := Wd none) (n := 0) f1 f3 trivial (wpIn_mono hw fun e a' w' hq => ?_))
      obtain ⟨rfl, κ', x⟩ := hq
      unfold leave at he
      have fin : ∀ vs, resultsL r.2 ifn.results = some vs → v = tupOf vs → h' = r.2.h → a'.defers = [] ∧ ∃ u, (results fn a'.tmps).run P w' = .ok u w' ∧ Post κ h w v h' (.returned u) w' := by
        intro vs h1 h2 h3
        subst h2; subst h3
        obtain ⟨u, q1, q2⟩ := results_sound ok.tys x.r x.vs fn ifn.results vs f6 h1
        exact ⟨x.defers, u, q1, u, κ', rfl, q2, x.r, x.go, x.φ⟩
      cases hx : r.1 with
      | exit id => rw [hx] at he; cases he
      | normal =>
        rw [hx] at he
        obtain ⟨vs, h1, he⟩ := ob_eq_some.1 he
        simp only [Option.some.injEq, Prod.mk.injEq] at he
        exact fin vs h1 he.1.symm he.2.symm
      | ret =>
        rw [hx] at he
        obtain ⟨vs, h1, he⟩ := ob_eq_some.1 he
        simp only [Option.some.injEq, Prod.mk.injEq] at he
        exact fin vs h1 he.1.symm he.2.symm

theorem callN_ok (ok : CfgOk P T C) : ∀ n, CallOk P (callN C n)
  | 0 => fun _ _ _ _ _ h => by cases h
  | n + 1 => callB_ok ok (callN_ok ok n) n

theorem call_sound (ok : CfgOk P T C) {f : FuncId} {args : List AV} (he : call C f args h = some (v, h')) (r : R κ h w) (vals : Array Value) (hv : VL κ args vals.toList) : Calls P f vals w (Post κ h w v h') := by
  obtain ⟨n, hn⟩ := call_iff.1 he
  exact (callN_ok ok n f args h v h' hn).2 κ w vals r hv
end
end Go.Abs
/- Arguments, as they are trodden: their abstract values. -/
namespace Go.Abs
set_option linter.unusedVariables false
set_option linter.unusedSimpArgs false

/-! #### shapes -/
def ShF (p : TypeId → List AV → Prop) : List (TypeId × Nat × Bool) → List AV → Prop
  | [], as => as = []
  | f :: r, as => ∃ a b, as = a ++ b ∧ p f.1 a ∧ ShF p r b
def ShN (p : List AV → Prop) : Nat → List AV → Prop
  | 0, as => as = []
  | k + 1, as => ∃ a b, as = a ++ b ∧ p a ∧ ShN p k b
/-- an element of a slice -/
def ShE (agg : Bool) (p : List AV → Prop) (x : AV) : Prop := if agg then ∃ cs, x = .agg cs ∧ p cs else x.scalar = true ∧ p [x]
/-- the cells of a value of a type -/
def Sh (T : Tys) : Nat → TypeId → List AV → Prop
  | 0, _, _ => False
  | n + 1, t, as => match T t with
    | none => False
    | some ti => match ti.d with
      | .bool => ∃ b, as = [.bool b]
      | .int k => ∃ m, as = [.int k m] ∧ (Lit.int k m).wf = true
      | .string => ∃ s, as = [.str s]
      | .slice e => ∃ nl es, as = [.slice nl (match T e with | some ei => ei.size | none => 0) es .unk] ∧ (nl = true → es = []) ∧ ∀ x ∈ es, ShE (match T e with | some ei => ei.agg | none => false) (Sh T n e) x
      | .struct fs => ShF (Sh T n) fs as
      | .array k e => ShN (Sh T n e) k as
      | _ => False

def contig (T : Tys) : Nat → List (TypeId × Nat × Bool) → Option Nat
  | k, [] => some k
  | k, f :: r => ob (T f.1) fun fi => if f.2.1 = k then contig T (k + fi.size) r else none
/-- types that arguments may have: 'deep' says whether slices may stand there -/
def argTy (T : Tys) (deep : Bool) : Nat → TypeId → Bool
  | 0, _ => false
  | n + 1, t => match T t with
    | none => false
    | some ti => match ti.d with
      | .bool | .int _ | .string => true
      | .slice e => deep && (match T e with | some ei => ei.size != 0 | none => false) && argTy T false n e
      | .struct fs => fs.all (fun f => argTy T deep n f.1) && (match contig T 0 fs with | some k => k == ti.size | none => false)
      | .array k e => argTy T deep n e && (match T e with | some ei => k * ei.size == ti.size | none => false)
      | _ => false

/-! #### how much -/
mutual
def AV.bulk : AV → Nat
  | .str s => s.size + 1
  | .slice _ _ es _ => bulkL es + 1
  | .agg cs => bulkL cs
  | _ => 1
def bulkL : List AV → Nat
  | [] => 0
  | v :: r => AV.bulk v + bulkL r
end
theorem bulkL_append (a b : List AV) : bulkL (a ++ b) = bulkL a + bulkL b := by
  induction a with
  | nil => simp [bulkL]
  | cons x a ih => simp only [List.cons_append, bulkL, ih]; omega

/-- a measure of data -/
structure BulkOk {H : Type} (bk : DataW H → Nat) (bkAll : List (DataW H) → Nat) : Prop where
  nil : bkAll [] = 0
  cons : ∀ d r, bkAll (d :: r) = bk d + bkAll r
  str : ∀ bytes, bytes.length + 1 ≤ bk (.lit (.string bytes))
  one : ∀ d, 1 ≤ bk d
  slice : ∀ es sp, bkAll es + 1 ≤ bk (.slice es sp)
  agg : ∀ ps, bkAll ps + 1 ≤ bk (.agg ps)

/-- all cells of a world, as they are -/
def K.ofWorld (w : World) : K := ⟨fun b o => w.cell? ⟨b, o, none⟩, fun _ => none, fun _ _ => none⟩
theorem R.ofWorld (w : World) : R (K.ofWorld w) AH.empty w :=
  ⟨fun _ _ _ e => e, fun _ _ e => by simp [K.ofWorld] at e, fun _ _ _ e => by simp [K.ofWorld] at e, fun _ _ _ e => by simp [AH.get, AH.empty] at e, fun _ _ _ e => by simp [K.ofWorld] at e,
    fun _ _ _ _ _ e => by simp [AH.empty] at e, fun _ _ _ _ _ _ _ _ _ e => by simp [AH.empty] at e⟩

def NoSpot (cs : List Value) : Prop := ∀ a l c, Value.slice (some a) l c ∈ cs → a.spot = none

theorem mapM_spec {α β : Type} {f : α → Option β} : ∀ (l : List α) (r : List β), l.mapM f = some r → l.length = r.length ∧ ∀ (i : Nat) (x : α) (y : β), l[i]? = some x → r[i]? = some y → f x = some y := by
  intro l
  induction l with
  | nil => intro r h; simp at h; subst h; exact ⟨rfl, fun i x y h => by simp at h⟩
  | cons a l ih =>
    intro r h
    rw [List.mapM_cons] at h
    cases ha : f a with
    | none => rw [ha] at h; simp at h
    | some b =>
      rw [ha] at h
      cases hl : l.mapM f with
      | none => rw [hl] at h; simp at h
      | some q =>
        rw [hl] at h
        simp at h; subst h
        obtain ⟨h1, h2⟩ := ih q hl
        refine ⟨by simp [h1], fun i x y hx hy => ?_⟩
        cases i with
        | zero => simp at hx hy; subst hx; subst hy; exact ha
        | succ i => exact h2 i x y (by simpa using hx) (by simpa using hy)
end Go.Abs
/- What a datum that was trodden is. -/
namespace Go.Abs
set_option linter.unusedVariables false
set_option linter.unusedSimpArgs false
section
variable {H : Type} {enc : TypeId × Value → H} {P : Program} {w : World} {sp : Nat → Bool} {fuel : Nat} {t : TypeId} {cs : List Value} {d : DataW H} {ps : List MemPlace}

theorem trod_bool (hu : P.underlying t = some .bool) (h : DataW.trod enc P w 0 sp true (fuel + 1) t cs = some (d, ps)) : ∃ b, cs = [.bool b] ∧ d = .lit (.bool b) := by
  unfold DataW.trod at h
  rw [hu] at h
  split at h <;> first | (rename_i heq; cases heq; done) | (rename_i heq _; cases heq; done) | (rename_i heq _ _; cases heq; done) | (cases h; done) | skip
  all_goals simp_all
theorem trod_int {k : IntKind} (hu : P.underlying t = some (.int k)) (h : DataW.trod enc P w 0 sp true (fuel + 1) t cs = some (d, ps)) : ∃ m, cs = [.int k m] ∧ (Lit.int k m).wf = true ∧ d = .lit (.int k m) := by
  unfold DataW.trod at h
  rw [hu] at h
  split at h <;> first | (rename_i heq; cases heq; done) | (rename_i heq _; cases heq; done) | (rename_i heq _ _; cases heq; done) | (cases h; done) | skip
  all_goals first | (simp_all; done) | skip
theorem trod_str (hu : P.underlying t = some .string) (h : DataW.trod enc P w 0 sp true (fuel + 1) t cs = some (d, ps)) : ∃ s, cs = [.string s] ∧ d = .lit (.string s.data.toList) := by
  unfold DataW.trod at h
  rw [hu] at h
  split at h <;> first | (rename_i heq; cases heq; done) | (rename_i heq _; cases heq; done) | (rename_i heq _ _; cases heq; done) | (cases h; done) | skip
  all_goals first | (simp_all; done) | skip
theorem trod_slice {e : TypeId} (hu : P.underlying t = some (.slice e)) (h : DataW.trod enc P w 0 sp true (fuel + 1) t cs = some (d, ps)) :
    cs = [.slice none 0 0] ∨ ∃ a len cap elems rest, cs = [.slice (some a) len cap] ∧ len ≤ cap ∧
      (List.range len).mapM (fun i => (w.cells? 0 (a.add (i * P.cellsOf e)) (P.cellsOf e)).bind (DataW.trod enc P w 0 sp true fuel e)) = some elems ∧ d = .slice (elems.map (·.1)) rest := by
  unfold DataW.trod at h
  rw [hu] at h
  split at h <;> first | (rename_i heq; cases heq; done) | (rename_i heq _; cases heq; done) | (rename_i heq _ _; cases heq; done) | (cases h; done) | skip
  all_goals first | (simp_all; done) | skip
  rename_i heq
  cases heq
  split at h
  case isFalse => cases h
  case isTrue hc =>
    dsimp only at h
    simp only [Option.bind_eq_some_iff, Option.map_eq_some_iff, Prod.mk.injEq] at h
    obtain ⟨elems, he, rest, hr, hd, _⟩ := h
    exact .inr ⟨_, _, _, elems, _, rfl, hc.2.1, he, hd.symm⟩
theorem trod_struct {fs : Array Field} (hu : P.underlying t = some (.struct fs)) (h : DataW.trod enc P w 0 sp true (fuel + 1) t cs = some (d, ps)) :
    cs.length = P.cellsOf t ∧ ∃ xs, fs.toList.mapM (fun f => DataW.trod enc P w 0 sp true fuel f.type ((cs.drop f.offset).take (P.cellsOf f.type))) = some xs ∧ d = .agg (xs.map (·.1)) := by
  unfold DataW.trod at h
  rw [hu] at h
  split at h <;> first | (rename_i heq; cases heq; done) | (rename_i heq _; cases heq; done) | (rename_i heq _ _; cases heq; done) | (cases h; done) | skip
  all_goals first | (simp_all; done) | skip
  rename_i heq
  cases heq
  split at h
  · rename_i hl
    simp only [Option.map_eq_some_iff, Prod.mk.injEq] at h
    obtain ⟨xs, h1, h2, _⟩ := h
    exact ⟨hl, xs, h1, h2.symm⟩
  · cases h
theorem trod_array {k : Nat} {e : TypeId} (hu : P.underlying t = some (.array k e)) (h : DataW.trod enc P w 0 sp true (fuel + 1) t cs = some (d, ps)) :
    cs.length = P.cellsOf t ∧ ∃ xs, (List.range k).mapM (fun i => DataW.trod enc P w 0 sp true fuel e ((cs.drop (i * P.cellsOf e)).take (P.cellsOf e))) = some xs ∧ d = .agg (xs.map (·.1)) := by
  unfold DataW.trod at h
  rw [hu] at h
  split at h <;> first | (rename_i heq; cases heq; done) | (rename_i heq _; cases heq; done) | (rename_i heq _ _; cases heq; done) | (cases h; done) | skip
  all_goals first | (simp_all; done) | skip
  rename_i heq
  cases heq
  split at h
  · rename_i hl
    simp only [Option.map_eq_some_iff, Prod.mk.injEq] at h
    obtain ⟨xs, h1, h2, _⟩ := h
    exact ⟨hl, xs, h1, h2.symm⟩
  · cases h
end
end Go.Abs
/- Arguments: whole. -/
namespace Go.Abs
set_option linter.unusedVariables false
set_option linter.unusedSimpArgs false

theorem shF_scalar {p : TypeId → List AV → Prop} (hp : ∀ t as, p t as → as.all AV.scalar = true) : ∀ (fs : List (TypeId × Nat × Bool)) (as : List AV), ShF p fs as → as.all AV.scalar = true := by
  intro fs
  induction fs with
  | nil => intro as h; simp only [ShF] at h; subst h; rfl
  | cons f fs ih =>
    rintro as ⟨a, b, rfl, h1, h2⟩
    rw [List.all_append, hp _ _ h1, ih b h2]; rfl
theorem shN_scalar {p : List AV → Prop} (hp : ∀ as, p as → as.all AV.scalar = true) : ∀ (k : Nat) (as : List AV), ShN p k as → as.all AV.scalar = true := by
  intro k
  induction k with
  | zero => intro as h; simp only [ShN] at h; subst h; rfl
  | succ k ih =>
    rintro as ⟨a, b, rfl, h1, h2⟩
    rw [List.all_append, hp _ h1, ih b h2]; rfl
theorem sh_scalar {T : Tys} : ∀ (n : Nat) (t : TypeId) (as : List AV), Sh T n t as → as.all AV.scalar = true := by
  intro n
  induction n with
  | zero => intro t as h; exact h.elim
  | succ n ih =>
    intro t as h
    unfold Sh at h
    cases ht : T t with
    | none => rw [ht] at h; exact h.elim
    | some ti =>
      rw [ht] at h
      dsimp only at h
      split at h
      · obtain ⟨b, rfl⟩ := h; rfl
      · obtain ⟨b, rfl, _⟩ := h; rfl
      · obtain ⟨b, rfl⟩ := h; rfl
      · obtain ⟨nl, es, rfl, _⟩ := h; rfl
      · exact shF_scalar ih _ _ h
      · exact shN_scalar (ih _) _ _ h
      · exact h.elim
theorem sh_single {T : Tys} {n : Nat} {t : TypeId} {as : List AV} {ti : TI} (ht : T t = some ti) (ha : ti.agg = false) (h : Sh T n t as) : ∃ c, as = [c] ∧ c.scalar = true := by
  cases n with
  | zero => exact h.elim
  | succ n =>
    unfold Sh at h
    rw [ht] at h
    dsimp only at h
    unfold TI.agg at ha
    split at h
    · obtain ⟨b, rfl⟩ := h; exact ⟨_, rfl, rfl⟩
    · obtain ⟨b, rfl, _⟩ := h; exact ⟨_, rfl, rfl⟩
    · obtain ⟨b, rfl⟩ := h; exact ⟨_, rfl, rfl⟩
    · obtain ⟨nl, es, rfl, _⟩ := h; exact ⟨_, rfl, rfl⟩
    · rename_i hd; rw [hd] at ha; cases ha
    · rename_i hd; rw [hd] at ha; cases ha
    · exact h.elim

theorem contig_le {T : Tys} : ∀ (fs : List (TypeId × Nat × Bool)) (k m : Nat), contig T k fs = some m → k ≤ m := by
  intro fs
  induction fs with
  | nil => intro k m h; simp only [contig, Option.some.injEq] at h; omega
  | cons f fs ih =>
    intro k m h
    obtain ⟨fi, h1, h⟩ := ob_eq_some.1 (show ob (T f.1) _ = some m from h)
    split at h
    · have := ih _ m h; omega
    · cases h

theorem NoSpot.sub {cs ds : List Value} (h : NoSpot cs) (hs : ∀ v ∈ ds, v ∈ cs) : NoSpot ds := fun a l c hm => h a l c (hs _ hm)
theorem mem_drop_take {l : List Value} {a b : Nat} {v : Value} (h : v ∈ (l.drop a).take b) : v ∈ l := List.mem_of_mem_drop (List.mem_of_mem_take h)

section
variable {H : Type} {enc : TypeId × Value → H} {P : Program} {T : Tys} (hT : TysOk P T) {w : World} {sp : Nat → Bool} {bk : DataW H → Nat} {bkAll : List (DataW H) → Nat} (hb : BulkOk bk bkAll)

/-- what is shown of a value's cells -/
def Trodden (T : Tys) (w : World) (bk : DataW H → Nat) (n : Nat) (t : TypeId) (cs : List Value) (d : DataW H) : Prop := ∃ as, VL (K.ofWorld w) as cs ∧ Sh T n t as ∧ bulkL as ≤ bk d

include hb in
theorem fields_sh (n fuel : Nat) (cs : List Value) (deep : Bool)
    (ih : ∀ (t : TypeId) (cs' : List Value) (d : DataW H) (ps : List MemPlace), argTy T deep n t = true → (∀ v ∈ cs', v ∈ cs) → DataW.trod enc P w 0 sp true fuel t cs' = some (d, ps) → Trodden T w bk n t cs' d) (hsz : ∀ t ti, T t = some ti → P.cellsOf t = ti.size) :
    ∀ (fl : List Field) (k m : Nat) (xs : List (DataW H × List MemPlace)), contig T k (fl.map fun f => (f.type, f.offset, f.name == "_")) = some m → (∀ f ∈ fl, argTy T deep n f.type = true) →
      fl.mapM (fun f => DataW.trod enc P w 0 sp true fuel f.type ((cs.drop f.offset).take (P.cellsOf f.type))) = some xs →
      ∃ as, VL (K.ofWorld w) as ((cs.drop k).take (m - k)) ∧ ShF (Sh T n) (fl.map fun f => (f.type, f.offset, f.name == "_")) as ∧ bulkL as ≤ bkAll (xs.map (·.1)) := by
  intro fl
  induction fl with
  | nil =>
    intro k m xs hc _ hx
    simp only [List.map_nil, contig, Option.some.injEq] at hc; subst hc
    simp at hx; subst hx
    exact ⟨[], by simpa using VL.nil _, rfl, by simp [bulkL]⟩
  | cons f fl ihf =>
    intro k m xs hc ha hx
    obtain ⟨fi, h1, hc⟩ := ob_eq_some.1 (show ob (T f.type) _ = some m from hc)
    split at hc
    case isFalse => cases hc
    case isTrue ho =>
      have ho : f.offset = k := ho
      have hle := contig_le _ _ _ hc
      rw [List.mapM_cons] at hx
      cases hd : DataW.trod enc P w 0 sp true fuel f.type ((cs.drop f.offset).take (P.cellsOf f.type)) with
      | none => rw [hd] at hx; simp at hx
      | some q =>
        rw [hd] at hx
        cases hq : fl.mapM (fun f => DataW.trod enc P w 0 sp true fuel f.type ((cs.drop f.offset).take (P.cellsOf f.type))) with
        | none => rw [hq] at hx; simp at hx
        | some ys =>
          rw [hq] at hx
          simp at hx; subst hx
          obtain ⟨as1, a1, a2, a3⟩ := ih f.type _ q.1 q.2 (ha f (by simp)) (fun v hv => mem_drop_take hv) hd
          obtain ⟨as2, b1, b2, b3⟩ := ihf (k + fi.size) m ys hc (fun g hg => ha g (by simp [hg])) hq
          rw [hsz f.type fi h1, ho] at a1
          refine ⟨as1 ++ as2, ?_, ⟨as1, as2, rfl, a2, b2⟩, by rw [bulkL_append, List.map_cons, hb.cons]; omega⟩
          have : (cs.drop k).take (m - k) = (cs.drop k).take fi.size ++ (cs.drop (k + fi.size)).take (m - (k + fi.size)) := by
            rw [← List.drop_drop, ← List.take_add]
            congr 1; omega
          rw [this]
          exact a1.append b1

include hb in
theorem reps_sh (n fuel : Nat) (cs : List Value) (deep : Bool) (e : TypeId) (sz : Nat) (he : argTy T deep n e = true)
    (ih : ∀ (t : TypeId) (cs' : List Value) (d : DataW H) (ps : List MemPlace), argTy T deep n t = true → (∀ v ∈ cs', v ∈ cs) → DataW.trod enc P w 0 sp true fuel t cs' = some (d, ps) → Trodden T w bk n t cs' d) :
    ∀ (m s : Nat) (xs : List (DataW H × List MemPlace)), (List.range' s m).mapM (fun i => DataW.trod enc P w 0 sp true fuel e ((cs.drop (i * sz)).take sz)) = some xs →
      ∃ as, VL (K.ofWorld w) as ((cs.drop (s * sz)).take (m * sz)) ∧ ShN (Sh T n e) m as ∧ bulkL as ≤ bkAll (xs.map (·.1)) := by
  intro m
  induction m with
  | zero =>
    intro s xs hx
    simp at hx; subst hx
    exact ⟨[], by simpa using VL.nil _, rfl, by simp [bulkL]⟩
  | succ m ihm =>
    intro s xs hx
    rw [List.range'_succ, List.mapM_cons] at hx
    cases hd : DataW.trod enc P w 0 sp true fuel e ((cs.drop (s * sz)).take sz) with
    | none => rw [hd] at hx; simp at hx
    | some q =>
      rw [hd] at hx
      cases hq : (List.range' (s + 1) m).mapM (fun i => DataW.trod enc P w 0 sp true fuel e ((cs.drop (i * sz)).take sz)) with
      | none => rw [hq] at hx; simp at hx
      | some ys =>
        rw [hq] at hx
        simp at hx; subst hx
        obtain ⟨as1, a1, a2, a3⟩ := ih e _ q.1 q.2 he (fun v hv => mem_drop_take hv) hd
        obtain ⟨as2, b1, b2, b3⟩ := ihm (s + 1) ys hq
        refine ⟨as1 ++ as2, ?_, ⟨as1, as2, rfl, a2, b2⟩, by rw [bulkL_append, List.map_cons, hb.cons]; omega⟩
        have : (cs.drop (s * sz)).take ((m + 1) * sz) = (cs.drop (s * sz)).take sz ++ (cs.drop ((s + 1) * sz)).take (m * sz) := by
          rw [Nat.succ_mul s, ← List.drop_drop, ← List.take_add]
          congr 1; rw [Nat.succ_mul]; omega
        rw [this]
        exact a1.append b1

theorem bulkL_mem {es : List AV} {e : AV} (h : e ∈ es) : e.bulk ≤ bulkL es := by
  induction es with
  | nil => cases h
  | cons x es ih =>
    simp only [bulkL]
    rcases List.mem_cons.1 h with rfl | h
    · omega
    · have := ih h; omega

include hT hb in
theorem elems_sh (n fuel : Nat) (e : TypeId) (ei : TI) (hei : T e = some ei) (he : argTy T false n e = true) (b o : Nat)
    (ih : ∀ (t : TypeId) (cs' : List Value) (d : DataW H) (ps : List MemPlace), argTy T false n t = true → DataW.trod enc P w 0 sp true fuel t cs' = some (d, ps) → Trodden T w bk n t cs' d) :
    ∀ (m s : Nat) (xs : List (DataW H × List MemPlace)), (List.range' s m).mapM (fun i => (w.cells? 0 (Addr.add ⟨b, o, none⟩ (i * P.cellsOf e)) (P.cellsOf e)).bind (DataW.trod enc P w 0 sp true fuel e)) = some xs →
      ∃ es, es.length = m ∧ EL (K.ofWorld w) b (o + s * ei.size) ei.size es ∧ (∀ x ∈ es, ShE ei.agg (Sh T n e) x) ∧ bulkL es ≤ bkAll (xs.map (·.1)) := by
  have hsz : P.cellsOf e = ei.size := cellsOf_ok (hT e ei hei)
  intro m
  induction m with
  | zero =>
    intro s xs hx
    simp at hx; subst hx
    exact ⟨[], rfl, EL.nil _ _ _ _, (fun x hx => by cases hx), by simp [bulkL]⟩
  | succ m ihm =>
    intro s xs hx
    rw [List.range'_succ, List.mapM_cons] at hx
    cases hc : w.cells? 0 (Addr.add ⟨b, o, none⟩ (s * P.cellsOf e)) (P.cellsOf e) with
    | none => rw [hc] at hx; simp at hx
    | some ci =>
      rw [hc] at hx
      simp only [Option.bind_some] at hx
      cases hd : DataW.trod enc P w 0 sp true fuel e ci with
      | none => rw [hd] at hx; simp at hx
      | some q =>
        rw [hd] at hx
        cases hq : (List.range' (s + 1) m).mapM (fun i => (w.cells? 0 (Addr.add ⟨b, o, none⟩ (i * P.cellsOf e)) (P.cellsOf e)).bind (DataW.trod enc P w 0 sp true fuel e)) with
        | none => rw [hq] at hx; simp at hx
        | some ys =>
          rw [hq] at hx
          simp at hx; subst hx
          obtain ⟨as1, a1, a2, a3⟩ := ih e ci q.1 q.2 he hd
          obtain ⟨es, b1, b2, b3, b4⟩ := ihm (s + 1) ys hq
          -- the cells that were read
          unfold World.cells? at hc
          rw [if_pos (Nat.zero_le _)] at hc
          obtain ⟨hl, hcell⟩ := mapM_spec _ _ hc
          rw [List.length_range] at hl
          have hm : ∀ j v, ci[j]? = some v → (K.ofWorld w).m b (o + s * ei.size + j) = some v := by
            intro j v hj
            have hjl : j < P.cellsOf e := by rw [hl]; exact (List.getElem?_eq_some_iff.1 hj).1
            have := hcell j j v (by rw [List.getElem?_range hjl]) hj
            rw [addr_add, addr_add, hsz] at this
            exact this
          have hall := sh_scalar n e as1 a2
          have key : ∃ x, x.cells = as1 ∧ ShE ei.agg (Sh T n e) x ∧ x.bulk = bulkL as1 := by
            cases hag : ei.agg with
            | true => exact ⟨.agg as1, rfl, ⟨as1, rfl, a2⟩, by simp [AV.bulk]⟩
            | false =>
              obtain ⟨c, rfl, hcs⟩ := sh_single hei hag a2
              exact ⟨c, cells_of_scalar hcs, ⟨hcs, a2⟩, by simp [bulkL]⟩
          obtain ⟨x, k1, k2, k3⟩ := key
          refine ⟨x :: es, by simp [b1], EL.cons_iff.2 ⟨⟨⟨by rw [k1, a1.1, ← hl, hsz], by rw [k1]; exact hall⟩, ?_⟩, ?_⟩, fun y hy => ?_, ?_⟩
          · rw [k1]; exact ⟨ci, a1, hm⟩
          · rw [Nat.succ_mul, ← Nat.add_assoc] at b2; exact b2
          · rcases List.mem_cons.1 hy with rfl | hy
            · exact k2
            · exact b3 y hy
          · simp only [bulkL, List.map_cons]; rw [hb.cons, k3]; omega

include hT hb in
theorem trod_sh : ∀ (fuel n : Nat) (deep : Bool) (t : TypeId) (cs : List Value) (d : DataW H) (ps : List MemPlace), argTy T deep n t = true → (deep = true → NoSpot cs) →
    DataW.trod enc P w 0 sp true fuel t cs = some (d, ps) → Trodden T w bk n t cs d := by
  intro fuel
  induction fuel with
  | zero => intro n deep t cs d ps _ _ h; cases h
  | succ fuel ih =>
    intro n deep t cs d ps hty hns h
    cases n with
    | zero => cases hty
    | succ n =>
      unfold argTy at hty
      cases ht : T t with
      | none => rw [ht] at hty; cases hty
      | some ti =>
        rw [ht] at hty
        dsimp only at hty
        have hu := (hT t ti ht).under
        have ih' : ∀ (t : TypeId) (cs' : List Value) (d : DataW H) (ps : List MemPlace), argTy T deep n t = true → (∀ v ∈ cs', v ∈ cs) → DataW.trod enc P w 0 sp true fuel t cs' = some (d, ps) → Trodden T w bk n t cs' d :=
          fun t cs' d ps h1 h2 h3 => ih n deep t cs' d ps h1 (fun hd => (hns hd).sub h2) h3
        have hsz : ∀ t ti, T t = some ti → P.cellsOf t = ti.size := fun t ti h => cellsOf_ok (hT t ti h)
        unfold Trodden
        unfold Sh
        rw [ht]
        dsimp only
        cases hd : ti.d <;> rw [hd] at hu hty <;> simp only [descOk] at hu <;> dsimp only at hty ⊢ <;> try (cases hty; done)
        case bool =>
          obtain ⟨b, rfl, rfl⟩ := trod_bool hu h
          exact ⟨[.bool b], VL.cons (.bool b) (VL.nil _), ⟨b, rfl⟩, by simpa [bulkL, AV.bulk] using hb.one _⟩
        case int k =>
          obtain ⟨m, rfl, hw, rfl⟩ := trod_int hu h
          exact ⟨[.int k m], VL.cons (.int k m) (VL.nil _), ⟨m, rfl, hw⟩, by simpa [bulkL, AV.bulk] using hb.one _⟩
        case string =>
          obtain ⟨s, rfl, rfl⟩ := trod_str hu h
          refine ⟨[.str s], VL.cons (.str s) (VL.nil _), ⟨s, rfl⟩, ?_⟩
          have := hb.str s.data.toList
          rw [Array.length_toList] at this
          simpa [bulkL, AV.bulk] using this
        case slice e =>
          simp only [Bool.and_eq_true] at hty
          obtain ⟨⟨hdeep, hes⟩, hety⟩ := hty
          cases hei : T e with
          | none => rw [hei] at hes; cases hes
          | some ei =>
            dsimp only
            rcases trod_slice hu h with rfl | ⟨a, len, cap, elems, rest, rfl, hlc, hel, rfl⟩
            · exact ⟨[.slice true ei.size [] .unk], VL.cons (.slnil _ _) (VL.nil _), ⟨true, [], rfl, fun _ => rfl, fun x hx => by cases hx⟩, by simpa [bulkL, AV.bulk] using hb.one _⟩
            · have hsp := hns hdeep a len cap (by simp)
              obtain ⟨b, o, s⟩ := a
              dsimp only at hsp
              subst hsp
              rw [List.range_eq_range'] at hel
              obtain ⟨es, e1, e2, e3, e4⟩ := elems_sh hT hb n fuel e ei hei hety b o (fun t cs' d ps h1 h3 => ih n false t cs' d ps h1 (fun hd => by cases hd) h3) len 0 elems hel
              rw [Nat.zero_mul, Nat.add_zero] at e2
              refine ⟨[.slice false ei.size es .unk], VL.cons ?_ (VL.nil _), ⟨false, es, rfl, (fun h => by cases h), e3⟩, ?_⟩
              · rw [← e1]
                exact V.slice_iff.2 (.inr ⟨rfl, b, o, cap, rfl, by omega, by simp, by simp, e2⟩)
              · have := hb.slice (elems.map (·.1)) rest
                simp only [bulkL, AV.bulk]; omega
        case array k e =>
          simp only [Bool.and_eq_true] at hty
          obtain ⟨hety, hk⟩ := hty
          cases hei : T e with
          | none => rw [hei] at hk; cases hk
          | some ei =>
            rw [hei] at hk
            obtain ⟨hl, xs, hx, rfl⟩ := trod_array hu h
            rw [List.range_eq_range', hsz e ei hei] at hx
            obtain ⟨as, a1, a2, a3⟩ := reps_sh hb n fuel cs deep e ei.size hety ih' k 0 xs hx
            refine ⟨as, ?_, a2, by have := hb.agg (xs.map (·.1)); omega⟩
            rw [Nat.zero_mul, List.drop_zero, List.take_of_length_le] at a1
            · exact a1
            · rw [hl, hsz t ti ht]
              have : k * ei.size = ti.size := by simpa using hk
              omega
        case struct fs =>
          obtain ⟨l, hl, hmap, hall⟩ := hu
          simp only [Bool.and_eq_true, List.all_eq_true] at hty
          obtain ⟨h1, h2⟩ := hty
          cases hc : contig T 0 fs with
          | none => rw [hc] at h2; cases h2
          | some m =>
            rw [hc] at h2
            have hm : m = ti.size := by simpa using h2
            obtain ⟨hlen, xs, hx, rfl⟩ := trod_struct hl h
            rw [← hmap] at hc h1 ⊢
            obtain ⟨as, a1, a2, a3⟩ := fields_sh hb n fuel cs deep ih' hsz l.toList 0 m xs hc (fun f hf => h1 (f.type, f.offset, f.name == "_") (List.mem_map.2 ⟨f, hf, rfl⟩)) hx
            refine ⟨as, ?_, a2, by have := hb.agg (xs.map (·.1)); omega⟩
            rw [List.drop_zero, Nat.sub_zero, List.take_of_length_le] at a1
            · exact a1
            · rw [hlen, hsz t ti ht, hm]; exact Nat.le_refl _
end
end Go.Abs
/- A law: from what its text comes to, to what its row asks. -/
namespace Go.Abs
open Go.RowKit
set_option linter.unusedVariables false
set_option linter.unusedSimpArgs false
section
variable {P : Program} {T : Tys} {C : Cfg}

theorem cell_spot {w : World} {r : Reach} {base : Nat} {u : TypeId} {a : Addr} {l c : Nat} (h : Cell.okWide P w r base u (.slice (some a) l c)) : a.spot = none := by
  unfold Cell.okWide at h
  split at h <;> first | (rename_i heq; cases heq; done) | (rename_i heq _; cases heq; done) | (rename_i _ heq; cases heq; done) | skip
  unfold Cell.ok at h
  split at h <;> first | (rename_i heq; cases heq; done) | (rename_i heq _; cases heq; done) | (rename_i _ heq; cases heq; done) | (exact h.elim) | skip
  all_goals first | (rename_i _ heq; cases heq; exact h.2.2.2.1) | (simp_all; done)
theorem cell_agg {w : World} {r : Reach} {base : Nat} {u : TypeId} {cs : Array Value} : ¬ Cell.okWide P w r base u (.agg cs) := by
  intro h
  unfold Cell.okWide at h
  split at h <;> first | (rename_i heq; cases heq; done) | (rename_i heq _; cases heq; done) | (rename_i _ heq; cases heq; done) | skip
  unfold Cell.ok at h
  split at h <;> first | (rename_i heq; cases heq; done) | (rename_i heq _; cases heq; done) | (rename_i _ heq; cases heq; done) | (exact h.elim) | skip
theorem okWide_agg {w : World} {r : Reach} {base : Nat} {t : TypeId} {v : Value} {ti : TI} (hok : TyOk P t ti) (h : Value.okWide P w r base t v) : NoSpot v.cells.toList ∧ (ti.agg = true → ∃ cs, v = .agg cs) ∧ (ti.agg = false → ∀ cs, v ≠ .agg cs) := by
  have key : ∀ cs, v = .agg cs → Row.okWide P w r base t cs → NoSpot v.cells.toList := by
    rintro cs rfl ⟨ts, _, _, hc⟩ a l c hm
    have hm' : Value.slice (some a) l c ∈ cs.toList := hm
    obtain ⟨i, hi, he⟩ := List.getElem_of_mem hm'
    obtain ⟨u, _, h2⟩ := hc i (.slice (some a) l c) (by
      rw [← Array.getElem?_toList, List.getElem?_eq_getElem hi, he])
    exact cell_spot h2
  have key2 : Cell.okWide P w r base t v → NoSpot v.cells.toList ∧ ∀ cs, v ≠ .agg cs := by
    intro h
    have hne : ∀ cs, v ≠ .agg cs := by rintro cs rfl; exact cell_agg h
    refine ⟨fun a l c hm => ?_, hne⟩
    have : v.cells.toList = [v] := by cases v <;> first | rfl | exact absurd rfl (hne _)
    rw [this] at hm
    have hv : Value.slice (some a) l c = v := by simpa using hm
    rw [← hv] at h
    exact cell_spot h
  have hu := hok.under
  unfold Value.okWide at h
  unfold TI.agg
  cases hd : ti.d <;> rw [hd] at hu <;> simp only [descOk] at hu
  case struct fs =>
    obtain ⟨l, hl, _⟩ := hu
    rw [hl] at h
    obtain ⟨cs, h1, _, h3⟩ := h
    exact ⟨key cs h1 h3, fun _ => ⟨cs, h1⟩, (fun h => by cases h)⟩
  case array n e =>
    rw [hu] at h
    obtain ⟨cs, h1, _, h3⟩ := h
    exact ⟨key cs h1 h3, fun _ => ⟨cs, h1⟩, (fun h => by cases h)⟩
  case func =>
    obtain ⟨a, b, c, hl⟩ := hu
    rw [hl] at h
    exact ⟨(key2 h).1, (fun h => by cases h), fun _ => (key2 h).2⟩
  case iface =>
    obtain ⟨ms, hl⟩ := hu
    rw [hl] at h
    exact ⟨(key2 h).1, (fun h => by cases h), fun _ => (key2 h).2⟩
  case other =>
    obtain ⟨d, hl, hd'⟩ := hu
    rw [hl] at h
    have : Cell.okWide P w r base t v := by
      split at h
      · rename_i heq; cases heq; exact hd'.elim
      · rename_i heq; cases heq; exact hd'.elim
      · exact h
    exact ⟨(key2 this).1, (fun h => by cases h), fun _ => (key2 this).2⟩
  all_goals (rw [hu] at h; exact ⟨(key2 h).1, (fun h => by cases h), fun _ => (key2 h).2⟩)

/-- an argument -/
theorem arg_V {H : Type} {enc : TypeId × Value → H} {w : World} {sp : Nat → Bool} {bk : DataW H → Nat} {bkAll : List (DataW H) → Nat} (hT : TysOk P T) (hb : BulkOk bk bkAll) (n : Nat) {t : TypeId} {ti : TI} (hti : T t = some ti)
    (hty : argTy T true n t = true) {v : Value} {d : DataW H} {ps : List MemPlace} {base : Nat} (hok : Value.okWide P w .any base t v) (h : DataW.Trod enc P w 0 sp true t v d ps) :
    ∃ x, V (K.ofWorld w) x v ∧ ShE ti.agg (Sh T n t) x ∧ x.bulk ≤ bk d := by
  obtain ⟨hns, hag, hna⟩ := okWide_agg (hT t ti hti) hok
  obtain ⟨fuel, h⟩ := h
  obtain ⟨as, h1, h2, h3⟩ := trod_sh hT hb fuel n true t v.cells.toList d ps hty (fun _ => hns) h
  cases ha : ti.agg with
  | true =>
    obtain ⟨cs, rfl⟩ := hag ha
    exact ⟨.agg as, V.agg_iff.2 h1, ⟨as, rfl, h2⟩, by simpa [AV.bulk] using h3⟩
  | false =>
    obtain ⟨c, rfl, hc⟩ := sh_single hti ha h2
    have hv : v.cells.toList = [v] := by cases v <;> first | rfl | exact absurd rfl (hna ha _)
    rw [hv] at h1
    obtain ⟨u, q, e, h4, h5⟩ := h1.inv_cons
    cases e
    exact ⟨c, h4, ⟨hc, h2⟩, by simpa [bulkL] using h3⟩

/-- a law's call -/
theorem law_calls (ok : CfgOk P T C) {f : FuncId} {xs : List AV} {h' : AH} (he : call C f xs AH.empty = some (.bool true, h')) {W : World} (vals : Array Value) (hv : VL (K.ofWorld W) xs vals.toList) :
    Calls P f vals W fun e w' => e = .returned (.bool true) ∧ Below W.heap.size W w' := by
  refine (call_sound ok he (R.ofWorld W) vals hv).mono fun e w' hp => ?_
  obtain ⟨x, κ', rfl, h1, h2, h3, h4⟩ := hp
  cases h1
  have hf : ∀ b, ¬ Foot (K.ofWorld W) AH.empty b := by
    rintro b (⟨_, _, e, _⟩ | ⟨_, _, _, _, e, _⟩)
    · simp [AH.get, AH.empty] at e
    · simp [AH.empty] at e
  exact ⟨rfl, h3.os, h3.tape, h3.output, h3.size, fun k hk => h3.frame k hk (hf k)⟩
end
end Go.Abs
/- A seat's tables: reckoned out of the program, and laid down as texts. -/
namespace Go.Abs
set_option linter.unusedVariables false
set_option linter.unusedSimpArgs false

def isAggV : Value → Bool
  | .agg _ => true
  | _ => false
def descD (P : Program) (t : TypeId) : Option TD :=
  match P.underlying t with
  | none => none
  | some .bool => some .bool
  | some (.int k) => some (.int k)
  | some .string => some .string
  | some .unsafePointer => some .uptr
  | some (.pointer e) => some (.pointer e)
  | some (.slice e) => some (.slice e)
  | some (.array n e) => some (.array n e)
  | some (.struct l) => if l.toList.all (fun f => (P.info? f.type).isSome) then some (.struct (l.toList.map fun f => (f.type, f.offset, f.name == "_"))) else none
  | some (.func ..) => some .func
  | some (.interface _) => some .iface
  | some _ => some .other
def aggD : TD → Bool
  | .struct _ | .array _ _ => true
  | _ => false
def tyD (P : Program) (e : Bool) (t : TypeId) : Option TI :=
  ob (P.info? t) fun i => ob i.zero fun z => ob (ofConsts z.cells.toList) fun zc => ob (descD P t) fun d =>
    if Nat.beq z.cells.size i.size && ((aggD d == isAggV z) && (!e || (!(P.stoodInHeld t) && !(P.eqGuardType P.depth t)))) then some ⟨d, i.size, i.bytes, zc, e⟩ else none

theorem descD_ok {P : Program} {t : TypeId} {d : TD} (h : descD P t = some d) : descOk P t d := by
  unfold descD at h
  split at h <;> try (cases h; done)
  case h_9 l hl =>
    split at h
    case isFalse => cases h
    case isTrue ha =>
      simp only [Option.some.injEq] at h; subst h
      refine ⟨l, hl, rfl, fun f hf => ?_⟩
      have := List.all_eq_true.1 ha f hf
      exact Option.isSome_iff_exists.1 this
  case h_10 => simp only [Option.some.injEq] at h; subst h; rename_i hl; exact ⟨_, _, _, hl⟩
  case h_11 => simp only [Option.some.injEq] at h; subst h; rename_i hl; exact ⟨_, hl⟩
  case h_12 =>
    rename_i n8 n9 _ _ hl
    simp only [Option.some.injEq] at h; subst h
    refine ⟨_, hl, ?_⟩
    split
    · exact n9 _ rfl
    · exact n8 _ _ rfl
    · trivial
  all_goals (simp only [Option.some.injEq] at h; subst h; assumption)

theorem tyD_ok {P : Program} {e : Bool} {t : TypeId} {ti : TI} (h : tyD P e t = some ti) : TyOk P t ti := by
  obtain ⟨i, h1, h⟩ := ob_eq_some.1 h
  obtain ⟨z, h2, h⟩ := ob_eq_some.1 h
  obtain ⟨zc, h3, h⟩ := ob_eq_some.1 h
  obtain ⟨d, h4, h⟩ := ob_eq_some.1 h
  split at h
  case isFalse => cases h
  case isTrue hc =>
    simp only [Option.some.injEq] at h; subst h
    simp only [Bool.and_eq_true, beq_iff_eq, Bool.or_eq_true, Bool.not_eq_true'] at hc
    obtain ⟨c1, c2, c3⟩ := hc
    refine ⟨⟨i, h1, rfl, rfl, z, h2, h3, ?_, Nat.eq_of_beq_eq_true c1⟩, descD_ok h4, fun he => ?_⟩
    · have e' : (⟨d, i.size, i.bytes, zc, e⟩ : TI).agg = aggD d := by cases d <;> rfl
      rw [e', c2]
      cases z <;> simp [isAggV]
    · rcases c3 with c3 | c3
      · rw [show e = true from he] at c3; cases c3
      · exact c3

def lookT (tab : List (TypeId × TI)) (t : TypeId) : Option TI :=
  match tab with
  | [] => none
  | p :: r => if Nat.beq p.1 t then some p.2 else lookT r t
theorem lookT_mem : ∀ {tab : List (TypeId × TI)} {t : TypeId} {ti : TI}, lookT tab t = some ti → (t, ti) ∈ tab := by
  intro tab
  induction tab with
  | nil => intro t ti h; cases h
  | cons p r ih =>
    intro t ti h
    unfold lookT at h
    split at h
    · rename_i e
      have e := Nat.eq_of_beq_eq_true e
      simp only [Option.some.injEq] at h
      subst e; subst h
      exact List.mem_cons_self ..
    · exact List.mem_cons_of_mem _ (ih h)
theorem tysOk_of {P : Program} {tab : List (TypeId × TI)} (h : tab.map (fun p => tyD P p.2.eq p.1) = tab.map fun p => some p.2) : TysOk P (lookT tab) := by
  intro t ti hl
  have hm := lookT_mem hl
  obtain ⟨i, hi, he⟩ := List.getElem_of_mem hm
  have := congrArg (fun l => l[i]?) h
  simp only [List.getElem?_map, List.getElem?_eq_getElem hi, Option.map_some, he, Option.some.injEq] at this
  exact tyD_ok this

def lookN (tab : List (Nat × Note)) (t : Nat) : Note :=
  match tab with
  | [] => ⟨[], false, [], []⟩
  | p :: r => if Nat.beq p.1 t then p.2 else lookN r t

/-- a function's text, reckoned -/
def fnD (P : Program) (T : Tys) (note : Nat → Note) (f : FuncId) : Option IFn :=
  ob (P.funcs[f]?) fun fn => if fn.name == "runtime.NumGoroutine" then none else ob fn.body fun code => ob (compC T fn.ntmps note code) fun ic => ob (compR T fn.results.toList) fun rs => some ⟨fn.ntmps, rs, ic⟩
theorem fnD_ok {P : Program} {T : Tys} {note : Nat → Note} {f : FuncId} {ifn : IFn} (h : fnD P T note f = some ifn) : FnOk P T f ifn := by
  obtain ⟨fn, h1, h⟩ := ob_eq_some.1 h
  split at h
  case isTrue => cases h
  case isFalse hn =>
    obtain ⟨code, h2, h⟩ := ob_eq_some.1 h
    obtain ⟨ic, h3, h⟩ := ob_eq_some.1 h
    obtain ⟨rs, h4, h⟩ := ob_eq_some.1 h
    simp only [Option.some.injEq] at h; subst h
    exact ⟨⟨fn, code, note, h1, by simpa using hn, h2, rfl, h3, h4⟩⟩

/-- the functions of a seat, by number -/
def lookF (tab : List (FuncId × IFn)) (f : FuncId) : Option IFn :=
  match tab with
  | [] => none
  | p :: r => if Nat.beq p.1 f then some p.2 else lookF r f
theorem lookF_mem : ∀ {tab : List (FuncId × IFn)} {t : FuncId} {ti : IFn}, lookF tab t = some ti → (t, ti) ∈ tab := by
  intro tab
  induction tab with
  | nil => intro t ti h; cases h
  | cons p r ih =>
    intro t ti h
    unfold lookF at h
    split at h
    · rename_i e
      have e := Nat.eq_of_beq_eq_true e
      simp only [Option.some.injEq] at h
      subst e; subst h
      exact List.mem_cons_self ..
    · exact List.mem_cons_of_mem _ (ih h)
end Go.Abs
/- A law's contract, whatever its parameters. -/
namespace Go.Abs
open Go.RowKit Go.ChangeShapes Go.WideShapes
set_option linter.unusedVariables false
set_option linter.unusedSimpArgs false
section
variable {P : Program} {T : Tys} {C : Cfg} {H : Type} {enc : TypeId × Value → H}

def aggOf (T : Tys) (t : TypeId) : Bool := match T t with | some ti => ti.agg | none => false
/-- a law's arguments -/
def ShL (T : Tys) (n : Nat) : List TypeId → List AV → Prop
  | [], xs => xs = []
  | t :: ts, xs => ∃ x r, xs = x :: r ∧ ShE (aggOf T t) (Sh T n t) x ∧ ShL T n ts r
def tysFit (P : Program) (T : Tys) (n : Nat) (ts : List TypeId) : Bool := ts.all fun t => argTy T true n t && (P.readableRec t && Nat.blt t P.types.size)

theorem args_VL {bk : DataW H → Nat} {bkAll : List (DataW H) → Nat} (hT : TysOk P T) (hb : BulkOk bk bkAll) (n : Nat) {w : World} {sp : Nat → Bool} {base : Nat} :
    ∀ (ts : List TypeId) (vs : List Value) (ds : List (DataW H)) (ps : List MemPlace), tysFit P T n ts = true → DataW.TrodAll enc P w 0 sp true ts vs ds ps →
      (∀ (j : Nat) t v, ts[j]? = some t → vs[j]? = some v → Value.okWide P w .any base t v) →
      ∃ xs, VL (K.ofWorld w) xs vs ∧ ShL T n ts xs ∧ bulkL xs ≤ bkAll ds ∧ ds.length = ts.length := by
  intro ts
  induction ts with
  | nil =>
    intro vs ds ps _ h _
    cases vs <;> cases ds <;> simp [DataW.TrodAll] at h
    exact ⟨[], VL.nil _, rfl, by simp [bulkL], rfl⟩
  | cons t ts ih =>
    intro vs ds ps hf h hok
    obtain ⟨v, vs', d, ds', p, q, rfl, rfl, rfl, h1, h2⟩ := trodAll_cons h
    simp only [tysFit, List.all_cons, Bool.and_eq_true] at hf
    obtain ⟨⟨ha, _⟩, hf2⟩ := hf
    obtain ⟨ti, hti⟩ : ∃ ti, T t = some ti := by
      cases e : T t with
      | some ti => exact ⟨ti, rfl⟩
      | none => cases n <;> simp [argTy, e] at ha
    obtain ⟨x, hx, hs, hbk⟩ := arg_V hT hb n hti ha (hok 0 t v rfl rfl) h1
    obtain ⟨xs, k1, k2, k3, k4⟩ := ih vs' ds' q hf2 h2 (fun j t' v' e1 e2 => hok (j + 1) t' v' e1 e2)
    refine ⟨x :: xs, VL.cons hx k1, ⟨x, xs, rfl, ?_, k2⟩, ?_, by simp [k4]⟩
    · simp only [aggOf, hti]; exact hs
    · rw [hb.cons]; simp only [bulkL]; omega

theorem below_trodAll (hl : laidOutB P = true) (n : Nat) {W W' : World} (hb : Below W.heap.size W W') : ∀ (ts : List TypeId) (vs : List Value) (ds : List (DataW H)) (ps : List MemPlace), tysFit P T n ts = true →
    DataW.TrodAll enc P W 0 (fun _ => true) true ts vs ds ps → (∀ x ∈ ps, x.block < W.heap.size) → DataW.TrodAll enc P W' 0 (fun b => decide (b < W.heap.size)) true ts vs ds ps := by
  intro ts
  induction ts with
  | nil =>
    intro vs ds ps _ h _
    cases vs <;> cases ds <;> simp [DataW.TrodAll] at h ⊢
    exact h
  | cons t ts ih =>
    intro vs ds ps hf h hlt
    obtain ⟨v, vs', d, ds', p, q, rfl, rfl, rfl, h1, h2⟩ := trodAll_cons h
    simp only [tysFit, List.all_cons, Bool.and_eq_true] at hf
    obtain ⟨⟨_, hr, hs⟩, hf2⟩ := hf
    exact ⟨p, q, Below.trod hl hr (by simpa [Nat.blt_eq] using hs) h1 hb (fun x hx => hlt x (List.mem_append_left _ hx)), ih vs' ds' q hf2 h2 (fun x hx => hlt x (List.mem_append_right _ hx)), rfl⟩

/-- WHAT A LAW's TEXT GIVES, WHATEVER ITS ARGUMENTS -/
theorem law_contract {bk : DataW H → Nat} {bkAll : List (DataW H) → Nat} (hb : BulkOk bk bkAll) (ok : CfgOk P T C) (hl : laidOutB P = true) (n : Nat) {f : FuncId} {fn : Func} {tb : TypeId} (ts : List TypeId) (hp : fn.params.toList = ts) (hr : fn.resultTypes = #[tb])
    (htb : P.underlying tb = some .bool) (hf : tysFit P T n ts = true) (lim : Nat) (hmain : ∀ xs, ShL T n ts xs → bulkL xs ≤ lim → ∃ h', call C f xs AH.empty = some (.bool true, h')) (s : ChangeSpec) (hs0 : s.vars = [])
    (hs : ∀ ds : List (DataW H), ds.length = ts.length → s.fn H ds = { results := [.lit (.bool true)], args := ds }) (W : World) (base : Nat) (args : Array Value) (ds gs : List (DataW H)) (before : List MemPlace)
    (hval : ∀ (j : Nat) t v, fn.params[j]? = some t → args[j]? = some v → Value.okWide P W .any base t v) (hW : DataW.Whole enc P fn.params.toList s.vars false W args.toList ds gs before) (hk : bkAll ds ≤ lim) :
    Calls P f args W fun e W' => ∃ v, e = .returned v ∧ s.post enc P fn false true false false W args v W' := by
  have hW' := hW
  obtain ⟨p, q, hA, hV, rfl, hfz, hnd⟩ := hW
  rw [hs0] at hV
  obtain ⟨rfl, rfl⟩ := trodVars_none hV
  have hA2 := hA
  rw [hp] at hA
  obtain ⟨xs, h1, h2, h3, h4⟩ := args_VL ok.tys hb n ts args.toList ds p hf hA (fun j t v e1 e2 => hval j t v (by rw [← Array.getElem?_toList, hp]; exact e1) (by rw [← Array.getElem?_toList]; exact e2))
  obtain ⟨h', he⟩ := hmain xs h2 (by omega)
  refine (law_calls ok he args h1).mono ?_
  rintro e W' ⟨rfl, bel⟩
  have hlt : ∀ x ∈ p, x.block < W.heap.size := fun x hx => hW'.lt x (List.mem_append_left _ hx)
  have hsp := hs ds h4
  refine ⟨_, rfl, ds, [], p ++ [], [], p, [], hW', ?_, ?_, ?_, bel.frame _, fun h => by cases h⟩
  · rw [List.append_nil, hsp, hr]
    exact ⟨[], [], shut_bool htb true, rfl, rfl⟩
  · rw [List.append_nil, hsp, hp]
    exact below_trodAll hl n bel ts args.toList ds p hf hA hlt
  · rw [List.append_nil, hsp, hs0]; rfl
end
end Go.Abs
/- The evaluator's words, as rules of reckoning: no text stands under a binder. -/
namespace Go.Abs
theorem upd_ofList (d : Nat) (v : AV) (l : List (Nat × AV)) : upd d v (ofList l) = ofList ((d, v) :: l) := rfl
theorem ofList_cons (k : Nat) (v : AV) (l : List (Nat × AV)) (t : Nat) : ofList ((k, v) :: l) t = if k = t then some v else ofList l t := rfl
theorem ofList_nil (t : Nat) : ofList [] t = none := rfl

/-! #### texts -/
noncomputable def opsK (C : Cfg) (dst : Option Nat) (r : List IOper) (l : List (Nat × AV)) : Option (AV × AH) → Option St
  | some (v, h) => ops C r ⟨aPut dst v (ofList l), h⟩
  | none => none
noncomputable def opsW (C : Cfg) (dst : Option Nat) (op : IOp) (r : List IOper) (l : List (Nat × AV)) (h : AH) : Option Bool → Option St
  | some true => opsK C dst r l (aOper C (call C) (ofList l) h none op)
  | some false => ops C r ⟨aPut dst AV.undef (ofList l), h⟩
  | none => none
theorem ops_op (C : Cfg) (dst : Option Nat) (op : IOp) (r : List IOper) (l : List (Nat × AV)) (h : AH) :
    ops C (⟨dst, op, none⟩ :: r) ⟨ofList l, h⟩ = opsK C dst r l (aOper C (call C) (ofList l) h none op) := by
  rw [ops_cons]
  simp only [aStep, aWanted, ob_some, if_true]
  cases aOper C (call C) (ofList l) h none op <;> rfl
theorem ops_opg (C : Cfg) (dst : Option Nat) (op : IOp) (d : Nat) (want : Bool) (r : List IOper) (l : List (Nat × AV)) (h : AH) :
    ops C (⟨dst, op, some (d, want)⟩ :: r) ⟨ofList l, h⟩ = opsW C dst op r l h (aWanted (some (d, want)) (ofList l)) := by
  rw [ops_cons]
  simp only [aStep]
  cases aWanted (some (d, want)) (ofList l) with
  | none => rfl
  | some b =>
    cases b
    · rfl
    · simp only [ob_some, if_true, opsW]
      cases aOper C (call C) (ofList l) h none op <;> rfl
theorem opsK_some (C : Cfg) (d : Nat) (r : List IOper) (l : List (Nat × AV)) (v : AV) (h : AH) : opsK C (some d) r l (some (v, h)) = ops C r ⟨ofList ((d, v) :: l), h⟩ := rfl
theorem opsK_put (C : Cfg) (r : List IOper) (l : List (Nat × AV)) (v : AV) (h : AH) : opsK C none r l (some (v, h)) = ops C r ⟨ofList l, h⟩ := rfl
theorem opsK_none (C : Cfg) (d : Option Nat) (r : List IOper) (l : List (Nat × AV)) : opsK C d r l none = none := rfl
theorem opsK_ite (C : Cfg) (d : Option Nat) (r : List IOper) (l : List (Nat × AV)) (c : Prop) [Decidable c] (x y : Option (AV × AH)) :
    opsK C d r l (if c then x else y) = if c then opsK C d r l x else opsK C d r l y := by split <;> rfl
theorem opsW_true (C : Cfg) (dst : Option Nat) (op : IOp) (r : List IOper) (l : List (Nat × AV)) (h : AH) : opsW C dst op r l h (some true) = opsK C dst r l (aOper C (call C) (ofList l) h none op) := rfl
theorem opsW_false (C : Cfg) (d : Nat) (op : IOp) (r : List IOper) (l : List (Nat × AV)) (h : AH) : opsW C (some d) op r l h (some false) = ops C r ⟨ofList ((d, AV.undef) :: l), h⟩ := rfl
theorem opsW_false' (C : Cfg) (op : IOp) (r : List IOper) (l : List (Nat × AV)) (h : AH) : opsW C none op r l h (some false) = ops C r ⟨ofList l, h⟩ := rfl

def regK (base : Nat) (ks : List Nat) (pop : Bool) : Option St → Option (AExit × St)
  | some s => some (.normal, settle base ks pop s)
  | none => none
noncomputable def seqK (C : Cfg) (base : Nat) (b : IC) : Option (AExit × St) → Option (AExit × St)
  | some r => andThen r (run C base b)
  | none => none
noncomputable def condK (C : Cfg) (base : Nat) (t e : IC) (s : St) : Option AV → Option (AExit × St)
  | some (.bool b) => if b then run C base t s else run C base e s
  | _ => none
def blockK (id : Nat) : Option (AExit × St) → Option (AExit × St)
  | some r => some (outOf id r)
  | none => none
def leaveK (rs : List (Nat ⊕ (Nat × Nat × Bool))) : Option (AExit × St) → Option (AV × AH)
  | some r => leave rs r
  | none => none
theorem run_reg' (C : Cfg) (base : Nat) (l : List IOper) (ks : List Nat) (pop : Bool) (s : St) : run C base (.reg l ks pop) s = regK base ks pop (ops C l s) := by
  rw [run_reg]; cases ops C l s <;> rfl
theorem run_seq' (C : Cfg) (base : Nat) (a b : IC) (s : St) : run C base (.seq a b) s = seqK C base b (run C base a s) := by
  rw [run_seq]; cases run C base a s <;> rfl
theorem run_cond' (C : Cfg) (base : Nat) (c : Src) (t e : IC) (s : St) : run C base (.cond c t e) s = condK C base t e s (src s.σ c) := by
  rw [run_cond]
  cases src s.σ c with
  | none => rfl
  | some v => cases v <;> rfl
theorem run_block' (C : Cfg) (base id : Nat) (c : IC) (s : St) : run C base (.block id c) s = blockK id (run C base c s) := by
  rw [run_block]; cases run C base c s <;> rfl
theorem call_fn {C : Cfg} {f : FuncId} {nt : Nat} {rs : List (Nat ⊕ (Nat × Nat × Bool))} {body : IC} (hf : C.fn f = some ⟨nt, rs, body⟩) (hp : C.prim f = none) (args : List AV) (h : AH) (hn : args.length ≤ nt) :
    call C f args h = leaveK rs (run C h.blocks.length body ⟨ofList (argList args 0), h⟩) := by
  rw [call_eq f hp, hf, ob_some, if_pos hn]
  show ob (run C h.blocks.length body ⟨ofList (argList args 0), h⟩) (leave rs) = _
  cases run C h.blocks.length body ⟨ofList (argList args 0), h⟩ <;> rfl
theorem regK_some (base : Nat) (ks : List Nat) (pop : Bool) (s : St) : regK base ks pop (some s) = some (.normal, settle base ks pop s) := rfl
theorem regK_none (base : Nat) (ks : List Nat) (pop : Bool) : regK base ks pop none = none := rfl
theorem regK_ite (base : Nat) (ks : List Nat) (pop : Bool) (c : Prop) [Decidable c] (x y : Option St) : regK base ks pop (if c then x else y) = if c then regK base ks pop x else regK base ks pop y := by split <;> rfl
theorem seqK_normal (C : Cfg) (base : Nat) (b : IC) (s : St) : seqK C base b (some (.normal, s)) = run C base b s := rfl
theorem seqK_exit (C : Cfg) (base : Nat) (b : IC) (id : Nat) (s : St) : seqK C base b (some (.exit id, s)) = some (.exit id, s) := rfl
theorem seqK_ret (C : Cfg) (base : Nat) (b : IC) (s : St) : seqK C base b (some (.ret, s)) = some (.ret, s) := rfl
theorem seqK_none (C : Cfg) (base : Nat) (b : IC) : seqK C base b none = none := rfl
theorem seqK_ite (C : Cfg) (base : Nat) (b : IC) (c : Prop) [Decidable c] (x y : Option (AExit × St)) : seqK C base b (if c then x else y) = if c then seqK C base b x else seqK C base b y := by split <;> rfl
theorem condK_bool (C : Cfg) (base : Nat) (t e : IC) (s : St) (b : Bool) : condK C base t e s (some (.bool b)) = if b then run C base t s else run C base e s := rfl
theorem blockK_normal (id : Nat) (s : St) : blockK id (some (.normal, s)) = some (.normal, s) := rfl
theorem blockK_ret (id : Nat) (s : St) : blockK id (some (.ret, s)) = some (.ret, s) := rfl
theorem blockK_exit (id id' : Nat) (s : St) : blockK id (some (.exit id', s)) = if id' = id then some (.normal, s) else some (.exit id', s) := by
  unfold blockK outOf
  by_cases h : id' = id <;> simp [h]
theorem blockK_none (id : Nat) : blockK id none = none := rfl
theorem blockK_ite (id : Nat) (c : Prop) [Decidable c] (x y : Option (AExit × St)) : blockK id (if c then x else y) = if c then blockK id x else blockK id y := by split <;> rfl
theorem leaveK_normal (rs : List (Nat ⊕ (Nat × Nat × Bool))) (s : St) : leaveK rs (some (.normal, s)) = ob (resultsL s rs) fun vs => some (tupOf vs, s.h) := rfl
theorem leaveK_ret (rs : List (Nat ⊕ (Nat × Nat × Bool))) (s : St) : leaveK rs (some (.ret, s)) = ob (resultsL s rs) fun vs => some (tupOf vs, s.h) := rfl
theorem leaveK_none (rs : List (Nat ⊕ (Nat × Nat × Bool))) : leaveK rs none = none := rfl
theorem leaveK_ite (rs : List (Nat ⊕ (Nat × Nat × Bool))) (c : Prop) [Decidable c] (x y : Option (AExit × St)) : leaveK rs (if c then x else y) = if c then leaveK rs x else leaveK rs y := by split <;> rfl
attribute [go_sem] ops_nil ops_op ops_opg opsK_some opsK_put opsK_none opsK_ite opsW_true opsW_false opsW_false' run_reg' run_seq' run_cond' run_block' run_scope run_exit run_ret run_skip
  regK_some regK_none regK_ite seqK_normal seqK_exit seqK_ret seqK_none seqK_ite condK_bool blockK_normal blockK_ret blockK_exit blockK_none blockK_ite leaveK_normal leaveK_ret leaveK_none leaveK_ite
  ofList_cons ofList_nil upd_ofList ob_some ob_none

/-! #### guards, operands -/
theorem ob_ite {α β : Type} (c : Prop) [Decidable c] (x y : Option α) (f : α → Option β) : ob (if c then x else y) f = if c then ob x f else ob y f := by split <;> rfl
def wantK (want : Bool) : Option AV → Option Bool
  | some (.bool b) => some (b == want)
  | some (.tup []) => some false
  | _ => none
theorem wantK_bool (want b : Bool) : wantK want (some (.bool b)) = some (b == want) := rfl
theorem wantK_undef (want : Bool) : wantK want (some (.tup [])) = some false := rfl
theorem aWanted_g (d : Nat) (want : Bool) (l : List (Nat × AV)) : aWanted (some (d, want)) (ofList l) = wantK want (ofList l d) := by
  show ob (ofList l d) _ = _
  cases ofList l d with
  | none => rfl
  | some v => cases v <;> first | rfl | (rename_i vs; cases vs <;> rfl)
theorem src_slot (σ : Nat → Option AV) (t : Nat) : src σ (.slot t) = σ t := rfl
theorem src_lit (σ : Nat → Option AV) (v : AV) : src σ (.lit v) = some v := rfl
theorem srcs_nil (σ : Nat → Option AV) : srcs σ [] = some [] := rfl
theorem srcs_cons (σ : Nat → Option AV) (x : Src) (r : List Src) : srcs σ (x :: r) = ob (src σ x) fun v => ob (srcs σ r) fun l => some (v :: l) := rfl
theorem optInt_none (σ : Nat → Option AV) : optInt σ none = some none := rfl
def intK : Option AV → Option (Option Int)
  | some (.int _ n) => some (some n)
  | _ => none
theorem optInt_some (σ : Nat → Option AV) (x : Src) : optInt σ (some x) = intK (src σ x) := by
  show ob (src σ x) _ = _
  cases src σ x with
  | none => rfl
  | some v => cases v <;> rfl
theorem intK_some (k : IntKind) (n : Int) : intK (some (.int k n)) = some (some n) := rfl
theorem ret1_some (h : AH) (v : AV) : ret1 h (some v) = some (v, h) := rfl
theorem ret1_none (h : AH) : ret1 h none = none := rfl
theorem ret1_ite (h : AH) (c : Prop) [Decidable c] (x y : Option AV) : ret1 h (if c then x else y) = if c then ret1 h x else ret1 h y := by split <;> rfl
attribute [go_sem] ob_ite wantK_bool wantK_undef aWanted_g src_slot src_lit srcs_nil srcs_cons optInt_none optInt_some intK_some ret1_some ret1_none ret1_ite

/-! #### heap -/
theorem get_zero (b : Option Blk) (bs : List (Option Blk)) (t : List Nat) : AH.get ⟨b :: bs, t⟩ 0 = b := rfl
theorem get_succ (b : Option Blk) (bs : List (Option Blk)) (t : List Nat) (n : Nat) : AH.get ⟨b :: bs, t⟩ (n + 1) = AH.get ⟨bs, t⟩ n := rfl
theorem set_eq (bs : List (Option Blk)) (t : List Nat) (n : Nat) (b : Option Blk) : AH.set ⟨bs, t⟩ n b = ⟨bs.set n b, t⟩ := rfl
theorem push_eq (bs : List (Option Blk)) (t : List Nat) (b : Blk) : AH.push ⟨bs, t⟩ b = ⟨bs ++ [some b], t⟩ := rfl
theorem newBlk_none1 (h : AH) (b : Blk) : (newBlk h none b).1 = h.blocks.length := rfl
theorem newBlk_none2 (h : AH) (b : Blk) : (newBlk h none b).2 = h.push b := rfl
theorem cells_agg (cs : List AV) : AV.cells (.agg cs) = cs := rfl
theorem cells_int (k : IntKind) (n : Int) : AV.cells (.int k n) = [.int k n] := rfl
theorem cells_bool (b : Bool) : AV.cells (.bool b) = [.bool b] := rfl
theorem cells_str (b : ByteArray) : AV.cells (.str b) = [.str b] := rfl
theorem cells_nilp : AV.cells .nilp = [.nilp] := rfl
theorem cells_ptr (a b : Nat) : AV.cells (.ptr a b) = [.ptr a b] := rfl
theorem cells_eptr (a : List AV) : AV.cells (.eptr a) = [.eptr a] := rfl
theorem cells_slice (a : Bool) (b : Nat) (c : List AV) (d : Room) : AV.cells (.slice a b c d) = [.slice a b c d] := rfl
theorem cells_sref (a b c d : Nat) : AV.cells (.sref a b c d) = [.sref a b c d] := rfl
theorem cells_func (a : Fn) (b c : List AV) : AV.cells (.func a b c) = [.func a b c] := rfl
theorem cells_nilf : AV.cells .nilf = [.nilf] := rfl
theorem cells_iface (a : TypeId) (b : AV) : AV.cells (.iface a b) = [.iface a b] := rfl
theorem cells_nili : AV.cells .nili = [.nili] := rfl
attribute [go_sem] get_zero get_succ set_eq push_eq newBlk_none1 newBlk_none2 cells_agg cells_int cells_bool cells_str cells_nilp cells_ptr cells_eptr cells_slice cells_sref cells_func cells_nilf cells_iface cells_nili
theorem scalar_int (k : IntKind) (n : Int) : AV.scalar (.int k n) = true := rfl
theorem scalar_bool (b : Bool) : AV.scalar (.bool b) = true := rfl
theorem scalar_str (b : ByteArray) : AV.scalar (.str b) = true := rfl
theorem scalar_nilp : AV.scalar .nilp = true := rfl
theorem scalar_ptr (a b : Nat) : AV.scalar (.ptr a b) = true := rfl
theorem scalar_eptr (a : List AV) : AV.scalar (.eptr a) = true := rfl
theorem scalar_slice (a : Bool) (b : Nat) (c : List AV) (d : Room) : AV.scalar (.slice a b c d) = true := rfl
theorem scalar_sref (a b c d : Nat) : AV.scalar (.sref a b c d) = true := rfl
theorem scalar_func (a : Fn) (b c : List AV) : AV.scalar (.func a b c) = true := rfl
theorem scalar_nilf : AV.scalar .nilf = true := rfl
theorem scalar_iface (a : TypeId) (b : AV) : AV.scalar (.iface a b) = true := rfl
theorem scalar_nili : AV.scalar .nili = true := rfl
attribute [go_sem] scalar_int scalar_bool scalar_str scalar_nilp scalar_ptr scalar_eptr scalar_slice scalar_sref scalar_func scalar_nilf scalar_iface scalar_nili
theorem shapeOf_agg (sz : Nat) (s : List AV) : shapeOf sz true s = if s.length = sz then some (.agg s) else none := by
  unfold shapeOf; simp
theorem shapeOf_one (c : AV) : shapeOf 1 false [c] = some c := rfl
theorem aLoad_ptr (sz : Nat) (agg : Bool) (h : AH) (id off : Nat) : aLoad sz agg h (.ptr id off) = ob (h.get id) fun b => shapeOf sz agg ((b.cs.drop off).take sz) := rfl
theorem aLoad_eptr (sz : Nat) (agg : Bool) (h : AH) (cs : List AV) : aLoad sz agg h (.eptr cs) = shapeOf sz agg (cs.take sz) := rfl
theorem aStore_ptr (sz : Nat) (h : AH) (id off : Nat) (v : AV) : aStore sz h (.ptr id off) v = ob (h.get id) fun b =>
      if v.cells.length = sz ∧ v.cells.all AV.scalar = true ∧ off + v.cells.length ≤ b.cs.length
      then some (h.set id (some ⟨b.made, overwrite b.cs off v.cells⟩)) else none := rfl
theorem overwrite_eq (cs : List AV) (off : Nat) (vs : List AV) : overwrite cs off vs = cs.take off ++ (vs ++ cs.drop (off + vs.length)) := rfl
theorem fillA_nil (σ : Nat → Option AV) (cs : List AV) : fillA σ cs [] = some cs := rfl
theorem fillA_cons (σ : Nat → Option AV) (cs : List AV) (off sz : Nat) (x : Src) (r : List (Nat × Nat × Src)) : fillA σ cs ((off, sz, x) :: r) = ob (src σ x) fun v =>
      if v.cells.length = sz ∧ off + v.cells.length ≤ cs.length then fillA σ (overwrite cs off v.cells) r else none := rfl
theorem setAll_nil (σ : Nat → Option AV) (sz : Nat) (es : List AV) : setAll σ sz es [] = some es := rfl
theorem setAll_cons (σ : Nat → Option AV) (sz : Nat) (es : List AV) (i : Nat) (x : Src) (r : List (Nat × Src)) : setAll σ sz es ((i, x) :: r) = ob (src σ x) fun v =>
      if v.cells.length = sz ∧ v.cells.all AV.scalar = true ∧ i < es.length then setAll σ sz (es.set i v) r else none := rfl
attribute [go_sem] shapeOf_agg shapeOf_one aLoad_ptr aLoad_eptr aStore_ptr overwrite_eq fillA_nil fillA_cons setAll_nil setAll_cons

/-! #### operations -/
section
variable (C : Cfg) (call : CallF) (σ : Nat → Option AV) (h : AH) (aid : Option Nat)
def pickK (h : AH) (a b : Option AV) : Option AV → Option (AV × AH)
  | some (.bool c) => if c then ret1 h a else ret1 h b
  | _ => none
theorem pickK_bool (a b : Option AV) (c : Bool) : pickK h a b (some (.bool c)) = if c then ret1 h a else ret1 h b := rfl
def faddrK (h : AH) (off : Nat) : Option AV → Option (AV × AH)
  | some (.ptr id o) => some (.ptr id (o + off), h)
  | some (.eptr cs) => some (.eptr (cs.drop off), h)
  | _ => none
theorem faddrK_ptr (off id o : Nat) : faddrK h off (some (.ptr id o)) = some (.ptr id (o + off), h) := rfl
theorem faddrK_eptr (off : Nat) (cs : List AV) : faddrK h off (some (.eptr cs)) = some (.eptr (cs.drop off), h) := rfl
def nilckK (h : AH) : Option AV → Option (AV × AH)
  | some (.ptr id o) => some (.ptr id o, h)
  | some (.eptr cs) => some (.eptr cs, h)
  | _ => none
theorem nilckK_ptr (id o : Nat) : nilckK h (some (.ptr id o)) = some (.ptr id o, h) := rfl
theorem nilckK_eptr (cs : List AV) : nilckK h (some (.eptr cs)) = some (.eptr cs, h) := rfl
def fieldK (h : AH) (off sz : Nat) (agg : Bool) : Option AV → Option (AV × AH)
  | some (.agg cs) => ret1 h (shapeOf sz agg ((cs.drop off).take sz))
  | _ => none
theorem fieldK_agg (off sz : Nat) (agg : Bool) (cs : List AV) : fieldK h off sz agg (some (.agg cs)) = ret1 h (shapeOf sz agg ((cs.drop off).take sz)) := rfl
def extractK (h : AH) (i : Nat) : Option AV → Option (AV × AH)
  | some (.tup vs) => ret1 h (vs[i]?)
  | _ => none
theorem extractK_tup (i : Nat) (vs : List AV) : extractK h i (some (.tup vs)) = ret1 h (vs[i]?) := rfl
def iaddrK (h : AH) (k : SeqK) (v : AV) : Option AV → Option (AV × AH)
  | some (.int _ n) => ret1 h (aIndexAddr k v n)
  | _ => none
theorem iaddrK_int (k : SeqK) (v : AV) (ik : IntKind) (n : Int) : iaddrK h k v (some (.int ik n)) = ret1 h (aIndexAddr k v n) := rfl
def idxK (h : AH) (k : SeqK) (v : AV) : Option AV → Option (AV × AH)
  | some (.int _ n) => ret1 h (aIndex k v n)
  | _ => none
theorem idxK_int (k : SeqK) (v : AV) (ik : IntKind) (n : Int) : idxK h k v (some (.int ik n)) = ret1 h (aIndex k v n) := rfl
def mkSliceK (h : AH) (aid : Option Nat) (z : AV) (bytes : Nat) : Option AV → Option AV → Option (AV × AH)
  | some (.int _ n), some (.int _ m) => if 0 ≤ n ∧ n = m ∧ n * bytes ≤ appendLimit ∧ n ≤ appendLimit then
            some (.sref (newBlk h none ⟨true, List.replicate n.toNat z⟩).1 0 n.toNat n.toNat, (newBlk h none ⟨true, List.replicate n.toNat z⟩).2)
          else none
  | _, _ => none
theorem mkSliceK_int (z : AV) (bytes : Nat) (k k' : IntKind) (n m : Int) : mkSliceK h aid z bytes (some (.int k n)) (some (.int k' m)) = if 0 ≤ n ∧ n = m ∧ n * bytes ≤ appendLimit ∧ n ≤ appendLimit then
            some (.sref (newBlk h none ⟨true, List.replicate n.toNat z⟩).1 0 n.toNat n.toNat, (newBlk h none ⟨true, List.replicate n.toNat z⟩).2)
          else none := rfl

theorem aOper_call (f : Src) (args : List Src) : aOper C call σ h aid (.call f args) =
    ob (src σ f) fun v => ob (srcs σ args) fun l => ob (aTarget v l) fun p => aCall C call p.1 p.2 h := rfl
theorem aOper_mov (x : Src) : aOper C call σ h aid (.mov x) = ret1 h (src σ x) := rfl
theorem aOper_pick (c a b : Src) : aOper C call σ h aid (.pick c a b) = pickK h (src σ a) (src σ b) (src σ c) := by
  show ob (src σ c) _ = _
  cases src σ c with
  | none => rfl
  | some v => cases v <;> first | rfl | (rename_i b; cases b <;> rfl)
theorem aOper_alloc (z : List AV) : aOper C call σ h aid (.alloc z) = some (.ptr (newBlk h aid ⟨false, z⟩).1 0, (newBlk h aid ⟨false, z⟩).2) := rfl
theorem aOper_box (x : Src) : aOper C call σ h aid (.box x) = ob (src σ x) fun v => if v.cells.all AV.scalar then some (.ptr (newBlk h none ⟨false, v.cells⟩).1 0, (newBlk h none ⟨false, v.cells⟩).2) else none := rfl
theorem aOper_build (z : List AV) (ps : List (Nat × Nat × Src)) : aOper C call σ h aid (.build z ps) = ob (fillA σ z ps) fun cs => some (.agg cs, h) := rfl
theorem aOper_bslice (sz : Nat) (z : AV) (n : Nat) (ps : List (Nat × Src)) : aOper C call σ h aid (.bslice sz z n ps) = ob (setAll σ sz (List.replicate n z) ps) fun es => some (.slice false sz es .full, h) := rfl
theorem aOper_load (sz : Nat) (agg : Bool) (a : Src) : aOper C call σ h aid (.load sz agg a) = ob (src σ a) fun v => ret1 h (aLoad sz agg h v) := rfl
theorem aOper_store (sz : Nat) (a x : Src) : aOper C call σ h aid (.store sz a x) = ob (src σ a) fun v => ob (src σ x) fun u => ob (aStore sz h v u) fun h' => some (AV.undef, h') := rfl
theorem aOper_nilck (x : Src) : aOper C call σ h aid (.nilck x) = nilckK h (src σ x) := by
  show ob (src σ x) _ = _
  cases src σ x with
  | none => rfl
  | some v => cases v <;> rfl
theorem aOper_bin (op : BinOp) (d : Option EqD) (x y : Src) : aOper C call σ h aid (.bin op d x y) = ob (src σ x) fun u => ob (src σ y) fun v => ret1 h (aBin op d u v) := rfl
theorem aOper_un (op : UnOp) (x : Src) : aOper C call σ h aid (.un op x) = ob (src σ x) fun u => ret1 h (aUn op u) := rfl
theorem aOper_conv (k : ConvK) (x : Src) : aOper C call σ h aid (.conv k x) = ob (src σ x) fun u => ret1 h (aConv k h u) := rfl
theorem aOper_mkIface (t : TypeId) (x : Src) : aOper C call σ h aid (.mkIface t x) = ob (src σ x) fun u => some (.iface t u, h) := rfl
theorem aOper_mkFunc (f : FuncId) (a c : List Src) : aOper C call σ h aid (.mkFunc f a c) = ob (srcs σ a) fun a => ob (srcs σ c) fun c => some (.func (.func f) a c, h) := rfl
theorem aOper_mkSlice (z : AV) (bytes : Nat) (l c : Src) : aOper C call σ h aid (.mkSlice z bytes l c) = mkSliceK h aid z bytes (src σ l) (src σ c) := by
  show ob (src σ l) _ = _
  cases src σ l with
  | none => rfl
  | some v =>
    rw [ob_some]
    cases src σ c with
    | none => cases v <;> rfl
    | some u => cases v <;> cases u <;> rfl
theorem aOper_sl (k : SeqK) (x : Src) (lo hi mx : Option Src) : aOper C call σ h aid (.sl k x lo hi mx) = ob (src σ x) fun v => ob (optInt σ lo) fun l => ob (optInt σ hi) fun u => ob (optInt σ mx) fun m => ret1 h (aSlice k v l u m) := rfl
theorem aOper_faddr (off : Nat) (x : Src) : aOper C call σ h aid (.faddr off x) = faddrK h off (src σ x) := by
  show ob (src σ x) _ = _
  cases src σ x with
  | none => rfl
  | some v => cases v <;> rfl
theorem aOper_field (off sz : Nat) (agg : Bool) (x : Src) : aOper C call σ h aid (.field off sz agg x) = fieldK h off sz agg (src σ x) := by
  show ob (src σ x) _ = _
  cases src σ x with
  | none => rfl
  | some v => cases v <;> rfl
theorem aOper_iaddr (k : SeqK) (x i : Src) : aOper C call σ h aid (.iaddr k x i) = ob (src σ x) fun v => iaddrK h k v (src σ i) := by
  show ob (src σ x) _ = _
  cases src σ x with
  | none => rfl
  | some v =>
    rw [ob_some, ob_some]
    cases src σ i with
    | none => rfl
    | some u => cases u <;> rfl
theorem aOper_idx (k : SeqK) (x i : Src) : aOper C call σ h aid (.idx k x i) = ob (src σ x) fun v => idxK h k v (src σ i) := by
  show ob (src σ x) _ = _
  cases src σ x with
  | none => rfl
  | some v =>
    rw [ob_some, ob_some]
    cases src σ i with
    | none => rfl
    | some u => cases u <;> rfl
theorem aOper_extract (x : Src) (i : Nat) : aOper C call σ h aid (.extract x i) = extractK h i (src σ x) := by
  show ob (src σ x) _ = _
  cases src σ x with
  | none => rfl
  | some v => cases v <;> rfl
theorem aOper_len (k : SeqK) (x : Src) : aOper C call σ h aid (.len k x) = ob (src σ x) fun v => ret1 h (aLen k v) := rfl
theorem aOper_cap (x : Src) : aOper C call σ h aid (.cap x) = ob (src σ x) fun v => ret1 h (aCap v) := rfl
theorem aOper_minmax (mx : Bool) (xs : List Src) : aOper C call σ h aid (.minmax mx xs) = ob (srcs σ xs) fun l => ret1 h (aMinMax mx l) := rfl
theorem aOper_append (sz bytes : Nat) (s x : Src) : aOper C call σ h aid (.append sz bytes s x) = ob (src σ s) fun u => ob (src σ x) fun v => ob (aElems v) fun p => aAppend sz bytes h u p.1 p.2 := rfl
theorem aOper_bad : aOper C call σ h aid .bad = none := rfl
end
attribute [go_sem] pickK_bool faddrK_ptr faddrK_eptr nilckK_ptr nilckK_eptr fieldK_agg extractK_tup iaddrK_int idxK_int mkSliceK_int
  aOper_call aOper_mov aOper_pick aOper_alloc aOper_box aOper_build aOper_bslice aOper_load aOper_store aOper_nilck aOper_bin aOper_un aOper_conv aOper_mkIface aOper_mkFunc aOper_mkSlice
  aOper_sl aOper_faddr aOper_field aOper_iaddr aOper_idx aOper_extract aOper_len aOper_cap aOper_minmax aOper_append aOper_bad

/-! arithmetic -/
section
variable (d : Option EqD) (k : IntKind) (a b : Int) (s t : ByteArray) (p q : Bool)
theorem aBin_add : aBin .add d (.int k a) (.int k b) = some (.int k (k.wrap (a + b))) := by simp [aBin, aArith]
theorem aBin_sub : aBin .sub d (.int k a) (.int k b) = some (.int k (k.wrap (a - b))) := by simp [aBin, aArith]
theorem aBin_mul : aBin .mul d (.int k a) (.int k b) = some (.int k (k.wrap (a * b))) := by simp [aBin, aArith]
theorem aBin_quo : aBin .quo d (.int k a) (.int k b) = if b = 0 then none else some (.int k (k.wrap (a.tdiv b))) := by simp [aBin, aArith]
theorem aBin_rem : aBin .rem d (.int k a) (.int k b) = if b = 0 then none else some (.int k (a.tmod b)) := by simp [aBin, aArith]
/-- bitwise operations, kept under a name -/
def bits2 (op : BinOp) (k : IntKind) (a b : Int) : Int := k.wrap (match op with
  | .and => (BitVec.ofInt k.bits a &&& BitVec.ofInt k.bits b).toNat
  | .or => (BitVec.ofInt k.bits a ||| BitVec.ofInt k.bits b).toNat
  | .xor => (BitVec.ofInt k.bits a ^^^ BitVec.ofInt k.bits b).toNat
  | _ => (BitVec.ofInt k.bits a &&& ~~~(BitVec.ofInt k.bits b)).toNat)
theorem aBin_and : aBin .and d (.int k a) (.int k b) = some (.int k (bits2 .and k a b)) := by simp only [aBin, aArith, bits2, if_true]
theorem aBin_or : aBin .or d (.int k a) (.int k b) = some (.int k (bits2 .or k a b)) := by simp only [aBin, aArith, bits2, if_true]
theorem aBin_xor : aBin .xor d (.int k a) (.int k b) = some (.int k (bits2 .xor k a b)) := by simp only [aBin, aArith, bits2, if_true]
theorem aBin_andNot : aBin .andNot d (.int k a) (.int k b) = some (.int k (bits2 .andNot k a b)) := by simp only [aBin, aArith, bits2, if_true]
theorem aBin_eql : aBin .eql d (.int k a) (.int k b) = some (.bool (a == b)) := by simp [aBin, aArith]
theorem aBin_neq : aBin .neq d (.int k a) (.int k b) = some (.bool (a != b)) := by simp [aBin, aArith]
theorem aBin_lss : aBin .lss d (.int k a) (.int k b) = some (.bool (decide (a < b))) := by simp [aBin, aArith]
theorem aBin_leq : aBin .leq d (.int k a) (.int k b) = some (.bool (decide (a ≤ b))) := by simp [aBin, aArith]
theorem aBin_gtr : aBin .gtr d (.int k a) (.int k b) = some (.bool (decide (b < a))) := by simp [aBin, aArith]
theorem aBin_geq : aBin .geq d (.int k a) (.int k b) = some (.bool (decide (b ≤ a))) := by simp [aBin, aArith]
theorem aBin_shl (k' : IntKind) : aBin .shl d (.int k a) (.int k' b) = if b < 0 then none else some (.int k (k.wrap (a * 2 ^ (min b.toNat k.bits)))) := by simp [aBin, aShift]
theorem aBin_shr (k' : IntKind) : aBin .shr d (.int k a) (.int k' b) = if b < 0 then none else some (.int k (a.fdiv (2 ^ (min b.toNat k.bits)))) := by simp [aBin, aShift]
theorem aBin_cat : aBin .add d (.str s) (.str t) = if ((s.size + t.size : Nat) : Int) > IntKind.i64.max then none else some (.str (s ++ t)) := rfl
theorem aBin_seql : aBin .eql d (.str s) (.str t) = some (.bool (s.toList == t.toList)) := rfl
theorem aBin_sneq : aBin .neq d (.str s) (.str t) = some (.bool !(s.toList == t.toList)) := rfl
theorem aBin_slss : aBin .lss d (.str s) (.str t) = some (.bool (Op.bytesLess s.toList t.toList)) := rfl
theorem aBin_sleq : aBin .leq d (.str s) (.str t) = some (.bool (Op.bytesLess s.toList t.toList || s.toList == t.toList)) := rfl
theorem aBin_sgtr : aBin .gtr d (.str s) (.str t) = some (.bool !(Op.bytesLess s.toList t.toList || s.toList == t.toList)) := rfl
theorem aBin_sgeq : aBin .geq d (.str s) (.str t) = some (.bool !(Op.bytesLess s.toList t.toList)) := rfl
theorem aBin_beql : aBin .eql (some .bool) (.bool p) (.bool q) = some (.bool (p == q)) := rfl
theorem aBin_bneq : aBin .neq (some .bool) (.bool p) (.bool q) = some (.bool !(p == q)) := rfl
theorem aBin_seq (fs : List (Nat × Nat × Bool × EqD)) (xs ys : List AV) : aBin .eql (some (.struct fs)) (.agg xs) (.agg ys) = ob (aEq.go fs xs ys) fun b => some (.bool b) := by simp [aBin, ob_some, aEq]
theorem aBin_sne (fs : List (Nat × Nat × Bool × EqD)) (xs ys : List AV) : aBin .neq (some (.struct fs)) (.agg xs) (.agg ys) = ob (aEq.go fs xs ys) fun b => some (.bool !b) := by simp [aBin, ob_some, aEq]
theorem aBin_nil (nl : Bool) (sz sz' : Nat) (es es' : List AV) (rm rm' : Room) : aBin .eql (some .slice) (.slice nl sz es rm) (.slice true sz' es' rm') = some (.bool nl) := by
  cases nl <;> simp [aBin, ob_some, aEq]
theorem aBin_nnil (nl : Bool) (sz sz' : Nat) (es es' : List AV) (rm rm' : Room) : aBin .neq (some .slice) (.slice nl sz es rm) (.slice true sz' es' rm') = some (.bool !nl) := by
  cases nl <;> simp [aBin, ob_some, aEq]
theorem aBin_rnil (i o l c sz' : Nat) (es' : List AV) (rm' : Room) : aBin .eql (some .slice) (.sref i o l c) (.slice true sz' es' rm') = some (.bool false) := by simp [aBin, ob_some, aEq]
theorem aBin_rnnil (i o l c sz' : Nat) (es' : List AV) (rm' : Room) : aBin .neq (some .slice) (.sref i o l c) (.slice true sz' es' rm') = some (.bool true) := by simp [aBin, ob_some, aEq]
theorem aBin_pnil (i o : Nat) : aBin .eql (some .ptr) (.ptr i o) .nilp = some (.bool false) := rfl
theorem aBin_pnnil (i o : Nat) : aBin .neq (some .ptr) (.ptr i o) .nilp = some (.bool true) := rfl
theorem aBin_nilp : aBin .eql (some .ptr) .nilp .nilp = some (.bool true) := rfl
theorem aBin_nnilp : aBin .neq (some .ptr) .nilp .nilp = some (.bool false) := rfl
theorem aBin_fnil (f : Fn) (x y : List AV) : aBin .eql (some .func) (.func f x y) .nilf = some (.bool false) := rfl
theorem aBin_fnnil (f : Fn) (x y : List AV) : aBin .neq (some .func) (.func f x y) .nilf = some (.bool true) := rfl
theorem aBin_nilf : aBin .eql (some .func) .nilf .nilf = some (.bool true) := rfl
theorem aBin_nnilf : aBin .neq (some .func) .nilf .nilf = some (.bool false) := rfl
theorem eqgo_nil (xs ys : List AV) : aEq.go [] xs ys = some true := by simp [aEq.go]
theorem eqgo_cons (off sz : Nat) (agg : Bool) (d : EqD) (r : List (Nat × Nat × Bool × EqD)) (xs ys : List AV) : aEq.go ((off, sz, agg, d) :: r) xs ys =
    ob (shapeOf sz agg ((xs.drop off).take sz)) fun u => ob (shapeOf sz agg ((ys.drop off).take sz)) fun v => ob (aEq d u v) fun a => ob (aEq.go r xs ys) fun b => some (a && b) := by rw [aEq.go]
theorem aEq_bool : aEq .bool (.bool p) (.bool q) = some (p == q) := by simp [aEq]
theorem aEq_int : aEq .int (.int k a) (.int k b) = some (a == b) := by simp [aEq]
theorem aEq_str : aEq .str (.str s) (.str t) = some (s == t) := by simp [aEq]
theorem aEq_struct (fs : List (Nat × Nat × Bool × EqD)) (xs ys : List AV) : aEq (.struct fs) (.agg xs) (.agg ys) = aEq.go fs xs ys := by simp [aEq]
theorem aUn_neg : aUn .neg (.int k a) = some (.int k (k.wrap (0 - a))) := rfl
theorem aUn_not : aUn .not (.bool p) = some (.bool !p) := rfl
/-- '^x' -/
def bitsNot (k : IntKind) (a : Int) : Int := k.wrap (BitVec.ofInt k.bits (if k.signed then -1 else k.max) ^^^ BitVec.ofInt k.bits a).toNat
theorem aUn_xor : aUn .xor (.int k a) = some (.int k (bitsNot k a)) := rfl
theorem aConv_int (h : AH) (k' : IntKind) : aConv (.int k') h (.int k a) = some (.int k' (k'.wrap a)) := rfl
theorem aConv_str (h : AH) : aConv .str h (.str s) = some (.str s) := rfl
theorem aConv_toBytes (h : AH) : aConv .toBytes h (.str s) = some (.slice false 1 (ofBytes s) .unk) := rfl
theorem aConv_ofBytes (h : AH) (nl : Bool) (sz : Nat) (es : List AV) (rm : Room) : aConv .ofBytes h (.slice nl sz es rm) = if sz = 1 ∨ es.isEmpty then ob (bytesOf es) fun l => some (.str ⟨l.toArray⟩) else none := rfl
theorem aConv_ofRef (h : AH) (id off len cap : Nat) : aConv .ofBytes h (.sref id off len cap) = ob (h.get id) fun b =>
      if off + len ≤ b.cs.length then ob (bytesOf ((b.cs.drop off).take len)) fun l => some (.str ⟨l.toArray⟩) else none := rfl
theorem bytesOf_nil : bytesOf [] = some [] := rfl
theorem bytesOf_cons (n : Int) (r : List AV) : bytesOf (.int .u8 n :: r) = ob (bytesOf r) fun l => some (UInt8.ofNat n.toNat :: l) := rfl
end
attribute [go_sem] aBin_add aBin_sub aBin_mul aBin_quo aBin_rem aBin_and aBin_or aBin_xor aBin_andNot aBin_eql aBin_neq aBin_lss aBin_leq aBin_gtr aBin_geq aBin_shl aBin_shr aBin_cat
  aBin_seql aBin_sneq aBin_slss aBin_sleq aBin_sgtr aBin_sgeq aBin_beql aBin_bneq aBin_seq aBin_sne aBin_nil aBin_nnil aBin_rnil aBin_rnnil aBin_pnil aBin_pnnil aBin_nilp aBin_nnilp aBin_fnil aBin_fnnil aBin_nilf aBin_nnilf
  eqgo_nil eqgo_cons aEq_bool aEq_int aEq_str aEq_struct aUn_neg aUn_not aUn_xor aConv_int aConv_str aConv_toBytes aConv_ofBytes aConv_ofRef bytesOf_nil bytesOf_cons

/-! sequences -/
section
variable (nl : Bool) (sz : Nat) (es : List AV) (rm : Room) (i : Int) (s : ByteArray) (id off len cap n ssz : Nat) (agg : Bool) (cs : List AV)
theorem aIndexAddr_slice : aIndexAddr (.slice ssz) (.slice nl sz es rm) i = if 0 ≤ i ∧ i < es.length ∧ sz = ssz then ob (es[i.toNat]?) fun v => some (.eptr v.cells) else none := rfl
theorem aIndexAddr_sref : aIndexAddr (.slice ssz) (.sref id off len cap) i = if 0 ≤ i ∧ i < len then some (.ptr id (off + i.toNat * ssz)) else none := rfl
theorem aIndexAddr_arr : aIndexAddr (.arr n ssz agg) (.ptr id off) i = if 0 ≤ i ∧ i < n then some (.ptr id (off + i.toNat * ssz)) else none := rfl
theorem aIndexAddr_earr : aIndexAddr (.arr n ssz agg) (.eptr cs) i = if 0 ≤ i ∧ i < n then some (.eptr (cs.drop (i.toNat * ssz))) else none := rfl
theorem aIndex_str : aIndex .str (.str s) i = if 0 ≤ i then ob (s[i.toNat]?) fun b => some (.int .u8 b.toNat) else none := rfl
theorem aIndex_arr : aIndex (.arr n ssz agg) (.agg cs) i = if 0 ≤ i ∧ i < n then shapeOf ssz agg ((cs.drop (i.toNat * ssz)).take ssz) else none := rfl
theorem aLen_str : aLen .str (.str s) = some (.int .i64 s.size) := rfl
theorem aLen_slice : aLen (.slice ssz) (.slice nl sz es rm) = some (.int .i64 es.length) := rfl
theorem aLen_sref : aLen (.slice ssz) (.sref id off len cap) = some (.int .i64 len) := rfl
theorem aLen_arr (v : AV) : aLen (.arr n ssz agg) v = some (.int .i64 n) := by cases v <;> rfl
theorem aCap_full : aCap (.slice nl sz es .full) = some (.int .i64 es.length) := rfl
theorem aCap_sref : aCap (.sref id off len cap) = some (.int .i64 cap) := rfl
theorem aElems_slice : aElems (.slice nl sz es rm) = some (sz, es) := rfl
theorem aElems_str : aElems (.str s) = some (1, ofBytes s) := rfl
theorem minMaxL_nil (mx : Bool) (v : AV) : minMaxL mx v [] = some v := rfl
theorem minMaxL_cons (mx : Bool) (k k' : IntKind) (x y : Int) (r : List AV) : minMaxL mx (.int k x) (.int k' y :: r) = minMaxL mx (.int k (if mx then (if y > x then y else x) else (if y < x then y else x))) r := rfl
theorem aMinMax_cons (mx : Bool) (v : AV) (r : List AV) : aMinMax mx (v :: r) = minMaxL mx v r := rfl
theorem aSlice_str (lo hi : Option Int) : aSlice .str (.str s) lo hi none = if 0 ≤ lo.getD 0 ∧ lo.getD 0 ≤ hi.getD s.size ∧ hi.getD s.size ≤ s.size then some (.str (s.extract (lo.getD 0).toNat (hi.getD s.size).toNat)) else none := by
  simp [aSlice]
theorem aSlice_slice3 (lo : Option Int) (h m : Int) : aSlice (.slice ssz) (.slice nl sz es rm) lo (some h) (some m) =
    if 0 ≤ lo.getD 0 ∧ lo.getD 0 ≤ h ∧ h ≤ m ∧ m ≤ es.length ∧ (sz = ssz ∨ es.isEmpty) then
        some (.slice nl sz ((es.take h.toNat).drop (lo.getD 0).toNat) (if m = h then .full else .unk)) else none := rfl
theorem aSlice_slice (lo hi : Option Int) : aSlice (.slice ssz) (.slice nl sz es rm) lo hi none =
    if 0 ≤ lo.getD 0 ∧ lo.getD 0 ≤ hi.getD es.length ∧ hi.getD es.length ≤ es.length ∧ (sz = ssz ∨ es.isEmpty) then
        some (.slice nl sz ((es.take (hi.getD es.length).toNat).drop (lo.getD 0).toNat)
          (if hi.getD es.length = es.length then (if lo.getD 0 = 0 then rm else if rm = .full then .full else .unk) else .unk)) else none := by cases hi <;> rfl
theorem aSlice_sref (lo hi mx : Option Int) : aSlice (.slice ssz) (.sref id off len cap) lo hi mx =
    if (mx.isSome → hi.isSome) ∧ 0 ≤ lo.getD 0 ∧ lo.getD 0 ≤ hi.getD len ∧ hi.getD len ≤ mx.getD cap ∧ mx.getD cap ≤ cap then
      some (.sref id (if mx.getD cap = lo.getD 0 then off else off + (lo.getD 0).toNat * ssz) (hi.getD len - lo.getD 0).toNat (mx.getD cap - lo.getD 0).toNat) else none := rfl
theorem aSlice_arr (lo hi mx : Option Int) : aSlice (.arr n ssz agg) (.ptr id off) lo hi mx =
    if (mx.isSome → hi.isSome) ∧ 0 ≤ lo.getD 0 ∧ lo.getD 0 ≤ hi.getD n ∧ hi.getD n ≤ mx.getD n ∧ mx.getD n ≤ n then
      some (.sref id (if mx.getD n = lo.getD 0 then off else off + (lo.getD 0).toNat * ssz) (hi.getD n - lo.getD 0).toNat (mx.getD n - lo.getD 0).toNat) else none := rfl
end
attribute [go_sem] aIndexAddr_slice aIndexAddr_sref aIndexAddr_arr aIndexAddr_earr aIndex_str aIndex_arr aLen_str aLen_slice aLen_sref aLen_arr aCap_full aCap_sref aElems_slice aElems_str
  minMaxL_nil minMaxL_cons aMinMax_cons aSlice_sref aSlice_arr

/-! calls, ends -/
section
variable (C : Cfg) (f : FuncId)
theorem aTarget_func (a c l : List AV) : aTarget (.func (.func f) a c) l = some (f, a ++ (l ++ c)) := rfl
/-- a call that works on values alone -/
noncomputable def pureK (h : AH) : Option (AV × AH) → Option (AV × AH)
  | some r => if (freeze r.2 r.1).1.strip.refs 0 0 then some ((freeze r.2 r.1).1.strip, h) else none
  | none => none
theorem pureK_some (h h' : AH) (v : AV) : pureK h (some (v, h')) = if (freeze h' v).1.strip.refs 0 0 then some ((freeze h' v).1.strip, h) else none := rfl
theorem pureK_none (h : AH) : pureK h none = none := rfl
theorem pureK_ite (h : AH) (c : Prop) [Decidable c] (x y : Option (AV × AH)) : pureK h (if c then x else y) = if c then pureK h x else pureK h y := by split <;> rfl
theorem aCall_pure (hm : C.mode f = .pure) (args : List AV) (h : AH) : aCall C (call C) f args h =
    if refsAll 0 0 (stripAll (freezeAll h args).1) then pureK (freezeAll h args).2 (call C f (stripAll (freezeAll h args).1) AH.empty) else none := by
  unfold aCall
  rw [hm]
  dsimp only
  split
  · cases call C f (stripAll (freezeAll h args).1) AH.empty <;> rfl
  · rfl
theorem aCall_heap (hm : C.mode f = .heap) (args : List AV) (h : AH) : aCall C (call C) f args h = call C f args h := by
  unfold aCall; rw [hm]
def keepK (h : AH) : Option (AV × AH) → Option (AV × AH)
  | some r => ob (keepV h.toks.length r) fun q => some (q.1, ⟨h.blocks, h.toks ++ [q.2]⟩)
  | none => none
theorem keepK_some (h : AH) (r : AV × AH) : keepK h (some r) = ob (keepV h.toks.length r) fun q => some (q.1, ⟨h.blocks, h.toks ++ [q.2]⟩) := rfl
theorem keepK_ite (h : AH) (c : Prop) [Decidable c] (x y : Option (AV × AH)) : keepK h (if c then x else y) = if c then keepK h x else keepK h y := by split <;> rfl
theorem aCall_keep (hm : C.mode f = .keep) (args : List AV) (h : AH) : aCall C (call C) f args h =
    if refsAll 0 0 (stripAll (freezeAll h args).1) then keepK (freezeAll h args).2 (call C f (stripAll (freezeAll h args).1) AH.empty) else none := by
  unfold aCall
  rw [hm]
  dsimp only
  split
  · cases call C f (stripAll (freezeAll h args).1) AH.empty <;> rfl
  · rfl
theorem freeze_agg (h : AH) (cs : List AV) : freeze h (.agg cs) = (.agg cs, h) := rfl
theorem freeze_tup (h : AH) (cs : List AV) : freeze h (.tup cs) = (.tup cs, h) := rfl
theorem freeze_int (h : AH) (k : IntKind) (n : Int) : freeze h (.int k n) = (.int k n, h) := rfl
theorem freeze_bool (h : AH) (b : Bool) : freeze h (.bool b) = (.bool b, h) := rfl
theorem freeze_str (h : AH) (b : ByteArray) : freeze h (.str b) = (.str b, h) := rfl
theorem freeze_nilp (h : AH) : freeze h .nilp = (.nilp, h) := rfl
theorem freeze_slice (h : AH) (a : Bool) (b : Nat) (c : List AV) (d : Room) : freeze h (.slice a b c d) = (.slice a b c d, h) := rfl
theorem freeze_ptr (h : AH) (a b : Nat) : freeze h (.ptr a b) = (.ptr a b, h) := rfl
theorem freeze_func (h : AH) (a : Fn) (b c : List AV) : freeze h (.func a b c) = (.func a b c, h) := rfl
theorem freeze_nilf (h : AH) : freeze h .nilf = (.nilf, h) := rfl
theorem freeze_nili (h : AH) : freeze h .nili = (.nili, h) := rfl
theorem freeze_iface (h : AH) (t : TypeId) (v : AV) : freeze h (.iface t v) = (.iface t v, h) := rfl
theorem freezeAll_nil (h : AH) : freezeAll h [] = ([], h) := rfl
theorem freezeAll_cons (h : AH) (v : AV) (r : List AV) : freezeAll h (v :: r) = ((freeze h v).1 :: (freezeAll (freeze h v).2 r).1, (freezeAll (freeze h v).2 r).2) := rfl
theorem strip_agg (cs : List AV) : AV.strip (.agg cs) = .agg (stripAll cs) := by rw [AV.strip]
theorem strip_tup (cs : List AV) : AV.strip (.tup cs) = .tup (stripAll cs) := by rw [AV.strip]
theorem strip_int (k : IntKind) (n : Int) : AV.strip (.int k n) = .int k n := by rw [AV.strip] <;> simp
theorem strip_bool (b : Bool) : AV.strip (.bool b) = .bool b := by rw [AV.strip] <;> simp
theorem strip_str (b : ByteArray) : AV.strip (.str b) = .str b := by rw [AV.strip] <;> simp
theorem strip_nilp : AV.strip .nilp = .nilp := by rw [AV.strip] <;> simp
theorem strip_ptr (a b : Nat) : AV.strip (.ptr a b) = .ptr a b := by rw [AV.strip] <;> simp
theorem strip_slice (a : Bool) (b : Nat) (c : List AV) (d : Room) : AV.strip (.slice a b c d) = .slice a b (stripAll c) d.strip := by rw [AV.strip]
theorem strip_func (a : Fn) (b c : List AV) : AV.strip (.func a b c) = .func a (stripAll b) (stripAll c) := by rw [AV.strip]
theorem strip_nilf : AV.strip .nilf = .nilf := by rw [AV.strip] <;> simp
theorem strip_nili : AV.strip .nili = .nili := by rw [AV.strip] <;> simp
theorem strip_iface (t : TypeId) (v : AV) : AV.strip (.iface t v) = .iface t v.strip := by rw [AV.strip]
theorem stripAll_nil : stripAll [] = [] := by rw [stripAll]
theorem stripAll_cons (v : AV) (r : List AV) : stripAll (v :: r) = v.strip :: stripAll r := by rw [stripAll]
/-- what is left of a room when a value is handed on -/
def rmB (c : Bool) : Room := if c then .full else .unk
theorem room_full : Room.strip .full = rmB true := rfl
theorem room_unk : Room.strip .unk = rmB false := rfl
theorem room_own (t : Nat) : Room.strip (.own t) = rmB false := rfl
variable (nb nt : Nat)
theorem refs_agg (cs : List AV) : AV.refs nb nt (.agg cs) = refsAll nb nt cs := by rw [AV.refs]
theorem refs_tup (cs : List AV) : AV.refs nb nt (.tup cs) = refsAll nb nt cs := by rw [AV.refs]
theorem refs_int (k : IntKind) (n : Int) : AV.refs nb nt (.int k n) = true := by rw [AV.refs] <;> simp
theorem refs_bool (b : Bool) : AV.refs nb nt (.bool b) = true := by rw [AV.refs] <;> simp
theorem refs_str (b : ByteArray) : AV.refs nb nt (.str b) = true := by rw [AV.refs] <;> simp
theorem refs_nilp : AV.refs nb nt .nilp = true := by rw [AV.refs] <;> simp
theorem refs_nilf : AV.refs nb nt .nilf = true := by rw [AV.refs] <;> simp
theorem refs_nili : AV.refs nb nt .nili = true := by rw [AV.refs] <;> simp
theorem refs_ptr (a b : Nat) : AV.refs nb nt (.ptr a b) = decide (a < nb) := by rw [AV.refs]
theorem refs_sref (a b c d : Nat) : AV.refs nb nt (.sref a b c d) = decide (a < nb) := by rw [AV.refs]
theorem refs_eptr (cs : List AV) : AV.refs nb nt (.eptr cs) = refsAll nb nt cs := by rw [AV.refs]
theorem refs_slice_own (a : Bool) (b : Nat) (c : List AV) (t : Nat) : AV.refs nb nt (.slice a b c (.own t)) = (decide (t < nt) && refsAll nb nt c) := by rw [AV.refs]
theorem refs_slice_full (a : Bool) (b : Nat) (c : List AV) : AV.refs nb nt (.slice a b c .full) = refsAll nb nt c := by simp [AV.refs]
theorem refs_slice_unk (a : Bool) (b : Nat) (c : List AV) : AV.refs nb nt (.slice a b c .unk) = refsAll nb nt c := by simp [AV.refs]
theorem refs_slice_strip (a : Bool) (b : Nat) (c : List AV) (r : Room) : AV.refs nb nt (.slice a b c r.strip) = refsAll nb nt c := by
  cases r <;> simp [Room.strip, AV.refs]
theorem refs_func (a : Fn) (b c : List AV) : AV.refs nb nt (.func a b c) = (refsAll nb nt b && refsAll nb nt c) := by rw [AV.refs]
theorem refs_iface (t : TypeId) (v : AV) : AV.refs nb nt (.iface t v) = AV.refs nb nt v := by rw [AV.refs]
theorem refsAll_nil : refsAll nb nt [] = true := by rw [refsAll]
theorem refsAll_cons (v : AV) (r : List AV) : refsAll nb nt (v :: r) = (v.refs nb nt && refsAll nb nt r) := by rw [refsAll]
end
attribute [go_sem] aTarget_func pureK_some pureK_none pureK_ite keepK_some keepK_ite freeze_agg freeze_tup freeze_int freeze_bool freeze_str freeze_nilp freeze_slice freeze_ptr freeze_func freeze_nilf freeze_nili freeze_iface
  freezeAll_nil freezeAll_cons strip_agg strip_tup strip_int strip_bool strip_str strip_nilp strip_ptr strip_slice strip_func strip_nilf strip_nili strip_iface stripAll_nil stripAll_cons
  room_full room_unk room_own refs_agg refs_tup refs_int refs_bool refs_str refs_nilp refs_nilf refs_nili refs_ptr refs_sref refs_eptr refs_slice_own refs_slice_full refs_slice_unk refs_slice_strip refs_func refs_iface
  refsAll_nil refsAll_cons
theorem restrict_nil (σ : Nat → Option AV) : restrict σ [] = [] := rfl
def consK (k : Nat) (r : List (Nat × AV)) : Option AV → List (Nat × AV)
  | some v => (k, v) :: r
  | none => r
theorem consK_some (k : Nat) (r : List (Nat × AV)) (v : AV) : consK k r (some v) = (k, v) :: r := rfl
theorem consK_none (k : Nat) (r : List (Nat × AV)) : consK k r none = r := rfl
theorem restrict_cons (σ : Nat → Option AV) (k : Nat) (r : List Nat) : restrict σ (k :: r) = consK k (restrict σ r) (σ k) := by
  show (match σ k with | some v => (k, v) :: restrict σ r | none => restrict σ r) = _
  cases σ k <;> rfl
theorem settle_false (base : Nat) (ks : List Nat) (σ : Nat → Option AV) (h : AH) : settle base ks false ⟨σ, h⟩ = ⟨ofList (restrict σ ks), h⟩ := rfl
theorem settle_true (base : Nat) (ks : List Nat) (σ : Nat → Option AV) (h : AH) : settle base ks true ⟨σ, h⟩ = ⟨ofList (restrict σ ks), popH base (restrict σ ks) h⟩ := rfl
theorem popH_eq (base : Nat) (l : List (Nat × AV)) (bs : List (Option Blk)) (t : List Nat) : popH base l ⟨bs, t⟩ = ⟨bs.take (popTo base t.length l bs bs.length), t⟩ := rfl
theorem popTo_zero (base nt : Nat) (l : List (Nat × AV)) (bs : List (Option Blk)) : popTo base nt l bs 0 = 0 := rfl
theorem popTo_succ (base nt : Nat) (l : List (Nat × AV)) (bs : List (Option Blk)) (k : Nat) : popTo base nt l bs (k + 1) =
    if decide (base ≤ k) && (refsS k nt l && blkRefs k nt (bs.take k)) then popTo base nt l bs k else k + 1 := rfl
theorem refsS_nil (nb nt : Nat) : refsS nb nt [] = true := rfl
theorem refsS_cons (nb nt k : Nat) (v : AV) (r : List (Nat × AV)) : refsS nb nt ((k, v) :: r) = (v.refs nb nt && refsS nb nt r) := rfl
theorem blkRefs_nil (nb nt : Nat) : blkRefs nb nt [] = true := rfl
theorem blkRefs_none (nb nt : Nat) (r : List (Option Blk)) : blkRefs nb nt (none :: r) = blkRefs nb nt r := rfl
theorem blkRefs_some (nb nt : Nat) (b : Blk) (r : List (Option Blk)) : blkRefs nb nt (some b :: r) = (refsAll nb nt b.cs && blkRefs nb nt r) := rfl
theorem resultsL_nil (s : St) : resultsL s [] = some [] := rfl
theorem resultsL_cons (s : St) (r : Nat ⊕ (Nat × Nat × Bool)) (l : List (Nat ⊕ (Nat × Nat × Bool))) : resultsL s (r :: l) = ob (resultOf s r) fun v => ob (resultsL s l) fun vs => some (v :: vs) := rfl
theorem resultOf_inl (s : St) (t : Nat) : resultOf s (.inl t) = s.σ t := rfl
def cellK (h : AH) (sz : Nat) (agg : Bool) : Option AV → Option AV
  | some (.ptr id off) => aLoad sz agg h (.ptr id off)
  | _ => none
theorem cellK_ptr (h : AH) (sz : Nat) (agg : Bool) (id off : Nat) : cellK h sz agg (some (.ptr id off)) = aLoad sz agg h (.ptr id off) := rfl
theorem resultOf_inr (s : St) (a sz : Nat) (agg : Bool) : resultOf s (.inr (a, sz, agg)) = cellK s.h sz agg (s.σ a) := by
  show ob (s.σ a) _ = _
  cases s.σ a with
  | none => rfl
  | some v => cases v <;> rfl
theorem tupOf_one (v : AV) : tupOf [v] = v := rfl
theorem tupOf_two (v u : AV) (r : List AV) : tupOf (v :: u :: r) = .tup (v :: u :: r) := rfl
theorem tupOf_nil : tupOf [] = .tup [] := rfl
theorem argList_nil (k : Nat) : argList [] k = [] := rfl
theorem argList_cons (v : AV) (r : List AV) (k : Nat) : argList (v :: r) k = (k, v) :: argList r (k + 1) := rfl
theorem empty_eq : AH.empty = ⟨[], []⟩ := rfl
attribute [go_sem] restrict_nil consK_some consK_none restrict_cons settle_false settle_true popH_eq popTo_zero popTo_succ refsS_nil refsS_cons blkRefs_nil blkRefs_none blkRefs_some
  resultsL_nil resultsL_cons resultOf_inl cellK_ptr resultOf_inr tupOf_one tupOf_two tupOf_nil argList_nil argList_cons empty_eq

/-! #### regions that draw their order -/
def bare1 (b : Nat) (o : IOper × Option Nat) : IOper :=
  match o.1.op, o.2 with
  | .alloc _, some k => ⟨o.1.dst, .mov (.lit (.ptr (b + k) 0)), o.1.guard⟩
  | _, _ => o.1
def bare (b : Nat) : List (IOper × Option Nat) → List IOper
  | [] => []
  | o :: r => bare1 b o :: bare b r
theorem aOper_aid {C : Cfg} {cf : CallF} {σ : Nat → Option AV} {h : AH} (op : IOp) (hn : ∀ z, op ≠ .alloc z) (aid : Option Nat) : aOper C cf σ h aid op = aOper C cf σ h none op := by
  cases op <;> first | rfl | exact absurd rfl (hn _)
theorem aStep_bare {C : Cfg} {cf : CallF} (b : Nat) (o : IOper × Option Nat) (s : St) : aStep C cf o.1 (o.2.map (b + ·)) s = aStep C cf (bare1 b o) none s := by
  obtain ⟨⟨dst, op, g⟩, r⟩ := o
  by_cases hz : ∃ z, op = .alloc z
  · obtain ⟨z, rfl⟩ := hz
    cases r with
    | none => rfl
    | some k => rfl
  · have e : bare1 b (⟨dst, op, g⟩, r) = ⟨dst, op, g⟩ := by
      unfold bare1
      split
      · rename_i h1 _; exact absurd ⟨_, h1⟩ hz
      · rfl
    rw [e]
    simp only [aStep]
    rw [aOper_aid op (fun z e => hz ⟨z, e⟩)]
theorem opsT_bare (C : Cfg) (b : Nat) : ∀ (l : List (IOper × Option Nat)) (s : St), (ob (opsT C b l s) fun q => some q.2) = ops C (bare b l) s := by
  intro l
  induction l with
  | nil => intro s; rw [opsT_nil]; simp only [ob_some, bare]; rw [ops_nil]
  | cons o l ih =>
    intro s
    rw [opsT_cons]
    simp only [bare]
    rw [ops_cons, ← aStep_bare b o s]
    cases aStep C (call C) o.1 (o.2.map (b + ·)) s with
    | none => rfl
    | some s1 =>
      simp only [ob_some]
      rw [← ih s1]
      cases opsT C b l s1 <;> rfl
theorem run_regd0 (C : Cfg) (base : Nat) (zs : List (List AV)) (l : List (IOper × Option Nat)) (ks : List Nat) (pop : Bool) (s : St) :
    run C base (.regd zs l [] ks pop) s = regK base ks pop (ops C (bare s.h.blocks.length l) ⟨s.σ, pushZ s.h zs⟩) := by
  rw [run_regd, ← opsT_bare]
  cases opsT C s.h.blocks.length l ⟨s.σ, pushZ s.h zs⟩ with
  | none => rfl
  | some q =>
    simp only [ob_some, checked, PairsOk]
    exact if_pos trivial
theorem bare_nil (b : Nat) : bare b [] = [] := rfl
theorem bare_none (b : Nat) (io : IOper) (r : List (IOper × Option Nat)) : bare b ((io, none) :: r) = io :: bare b r := by
  simp only [bare]
  congr 1
  unfold bare1
  split
  · rename_i h; cases h
  · rfl
theorem bare_alloc (b : Nat) (d : Option Nat) (z : List AV) (g : Option (Nat × Bool)) (k : Nat) (r : List (IOper × Option Nat)) :
    bare b ((⟨d, .alloc z, g⟩, some k) :: r) = ⟨d, .mov (.lit (.ptr (b + k) 0)), g⟩ :: bare b r := rfl
theorem pushZ_nil (h : AH) : pushZ h [] = h := by cases h; simp [pushZ]
theorem pushZ_cons (b : List (Option Blk)) (t : List Nat) (z : List AV) (r : List (List AV)) : pushZ ⟨b, t⟩ (z :: r) = pushZ ⟨b ++ [some ⟨false, z⟩], t⟩ r := by simp [pushZ]
/-- a call on values alone, that changes nothing -/
theorem aOper_pcall {C : Cfg} {σ : Nat → Option AV} {h : AH} {aid : Option Nat} (f : Src) (args : List Src) : aOper C (call C) σ h aid (.pcall f args) =
    ob (src σ f) fun v => ob (srcs σ args) fun l => ob (aTarget v l) fun p => aCallP C (call C) p.1 p.2 h := rfl
theorem aCallP_pure {C : Cfg} {f : FuncId} (hm : C.mode f = .pure) (args : List AV) (h : AH) : aCallP C (call C) f args h = if refsAll 0 0 (stripAll args) then pureK h (call C f (stripAll args) AH.empty) else none := by
  unfold aCallP
  by_cases hr : refsAll 0 0 (stripAll args) = true
  · rw [if_pos ⟨hm, hr⟩, if_pos hr]
    cases call C f (stripAll args) AH.empty <;> rfl
  · rw [if_neg (fun h => hr h.2), if_neg hr]
attribute [go_sem] run_regd0 bare_nil bare_none bare_alloc pushZ_nil pushZ_cons aOper_pcall
end Go.Abs
/- Bytes. -/
namespace Go.Abs
theorem loop_eq (s : ByteArray) : ∀ (m i : Nat) (r : List UInt8), i + m = s.size → ByteArray.toList.loop s i r = r.reverse ++ s.data.toList.drop i := by
  intro m
  induction m with
  | zero =>
    intro i r h
    unfold ByteArray.toList.loop
    rw [if_neg (by omega), List.drop_of_length_le (by rw [Array.length_toList]; show s.size ≤ i; omega)]
    simp
  | succ m ih =>
    intro i r h
    unfold ByteArray.toList.loop
    rw [if_pos (by omega), ih (i + 1) _ (by omega)]
    have hi : i < s.data.toList.length := by rw [Array.length_toList]; show i < s.size; omega
    rw [List.drop_eq_getElem_cons hi]
    have : s.get! i = s.data.toList[i] := by
      have hi' : i < s.data.size := by simpa using hi
      show s.data[i]! = _
      rw [getElem!_pos s.data i hi']; simp
    rw [this]; simp
theorem toList_data (s : ByteArray) : s.toList = s.data.toList := by
  unfold ByteArray.toList
  rw [loop_eq s s.size 0 [] (by omega)]; simp
theorem toList_nil {s : ByteArray} : s.toList = [] ↔ s.size = 0 := by
  rw [toList_data]
  constructor
  · intro h
    have : s.data.toList.length = 0 := by rw [h]; rfl
    rwa [Array.length_toList] at this
  · intro h
    apply List.eq_nil_of_length_eq_zero
    rw [Array.length_toList]; exact h
theorem bytes_ext {a b : ByteArray} (h : a.data.toList = b.data.toList) : a = b := by
  cases a; cases b; congr 1; exact Array.ext' h
theorem toList_inj {a b : ByteArray} : a.toList = b.toList ↔ a = b := by
  rw [toList_data, toList_data]
  exact ⟨bytes_ext, fun h => by rw [h]⟩
theorem toList_beq {a b : ByteArray} : (a.toList == b.toList) = decide (a = b) := by
  by_cases h : a = b
  · subst h; simp
  · rw [decide_eq_false h]
    exact beq_eq_false_iff_ne.2 fun e => h (toList_inj.1 e)
end Go.Abs
/- Strings as lists of bytes. -/
namespace Go.Abs
def bs (l : List UInt8) : ByteArray := ⟨l.toArray⟩
theorem bs_data (l : List UInt8) : (bs l).data.toList = l := by simp [bs]
theorem bs_of (s : ByteArray) : s = bs s.data.toList := by cases s; simp [bs]
theorem bs_ex (s : ByteArray) : ∃ l, s = bs l := ⟨_, bs_of s⟩
theorem bs_inj {a b : List UInt8} : bs a = bs b ↔ a = b := by
  constructor
  · intro h; have := congrArg (fun s => s.data.toList) h; simpa [bs] using this
  · rintro rfl; rfl
theorem bs_size (l : List UInt8) : (bs l).size = l.length := by simp [bs, ByteArray.size]
theorem bs_append (a b : List UInt8) : bs a ++ bs b = bs (a ++ b) := by
  apply bytes_ext
  rw [ByteArray.data_append, Array.toList_append, bs_data, bs_data, bs_data]
theorem bs_toList (l : List UInt8) : (bs l).toList = l := by rw [toList_data, bs_data]
theorem bs_get (l : List UInt8) (i : Nat) : (bs l)[i]? = l[i]? := by
  by_cases h : i < l.length
  · rw [getElem?_pos (bs l) i (by rw [bs_size]; exact h), List.getElem?_eq_getElem h]
    show some ((bs l).data[i]'_) = _
    simp [bs]
  · rw [getElem?_neg (bs l) i (by rw [bs_size]; omega), List.getElem?_eq_none (by omega)]
theorem bs_extract (l : List UInt8) (i j : Nat) : (bs l).extract i j = bs ((l.take j).drop i) := by
  apply bytes_ext
  rw [ByteArray.data_extract, Array.toList_extract, bs_data, bs_data]
  simp [List.extract, List.drop_take]
theorem bs_beq (a b : List UInt8) : (bs a == bs b) = (a == b) := by
  show (a.toArray == b.toArray) = _
  simp
theorem bs_mk (l : List UInt8) : (⟨l.toArray⟩ : ByteArray) = bs l := rfl
theorem bs_ofBytes (l : List UInt8) : ofBytes (bs l) = l.map fun b => AV.int .u8 b.toNat := by rw [ofBytes, bs_data]
attribute [go_sem] bs_size bs_append bs_toList bs_get bs_extract bs_beq bs_mk bs_inj bs_ofBytes
end Go.Abs
/- Rules whose conditions arithmetic settles. -/
set_option linter.unusedSimpArgs false
namespace Go.Abs
theorem wrapU64 {n : Int} (h0 : 0 ≤ n) (h1 : n < 18446744073709551616) : IntKind.u64.wrap n = n := by
  have : IntKind.u64.wrap n = n % 18446744073709551616 := by simp [IntKind.wrap, IntKind.signed, IntKind.bits]
  omega
theorem wrapI64 {n : Int} (h0 : -9223372036854775808 ≤ n) (h1 : n < 9223372036854775808) : IntKind.i64.wrap n = n := by rw [IntKind.wrap_i64]; omega
theorem wrapU8 {n : Int} (h0 : 0 ≤ n) (h1 : n < 256) : IntKind.u8.wrap n = n := by
  have : IntKind.u8.wrap n = n % 256 := by simp [IntKind.wrap, IntKind.signed, IntKind.bits]
  omega
theorem itePos {α : Type} {c : Prop} [Decidable c] (h : c) (a b : α) : (if c then a else b) = a := if_pos h
theorem iteNeg {α : Type} {c : Prop} [Decidable c] (h : ¬c) (a b : α) : (if c then a else b) = b := if_neg h
theorem decPos {c : Prop} [Decidable c] (h : c) : decide c = true := decide_eq_true h
theorem decNeg {c : Prop} [Decidable c] (h : ¬c) : decide c = false := decide_eq_false h
theorem beqIT {a b : Int} (h : a = b) : (a == b) = true := by simpa using h
theorem beqIF {a b : Int} (h : ¬ a = b) : (a == b) = false := by simpa using h
theorem beqNT {a b : Nat} (h : a = b) : (a == b) = true := by simpa using h
theorem beqNF {a b : Nat} (h : ¬ a = b) : (a == b) = false := by simpa using h
theorem bneIT {a b : Int} (h : ¬ a = b) : (a != b) = true := by simpa using h
theorem bneIF {a b : Int} (h : a = b) : (a != b) = false := by simpa using h
theorem bneNT {a b : Nat} (h : ¬ a = b) : (a != b) = true := by simpa using h
theorem bneNF {a b : Nat} (h : a = b) : (a != b) = false := by simpa using h
attribute [go_sem] beqIT beqIF beqNT beqNF bneIT bneIF bneNT bneNF
theorem minNat {a b : Nat} (h : a ≤ b) : min a b = a := Nat.min_eq_left h
theorem minNat' {a b : Nat} (h : b ≤ a) : min a b = b := Nat.min_eq_right h
theorem opsW_dec (C : Cfg) (dst : Option Nat) (op : IOp) (r : List IOper) (l : List (Nat × AV)) (h : AH) (b : Bool) :
    opsW C dst op r l h (some b) = if b = true then opsK C dst r l (aOper C (call C) (ofList l) h none op) else ops C r ⟨aPut dst AV.undef (ofList l), h⟩ := by cases b <;> rfl
/-- a loop, unrolled round by round -/
noncomputable def loopK (C : Cfg) (base : Nat) (c : IC) : Option (AExit × St) → Option (AExit × St)
  | some r => andThen r (run C base (.loop c))
  | none => none
theorem run_loop' (C : Cfg) (base : Nat) (c : IC) (s : St) : run C base (.loop c) s = loopK C base c (run C base c s) := by
  rw [run_loop]; cases run C base c s <;> rfl
theorem loopK_normal (C : Cfg) (base : Nat) (c : IC) (s : St) : loopK C base c (some (.normal, s)) = run C base (.loop c) s := rfl
theorem loopK_exit (C : Cfg) (base : Nat) (c : IC) (id : Nat) (s : St) : loopK C base c (some (.exit id, s)) = some (.exit id, s) := rfl
theorem loopK_ret (C : Cfg) (base : Nat) (c : IC) (s : St) : loopK C base c (some (.ret, s)) = some (.ret, s) := rfl
theorem loopK_none (C : Cfg) (base : Nat) (c : IC) : loopK C base c none = none := rfl
theorem loopK_ite (C : Cfg) (base : Nat) (c : IC) (p : Prop) [Decidable p] (x y : Option (AExit × St)) : loopK C base c (if p then x else y) = if p then loopK C base c x else loopK C base c y := by split <;> rfl
attribute [go_sem] loopK_normal loopK_exit loopK_ret loopK_none loopK_ite
theorem aPut_some (d : Nat) (v : AV) (l : List (Nat × AV)) : aPut (some d) v (ofList l) = ofList ((d, v) :: l) := rfl
theorem aPut_none (v : AV) (l : List (Nat × AV)) : aPut none v (ofList l) = ofList l := rfl
theorem toNatMul (a b : Nat) : ((a : Int) * (b : Int)).toNat = a * b := by omega
theorem toNatAdd (a b : Nat) : ((a : Int) + (b : Int)).toNat = a + b := by omega
theorem toNatAdd1 (a : Nat) : ((a : Int) + 1).toNat = a + 1 := by omega
theorem toNatMulL (k a : Nat) : ((OfNat.ofNat k : Int) * (a : Int)).toNat = OfNat.ofNat k * a := by
  show (((k : Nat) : Int) * (a : Int)).toNat = k * a
  exact toNatMul k a
theorem castSub {a b : Nat} (h : b ≤ a) : ((a : Int) - (b : Int)) = ((a - b : Nat) : Int) := by omega
theorem toNatSub1 (a : Nat) : ((a : Int) - 1).toNat = a - 1 := by omega
/-- a call's answer, where the call is one on values alone -/
theorem pureK_bool {h h1 : AH} {x : Option (AV × AH)} {b : Bool} (e : pureK h x = some (.bool b, h1)) : ∃ h', x = some (.bool b, h') := by
  cases x with
  | none => cases e
  | some r =>
    obtain ⟨v, h'⟩ := r
    rw [pureK_some] at e
    split at e
    case isFalse => cases e
    case isTrue =>
      simp only [Option.some.injEq, Prod.mk.injEq] at e
      have e1 := e.1
      refine ⟨h', ?_⟩
      have key : ∀ u : AV, u.strip = .bool b → u = .bool b := by
        intro u hu
        cases u <;> unfold AV.strip at hu <;> first | exact hu | cases hu
      have key2 := key _ e1
      have hv : ∀ (u : AV) (k : AH), (freeze k u).1 = .bool b → u = .bool b := by
        intro u k hu
        unfold freeze at hu
        split at hu
        · split at hu
          · split at hu <;> cases hu
          · cases hu
        · exact hu
      rw [hv _ _ key2]
theorem boolGoal {a b : Bool} {h : AH} (e : a = true ↔ b = true) : some (AV.bool a, h) = some (.bool b, h) := by rw [Bool.eq_iff_iff.2 e]
theorem stripAll_append (a b : List AV) : stripAll (a ++ b) = stripAll a ++ stripAll b := by
  induction a with
  | nil => rw [stripAll_nil]; rfl
  | cons x a ih => rw [List.cons_append, stripAll_cons, stripAll_cons, ih]; rfl
theorem refsAll_append (nb nt : Nat) (a b : List AV) : refsAll nb nt (a ++ b) = (refsAll nb nt a && refsAll nb nt b) := by
  induction a with
  | nil => rw [refsAll_nil]; rfl
  | cons x a ih => rw [List.cons_append, refsAll_cons, refsAll_cons, ih, Bool.and_assoc]
attribute [go_sem] stripAll_append refsAll_append
theorem get_last' (g : List (Option Blk)) (b : Option Blk) (t : List Nat) : AH.get ⟨g ++ [b], t⟩ g.length = b := by simp [AH.get]
theorem set_last' (g : List (Option Blk)) (b x : Option Blk) : (g ++ [b]).set g.length x = g ++ [x] := by simp
theorem ignore_pop (base : Nat) (l : List (Nat × AV)) (h : AH) : popH base l h = ⟨h.blocks.take (popTo base h.toks.length l h.blocks h.blocks.length), h.toks⟩ := rfl
attribute [go_sem] get_last' set_last'
/-- lists of values that name nothing -/
theorem strip_map {α : Type} {f : α → AV} (hf : ∀ x, (f x).strip = f x) (l : List α) : stripAll (l.map f) = l.map f := by
  induction l with
  | nil => exact stripAll_nil
  | cons x l ih => rw [List.map_cons, stripAll_cons, hf, ih]
theorem refs_map {α : Type} {f : α → AV} {nb nt : Nat} (hf : ∀ x, (f x).refs nb nt = true) (l : List α) : refsAll nb nt (l.map f) = true := by
  induction l with
  | nil => exact refsAll_nil nb nt
  | cons x l ih => rw [List.map_cons, refsAll_cons, hf, ih]; rfl
/-- a row of the call's own, with one token -/
theorem append_tok (ssz bytes : Nat) (B : List (Option Blk)) (n : Nat) (es xs : List AV) (sz' : Nat) (hn : n = es.length) (h0 : ssz ≠ 0) (hsz : sz' = ssz ∨ xs.length = 0) (h1 : (es.length + xs.length) * bytes ≤ 70368744177664) (h2 : es.length + xs.length ≤ 70368744177664) :
    aAppend ssz bytes ⟨B, [n]⟩ (.slice false ssz es (.own 0)) sz' xs = some (.slice false ssz (es ++ xs) (.own 0), ⟨B, [n + xs.length]⟩) := by
  subst hn
  cases xs with
  | nil => simp [aAppend]
  | cons x r =>
    have h3 : sz' = ssz := hsz.resolve_right (by simp)
    subst h3
    have h1' : (es.length + (r.length + 1)) * bytes ≤ 70368744177664 := by simpa using h1
    have h2' : es.length + (r.length + 1) ≤ 70368744177664 := by simpa using h2
    simp [aAppend, h0, appendLimit, h1', h2']
theorem append_none (ssz bytes : Nat) (h : AH) (nl : Bool) (sz : Nat) (es : List AV) (rm : Room) (sz' : Nat) (xs : List AV) (hx : xs.length = 0) :
    aAppend ssz bytes h (.slice nl sz es rm) sz' xs = some (.slice nl sz es rm, h) := by
  have := List.length_eq_zero_iff.1 hx
  subst this
  simp [aAppend]
attribute [go_sem] append_tok append_none
theorem sl_none_none (ssz : Nat) (nl : Bool) (sz : Nat) (es : List AV) (rm : Room) (hs : sz = ssz ∨ es.length = 0) : aSlice (.slice ssz) (.slice nl sz es rm) none none none = some (.slice nl sz es rm) := by
  have he : sz = ssz ∨ es.isEmpty = true := by rcases hs with h | h; exact .inl h; exact .inr (by rw [List.length_eq_zero_iff.1 h]; rfl)
  rw [aSlice_slice, if_pos (by refine ⟨?_, ?_, ?_, he⟩ <;> (try simp only [Option.getD_none, Option.getD_some]) <;> omega)]; simp
theorem sl_none_some (ssz : Nat) (nl : Bool) (sz : Nat) (es : List AV) (rm : Room) (u : Int) (h1 : 0 ≤ u) (h2 : u ≤ es.length) (hs : sz = ssz ∨ es.length = 0) : aSlice (.slice ssz) (.slice nl sz es rm) none (some u) none = some (.slice nl sz (es.take u.toNat) (if u = es.length then rm else .unk)) := by
  have he : sz = ssz ∨ es.isEmpty = true := by rcases hs with h | h; exact .inl h; exact .inr (by rw [List.length_eq_zero_iff.1 h]; rfl)
  rw [aSlice_slice, if_pos (by refine ⟨?_, ?_, ?_, he⟩ <;> (try simp only [Option.getD_none, Option.getD_some]) <;> omega)]; simp
theorem sl_none_max (ssz : Nat) (nl : Bool) (sz : Nat) (es : List AV) (rm : Room) (u : Int) (m : Int) (h1 : 0 ≤ u) (h2 : u ≤ m) (h3 : m ≤ es.length) (hs : sz = ssz ∨ es.length = 0) : aSlice (.slice ssz) (.slice nl sz es rm) none (some u) (some m) = some (.slice nl sz (es.take u.toNat) (if m = u then .full else .unk)) := by
  have he : sz = ssz ∨ es.isEmpty = true := by rcases hs with h | h; exact .inl h; exact .inr (by rw [List.length_eq_zero_iff.1 h]; rfl)
  rw [aSlice_slice3, if_pos (by refine ⟨?_, ?_, ?_, ?_, he⟩ <;> (try simp only [Option.getD_none, Option.getD_some]) <;> omega)]; simp
theorem sl_some_none (ssz : Nat) (nl : Bool) (sz : Nat) (es : List AV) (rm : Room) (l : Int) (h0 : 0 ≤ l) (h1 : l ≤ (es.length : Int)) (hs : sz = ssz ∨ es.length = 0) : aSlice (.slice ssz) (.slice nl sz es rm) (some l) none none = some (.slice nl sz (es.drop l.toNat) (if l = 0 then rm else if rm = .full then .full else .unk)) := by
  have he : sz = ssz ∨ es.isEmpty = true := by rcases hs with h | h; exact .inl h; exact .inr (by rw [List.length_eq_zero_iff.1 h]; rfl)
  rw [aSlice_slice, if_pos (by refine ⟨?_, ?_, ?_, he⟩ <;> (try simp only [Option.getD_none, Option.getD_some]) <;> omega)]; simp
theorem sl_some_some (ssz : Nat) (nl : Bool) (sz : Nat) (es : List AV) (rm : Room) (l : Int) (u : Int) (h0 : 0 ≤ l) (h1 : l ≤ u) (h2 : u ≤ es.length) (hs : sz = ssz ∨ es.length = 0) : aSlice (.slice ssz) (.slice nl sz es rm) (some l) (some u) none = some (.slice nl sz ((es.take u.toNat).drop l.toNat) (if u = es.length then (if l = 0 then rm else if rm = .full then .full else .unk) else .unk)) := by
  have he : sz = ssz ∨ es.isEmpty = true := by rcases hs with h | h; exact .inl h; exact .inr (by rw [List.length_eq_zero_iff.1 h]; rfl)
  rw [aSlice_slice, if_pos (by refine ⟨?_, ?_, ?_, he⟩ <;> (try simp only [Option.getD_none, Option.getD_some]) <;> omega)]; simp
theorem sl_some_max (ssz : Nat) (nl : Bool) (sz : Nat) (es : List AV) (rm : Room) (l : Int) (u : Int) (m : Int) (h0 : 0 ≤ l) (h1 : l ≤ u) (h2 : u ≤ m) (h3 : m ≤ es.length) (hs : sz = ssz ∨ es.length = 0) : aSlice (.slice ssz) (.slice nl sz es rm) (some l) (some u) (some m) = some (.slice nl sz ((es.take u.toNat).drop l.toNat) (if m = u then .full else .unk)) := by
  have he : sz = ssz ∨ es.isEmpty = true := by rcases hs with h | h; exact .inl h; exact .inr (by rw [List.length_eq_zero_iff.1 h]; rfl)
  rw [aSlice_slice3, if_pos (by refine ⟨?_, ?_, ?_, ?_, he⟩ <;> (try simp only [Option.getD_none, Option.getD_some]) <;> omega)]; simp
theorem sls_none_none (s : List UInt8)  : aSlice .str (.str (bs s)) none none none = some (.str (bs s)) := by
  rw [aSlice_str, bs_size, if_pos (by refine ⟨?_, ?_, ?_⟩ <;> (try simp only [Option.getD_none, Option.getD_some]) <;> omega), bs_extract]; simp
theorem sls_none_some (s : List UInt8) (u : Int) (h1 : 0 ≤ u) (h2 : u ≤ s.length)  : aSlice .str (.str (bs s)) none (some u) none = some (.str (bs (s.take u.toNat))) := by
  rw [aSlice_str, bs_size, if_pos (by refine ⟨?_, ?_, ?_⟩ <;> (try simp only [Option.getD_none, Option.getD_some]) <;> omega), bs_extract]; simp
theorem sls_some_none (s : List UInt8) (l : Int) (h0 : 0 ≤ l) (h1 : l ≤ (s.length : Int))  : aSlice .str (.str (bs s)) (some l) none none = some (.str (bs (s.drop l.toNat))) := by
  rw [aSlice_str, bs_size, if_pos (by refine ⟨?_, ?_, ?_⟩ <;> (try simp only [Option.getD_none, Option.getD_some]) <;> omega), bs_extract]; simp
theorem sls_some_some (s : List UInt8) (l : Int) (u : Int) (h0 : 0 ≤ l) (h1 : l ≤ u) (h2 : u ≤ s.length)  : aSlice .str (.str (bs s)) (some l) (some u) none = some (.str (bs ((s.take u.toNat).drop l.toNat))) := by
  rw [aSlice_str, bs_size, if_pos (by refine ⟨?_, ?_, ?_⟩ <;> (try simp only [Option.getD_none, Option.getD_some]) <;> omega), bs_extract]; simp
attribute [go_sem] sl_none_none sl_none_some sl_none_max sl_some_none sl_some_some sl_some_max sls_none_none sls_none_some sls_some_none sls_some_some
theorem take_map' {α β : Type} (f : α → β) (l : List α) (i : Nat) : (l.map f).take i = (l.take i).map f := List.map_take.symm
theorem drop_map' {α β : Type} (f : α → β) (l : List α) (i : Nat) : (l.map f).drop i = (l.drop i).map f := List.map_drop.symm
attribute [go_sem] take_map' drop_map'
theorem drop_cons {α : Type} {l : List α} {i : Nat} {x : α} {r : List α} (h : l.drop i = x :: r) : i < l.length ∧ l[i]? = some x ∧ l.drop (i + 1) = r := by
  have hi : i < l.length := by
    rcases Nat.lt_or_ge i l.length with q | q
    · exact q
    · rw [List.drop_of_length_le q] at h; cases h
  rw [List.drop_eq_getElem_cons hi] at h
  simp only [List.cons.injEq] at h
  exact ⟨hi, by rw [List.getElem?_eq_getElem hi, h.1], h.2⟩
theorem drop_nil {α : Type} {l : List α} {i : Nat} (h : l.drop i = []) : l.length ≤ i := List.drop_eq_nil_iff.1 h
theorem bits_and (x : Int) (m : Nat) (hm : m < 9223372036854775808) : ∃ k : Nat, bits2 .and .i64 x m = k ∧ k ≤ m := by
  have e : bits2 .and .i64 x m = IntKind.i64.wrap (((BitVec.ofInt 64 x).toNat &&& m : Nat) : Int) := by
    unfold bits2
    have : (BitVec.ofInt IntKind.i64.bits (m : Int)).toNat = m := by
      simp [IntKind.bits]; omega
    simp only [BitVec.toNat_and, this]; rfl
  have hle : (BitVec.ofInt 64 x).toNat &&& m ≤ m := Nat.and_le_right
  refine ⟨_, ?_, hle⟩
  rw [e, wrapI64] <;> omega
theorem bits_andU (x : Int) (m : Nat) (hm : m < 18446744073709551616) : ∃ k : Nat, bits2 .and .u64 x m = k ∧ k ≤ m := by
  have e : bits2 .and .u64 x m = IntKind.u64.wrap (((BitVec.ofInt 64 x).toNat &&& m : Nat) : Int) := by
    unfold bits2
    have : (BitVec.ofInt IntKind.u64.bits (m : Int)).toNat = m := by
      simp [IntKind.bits]; omega
    simp only [BitVec.toNat_and, this]; rfl
  have hle : (BitVec.ofInt 64 x).toNat &&& m ≤ m := Nat.and_le_right
  refine ⟨_, ?_, hle⟩
  rw [e, wrapU64] <;> omega
/-- a row that a call has begun at nil, and adds to -/
def ownS (ssz : Nat) (es : List AV) : AV := match es with | [] => .slice true 0 [] .full | x :: r => .slice false ssz (x :: r) (.own 0)
def ownT (es : List AV) : List Nat := match es with | [] => [] | x :: r => [(x :: r).length]
theorem append_own (ssz bytes : Nat) (B : List (Option Blk)) (es : List AV) (x : AV) (h0 : ssz ≠ 0) (h1 : (es.length + 1) * bytes ≤ 70368744177664) (h2 : es.length < 70368744177664) :
    aAppend ssz bytes ⟨B, ownT es⟩ (ownS ssz es) ssz [x] = some (ownS ssz (es ++ [x]), ⟨B, ownT (es ++ [x])⟩) := by
  cases es with
  | nil =>
    have h1' : bytes ≤ 70368744177664 := by simpa using h1
    simp [aAppend, ownS, ownT, h0, appendLimit, h1']
  | cons y r =>
    have h1' : (r.length + 1 + 1) * bytes ≤ 70368744177664 := by simpa using h1
    have h2' : r.length + 1 + 1 ≤ 70368744177664 := by simp at h2; omega
    simp [aAppend, ownS, ownT, h0, appendLimit, h1', h2']
theorem cells_ownS (ssz : Nat) (es : List AV) : (ownS ssz es).cells = [ownS ssz es] := by cases es <;> rfl
theorem scalar_ownS (ssz : Nat) (es : List AV) : (ownS ssz es).scalar = true := by cases es <;> rfl
theorem len_ownS (ssz : Nat) (es : List AV) : aLen (.slice ssz) (ownS ssz es) = some (.int .i64 es.length) := by cases es <;> rfl
theorem ownS_nil (ssz : Nat) : ownS ssz [] = .slice true 0 [] .full := rfl
def szB (n : Nat) (c : Bool) : Nat := if c then 0 else n
theorem strip_ownS (ssz : Nat) (es : List AV) : (ownS ssz es).strip = .slice es.isEmpty (szB ssz es.isEmpty) (stripAll es) (rmB es.isEmpty) := by
  cases es with
  | nil => simp [ownS, go_sem, szB]
  | cons x r => simp [ownS, go_sem, szB]
theorem rmB_strip (c : Bool) : (rmB c).strip = rmB c := by cases c <;> rfl
theorem refs_rmB (nb nt : Nat) (a : Bool) (b : Nat) (es : List AV) (c : Bool) : AV.refs nb nt (.slice a b es (rmB c)) = refsAll nb nt es := by
  cases c <;> simp [rmB, go_sem]
theorem szB_or {α : Type} (n : Nat) (l : List α) : szB n l.isEmpty = n ∨ l.length = 0 := by cases l <;> simp [szB]
theorem rmB_ite (c : Bool) : (if rmB c = Room.full then Room.full else Room.unk) = rmB c := by cases c <;> simp [rmB]
theorem rmB_true : rmB true = .full := rfl
attribute [go_sem] rmB_strip refs_rmB rmB_ite
theorem freeze_ownS (h : AH) (ssz : Nat) (es : List AV) : freeze h (ownS ssz es) = (ownS ssz es, h) := by cases es <;> rfl
theorem refs_ownS (nb nt ssz : Nat) (es : List AV) : (ownS ssz es).refs nb nt = ((es.isEmpty || decide (0 < nt)) && refsAll nb nt es) := by
  cases es with
  | nil => simp [ownS, go_sem]
  | cons x r => simp [ownS, go_sem]
theorem refs_ownS' (nb ssz : Nat) (es : List AV) : (ownS ssz es).refs nb (ownT es).length = refsAll nb (ownT es).length es := by
  cases es with
  | nil => simp [ownS, go_sem]
  | cons x r => simp [ownS, ownT, go_sem]
theorem ownT_nil : ownT [] = [] := rfl
theorem ownS_mk (ssz : Nat) (x : AV) (r : List AV) : ownS ssz (x :: r) = .slice false ssz (x :: r) (.own 0) := rfl
attribute [go_sem] append_own cells_ownS scalar_ownS len_ownS strip_ownS freeze_ownS refs_ownS'
attribute [go_sem] List.getElem?_cons_zero List.getElem?_cons_succ wrapU64 wrapI64 wrapU8 itePos iteNeg decPos decNeg minNat minNat' opsW_dec aPut_some aPut_none toNatMul toNatAdd toNatAdd1 toNatMulL toNatSub1
end Go.Abs
/- Arguments by their types. -/
namespace Go.Abs
section
variable {T : Tys} {n : Nat} {t e : TypeId} {as : List AV} {x : AV} {sz by' : Nat} {z : List AV} {eq : Bool}
theorem wf_i64 {m : Int} (h : (Lit.int .i64 m).wf = true) : -9223372036854775808 ≤ m ∧ m ≤ 9223372036854775807 := by
  simpa [Lit.wf, IntKind.min, IntKind.max, IntKind.signed, IntKind.bits] using h
theorem wf_u64 {m : Int} (h : (Lit.int .u64 m).wf = true) : 0 ≤ m ∧ m ≤ 18446744073709551615 := by
  simpa [Lit.wf, IntKind.min, IntKind.max, IntKind.signed, IntKind.bits] using h
theorem wf_u8 {m : Int} (h : (Lit.int .u8 m).wf = true) : 0 ≤ m ∧ m ≤ 255 := by
  simpa [Lit.wf, IntKind.min, IntKind.max, IntKind.signed, IntKind.bits] using h
theorem sh_i64 (ht : T t = some ⟨.int .i64, sz, by', z, eq⟩) (h : Sh T n t as) : ∃ m : Int, as = [.int .i64 m] ∧ -9223372036854775808 ≤ m ∧ m ≤ 9223372036854775807 := by
  cases n with
  | zero => exact h.elim
  | succ n =>
    simp only [Sh, ht] at h
    obtain ⟨m, h1, h2⟩ := h
    exact ⟨m, h1, wf_i64 h2⟩
theorem sh_u64 (ht : T t = some ⟨.int .u64, sz, by', z, eq⟩) (h : Sh T n t as) : ∃ m : Nat, as = [.int .u64 m] ∧ m < 18446744073709551616 := by
  cases n with
  | zero => exact h.elim
  | succ n =>
    simp only [Sh, ht] at h
    obtain ⟨m, h1, h2⟩ := h
    have := wf_u64 h2
    exact ⟨m.toNat, by rw [h1, Int.toNat_of_nonneg this.1], by omega⟩
theorem sh_u8 (ht : T t = some ⟨.int .u8, sz, by', z, eq⟩) (h : Sh T n t as) : ∃ m : UInt8, as = [.int .u8 m.toNat] := by
  cases n with
  | zero => exact h.elim
  | succ n =>
    simp only [Sh, ht] at h
    obtain ⟨m, h1, h2⟩ := h
    have := wf_u8 h2
    refine ⟨UInt8.ofNat m.toNat, ?_⟩
    have h4 : m.toNat < UInt8.size := by
      have h5 : m.toNat ≤ 255 := by omega
      exact Nat.lt_of_le_of_lt h5 (by decide)
    have h3 : (UInt8.ofNat m.toNat).toNat = m.toNat := UInt8.toNat_ofNat_of_lt' h4
    rw [h1, h3, Int.toNat_of_nonneg this.1]
theorem sh_bool (ht : T t = some ⟨.bool, sz, by', z, eq⟩) (h : Sh T n t as) : ∃ b, as = [.bool b] := by
  cases n with
  | zero => exact h.elim
  | succ n => simp only [Sh, ht] at h; exact h
theorem sh_str (ht : T t = some ⟨.string, sz, by', z, eq⟩) (h : Sh T n t as) : ∃ l, as = [.str (bs l)] := by
  cases n with
  | zero => exact h.elim
  | succ n =>
    simp only [Sh, ht] at h
    obtain ⟨s, hs⟩ := h
    exact ⟨s.data.toList, by rw [hs, ← bs_of]⟩
theorem sh_struct {fs : List (TypeId × Nat × Bool)} (ht : T t = some ⟨.struct fs, sz, by', z, eq⟩) (h : Sh T (n + 1) t as) : ShF (Sh T n) fs as := by
  simp only [Sh, ht] at h; exact h
theorem sh_array {k : Nat} (ht : T t = some ⟨.array k e, sz, by', z, eq⟩) (h : Sh T (n + 1) t as) : ShN (Sh T n e) k as := by
  simp only [Sh, ht] at h; exact h
theorem sh_slice {ei : TI} (ht : T t = some ⟨.slice e, sz, by', z, eq⟩) (he : T e = some ei) (h : Sh T (n + 1) t as) :
    ∃ nl es, as = [.slice nl ei.size es .unk] ∧ (nl = true → es = []) ∧ ∀ x ∈ es, ShE ei.agg (Sh T n e) x := by
  simp only [Sh, ht, he] at h; exact h
theorem she_one {p : List AV → Prop} (h : ShE false p x) : p [x] := by
  unfold ShE at h; exact (by simpa using h : _ ∧ _).2
theorem she_agg {p : List AV → Prop} (h : ShE true p x) : ∃ cs, x = .agg cs ∧ p cs := by
  unfold ShE at h; simpa using h
/-- a list whose elements are all such -/
theorem list_of {α : Type} {f : α → AV} {q : α → Prop} : ∀ {es : List AV}, (∀ x ∈ es, ∃ a, x = f a ∧ q a) → ∃ l : List α, es = l.map f ∧ ∀ a ∈ l, q a := by
  intro es
  induction es with
  | nil => intro _; exact ⟨[], rfl, fun a h => by cases h⟩
  | cons x es ih =>
    intro h
    obtain ⟨a, h1, h2⟩ := h x (List.mem_cons_self ..)
    obtain ⟨l, h3, h4⟩ := ih fun y hy => h y (List.mem_cons_of_mem _ hy)
    exact ⟨a :: l, by rw [List.map_cons, h1, h3], fun b hb => by
      rcases List.mem_cons.1 hb with rfl | hb
      · exact h2
      · exact h4 b hb⟩
theorem shl_cons {ts : List TypeId} {xs : List AV} (h : ShL T n (t :: ts) xs) : ∃ x r, xs = x :: r ∧ ShE (aggOf T t) (Sh T n t) x ∧ ShL T n ts r := h
theorem shl_nil {xs : List AV} (h : ShL T n [] xs) : xs = [] := h
theorem bulk_map {α : Type} {f : α → AV} (hf : ∀ a, 1 ≤ (f a).bulk) (l : List α) : l.length ≤ bulkL (l.map f) := by
  induction l with
  | nil => simp
  | cons x l ih =>
    have := hf x
    simp only [List.length_cons, List.map_cons, bulkL]; omega
theorem bulk_str (l : List UInt8) : (AV.str (bs l)).bulk = l.length + 1 := by simp only [AV.bulk]; rw [bs_size]
theorem bulk_slice (nl : Bool) (k : Nat) (es : List AV) (rm : Room) : (AV.slice nl k es rm).bulk = bulkL es + 1 := by simp only [AV.bulk]
end
end Go.Abs
/- Regions that draw their order, with pairs to be asked. -/
namespace Go.Abs
def consTK (s : St) : Option (List St × St) → Option (List St × St)
  | some q => some (s :: q.1, q.2)
  | none => none
noncomputable def opsTK (C : Cfg) (base : Nat) (dst : Option Nat) (r : List (IOper × Option Nat)) (l : List (Nat × AV)) : Option (AV × AH) → Option (List St × St)
  | some (v, h) => opsT C base r ⟨aPut dst v (ofList l), h⟩
  | none => none
theorem opsT_op (C : Cfg) (base : Nat) (dst : Option Nat) (op : IOp) (a : Option Nat) (r : List (IOper × Option Nat)) (l : List (Nat × AV)) (h : AH) :
    opsT C base ((⟨dst, op, none⟩, a) :: r) ⟨ofList l, h⟩ = consTK ⟨ofList l, h⟩ (opsTK C base dst r l (aOper C (call C) (ofList l) h (a.map (base + ·)) op)) := by
  rw [opsT_cons]
  simp only [aStep, aWanted, ob_some, if_true]
  cases aOper C (call C) (ofList l) h (a.map (base + ·)) op with
  | none => rfl
  | some p =>
    obtain ⟨v, h'⟩ := p
    simp only [ob_some, opsTK]
    cases opsT C base r ⟨aPut dst v (ofList l), h'⟩ <;> rfl
noncomputable def opsTW (C : Cfg) (base : Nat) (dst : Option Nat) (op : IOp) (a : Option Nat) (r : List (IOper × Option Nat)) (l : List (Nat × AV)) (h : AH) : Option Bool → Option (List St × St)
  | some true => opsTK C base dst r l (aOper C (call C) (ofList l) h (a.map (base + ·)) op)
  | some false => opsT C base r ⟨aPut dst AV.undef (ofList l), h⟩
  | none => none
theorem opsT_opg (C : Cfg) (base : Nat) (dst : Option Nat) (op : IOp) (d : Nat) (want : Bool) (a : Option Nat) (r : List (IOper × Option Nat)) (l : List (Nat × AV)) (h : AH) :
    opsT C base ((⟨dst, op, some (d, want)⟩, a) :: r) ⟨ofList l, h⟩ = consTK ⟨ofList l, h⟩ (opsTW C base dst op a r l h (aWanted (some (d, want)) (ofList l))) := by
  rw [opsT_cons]
  simp only [aStep]
  cases aWanted (some (d, want)) (ofList l) with
  | none => rfl
  | some b =>
    cases b
    · simp only [ob_some, opsTW]
      show ob (opsT C base r ⟨aPut dst AV.undef (ofList l), h⟩) _ = _
      cases opsT C base r ⟨aPut dst AV.undef (ofList l), h⟩ <;> rfl
    · simp only [ob_some, if_true, opsTW]
      cases aOper C (call C) (ofList l) h (a.map (base + ·)) op with
      | none => rfl
      | some p =>
        obtain ⟨v, h'⟩ := p
        simp only [ob_some, opsTK]
        cases opsT C base r ⟨aPut dst v (ofList l), h'⟩ <;> rfl
theorem opsTW_dec (C : Cfg) (base : Nat) (dst : Option Nat) (op : IOp) (a : Option Nat) (r : List (IOper × Option Nat)) (l : List (Nat × AV)) (h : AH) (b : Bool) :
    opsTW C base dst op a r l h (some b) = if b = true then opsTK C base dst r l (aOper C (call C) (ofList l) h (a.map (base + ·)) op) else opsT C base r ⟨aPut dst AV.undef (ofList l), h⟩ := by cases b <;> rfl
theorem opsTK_some (C : Cfg) (base d : Nat) (r : List (IOper × Option Nat)) (l : List (Nat × AV)) (v : AV) (h : AH) : opsTK C base (some d) r l (some (v, h)) = opsT C base r ⟨ofList ((d, v) :: l), h⟩ := rfl
theorem opsTK_put (C : Cfg) (base : Nat) (r : List (IOper × Option Nat)) (l : List (Nat × AV)) (v : AV) (h : AH) : opsTK C base none r l (some (v, h)) = opsT C base r ⟨ofList l, h⟩ := rfl
theorem opsTK_ite (C : Cfg) (base : Nat) (d : Option Nat) (r : List (IOper × Option Nat)) (l : List (Nat × AV)) (c : Prop) [Decidable c] (x y : Option (AV × AH)) :
    opsTK C base d r l (if c then x else y) = if c then opsTK C base d r l x else opsTK C base d r l y := by split <;> rfl
theorem consTK_some (s : St) (q : List St × St) : consTK s (some q) = some (s :: q.1, q.2) := rfl
theorem consTK_ite (s : St) (c : Prop) [Decidable c] (x y : Option (List St × St)) : consTK s (if c then x else y) = if c then consTK s x else consTK s y := by split <;> rfl
noncomputable def regdK (base : Nat) (l : List (IOper × Option Nat)) (ps : List (Nat × Nat)) (ks : List Nat) (pop : Bool) : Option (List St × St) → Option (AExit × St)
  | some q => checked (PairsOk l (q.1 ++ [q.2]) ps) (some (.normal, settle base ks pop q.2))
  | none => none
theorem run_regd' (C : Cfg) (base : Nat) (zs : List (List AV)) (l : List (IOper × Option Nat)) (p : Nat × Nat) (ps : List (Nat × Nat)) (ks : List Nat) (pop : Bool) (s : St) :
    run C base (.regd zs l (p :: ps) ks pop) s = regdK base l (p :: ps) ks pop (opsT C s.h.blocks.length l ⟨s.σ, pushZ s.h zs⟩) := by
  rw [run_regd]
  cases opsT C s.h.blocks.length l ⟨s.σ, pushZ s.h zs⟩ <;> rfl
theorem regdK_some (base : Nat) (l : List (IOper × Option Nat)) (ps : List (Nat × Nat)) (ks : List Nat) (pop : Bool) (q : List St × St) :
    regdK base l ps ks pop (some q) = checked (PairsOk l (q.1 ++ [q.2]) ps) (some (.normal, settle base ks pop q.2)) := rfl
theorem regdK_ite (base : Nat) (l : List (IOper × Option Nat)) (ps : List (Nat × Nat)) (ks : List Nat) (pop : Bool) (c : Prop) [Decidable c] (x y : Option (List St × St)) :
    regdK base l ps ks pop (if c then x else y) = if c then regdK base l ps ks pop x else regdK base l ps ks pop y := by split <;> rfl
theorem checked_true {α : Type} (x : Option α) : checked True x = x := if_pos trivial
theorem pairs_nil (l : List (IOper × Option Nat)) (tr : List St) : PairsOk l tr [] = True := rfl
theorem pairs_cons (l : List (IOper × Option Nat)) (tr : List St) (p : Nat × Nat) (r : List (Nat × Nat)) : PairsOk l tr (p :: r) = (pairOk l tr p ∧ PairsOk l tr r) := rfl
def rdK (x y : AH) : Option Nat → Prop
  | some id => x.get id = y.get id
  | none => True
def pairK : Option (IOper × Option Nat) → Option St → Option St → Option St → Prop
  | some o, some s, some s1, some s2 => rdK s1.h s2.h (readId s.σ o.1.op)
  | _, _, _, _ => False
theorem pairOk_eq (l : List (IOper × Option Nat)) (tr : List St) (i j : Nat) : pairOk l tr (i, j) = pairK l[i]? tr[i]? tr[j]? tr[j + 1]? := by
  unfold pairOk pairK rdK
  dsimp only
  cases l[i]? <;> cases tr[i]? <;> cases tr[j]? <;> cases tr[j + 1]? <;> rfl
theorem pairK_some (o : IOper × Option Nat) (s s1 s2 : St) : pairK (some o) (some s) (some s1) (some s2) = rdK s1.h s2.h (readId s.σ o.1.op) := rfl
theorem rdK_some (x y : AH) (id : Nat) : rdK x y (some id) = (x.get id = y.get id) := rfl
theorem rdK_none (x y : AH) : rdK x y none = True := rfl
def ridK : Option AV → Option Nat
  | some (.ptr id _) => some id
  | _ => none
def sidK : Option AV → Option Nat
  | some (.sref id _ _ _) => some id
  | _ => none
theorem readId_load (σ : Nat → Option AV) (sz : Nat) (agg : Bool) (a : Src) : readId σ (.load sz agg a) = ridK (src σ a) := by
  show ob (src σ a) _ = _
  cases src σ a with
  | none => rfl
  | some v => cases v <;> rfl
theorem readId_conv (σ : Nat → Option AV) (a : Src) : readId σ (.conv .ofBytes a) = sidK (src σ a) := by
  show ob (src σ a) _ = _
  cases src σ a with
  | none => rfl
  | some v => cases v <;> rfl
theorem ridK_ptr (id off : Nat) : ridK (some (.ptr id off)) = some id := rfl
theorem ridK_eptr (cs : List AV) : ridK (some (.eptr cs)) = none := rfl
theorem sidK_sref (a b c d : Nat) : sidK (some (.sref a b c d)) = some a := rfl
theorem sidK_slice (a : Bool) (b : Nat) (c : List AV) (d : Room) : sidK (some (.slice a b c d)) = none := rfl
theorem newBlk_some1 (h : AH) (id : Nat) (b : Blk) : (newBlk h (some id) b).1 = id := rfl
theorem newBlk_some2 (h : AH) (id : Nat) (b : Blk) : (newBlk h (some id) b).2 = h := rfl
theorem map_some' (f : Nat → Nat) (k : Nat) : (some k).map f = some (f k) := rfl
theorem map_none' (f : Nat → Nat) : (none : Option Nat).map f = none := rfl
attribute [go_sem] opsT_op opsT_opg opsTW_dec opsTK_some opsTK_put opsTK_ite consTK_some consTK_ite run_regd' regdK_some regdK_ite checked_true pairs_nil pairs_cons pairOk_eq pairK_some rdK_some rdK_none
  readId_load readId_conv ridK_ptr ridK_eptr sidK_sref sidK_slice newBlk_some1 newBlk_some2 map_some' map_none' opsT_nil
end Go.Abs
/- Rows that are begun at nil behind other tokens; blocks behind others. -/
namespace Go.Abs
def ownAt (t ssz : Nat) (es : List AV) : AV := match es with | [] => .slice true 0 [] .full | x :: r => .slice false ssz (x :: r) (.own t)
def tokAt (T : List Nat) (es : List AV) : List Nat := match es with | [] => T | x :: r => T ++ [(x :: r).length]
theorem append_at (ssz bytes : Nat) (B : List (Option Blk)) (T : List Nat) (es : List AV) (x : AV) (h0 : ssz ≠ 0) (h1 : (es.length + 1) * bytes ≤ 70368744177664) (h2 : es.length < 70368744177664) :
    aAppend ssz bytes ⟨B, tokAt T es⟩ (ownAt T.length ssz es) ssz [x] = some (ownAt T.length ssz (es ++ [x]), ⟨B, tokAt T (es ++ [x])⟩) := by
  cases es with
  | nil =>
    have h1' : bytes ≤ 70368744177664 := by simpa using h1
    simp [aAppend, ownAt, tokAt, h0, appendLimit, h1']
  | cons y r =>
    have h1' : (r.length + 1 + 1) * bytes ≤ 70368744177664 := by simpa using h1
    have h2' : r.length + 1 + 1 ≤ 70368744177664 := by simp at h2; omega
    simp [aAppend, ownAt, tokAt, h0, appendLimit, h1', h2']
theorem cells_ownAt (t ssz : Nat) (es : List AV) : (ownAt t ssz es).cells = [ownAt t ssz es] := by cases es <;> rfl
theorem scalar_ownAt (t ssz : Nat) (es : List AV) : (ownAt t ssz es).scalar = true := by cases es <;> rfl
theorem len_ownAt (t ssz : Nat) (es : List AV) : aLen (.slice ssz) (ownAt t ssz es) = some (.int .i64 es.length) := by cases es <;> rfl
theorem strip_ownAt (t ssz : Nat) (es : List AV) : (ownAt t ssz es).strip = .slice es.isEmpty (szB ssz es.isEmpty) (stripAll es) (rmB es.isEmpty) := by
  cases es with
  | nil => simp [ownAt, go_sem, szB]
  | cons x r => simp [ownAt, go_sem, szB]
theorem freeze_ownAt (h : AH) (t ssz : Nat) (es : List AV) : freeze h (ownAt t ssz es) = (ownAt t ssz es, h) := by cases es <;> rfl
theorem ownAt_nil (t ssz : Nat) : ownAt t ssz [] = .slice true 0 [] .full := rfl
theorem tokAt_nil (T : List Nat) : tokAt T [] = T := rfl
theorem iaddr_ownAt (t ssz : Nat) (es : List AV) (i : Int) (h0 : 0 ≤ i) (h1 : i < es.length) : aIndexAddr (.slice ssz) (ownAt t ssz es) i = ob (es[i.toNat]?) fun v => some (.eptr v.cells) := by
  cases es with
  | nil => simp at h1; omega
  | cons x r => simp only [ownAt]; rw [aIndexAddr_slice, if_pos ⟨h0, h1, rfl⟩]
theorem get_app0 (g l : List (Option Blk)) (t : List Nat) : AH.get ⟨g ++ l, t⟩ g.length = AH.get ⟨l, t⟩ 0 := by
  simp only [AH.get]; rw [List.getElem?_append_right (Nat.le_refl _), Nat.sub_self]
theorem get_app (g l : List (Option Blk)) (t : List Nat) (k : Nat) : AH.get ⟨g ++ l, t⟩ (g.length + k) = AH.get ⟨l, t⟩ k := by
  simp only [AH.get]; rw [List.getElem?_append_right (by omega), Nat.add_sub_cancel_left]
theorem set_app0 (g l : List (Option Blk)) (x : Option Blk) : (g ++ l).set g.length x = g ++ l.set 0 x := by simp
theorem set_app (g l : List (Option Blk)) (x : Option Blk) (k : Nat) : (g ++ l).set (g.length + k) x = g ++ l.set k x := by
  rw [List.set_append_right _ _ (by omega)]; simp
attribute [go_sem] append_at cells_ownAt scalar_ownAt len_ownAt strip_ownAt freeze_ownAt iaddr_ownAt get_app0 get_app set_app0 set_app
end Go.Abs
