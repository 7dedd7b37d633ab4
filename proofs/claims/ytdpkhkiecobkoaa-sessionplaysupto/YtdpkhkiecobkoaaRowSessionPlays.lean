/-
  SessionPlays: whatever the arguments, as long as they are together of bulk at most 1048576, the law answers true and leaves its arguments as they were.
-/
import Derived.Test.YtdpkhkiecobkoaaRows
import Derived.Test.YtdpkhkiecobkoaaLib3
import Derived.Test.YtdpkhkiecobkoaaGG
import Derived.Test.YtdpkhkiecobkoaaMSessionPlays
set_option linter.all false
set_option maxRecDepth 100000
set_option linter.unusedVariables false
namespace Go.Proofs.Ytdpkhkiecobkoaa.sessionPlays
open Go.ChangeShapes Go.WideShapes Go.ChangeAt Go.RowKit Go.Abs
theorem bulkOk {H : Type} : BulkOk (H := H) Rows.uptoBulk Rows.uptoBulkAll := {
  nil := by simp [Rows.uptoBulkAll]
  cons := fun d r => by simp [Rows.uptoBulkAll]
  str := fun b => by simp [Rows.uptoBulk]
  one := fun d => by
    cases d with
    | lit l => cases l <;> simp [Rows.uptoBulk]
    | nil => simp [Rows.uptoBulk]
    | ptr d => simp [Rows.uptoBulk]
    | slice elems spare => simp [Rows.uptoBulk]
    | agg parts => simp [Rows.uptoBulk]
    | iface t d => simp [Rows.uptoBulk]
    | map entries => simp [Rows.uptoBulk]
    | held h => simp [Rows.uptoBulk]
  slice := fun es sp => by simp only [Rows.uptoBulk]; omega
  agg := fun ps => by simp [Rows.uptoBulk] }
theorem own : ownKnob Try.prog.godebug = none := by kernel_rfl
theorem laidOut : laidOutB Try.prog = true := by kernel_rfl
theorem contract (H : Type) (enc : TypeId × Value → H) (W : World) (base : Nat) (args : Array Value) (ds gs : List (DataW H)) (before : List MemPlace)
    (hval : ∀ (j : Nat) t v, Try.f3.params[j]? = some t → args[j]? = some v → Value.okWide Try.prog W .any base t v)
    (hW : DataW.Whole enc Try.prog Try.f3.params.toList Rows.sessionPlaysSpec.vars false W args.toList ds gs before) (hk : Rows.uptoSmall H (ds ++ gs) = true) :
    Calls Try.prog 3 args W fun e W' => ∃ v, e = .returned v ∧ Rows.sessionPlaysSpec.post enc Try.prog Try.f3 false true false false W args v W' := by
  have hk2 : Rows.uptoBulkAll ds ≤ 1048576 := by
    have h1 : Rows.uptoBulkAll (ds ++ gs) ≤ 1048576 := of_decide_eq_true hk
    have h2 : ∀ l r : List (DataW H), Rows.uptoBulkAll l ≤ Rows.uptoBulkAll (l ++ r) := by
      intro l r
      induction l with
      | nil => simp [Rows.uptoBulkAll]
      | cons x l ih => simp only [List.cons_append, Rows.uptoBulkAll]; omega
    exact Nat.le_trans (h2 ds gs) h1
  refine law_contract bulkOk Abs.cfgOk laidOut 8 (tb := 4) [22, 23, 9] (by kernel_rfl) (by kernel_rfl) Try.underlying4 (by kernel_rfl) 1048576 Abs.SessionPlays_main Rows.sessionPlaysSpec rfl (fun ds h => ?_) W base args ds gs before hval hW hk2
  match ds, h with
    | [d0, d1, d2], _ => rfl
theorem lifted (os : Os) (started : os.Started) (H : Type) (enc : TypeId × Value → H) (F : Stop.Interp) :
    ReturnsInHanded {} Try.checked os 3 .any ((Rows.OpenSpec.upto Rows.sessionPlaysSpec).pre6 enc Try.prog Try.f3 Rows.sessionPlaysUptoRow.domain false) (((Rows.OpenSpec.upto Rows.sessionPlaysSpec).at F).post enc Try.prog Try.f3 false true false false) := by
  refine returnsInHanded_of_cond (C := Try.checked) (s := Rows.OpenSpec.upto Rows.sessionPlaysSpec) (k := Rows.uptoSmall) rfl own started (by kernel_rfl) Try.func3
    (OpenSpec.witness (enc := enc) (C := Try.checked) (s := Rows.OpenSpec.upto Rows.sessionPlaysSpec) (k := Rows.uptoSmall) rfl false ⟨#[], #[.slice none 0 0, .slice none 0 0, .string ByteArray.empty], []⟩ 8 (by kernel_rfl) (by kernel_rfl) (by kernel_rfl)
      (x := ([.nil, .nil, .lit (.string [])], [], [])) (by kernel_rfl) rfl (by kernel_rfl)) ?_
  intro W base args ds gs before hval hW _ hk _
  exact contract H enc W base args ds gs before hval hW hk
theorem over : Rows.sessionPlaysUptoRow.holds Try.pinned (Rows.OpenSpec.upto Rows.sessionPlaysSpec) :=
  OpenClaim.holds_of_cond 3 Try.f3 rfl rfl rfl rfl rfl rfl rfl ⟨rfl, rfl, rfl, rfl, rfl⟩ rfl rfl rfl rfl rfl (by kernel_rfl) Try.func3 (by kernel_rfl)
    (of_decide_eq_true (by kernel_rfl)) (by unfold Func.isWrapper; first | (rw [if_pos (by decide +kernel)]; kernel_rfl) | (rw [if_neg (by decide +kernel)]; exact ⟨rfl, rfl⟩))
    (fun os started H enc _ F => lifted os started H enc F)
end Go.Proofs.Ytdpkhkiecobkoaa.sessionPlays
namespace Go.Proofs.Ytdpkhkiecobkoaa
/-- The statement, under a short name. -/
theorem sessionPlays_holds : Rows.SessionPlaysUptoSaid := sessionPlays.over
end Go.Proofs.Ytdpkhkiecobkoaa
