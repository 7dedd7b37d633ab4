/-
  No cell of these rows narrows 'for every input' (looked for: loops, veiled, ifaces, maps, wideKeys, modest, calm, conditions, laid).
  DERIVED. THE GIVEN ROWS OF THIS SEAT. 6 by the template 'for every input the law returns true; each argument reads behind the call as it read before'; 0 by the template 'total and deterministic' (their statements: YtghljcgkeeodaaaTotals.lean).
  GIVEN WITH THE SEED: the statements are not yours to turn. If you find one false, say at which input.
  Laid BY PROGRAM, IN A SANDBOX (cutbox-rows.mjs): the forced cells as the released guide's own fill.sh prints them over the translation a3c98df9c1a33967… (all of the seat's roots in one cut). By AI agents, Wed Nov 11 2026. No macro, syntax, notation, axiom, sorry.
-/
import Derived.Test.YtghljcgkeeodaaaChecked
import GoSem.Claim
import GoSem.ClaimJoined
import GoSem.ClaimMapViews
import Derived.JoinedTies
import Derived.KernelRfl
namespace Go.Proofs.Ytghljcgkeeodaaa
/- THE CELL 'sum', in the pinned program and in every row, IS THE sha256 OF THE DUMP (.gsa) THAT YtghljcgkeeodaaaProg.lean LOADS. Nothing in Lean hashes anything: it is a label: what it is worth is what the hold of that sum in a sandbox is worth. -/
noncomputable def Try.pinned : Pinned := { name := "ytghljcgkeeodaaa", sum := "a3c98df9c1a3396709f21aac252a21793da750c0b0dfcb5ff5a74cc6adfbfa0b", checked := Try.checked }
namespace Rows
def none {H : Type} : Left H := { results := [], args := [] }

/-- 'venduelaw07.RlogPuts': WHATEVER THE INPUT: true; the input reads as it did. -/
def rlogPutsSpec : ChangeSpec := { name := "rlogPuts", fn := fun _ => fun
  | [d1, d2, d3] => { results := [.lit (.bool true)], args := [d1, d2, d3] }
  | _ => none }
def rlogPutsRow : OpenClaim := { program := "ytghljcgkeeodaaa", sum := "a3c98df9c1a3396709f21aac252a21793da750c0b0dfcb5ff5a74cc6adfbfa0b", func := "vendue/venduelaw07.RlogPuts", spec := "rlogPuts", unfollowed := true, recurses := true, apart := false }
def RlogPutsSaid : Prop := rlogPutsRow.holds Try.pinned (OpenSpec.ofChange rlogPutsSpec)

/-- ITS FALSE NEIGHBOUR: 'it returns false'. Refute it at one input. -/
def rlogPutsWrong : ChangeSpec := { name := "rlogPuts", fn := fun _ => fun
  | [d1, d2, d3] => { results := [.lit (.bool false)], args := [d1, d2, d3] }
  | _ => none }
def RlogPutsWrongFalsely : Prop := rlogPutsRow.holds Try.pinned (OpenSpec.ofChange rlogPutsWrong)

/-- 'venduelaw07.RlogAgrees': WHATEVER THE INPUT: true; the input reads as it did. -/
def rlogAgreesSpec : ChangeSpec := { name := "rlogAgrees", fn := fun _ => fun
  | [d1, d2] => { results := [.lit (.bool true)], args := [d1, d2] }
  | _ => none }
def rlogAgreesRow : OpenClaim := { program := "ytghljcgkeeodaaa", sum := "a3c98df9c1a3396709f21aac252a21793da750c0b0dfcb5ff5a74cc6adfbfa0b", func := "vendue/venduelaw07.RlogAgrees", spec := "rlogAgrees", unfollowed := true, recurses := true, apart := false }
def RlogAgreesSaid : Prop := rlogAgreesRow.holds Try.pinned (OpenSpec.ofChange rlogAgreesSpec)

/-- ITS FALSE NEIGHBOUR: 'it returns false'. Refute it at one input. -/
def rlogAgreesWrong : ChangeSpec := { name := "rlogAgrees", fn := fun _ => fun
  | [d1, d2] => { results := [.lit (.bool false)], args := [d1, d2] }
  | _ => none }
def RlogAgreesWrongFalsely : Prop := rlogAgreesRow.holds Try.pinned (OpenSpec.ofChange rlogAgreesWrong)

/-- 'venduelaw07.RlogNewer': WHATEVER THE INPUT: true; the input reads as it did. -/
def rlogNewerSpec : ChangeSpec := { name := "rlogNewer", fn := fun _ => fun
  | [d1, d2, d3] => { results := [.lit (.bool true)], args := [d1, d2, d3] }
  | _ => none }
def rlogNewerRow : OpenClaim := { program := "ytghljcgkeeodaaa", sum := "a3c98df9c1a3396709f21aac252a21793da750c0b0dfcb5ff5a74cc6adfbfa0b", func := "vendue/venduelaw07.RlogNewer", spec := "rlogNewer", unfollowed := true, recurses := true, apart := false }
def RlogNewerSaid : Prop := rlogNewerRow.holds Try.pinned (OpenSpec.ofChange rlogNewerSpec)

/-- ITS FALSE NEIGHBOUR: 'it returns false'. Refute it at one input. -/
def rlogNewerWrong : ChangeSpec := { name := "rlogNewer", fn := fun _ => fun
  | [d1, d2, d3] => { results := [.lit (.bool false)], args := [d1, d2, d3] }
  | _ => none }
def RlogNewerWrongFalsely : Prop := rlogNewerRow.holds Try.pinned (OpenSpec.ofChange rlogNewerWrong)

/-- 'venduelaw07.RlogCuts': WHATEVER THE INPUT: true; the input reads as it did. -/
def rlogCutsSpec : ChangeSpec := { name := "rlogCuts", fn := fun _ => fun
  | [d1, d2, d3] => { results := [.lit (.bool true)], args := [d1, d2, d3] }
  | _ => none }
def rlogCutsRow : OpenClaim := { program := "ytghljcgkeeodaaa", sum := "a3c98df9c1a3396709f21aac252a21793da750c0b0dfcb5ff5a74cc6adfbfa0b", func := "vendue/venduelaw07.RlogCuts", spec := "rlogCuts", unfollowed := true, recurses := true, apart := false }
def RlogCutsSaid : Prop := rlogCutsRow.holds Try.pinned (OpenSpec.ofChange rlogCutsSpec)

/-- ITS FALSE NEIGHBOUR: 'it returns false'. Refute it at one input. -/
def rlogCutsWrong : ChangeSpec := { name := "rlogCuts", fn := fun _ => fun
  | [d1, d2, d3] => { results := [.lit (.bool false)], args := [d1, d2, d3] }
  | _ => none }
def RlogCutsWrongFalsely : Prop := rlogCutsRow.holds Try.pinned (OpenSpec.ofChange rlogCutsWrong)

/-- 'venduelaw07.RlogAdds': WHATEVER THE INPUT: true; the input reads as it did. -/
def rlogAddsSpec : ChangeSpec := { name := "rlogAdds", fn := fun _ => fun
  | [d1, d2, d3] => { results := [.lit (.bool true)], args := [d1, d2, d3] }
  | _ => none }
def rlogAddsRow : OpenClaim := { program := "ytghljcgkeeodaaa", sum := "a3c98df9c1a3396709f21aac252a21793da750c0b0dfcb5ff5a74cc6adfbfa0b", func := "vendue/venduelaw07.RlogAdds", spec := "rlogAdds", unfollowed := true, recurses := true, apart := false }
def RlogAddsSaid : Prop := rlogAddsRow.holds Try.pinned (OpenSpec.ofChange rlogAddsSpec)

/-- ITS FALSE NEIGHBOUR: 'it returns false'. Refute it at one input. -/
def rlogAddsWrong : ChangeSpec := { name := "rlogAdds", fn := fun _ => fun
  | [d1, d2, d3] => { results := [.lit (.bool false)], args := [d1, d2, d3] }
  | _ => none }
def RlogAddsWrongFalsely : Prop := rlogAddsRow.holds Try.pinned (OpenSpec.ofChange rlogAddsWrong)

/-- 'venduelaw07.RlogTells': WHATEVER THE INPUT: true; the input reads as it did. -/
def rlogTellsSpec : ChangeSpec := { name := "rlogTells", fn := fun _ => fun
  | [d1, d2, d3] => { results := [.lit (.bool true)], args := [d1, d2, d3] }
  | _ => none }
def rlogTellsRow : OpenClaim := { program := "ytghljcgkeeodaaa", sum := "a3c98df9c1a3396709f21aac252a21793da750c0b0dfcb5ff5a74cc6adfbfa0b", func := "vendue/venduelaw07.RlogTells", spec := "rlogTells", unfollowed := true, recurses := true, apart := false }
def RlogTellsSaid : Prop := rlogTellsRow.holds Try.pinned (OpenSpec.ofChange rlogTellsSpec)

/-- ITS FALSE NEIGHBOUR: 'it returns false'. Refute it at one input. -/
def rlogTellsWrong : ChangeSpec := { name := "rlogTells", fn := fun _ => fun
  | [d1, d2, d3] => { results := [.lit (.bool false)], args := [d1, d2, d3] }
  | _ => none }
def RlogTellsWrongFalsely : Prop := rlogTellsRow.holds Try.pinned (OpenSpec.ofChange rlogTellsWrong)

/- THE SECOND FORM. 'bulk': how many values and letters a reading holds, each counted each time it is reached (what is shared counts as often as it is met; a slice's spare places count too). A statement '..UptoSaid' is the law's where the arguments, and the package variables that the reading takes, are together of bulk at most 1048576: NARROWER than '..Said'. Prove '..Said' where nothing that the law and all that it calls make is longer than what came in: it says more and counts as full. Else prove '..UptoSaid'. A law counts once. -/
mutual
def uptoBulk {H : Type} : DataW H → Nat
  | .lit (.string bytes) => bytes.length + 1
  | .lit _ => 1
  | .nil => 1
  | .ptr d => uptoBulk d + 1
  | .slice elems spare => uptoBulkAll elems + uptoBulkAll spare + 1
  | .agg parts => uptoBulkAll parts + 1
  | .iface _ d => uptoBulk d + 1
  | .map entries => uptoBulkEntries entries + 1
  | .held _ => 1
def uptoBulkAll {H : Type} : List (DataW H) → Nat
  | [] => 0
  | d :: r => uptoBulk d + uptoBulkAll r
def uptoBulkEntries {H : Type} : List (Lit × DataW H) → Nat
  | [] => 0
  | x :: r => uptoBulkEntry x + uptoBulkEntries r
def uptoBulkEntry {H : Type} : Lit × DataW H → Nat
  | (.string bytes, d) => bytes.length + uptoBulk d + 1
  | (_, d) => uptoBulk d + 1
 end
def uptoSmall : (H : Type) → List (DataW H) → Bool := fun _ ds => decide (uptoBulkAll ds ≤ 1048576)
def OpenSpec.upto (s : _root_.Go.ChangeSpec) : _root_.Go.OpenSpec := { _root_.Go.OpenSpec.ofChange s with cond := some uptoSmall }

/-- 'venduelaw07.RlogPuts', WHERE WHAT IT READS IS OF BULK AT MOST 1048576: true; the input reads as it did. -/
def rlogPutsUptoRow : OpenClaim := { program := "ytghljcgkeeodaaa", sum := "a3c98df9c1a3396709f21aac252a21793da750c0b0dfcb5ff5a74cc6adfbfa0b", func := "vendue/venduelaw07.RlogPuts", spec := "rlogPuts", unfollowed := true, recurses := true, apart := false, narrowed := true }
def RlogPutsUptoSaid : Prop := rlogPutsUptoRow.holds Try.pinned (OpenSpec.upto rlogPutsSpec)

/-- 'venduelaw07.RlogAgrees', WHERE WHAT IT READS IS OF BULK AT MOST 1048576: true; the input reads as it did. -/
def rlogAgreesUptoRow : OpenClaim := { program := "ytghljcgkeeodaaa", sum := "a3c98df9c1a3396709f21aac252a21793da750c0b0dfcb5ff5a74cc6adfbfa0b", func := "vendue/venduelaw07.RlogAgrees", spec := "rlogAgrees", unfollowed := true, recurses := true, apart := false, narrowed := true }
def RlogAgreesUptoSaid : Prop := rlogAgreesUptoRow.holds Try.pinned (OpenSpec.upto rlogAgreesSpec)

/-- 'venduelaw07.RlogNewer', WHERE WHAT IT READS IS OF BULK AT MOST 1048576: true; the input reads as it did. -/
def rlogNewerUptoRow : OpenClaim := { program := "ytghljcgkeeodaaa", sum := "a3c98df9c1a3396709f21aac252a21793da750c0b0dfcb5ff5a74cc6adfbfa0b", func := "vendue/venduelaw07.RlogNewer", spec := "rlogNewer", unfollowed := true, recurses := true, apart := false, narrowed := true }
def RlogNewerUptoSaid : Prop := rlogNewerUptoRow.holds Try.pinned (OpenSpec.upto rlogNewerSpec)

/-- 'venduelaw07.RlogCuts', WHERE WHAT IT READS IS OF BULK AT MOST 1048576: true; the input reads as it did. -/
def rlogCutsUptoRow : OpenClaim := { program := "ytghljcgkeeodaaa", sum := "a3c98df9c1a3396709f21aac252a21793da750c0b0dfcb5ff5a74cc6adfbfa0b", func := "vendue/venduelaw07.RlogCuts", spec := "rlogCuts", unfollowed := true, recurses := true, apart := false, narrowed := true }
def RlogCutsUptoSaid : Prop := rlogCutsUptoRow.holds Try.pinned (OpenSpec.upto rlogCutsSpec)

/-- 'venduelaw07.RlogAdds', WHERE WHAT IT READS IS OF BULK AT MOST 1048576: true; the input reads as it did. -/
def rlogAddsUptoRow : OpenClaim := { program := "ytghljcgkeeodaaa", sum := "a3c98df9c1a3396709f21aac252a21793da750c0b0dfcb5ff5a74cc6adfbfa0b", func := "vendue/venduelaw07.RlogAdds", spec := "rlogAdds", unfollowed := true, recurses := true, apart := false, narrowed := true }
def RlogAddsUptoSaid : Prop := rlogAddsUptoRow.holds Try.pinned (OpenSpec.upto rlogAddsSpec)

/-- 'venduelaw07.RlogTells', WHERE WHAT IT READS IS OF BULK AT MOST 1048576: true; the input reads as it did. -/
def rlogTellsUptoRow : OpenClaim := { program := "ytghljcgkeeodaaa", sum := "a3c98df9c1a3396709f21aac252a21793da750c0b0dfcb5ff5a74cc6adfbfa0b", func := "vendue/venduelaw07.RlogTells", spec := "rlogTells", unfollowed := true, recurses := true, apart := false, narrowed := true }
def RlogTellsUptoSaid : Prop := rlogTellsUptoRow.holds Try.pinned (OpenSpec.upto rlogTellsSpec)

end Rows
end Go.Proofs.Ytghljcgkeeodaaa
