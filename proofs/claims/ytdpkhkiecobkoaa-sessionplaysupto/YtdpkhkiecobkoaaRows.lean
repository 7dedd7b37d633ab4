/-
  No cell of these rows narrows 'for every input' (looked for: loops, veiled, ifaces, maps, wideKeys, modest, calm, conditions, laid).
  DERIVED. THE GIVEN ROWS OF THIS SEAT. 6 by the template 'for every input the law returns true; each argument reads behind the call as it read before'; 0 by the template 'total and deterministic' (their statements: YtdpkhkiecobkoaaTotals.lean).
  GIVEN WITH THE SEED: the statements are not yours to turn. If you find one false, say at which input.
  Laid BY PROGRAM, IN A SANDBOX (cutbox-rows.mjs): the forced cells as the released guide's own fill.sh prints them over the translation 9611a83bd6e3a9c9… (all of the seat's roots in one cut). By AI agents, Wed Nov 11 2026. No macro, syntax, notation, axiom, sorry.
-/
import Derived.Test.YtdpkhkiecobkoaaChecked
import GoSem.Claim
import GoSem.ClaimJoined
import GoSem.ClaimMapViews
import Derived.JoinedTies
import Derived.KernelRfl
namespace Go.Proofs.Ytdpkhkiecobkoaa
/- THE CELL 'sum', in the pinned program and in every row, IS THE sha256 OF THE DUMP (.gsa) THAT YtdpkhkiecobkoaaProg.lean LOADS. Nothing in Lean hashes anything: it is a label: what it is worth is what the hold of that sum in a sandbox is worth. -/
noncomputable def Try.pinned : Pinned := { name := "ytdpkhkiecobkoaa", sum := "9611a83bd6e3a9c9417a7e2f93e6f6959ad66aa839523b840dddc321392cd1a6", checked := Try.checked }
namespace Rows
def none {H : Type} : Left H := { results := [], args := [] }

/-- 'venduelaw12.SessionPlays': WHATEVER THE INPUT: true; the input reads as it did. -/
def sessionPlaysSpec : ChangeSpec := { name := "sessionPlays", fn := fun _ => fun
  | [d1, d2, d3] => { results := [.lit (.bool true)], args := [d1, d2, d3] }
  | _ => none }
def sessionPlaysRow : OpenClaim := { program := "ytdpkhkiecobkoaa", sum := "9611a83bd6e3a9c9417a7e2f93e6f6959ad66aa839523b840dddc321392cd1a6", func := "vendue/venduelaw12.SessionPlays", spec := "sessionPlays", unfollowed := true, recurses := true, apart := false }
def SessionPlaysSaid : Prop := sessionPlaysRow.holds Try.pinned (OpenSpec.ofChange sessionPlaysSpec)

/-- ITS FALSE NEIGHBOUR: 'it returns false'. Refute it at one input. -/
def sessionPlaysWrong : ChangeSpec := { name := "sessionPlays", fn := fun _ => fun
  | [d1, d2, d3] => { results := [.lit (.bool false)], args := [d1, d2, d3] }
  | _ => none }
def SessionPlaysWrongFalsely : Prop := sessionPlaysRow.holds Try.pinned (OpenSpec.ofChange sessionPlaysWrong)

/-- 'venduelaw12.SessionOnce': WHATEVER THE INPUT: true; the input reads as it did. -/
def sessionOnceSpec : ChangeSpec := { name := "sessionOnce", fn := fun _ => fun
  | [d] => { results := [.lit (.bool true)], args := [d] }
  | _ => none }
def sessionOnceRow : OpenClaim := { program := "ytdpkhkiecobkoaa", sum := "9611a83bd6e3a9c9417a7e2f93e6f6959ad66aa839523b840dddc321392cd1a6", func := "vendue/venduelaw12.SessionOnce", spec := "sessionOnce", unfollowed := true, recurses := true, apart := false }
def SessionOnceSaid : Prop := sessionOnceRow.holds Try.pinned (OpenSpec.ofChange sessionOnceSpec)

/-- ITS FALSE NEIGHBOUR: 'it returns false'. Refute it at one input. -/
def sessionOnceWrong : ChangeSpec := { name := "sessionOnce", fn := fun _ => fun
  | [d] => { results := [.lit (.bool false)], args := [d] }
  | _ => none }
def SessionOnceWrongFalsely : Prop := sessionOnceRow.holds Try.pinned (OpenSpec.ofChange sessionOnceWrong)

/-- 'venduelaw12.SessionOwn': WHATEVER THE INPUT: true; the input reads as it did. -/
def sessionOwnSpec : ChangeSpec := { name := "sessionOwn", fn := fun _ => fun
  | [d] => { results := [.lit (.bool true)], args := [d] }
  | _ => none }
def sessionOwnRow : OpenClaim := { program := "ytdpkhkiecobkoaa", sum := "9611a83bd6e3a9c9417a7e2f93e6f6959ad66aa839523b840dddc321392cd1a6", func := "vendue/venduelaw12.SessionOwn", spec := "sessionOwn", unfollowed := true, recurses := true, apart := false }
def SessionOwnSaid : Prop := sessionOwnRow.holds Try.pinned (OpenSpec.ofChange sessionOwnSpec)

/-- ITS FALSE NEIGHBOUR: 'it returns false'. Refute it at one input. -/
def sessionOwnWrong : ChangeSpec := { name := "sessionOwn", fn := fun _ => fun
  | [d] => { results := [.lit (.bool false)], args := [d] }
  | _ => none }
def SessionOwnWrongFalsely : Prop := sessionOwnRow.holds Try.pinned (OpenSpec.ofChange sessionOwnWrong)

/-- 'venduelaw12.SessionFar': WHATEVER THE INPUT: true; the input reads as it did. -/
def sessionFarSpec : ChangeSpec := { name := "sessionFar", fn := fun _ => fun
  | [d1, d2, d3] => { results := [.lit (.bool true)], args := [d1, d2, d3] }
  | _ => none }
def sessionFarRow : OpenClaim := { program := "ytdpkhkiecobkoaa", sum := "9611a83bd6e3a9c9417a7e2f93e6f6959ad66aa839523b840dddc321392cd1a6", func := "vendue/venduelaw12.SessionFar", spec := "sessionFar", unfollowed := true, recurses := true, apart := false }
def SessionFarSaid : Prop := sessionFarRow.holds Try.pinned (OpenSpec.ofChange sessionFarSpec)

/-- ITS FALSE NEIGHBOUR: 'it returns false'. Refute it at one input. -/
def sessionFarWrong : ChangeSpec := { name := "sessionFar", fn := fun _ => fun
  | [d1, d2, d3] => { results := [.lit (.bool false)], args := [d1, d2, d3] }
  | _ => none }
def SessionFarWrongFalsely : Prop := sessionFarRow.holds Try.pinned (OpenSpec.ofChange sessionFarWrong)

/-- 'venduelaw12.SessionWrites': WHATEVER THE INPUT: true; the input reads as it did. -/
def sessionWritesSpec : ChangeSpec := { name := "sessionWrites", fn := fun _ => fun
  | [d1, d2, d3] => { results := [.lit (.bool true)], args := [d1, d2, d3] }
  | _ => none }
def sessionWritesRow : OpenClaim := { program := "ytdpkhkiecobkoaa", sum := "9611a83bd6e3a9c9417a7e2f93e6f6959ad66aa839523b840dddc321392cd1a6", func := "vendue/venduelaw12.SessionWrites", spec := "sessionWrites", inPlace := ["internal/abi.NoEscape", "internal/bytealg.MakeNoZero"], unfollowed := true, recurses := true, apart := false }
def SessionWritesSaid : Prop := sessionWritesRow.holds Try.pinned (OpenSpec.ofChange sessionWritesSpec)

/-- ITS FALSE NEIGHBOUR: 'it returns false'. Refute it at one input. -/
def sessionWritesWrong : ChangeSpec := { name := "sessionWrites", fn := fun _ => fun
  | [d1, d2, d3] => { results := [.lit (.bool false)], args := [d1, d2, d3] }
  | _ => none }
def SessionWritesWrongFalsely : Prop := sessionWritesRow.holds Try.pinned (OpenSpec.ofChange sessionWritesWrong)

/-- 'venduelaw12.SessionBack': WHATEVER THE INPUT: true; the input reads as it did. -/
def sessionBackSpec : ChangeSpec := { name := "sessionBack", fn := fun _ => fun
  | [d1, d2] => { results := [.lit (.bool true)], args := [d1, d2] }
  | _ => none }
def sessionBackRow : OpenClaim := { program := "ytdpkhkiecobkoaa", sum := "9611a83bd6e3a9c9417a7e2f93e6f6959ad66aa839523b840dddc321392cd1a6", func := "vendue/venduelaw12.SessionBack", spec := "sessionBack", inPlace := ["internal/abi.NoEscape", "internal/bytealg.MakeNoZero"], unfollowed := true, recurses := true, apart := false }
def SessionBackSaid : Prop := sessionBackRow.holds Try.pinned (OpenSpec.ofChange sessionBackSpec)

/-- ITS FALSE NEIGHBOUR: 'it returns false'. Refute it at one input. -/
def sessionBackWrong : ChangeSpec := { name := "sessionBack", fn := fun _ => fun
  | [d1, d2] => { results := [.lit (.bool false)], args := [d1, d2] }
  | _ => none }
def SessionBackWrongFalsely : Prop := sessionBackRow.holds Try.pinned (OpenSpec.ofChange sessionBackWrong)

/- THE SECOND FORM. 'bulk': how many values and letters a reading holds, each counted each time it is reached (what is shared counts as often as it is met; a slice's spare places count too). A statement '..UptoSaid' is the law's where the arguments, and the package variables that the reading takes, are together of bulk at most 1048576: NARROWER than '..Said'. Prove '..Said' where nothing that the law and all that it calls make is longer than what came in: it says more and counts as full. Else prove '..UptoSaid'. A law counts once. -/
mutual
def uptoBulk {H : Type} : DataW H → Nat
  | .lit (.string bytes) => bytes.length + 1
  | .lit _ => 1
  | .nil => 1
  | .ptr d => uptoBulk d + 1
  | .slice elems spare => uptoBulkAll elems + uptoBulkAll spare + 1
  | .agg parts => uptoBulkAll parts + 1
  | .iface _ d => uptoBulk d + 1
  | .map entries => uptoBulkEntries entries + 1
  | .held _ => 1
def uptoBulkAll {H : Type} : List (DataW H) → Nat
  | [] => 0
  | d :: r => uptoBulk d + uptoBulkAll r
def uptoBulkEntries {H : Type} : List (Lit × DataW H) → Nat
  | [] => 0
  | x :: r => uptoBulkEntry x + uptoBulkEntries r
def uptoBulkEntry {H : Type} : Lit × DataW H → Nat
  | (.string bytes, d) => bytes.length + uptoBulk d + 1
  | (_, d) => uptoBulk d + 1
 end
def uptoSmall : (H : Type) → List (DataW H) → Bool := fun _ ds => decide (uptoBulkAll ds ≤ 1048576)
def OpenSpec.upto (s : _root_.Go.ChangeSpec) : _root_.Go.OpenSpec := { _root_.Go.OpenSpec.ofChange s with cond := some uptoSmall }

/-- 'venduelaw12.SessionPlays', WHERE WHAT IT READS IS OF BULK AT MOST 1048576: true; the input reads as it did. -/
def sessionPlaysUptoRow : OpenClaim := { program := "ytdpkhkiecobkoaa", sum := "9611a83bd6e3a9c9417a7e2f93e6f6959ad66aa839523b840dddc321392cd1a6", func := "vendue/venduelaw12.SessionPlays", spec := "sessionPlays", unfollowed := true, recurses := true, apart := false, narrowed := true }
def SessionPlaysUptoSaid : Prop := sessionPlaysUptoRow.holds Try.pinned (OpenSpec.upto sessionPlaysSpec)

/-- 'venduelaw12.SessionOnce', WHERE WHAT IT READS IS OF BULK AT MOST 1048576: true; the input reads as it did. -/
def sessionOnceUptoRow : OpenClaim := { program := "ytdpkhkiecobkoaa", sum := "9611a83bd6e3a9c9417a7e2f93e6f6959ad66aa839523b840dddc321392cd1a6", func := "vendue/venduelaw12.SessionOnce", spec := "sessionOnce", unfollowed := true, recurses := true, apart := false, narrowed := true }
def SessionOnceUptoSaid : Prop := sessionOnceUptoRow.holds Try.pinned (OpenSpec.upto sessionOnceSpec)

/-- 'venduelaw12.SessionOwn', WHERE WHAT IT READS IS OF BULK AT MOST 1048576: true; the input reads as it did. -/
def sessionOwnUptoRow : OpenClaim := { program := "ytdpkhkiecobkoaa", sum := "9611a83bd6e3a9c9417a7e2f93e6f6959ad66aa839523b840dddc321392cd1a6", func := "vendue/venduelaw12.SessionOwn", spec := "sessionOwn", unfollowed := true, recurses := true, apart := false, narrowed := true }
def SessionOwnUptoSaid : Prop := sessionOwnUptoRow.holds Try.pinned (OpenSpec.upto sessionOwnSpec)

/-- 'venduelaw12.SessionFar', WHERE WHAT IT READS IS OF BULK AT MOST 1048576: true; the input reads as it did. -/
def sessionFarUptoRow : OpenClaim := { program := "ytdpkhkiecobkoaa", sum := "9611a83bd6e3a9c9417a7e2f93e6f6959ad66aa839523b840dddc321392cd1a6", func := "vendue/venduelaw12.SessionFar", spec := "sessionFar", unfollowed := true, recurses := true, apart := false, narrowed := true }
def SessionFarUptoSaid : Prop := sessionFarUptoRow.holds Try.pinned (OpenSpec.upto sessionFarSpec)

/-- 'venduelaw12.SessionWrites', WHERE WHAT IT READS IS OF BULK AT MOST 1048576: true; the input reads as it did. -/
def sessionWritesUptoRow : OpenClaim := { program := "ytdpkhkiecobkoaa", sum := "9611a83bd6e3a9c9417a7e2f93e6f6959ad66aa839523b840dddc321392cd1a6", func := "vendue/venduelaw12.SessionWrites", spec := "sessionWrites", inPlace := ["internal/abi.NoEscape", "internal/bytealg.MakeNoZero"], unfollowed := true, recurses := true, apart := false, narrowed := true }
def SessionWritesUptoSaid : Prop := sessionWritesUptoRow.holds Try.pinned (OpenSpec.upto sessionWritesSpec)

/-- 'venduelaw12.SessionBack', WHERE WHAT IT READS IS OF BULK AT MOST 1048576: true; the input reads as it did. -/
def sessionBackUptoRow : OpenClaim := { program := "ytdpkhkiecobkoaa", sum := "9611a83bd6e3a9c9417a7e2f93e6f6959ad66aa839523b840dddc321392cd1a6", func := "vendue/venduelaw12.SessionBack", spec := "sessionBack", inPlace := ["internal/abi.NoEscape", "internal/bytealg.MakeNoZero"], unfollowed := true, recurses := true, apart := false, narrowed := true }
def SessionBackUptoSaid : Prop := sessionBackUptoRow.holds Try.pinned (OpenSpec.upto sessionBackSpec)

end Rows
end Go.Proofs.Ytdpkhkiecobkoaa
