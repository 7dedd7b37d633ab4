import Derived.Test.YtdpkhkiecobkoaaPrim1
import Derived.Test.YtdpkhkiecobkoaaFF
import Derived.Test.YtdpkhkiecobkoaaChecked
import Derived.Test.YtdpkhkiecobkoaaShelf
import Derived.Test.YtdpkhkiecobkoaaGrow
set_option linter.all false
set_option maxRecDepth 100000
namespace Go.Proofs.Ytdpkhkiecobkoaa.Abs
open Go.Abs
theorem tab_eq : (tab.map fun p => tyD Try.prog p.2.eq p.1) = tab.map fun p => some p.2 := by kernel_rfl
theorem tysOk : TysOk Try.prog (lookT tab) := tysOk_of tab_eq
def note3 : List (Nat × Note) := [(0, ⟨[0, 1, 2], false, [], []⟩), (1, ⟨[0, 1, 2, 7], false, [], []⟩), (2, ⟨[1, 2, 7, 8], false, [], []⟩), (3, ⟨[1, 2, 7, 8, 9], false, [], []⟩), (4, ⟨[1, 2, 7, 8, 9, 10], false, [], []⟩), (5, ⟨[1, 2, 7, 8, 9, 10, 11], false, [], []⟩), (6, ⟨[1, 2, 7, 8, 9, 10, 11, 33], false, [], []⟩), (8, ⟨[1, 2, 7, 8, 9, 10, 11, 12], false, [], []⟩), (9, ⟨[1, 2, 7, 8, 9, 10, 11, 12], false, [], []⟩), (10, ⟨[1, 2, 7, 8, 9, 10, 11, 12, 13, 14], false, [], []⟩), (11, ⟨[1, 2, 7, 8, 9, 10, 11, 12, 13, 14, 15, 16], false, [], []⟩), (12, ⟨[1, 2, 7, 8, 9, 10, 11, 12, 13, 14, 15, 16, 17], false, [3, 4, 8, 9, 10], []⟩), (13, ⟨[1, 2, 7, 8, 9, 10, 11, 12, 89], false, [16, 20], []⟩), (14, ⟨[6], false, [], []⟩), (15, ⟨[1, 2, 7, 8, 9, 10, 11, 12, 92], false, [], []⟩), (16, ⟨[1, 2, 7, 8, 9, 10, 11, 12], false, [], []⟩), (17, ⟨[1, 2, 7, 8, 9, 10, 11, 12], false, [], []⟩), (18, ⟨[1, 2, 7, 8, 9, 10, 11, 12, 18, 19], false, [], []⟩), (19, ⟨[1, 2, 7, 8, 9, 10, 11, 12, 18, 19, 20, 21], false, [], []⟩), (20, ⟨[1, 2, 7, 8, 9, 10, 11, 12, 18, 19, 20, 21], false, [], []⟩), (21, ⟨[1, 2, 7, 8, 9, 10, 11, 12, 18, 19, 20, 21], false, [], []⟩), (22, ⟨[1, 2, 7, 8, 9, 10, 11, 12, 18, 19, 20, 21, 22], false, [], []⟩), (23, ⟨[1, 2, 7, 8, 9, 10, 11, 158], true, [16, 20], []⟩), (24, ⟨[6], false, [], []⟩), (7, ⟨[1, 2, 7, 8, 9, 10, 11], false, [], []⟩), (25, ⟨[6], false, [], []⟩)]
theorem fd_3 : fnD Try.prog (lookT tab) (lookN note3) 3 = some ifn3 := by kernel_rfl
def note4 : List (Nat × Note) := [(0, ⟨[0], false, [], []⟩), (1, ⟨[0, 3], false, [], []⟩), (2, ⟨[0, 3, 4], false, [], []⟩), (3, ⟨[0, 3, 4, 5], false, [], []⟩), (4, ⟨[0, 3, 4, 5, 6], false, [], []⟩), (5, ⟨[0, 3, 4, 5, 6, 7], false, [], []⟩), (6, ⟨[0, 3, 4, 5, 6, 7, 21], false, [], []⟩), (8, ⟨[0, 3, 4, 5, 6, 7, 8], false, [], []⟩), (9, ⟨[0, 3, 4, 5, 6, 7, 8, 9], false, [], []⟩), (10, ⟨[0, 3, 4, 5, 6, 7, 8, 9, 10, 11], false, [], []⟩), (11, ⟨[0, 3, 4, 5, 6, 7, 8, 9, 10, 11, 12], false, [], []⟩), (12, ⟨[0, 3, 4, 5, 6, 7, 8, 9, 10, 11, 12, 56], false, [], []⟩), (13, ⟨[0, 3, 4, 5, 6, 7, 8, 9, 10, 11, 12, 69], false, [], []⟩), (14, ⟨[2], false, [], []⟩), (15, ⟨[0, 3, 4, 5, 6, 7, 8, 9, 10, 11, 12], false, [], []⟩), (16, ⟨[0, 3, 4, 5, 6, 7, 8, 9, 10, 11, 12], false, [], []⟩), (17, ⟨[0, 3, 4, 5, 6, 7, 8, 9, 10, 11, 12], false, [8], []⟩), (18, ⟨[0, 3, 4, 5, 6, 7, 11, 129], true, [], []⟩), (19, ⟨[2], false, [], []⟩), (20, ⟨[0, 3, 4, 5, 6, 7, 149], false, [], []⟩), (21, ⟨[2], false, [], []⟩), (7, ⟨[0, 3, 4, 5, 6, 7], false, [], []⟩), (22, ⟨[2], false, [], []⟩)]
theorem fd_4 : fnD Try.prog (lookT tab) (lookN note4) 4 = some ifn4 := by kernel_rfl
def note5 : List (Nat × Note) := [(0, ⟨[0], false, [], []⟩), (1, ⟨[0, 3], false, [], []⟩), (2, ⟨[0, 3, 4], false, [], []⟩), (3, ⟨[0, 3, 4, 5], false, [], []⟩), (4, ⟨[0, 3, 4, 5, 6], false, [], []⟩), (5, ⟨[0, 3, 4, 5, 6, 7], false, [], []⟩), (6, ⟨[0, 3, 4, 5, 6, 7, 18], false, [], []⟩), (8, ⟨[0, 3, 4, 5, 6, 7, 8], false, [], []⟩), (9, ⟨[0, 3, 4, 5, 6, 7, 8, 43], false, [], []⟩), (10, ⟨[0, 3, 4, 5, 6, 7, 8], false, [], []⟩), (11, ⟨[0, 3, 4, 5, 6, 7, 8], false, [], []⟩), (12, ⟨[0, 3, 4, 5, 6, 7], true, [], []⟩), (13, ⟨[0, 3, 4, 5, 6, 7, 67], false, [], []⟩), (14, ⟨[2], false, [], []⟩), (15, ⟨[0, 3, 4, 5, 6, 7, 9], false, [], []⟩), (16, ⟨[0, 3, 4, 5, 6, 7, 9, 69], false, [], []⟩), (18, ⟨[0, 3, 4, 5, 6, 7, 9, 78], false, [2], []⟩), (19, ⟨[2], false, [], []⟩), (17, ⟨[0, 3, 4, 5, 6, 7, 9], false, [], []⟩), (7, ⟨[0, 3, 4, 5, 6, 7], false, [], []⟩), (20, ⟨[2], false, [], []⟩)]
theorem fd_5 : fnD Try.prog (lookT tab) (lookN note5) 5 = some ifn5 := by kernel_rfl
def note6 : List (Nat × Note) := [(0, ⟨[0, 1, 2], false, [], []⟩), (1, ⟨[0, 1, 2, 7], false, [], []⟩), (2, ⟨[2, 7, 8], false, [], []⟩), (3, ⟨[2, 7, 8, 9], false, [], []⟩), (4, ⟨[7, 8, 9], false, [], []⟩), (5, ⟨[7, 8, 9, 10], false, [], []⟩), (6, ⟨[7, 8, 9, 10, 12], false, [], []⟩), (7, ⟨[7, 8, 9, 12, 13], false, [], []⟩), (8, ⟨[7, 8, 9, 12, 13, 15], false, [], []⟩), (9, ⟨[7, 8, 9, 12, 13, 15, 54], false, [], []⟩), (10, ⟨[6], true, [13], []⟩), (11, ⟨[6], true, [13], []⟩)]
theorem fd_6 : fnD Try.prog (lookT tab) (lookN note6) 6 = some ifn6 := by kernel_rfl
def note7 : List (Nat × Note) := [(0, ⟨[1, 3, 5], false, [], []⟩), (1, ⟨[1, 3, 5, 7], false, [], []⟩), (2, ⟨[1, 3, 5, 7], false, [], []⟩), (3, ⟨[1, 3, 5, 7, 8], false, [], []⟩), (4, ⟨[1, 3, 5, 7, 8, 26], false, [], []⟩), (5, ⟨[1, 3, 5, 7, 8, 9], false, [], []⟩), (6, ⟨[1, 3, 5, 7, 8, 9, 32], false, [], []⟩), (7, ⟨[1, 3, 5, 7, 9, 10], false, [], []⟩), (8, ⟨[1, 3, 5, 7, 9, 10], false, [], []⟩), (9, ⟨[1, 3, 5, 7, 8, 10], false, [], []⟩), (10, ⟨[1, 3, 7, 8, 10, 59], true, [], []⟩), (11, ⟨[1, 3, 7, 8], false, [], []⟩), (12, ⟨[1, 3, 7, 8, 11, 12], false, [], []⟩), (13, ⟨[1, 3, 7, 11, 12, 13, 14], false, [], []⟩), (14, ⟨[6], true, [3, 5, 10, 12, 17, 18, 20, 21], []⟩)]
theorem fd_7 : fnD Try.prog (lookT tab) (lookN note7) 7 = some ifn7 := by kernel_rfl
def note8 : List (Nat × Note) := [(0, ⟨[1, 2], false, [], []⟩), (1, ⟨[1, 2, 5], false, [], []⟩), (2, ⟨[1, 2, 5], false, [], []⟩), (3, ⟨[1, 2, 5, 6], false, [], []⟩), (4, ⟨[1, 2, 5, 6, 7, 8], false, [], []⟩), (5, ⟨[2, 5, 6, 7, 8, 10], true, [], []⟩), (6, ⟨[2, 5, 6, 7, 8, 10, 11], false, [], []⟩), (7, ⟨[4], true, [], []⟩)]
theorem fd_8 : fnD Try.prog (lookT tab) (lookN note8) 8 = some ifn8 := by kernel_rfl
def note9 : List (Nat × Note) := [(0, ⟨[], false, [], []⟩), (1, ⟨[1], false, [], []⟩), (2, ⟨[1, 2, 3], false, [], []⟩), (3, ⟨[0], false, [], []⟩)]
theorem fd_9 : fnD Try.prog (lookT tab) (lookN note9) 9 = some ifn9 := by kernel_rfl
def note10 : List (Nat × Note) := [(0, ⟨[0], false, [], []⟩), (1, ⟨[0, 3], false, [], []⟩), (2, ⟨[0, 3, 4], false, [], []⟩), (3, ⟨[0, 3, 4, 13], false, [], []⟩), (5, ⟨[0, 3, 4, 5], false, [], []⟩), (6, ⟨[0, 3, 4, 5, 23], false, [], []⟩), (7, ⟨[0, 3, 4, 5], false, [], []⟩), (8, ⟨[0, 3, 4], true, [], []⟩), (4, ⟨[0, 3, 4], false, [], []⟩), (9, ⟨[2], false, [], []⟩)]
theorem fd_10 : fnD Try.prog (lookT tab) (lookN note10) 10 = some ifn10 := by kernel_rfl
def note11 : List (Nat × Note) := [(0, ⟨[0, 1], false, [], []⟩), (1, ⟨[0, 1, 8], false, [], []⟩), (2, ⟨[4], false, [], []⟩), (3, ⟨[4], false, [], []⟩)]
theorem fd_11 : fnD Try.prog (lookT tab) (lookN note11) 11 = some ifn11 := by kernel_rfl
def note12 : List (Nat × Note) := [(0, ⟨[0, 3], false, [], []⟩), (1, ⟨[0, 3, 15], false, [], []⟩), (2, ⟨[4, 5], false, [], []⟩), (3, ⟨[0, 3, 6, 7], false, [], []⟩), (4, ⟨[0, 3, 6, 23], false, [], []⟩), (5, ⟨[4, 5], false, [], []⟩), (6, ⟨[0, 6, 36], true, [], []⟩), (7, ⟨[4, 5], false, [], []⟩), (8, ⟨[4, 5], false, [], []⟩)]
theorem fd_12 : fnD Try.prog (lookT tab) (lookN note12) 12 = some ifn12 := by kernel_rfl
def note13 : List (Nat × Note) := [(0, ⟨[0, 3], false, [], []⟩), (1, ⟨[0, 3, 6], false, [], []⟩), (2, ⟨[0, 3, 6, 7], false, [], []⟩), (3, ⟨[0, 3, 18], false, [], []⟩), (4, ⟨[4, 5], false, [], []⟩), (5, ⟨[0, 3, 8], false, [], []⟩), (6, ⟨[0, 3, 8, 22], false, [], []⟩), (8, ⟨[0, 3, 8, 42], false, [], []⟩), (9, ⟨[4, 5], false, [], []⟩), (10, ⟨[0, 3, 8, 65], false, [], []⟩), (11, ⟨[4, 5], false, [], []⟩), (7, ⟨[0, 3, 8], false, [], []⟩), (12, ⟨[4, 5], false, [], []⟩)]
theorem fd_13 : fnD Try.prog (lookT tab) (lookN note13) 13 = some ifn13 := by kernel_rfl
def note14 : List (Nat × Note) := [(0, ⟨[0, 1], false, [], []⟩), (1, ⟨[0, 1, 10], false, [], []⟩), (2, ⟨[4], false, [], []⟩), (3, ⟨[0, 1, 5], false, [], []⟩), (4, ⟨[0, 1, 5, 14], false, [], []⟩), (6, ⟨[0, 1, 5, 25], false, [], []⟩), (7, ⟨[4], false, [], []⟩), (5, ⟨[0, 1, 5], false, [], []⟩), (8, ⟨[4], false, [], []⟩)]
theorem fd_14 : fnD Try.prog (lookT tab) (lookN note14) 14 = some ifn14 := by kernel_rfl
def note15 : List (Nat × Note) := [(0, ⟨[0, 2, 4], false, [], []⟩), (1, ⟨[0, 2, 4, 8], false, [], []⟩), (2, ⟨[0, 2, 4, 24], false, [], []⟩), (3, ⟨[6], false, [], []⟩), (4, ⟨[0, 2, 4, 9, 10], false, [], []⟩), (5, ⟨[0, 2, 4, 9, 10, 11], false, [], []⟩), (6, ⟨[0, 2, 4, 9, 11, 34], false, [], []⟩), (7, ⟨[0, 2, 4, 9, 11], false, [], []⟩), (8, ⟨[6], true, [15], []⟩)]
theorem fd_15 : fnD Try.prog (lookT tab) (lookN note15) 15 = some ifn15 := by kernel_rfl
def note16 : List (Nat × Note) := [(0, ⟨[0, 2, 4], false, [], []⟩), (1, ⟨[0, 2, 4, 8], false, [], []⟩), (2, ⟨[0, 2, 4, 25], false, [], []⟩), (3, ⟨[6], false, [], []⟩), (4, ⟨[0, 4, 9], false, [], []⟩), (5, ⟨[0, 4, 9, 10], false, [], []⟩), (6, ⟨[0, 4, 9, 10, 11], false, [], []⟩), (7, ⟨[0, 4, 9, 10, 11, 12], false, [], []⟩), (8, ⟨[0, 4, 9, 10, 11, 12, 36], false, [], []⟩), (10, ⟨[0, 4, 9, 10, 11, 12, 50], false, [], []⟩), (11, ⟨[0, 4, 9, 10, 12], false, [], []⟩), (12, ⟨[0, 4, 9, 10, 11, 12], false, [], []⟩), (13, ⟨[0, 4, 9, 10, 11, 12, 62], false, [], []⟩), (14, ⟨[0, 4, 9, 10, 11, 12], false, [], []⟩), (9, ⟨[0, 4, 9, 10, 11, 12], false, [], []⟩), (15, ⟨[9, 10, 71], false, [], []⟩), (16, ⟨[10], true, [], []⟩), (17, ⟨[6], false, [], []⟩)]
theorem fd_16 : fnD Try.prog (lookT tab) (lookN note16) 16 = some ifn16 := by kernel_rfl
def note17 : List (Nat × Note) := [(0, ⟨[0, 1], false, [], []⟩), (1, ⟨[0, 5, 6], false, [], []⟩), (2, ⟨[0, 5, 19], false, [], []⟩), (3, ⟨[4], false, [], []⟩), (4, ⟨[4], false, [], []⟩)]
theorem fd_17 : fnD Try.prog (lookT tab) (lookN note17) 17 = some ifn17 := by kernel_rfl
def note18 : List (Nat × Note) := [(0, ⟨[0, 1], false, [], []⟩), (1, ⟨[0, 1, 5], false, [], []⟩), (2, ⟨[0, 1, 5, 6], false, [], []⟩), (3, ⟨[0, 1, 5, 6, 15], false, [], []⟩), (5, ⟨[0, 1, 5, 6, 24], false, [], []⟩), (6, ⟨[4], false, [], []⟩), (4, ⟨[0, 1, 5, 6], false, [], []⟩), (7, ⟨[4], false, [], []⟩)]
theorem fd_18 : fnD Try.prog (lookT tab) (lookN note18) 18 = some ifn18 := by kernel_rfl
def note19 : List (Nat × Note) := [(0, ⟨[0], false, [], []⟩), (1, ⟨[0, 3], false, [], []⟩), (2, ⟨[0, 4], true, [], []⟩), (3, ⟨[2], false, [], []⟩)]
theorem fd_19 : fnD Try.prog (lookT tab) (lookN note19) 19 = some ifn19 := by kernel_rfl
def note20 : List (Nat × Note) := [(0, ⟨[1], false, [], []⟩), (1, ⟨[1, 3], false, [], []⟩), (2, ⟨[1, 7], false, [], []⟩), (3, ⟨[2], false, [], []⟩), (4, ⟨[2], true, [3, 6, 10], []⟩)]
theorem fd_20 : fnD Try.prog (lookT tab) (lookN note20) 20 = some ifn20 := by kernel_rfl
def note21 : List (Nat × Note) := [(0, ⟨[0, 2], false, [], []⟩), (1, ⟨[2, 4], false, [], []⟩), (2, ⟨[2, 4, 5], false, [], []⟩), (3, ⟨[2, 4, 5], false, [], []⟩), (4, ⟨[2, 4, 5], false, [], []⟩), (5, ⟨[2, 5, 25], false, [], []⟩), (6, ⟨[2, 3], false, [], []⟩), (7, ⟨[2, 3], true, [], []⟩)]
theorem fd_21 : fnD Try.prog (lookT tab) (lookN note21) 21 = some ifn21 := by kernel_rfl
def note22 : List (Nat × Note) := [(0, ⟨[0, 2], false, [], []⟩), (1, ⟨[2, 4], true, [], []⟩), (2, ⟨[2, 4, 5], false, [], []⟩), (3, ⟨[2, 4, 5], false, [], []⟩), (4, ⟨[2, 4, 5], false, [], []⟩), (5, ⟨[2, 4, 5, 6], false, [], []⟩), (6, ⟨[2, 5, 28], false, [], []⟩), (7, ⟨[2, 3], false, [], []⟩), (8, ⟨[2, 3], true, [], []⟩)]
theorem fd_22 : fnD Try.prog (lookT tab) (lookN note22) 22 = some ifn22 := by kernel_rfl
def note23 : List (Nat × Note) := [(0, ⟨[1], false, [], []⟩), (1, ⟨[2], true, [], []⟩)]
theorem fd_23 : fnD Try.prog (lookT tab) (lookN note23) 23 = some ifn23 := by kernel_rfl
def note24 : List (Nat × Note) := [(0, ⟨[1], false, [], []⟩), (1, ⟨[2], true, [], []⟩)]
theorem fd_24 : fnD Try.prog (lookT tab) (lookN note24) 24 = some ifn24 := by kernel_rfl
def note25 : List (Nat × Note) := [(0, ⟨[1], false, [], []⟩), (1, ⟨[1, 5], false, [], []⟩), (2, ⟨[2], false, [], []⟩), (3, ⟨[2], true, [3, 6, 9, 11], []⟩)]
theorem fd_25 : fnD Try.prog (lookT tab) (lookN note25) 25 = some ifn25 := by kernel_rfl
def note26 : List (Nat × Note) := [(0, ⟨[0], false, [], []⟩), (1, ⟨[0, 3], false, [], []⟩), (2, ⟨[0, 3, 8], false, [], []⟩), (4, ⟨[0, 3, 4], false, [11], []⟩), (5, ⟨[0, 3, 51], false, [], []⟩), (6, ⟨[2], false, [], []⟩), (3, ⟨[0, 3], false, [], []⟩), (7, ⟨[2], false, [], []⟩)]
theorem fd_26 : fnD Try.prog (lookT tab) (lookN note26) 26 = some ifn26 := by kernel_rfl
def note27 : List (Nat × Note) := [(0, ⟨[0, 1], false, [], []⟩), (1, ⟨[4, 5], false, [], []⟩)]
theorem fd_27 : fnD Try.prog (lookT tab) (lookN note27) 27 = some ifn27 := by kernel_rfl
def note28 : List (Nat × Note) := [(0, ⟨[0], false, [], []⟩), (1, ⟨[0, 3], false, [], []⟩), (2, ⟨[0, 3, 9, 10, 11], false, [], []⟩), (3, ⟨[0, 3, 9, 10, 11, 12], false, [], []⟩), (4, ⟨[0, 3, 5, 9, 10, 11], false, [], []⟩), (5, ⟨[0, 3, 9, 10, 11], false, [], []⟩), (6, ⟨[0, 3, 9, 10, 11, 20], false, [], []⟩), (7, ⟨[0, 3, 9, 10, 11], false, [], []⟩), (8, ⟨[0, 3, 9, 10, 11], false, [], []⟩), (9, ⟨[0, 6], false, [], []⟩), (10, ⟨[6, 25, 26, 27], false, [], []⟩), (11, ⟨[6, 25, 26, 27, 28], false, [], []⟩), (12, ⟨[6, 8, 25, 26, 27], false, [], []⟩), (13, ⟨[6, 25, 26, 27], false, [], []⟩), (14, ⟨[6, 25, 26, 27], false, [], []⟩), (15, ⟨[2], false, [], []⟩)]
theorem fd_28 : fnD Try.prog (lookT tab) (lookN note28) 28 = some ifn28 := by kernel_rfl
def note29 : List (Nat × Note) := [(0, ⟨[1, 2], false, [], []⟩), (1, ⟨[1, 2, 4], false, [], []⟩), (2, ⟨[2, 4], false, [], []⟩), (3, ⟨[3], true, [], []⟩)]
theorem fd_29 : fnD Try.prog (lookT tab) (lookN note29) 29 = some ifn29 := by kernel_rfl
def note30 : List (Nat × Note) := [(0, ⟨[0, 1], false, [], []⟩), (1, ⟨[4], false, [], []⟩)]
theorem fd_30 : fnD Try.prog (lookT tab) (lookN note30) 30 = some ifn30 := by kernel_rfl
def note31 : List (Nat × Note) := [(0, ⟨[0], false, [], []⟩), (1, ⟨[0, 3], false, [], []⟩), (2, ⟨[0, 3, 15], false, [], []⟩), (3, ⟨[0, 3], false, [], []⟩), (4, ⟨[0, 3, 4], false, [], []⟩), (5, ⟨[0, 3, 4, 5], false, [], []⟩), (6, ⟨[0, 3, 4, 5, 20], false, [], []⟩), (8, ⟨[0, 3, 4, 5], false, [], []⟩), (9, ⟨[0, 3, 4, 5], false, [], []⟩), (7, ⟨[0, 3, 4, 5], false, [], []⟩), (10, ⟨[2], false, [], []⟩)]
theorem fd_31 : fnD Try.prog (lookT tab) (lookN note31) 31 = some ifn31 := by kernel_rfl
def note32 : List (Nat × Note) := [(0, ⟨[0], false, [], []⟩), (1, ⟨[2], false, [], []⟩)]
theorem fd_32 : fnD Try.prog (lookT tab) (lookN note32) 32 = some ifn32 := by kernel_rfl
def note33 : List (Nat × Note) := [(0, ⟨[0], false, [], []⟩), (1, ⟨[2], true, [], []⟩)]
theorem fd_33 : fnD Try.prog (lookT tab) (lookN note33) 33 = some ifn33 := by kernel_rfl
def note34 : List (Nat × Note) := [(0, ⟨[0, 1], false, [], []⟩), (1, ⟨[0, 1, 17], false, [], []⟩), (2, ⟨[], false, [], []⟩), (3, ⟨[4], false, [], []⟩), (4, ⟨[0, 1, 5], false, [], []⟩), (5, ⟨[0, 1, 5, 33], false, [], []⟩), (6, ⟨[], false, [], []⟩), (7, ⟨[4], false, [], []⟩), (8, ⟨[0, 1, 5, 6], false, [6], []⟩), (9, ⟨[0, 1, 5, 6, 45, 46], false, [], []⟩), (10, ⟨[0, 1, 5, 6, 45, 46, 47], false, [], []⟩), (11, ⟨[0, 1, 5, 6, 7, 45, 46], false, [], []⟩), (12, ⟨[0, 1, 5, 6, 45, 46], false, [], []⟩), (13, ⟨[0, 1, 5, 6, 45, 46], false, [], []⟩), (14, ⟨[0, 5, 6, 69], false, [], []⟩), (15, ⟨[], false, [], []⟩), (16, ⟨[4], false, [], []⟩), (17, ⟨[6], false, [], []⟩), (18, ⟨[4], false, [], []⟩)]
theorem fd_34 : fnD Try.prog (lookT tab) (lookN note34) 34 = some ifn34 := by kernel_rfl
def note35 : List (Nat × Note) := [(0, ⟨[0, 1], false, [], []⟩), (1, ⟨[0, 1, 8], false, [], []⟩), (2, ⟨[0, 1], false, [], []⟩), (3, ⟨[0, 5], false, [], []⟩), (4, ⟨[0, 5, 28], false, [], []⟩), (5, ⟨[], false, [], []⟩), (6, ⟨[4], false, [], []⟩), (7, ⟨[0, 5, 6], false, [], []⟩), (8, ⟨[6], false, [], []⟩), (9, ⟨[4], false, [], []⟩)]
theorem fd_35 : fnD Try.prog (lookT tab) (lookN note35) 35 = some ifn35 := by kernel_rfl
def note36 : List (Nat × Note) := [(0, ⟨[0], false, [], []⟩), (1, ⟨[2], false, [], []⟩)]
theorem fd_36 : fnD Try.prog (lookT tab) (lookN note36) 36 = some ifn36 := by kernel_rfl
def note37 : List (Nat × Note) := [(0, ⟨[0, 1], false, [], []⟩), (1, ⟨[0, 1, 18], false, [], []⟩), (2, ⟨[], false, [], []⟩), (3, ⟨[4], false, [], []⟩), (4, ⟨[0, 1, 5], false, [], []⟩), (5, ⟨[0, 1, 5, 35], false, [], []⟩), (6, ⟨[0, 1, 5], false, [], []⟩), (7, ⟨[0, 1, 5, 45], false, [], []⟩), (8, ⟨[], false, [], []⟩), (9, ⟨[4], false, [], []⟩), (10, ⟨[0, 1, 5, 6], false, [6], []⟩), (11, ⟨[0, 1, 5, 6, 7], false, [], []⟩), (12, ⟨[0, 1, 5, 6, 7, 60], false, [], []⟩), (14, ⟨[0, 1, 5, 6, 7], false, [], []⟩), (13, ⟨[0, 1, 5, 6, 7], false, [], []⟩), (15, ⟨[0, 5, 6, 88], false, [1], []⟩), (16, ⟨[], false, [], []⟩), (17, ⟨[4], false, [], []⟩), (18, ⟨[6], false, [], []⟩), (19, ⟨[4], false, [], []⟩)]
theorem fd_37 : fnD Try.prog (lookT tab) (lookN note37) 37 = some ifn37 := by kernel_rfl
def note38 : List (Nat × Note) := [(0, ⟨[0, 1], false, [], []⟩), (1, ⟨[0, 1, 8], false, [], []⟩), (2, ⟨[], false, [], []⟩), (3, ⟨[4], false, [], []⟩), (4, ⟨[0, 5], false, [], []⟩), (5, ⟨[0, 5, 29], false, [], []⟩), (6, ⟨[], false, [], []⟩), (7, ⟨[4], false, [], []⟩), (8, ⟨[0, 5, 6], false, [], []⟩), (9, ⟨[6], false, [], []⟩), (10, ⟨[4], false, [], []⟩)]
theorem fd_38 : fnD Try.prog (lookT tab) (lookN note38) 38 = some ifn38 := by kernel_rfl
def note39 : List (Nat × Note) := [(0, ⟨[0], false, [], []⟩), (1, ⟨[2], false, [], []⟩)]
theorem fd_39 : fnD Try.prog (lookT tab) (lookN note39) 39 = some ifn39 := by kernel_rfl
def note40 : List (Nat × Note) := [(0, ⟨[0], false, [], []⟩), (1, ⟨[2], false, [], []⟩)]
theorem fd_40 : fnD Try.prog (lookT tab) (lookN note40) 40 = some ifn40 := by kernel_rfl
def note41 : List (Nat × Note) := [(0, ⟨[0], false, [], []⟩), (1, ⟨[0, 3], false, [], []⟩), (2, ⟨[0, 3, 4], true, [], []⟩), (3, ⟨[0, 3, 4, 11, 12], false, [], []⟩), (4, ⟨[0, 3, 4, 11, 12, 13], false, [], []⟩), (5, ⟨[0, 3, 4, 5, 11, 12], false, [], []⟩), (6, ⟨[0, 3, 4, 11, 12], false, [], []⟩), (7, ⟨[0, 3, 4, 11, 12], false, [], []⟩), (8, ⟨[0, 3, 4], false, [], []⟩), (9, ⟨[0, 3, 4, 31], false, [], []⟩), (10, ⟨[4], false, [], []⟩), (11, ⟨[2], false, [], []⟩)]
theorem fd_41 : fnD Try.prog (lookT tab) (lookN note41) 41 = some ifn41 := by kernel_rfl
def note42 : List (Nat × Note) := [(0, ⟨[0], false, [], []⟩), (1, ⟨[2], false, [], []⟩)]
theorem fd_42 : fnD Try.prog (lookT tab) (lookN note42) 42 = some ifn42 := by kernel_rfl
def note43 : List (Nat × Note) := [(0, ⟨[0, 1, 2], false, [], []⟩), (1, ⟨[0, 1, 2, 8], false, [], []⟩), (2, ⟨[0, 1, 2, 8, 9, 10], false, [], []⟩), (3, ⟨[0, 1, 2, 8, 9, 10, 17], false, [], []⟩), (4, ⟨[0, 1, 2, 8, 9, 10, 11], false, [], []⟩), (5, ⟨[0, 1, 2, 8, 9, 10, 11, 31], false, [], []⟩), (6, ⟨[0, 1, 2, 8, 9, 10], false, [], []⟩), (7, ⟨[0, 1, 2, 8, 9, 10], false, [], []⟩), (8, ⟨[6, 7], false, [], []⟩)]
theorem fd_43 : fnD Try.prog (lookT tab) (lookN note43) 43 = some ifn43 := by kernel_rfl
def note44 : List (Nat × Note) := [(0, ⟨[1, 2], false, [], []⟩), (1, ⟨[4], true, [], []⟩)]
theorem fd_44 : fnD Try.prog (lookT tab) (lookN note44) 44 = some ifn44 := by kernel_rfl
def note45 : List (Nat × Note) := [(0, ⟨[0, 1], false, [], []⟩), (1, ⟨[0, 1, 5], false, [], []⟩), (2, ⟨[0, 1, 5, 6], false, [], []⟩), (3, ⟨[0, 1, 6, 11], false, [], []⟩), (4, ⟨[12], false, [], []⟩), (5, ⟨[4], false, [], []⟩), (6, ⟨[4], false, [], []⟩), (7, ⟨[0, 1, 13], false, [], []⟩), (8, ⟨[4], false, [], []⟩), (9, ⟨[0, 1, 16], false, [], []⟩), (10, ⟨[4], false, [], []⟩), (11, ⟨[19], false, [], []⟩), (12, ⟨[4], false, [], []⟩), (13, ⟨[4], false, [], []⟩)]
theorem fd_45 : fnD Try.prog (lookT tab) (lookN note45) 45 = some ifn45 := by kernel_rfl
def note47 : List (Nat × Note) := [(0, ⟨[0, 1], false, [], []⟩), (1, ⟨[0, 1, 7, 8], false, [], []⟩), (2, ⟨[0, 1, 7, 8, 9], false, [], []⟩), (3, ⟨[0, 1, 5, 7, 8], false, [], []⟩), (4, ⟨[0, 1, 5, 7, 8, 16], false, [], []⟩), (5, ⟨[4], false, [], []⟩), (6, ⟨[0, 1, 7, 8], false, [], []⟩), (7, ⟨[4], false, [], []⟩)]
theorem fd_47 : fnD Try.prog (lookT tab) (lookN note47) 47 = some ifn47 := by kernel_rfl
def note48 : List (Nat × Note) := [(0, ⟨[0], false, [], []⟩), (1, ⟨[0, 4], false, [], []⟩), (2, ⟨[2], false, [], []⟩), (3, ⟨[2], false, [], []⟩)]
theorem fd_48 : fnD Try.prog (lookT tab) (lookN note48) 48 = some ifn48 := by kernel_rfl
def note49 : List (Nat × Note) := [(0, ⟨[0], false, [], []⟩), (1, ⟨[0, 3], false, [], []⟩), (2, ⟨[0, 3, 4], false, [], []⟩), (3, ⟨[0, 3, 4, 7], false, [], []⟩), (5, ⟨[0, 3, 4], false, [], []⟩), (4, ⟨[0, 3, 4], false, [], []⟩), (6, ⟨[2], false, [], []⟩)]
theorem fd_49 : fnD Try.prog (lookT tab) (lookN note49) 49 = some ifn49 := by kernel_rfl
def note50 : List (Nat × Note) := [(0, ⟨[0], false, [], []⟩), (1, ⟨[2], false, [], []⟩)]
theorem fd_50 : fnD Try.prog (lookT tab) (lookN note50) 50 = some ifn50 := by kernel_rfl
def note51 : List (Nat × Note) := [(0, ⟨[0, 3], false, [], []⟩), (1, ⟨[], false, [], []⟩)]
theorem fd_51 : fnD Try.prog (lookT tab) (lookN note51) 51 = some ifn51 := by kernel_rfl
def note53 : List (Nat × Note) := [(0, ⟨[0], false, [], []⟩), (1, ⟨[2], false, [], []⟩)]
theorem fd_53 : fnD Try.prog (lookT tab) (lookN note53) 53 = some ifn53 := by kernel_rfl
def note54 : List (Nat × Note) := [(0, ⟨[0], false, [], []⟩), (1, ⟨[3], false, [], []⟩), (2, ⟨[2], false, [], []⟩)]
theorem fd_54 : fnD Try.prog (lookT tab) (lookN note54) 54 = some ifn54 := by kernel_rfl
def note56 : List (Nat × Note) := [(0, ⟨[0], false, [], []⟩), (1, ⟨[2], false, [], []⟩)]
theorem fd_56 : fnD Try.prog (lookT tab) (lookN note56) 56 = some ifn56 := by kernel_rfl
def note57 : List (Nat × Note) := [(0, ⟨[0], false, [], []⟩), (1, ⟨[2], false, [], []⟩)]
theorem fd_57 : fnD Try.prog (lookT tab) (lookN note57) 57 = some ifn57 := by kernel_rfl
def note59 : List (Nat × Note) := [(0, ⟨[0, 1], false, [], []⟩), (1, ⟨[0, 1, 7], false, [], []⟩), (2, ⟨[0, 1], false, [], []⟩), (3, ⟨[0, 1, 21], false, [], []⟩), (4, ⟨[], false, [], []⟩)]
theorem fd_59 : fnD Try.prog (lookT tab) (lookN note59) 59 = some ifn59 := by kernel_rfl
def note60 : List (Nat × Note) := [(0, ⟨[0, 1], false, [], []⟩), (1, ⟨[0, 1], false, [], []⟩), (2, ⟨[1], false, [], []⟩), (3, ⟨[4, 5], false, [], []⟩)]
theorem fd_60 : fnD Try.prog (lookT tab) (lookN note60) 60 = some ifn60 := by kernel_rfl
theorem cfgOk : CfgOk Try.prog (lookT tab) cfg := by
  refine ⟨tysOk, by kernel_rfl, fun f ifn _ hf => ?_, fun f p hp => ?_⟩
  · have hf : fnOf f = some ifn := hf
    unfold fnOf at hf
    split at hf <;> first | (cases hf; done) | skip
    · cases hf; exact fnD_ok fd_3
    · cases hf; exact fnD_ok fd_4
    · cases hf; exact fnD_ok fd_5
    · cases hf; exact fnD_ok fd_6
    · cases hf; exact fnD_ok fd_7
    · cases hf; exact fnD_ok fd_8
    · cases hf; exact fnD_ok fd_9
    · cases hf; exact fnD_ok fd_10
    · cases hf; exact fnD_ok fd_11
    · cases hf; exact fnD_ok fd_12
    · cases hf; exact fnD_ok fd_13
    · cases hf; exact fnD_ok fd_14
    · cases hf; exact fnD_ok fd_15
    · cases hf; exact fnD_ok fd_16
    · cases hf; exact fnD_ok fd_17
    · cases hf; exact fnD_ok fd_18
    · cases hf; exact fnD_ok fd_19
    · cases hf; exact fnD_ok fd_20
    · cases hf; exact fnD_ok fd_21
    · cases hf; exact fnD_ok fd_22
    · cases hf; exact fnD_ok fd_23
    · cases hf; exact fnD_ok fd_24
    · cases hf; exact fnD_ok fd_25
    · cases hf; exact fnD_ok fd_26
    · cases hf; exact fnD_ok fd_27
    · cases hf; exact fnD_ok fd_28
    · cases hf; exact fnD_ok fd_29
    · cases hf; exact fnD_ok fd_30
    · cases hf; exact fnD_ok fd_31
    · cases hf; exact fnD_ok fd_32
    · cases hf; exact fnD_ok fd_33
    · cases hf; exact fnD_ok fd_34
    · cases hf; exact fnD_ok fd_35
    · cases hf; exact fnD_ok fd_36
    · cases hf; exact fnD_ok fd_37
    · cases hf; exact fnD_ok fd_38
    · cases hf; exact fnD_ok fd_39
    · cases hf; exact fnD_ok fd_40
    · cases hf; exact fnD_ok fd_41
    · cases hf; exact fnD_ok fd_42
    · cases hf; exact fnD_ok fd_43
    · cases hf; exact fnD_ok fd_44
    · cases hf; exact fnD_ok fd_45
    · cases hf; exact fnD_ok fd_47
    · cases hf; exact fnD_ok fd_48
    · cases hf; exact fnD_ok fd_49
    · cases hf; exact fnD_ok fd_50
    · cases hf; exact fnD_ok fd_51
    · cases hf; exact fnD_ok fd_53
    · cases hf; exact fnD_ok fd_54
    · cases hf; exact fnD_ok fd_56
    · cases hf; exact fnD_ok fd_57
    · cases hf; exact fnD_ok fd_59
    · cases hf; exact fnD_ok fd_60
  · have hp : primOf f = some p := hp
    unfold primOf at hp
    split at hp <;> first | (cases hp; done) | skip
    · cases hp; exact ⟨⟨Try.f46, Try.func46, by kernel_rfl, by kernel_rfl⟩, growP_lay (ti := tiOf 57) Try.growLSeen (tysOk 57 _ (by kernel_rfl)) (by decide)⟩
    · cases hp; exact ⟨⟨Try.f52, Try.func52, by kernel_rfl, by kernel_rfl⟩, intP_ok Try.bits_LeadingZeros8⟩
    · cases hp; exact ⟨⟨Try.f55, Try.func55, by kernel_rfl, by kernel_rfl⟩, joinP_ok Try.strings_Join_none Try.strings_Join⟩
    · cases hp; exact ⟨⟨Try.f58, Try.func58, by kernel_rfl, by kernel_rfl⟩, intP_ok Try.bits_Len64⟩
end Go.Proofs.Ytdpkhkiecobkoaa.Abs
