import Derived.Test.YtghljcgkeeodaaaPrim1
import Derived.Test.YtghljcgkeeodaaaFF
import Derived.Test.YtghljcgkeeodaaaChecked
import Derived.Test.YtghljcgkeeodaaaGrow
set_option linter.all false
set_option maxRecDepth 100000
namespace Go.Proofs.Ytghljcgkeeodaaa.Abs
open Go.Abs
theorem tab_eq : (tab.map fun p => tyD Try.prog p.2.eq p.1) = tab.map fun p => some p.2 := by kernel_rfl
theorem tysOk : TysOk Try.prog (lookT tab) := tysOk_of tab_eq
def note3 : List (Nat × Note) := [(0, ⟨[0, 2, 4], false, [], []⟩), (1, ⟨[0, 2, 4, 7], false, [], []⟩), (2, ⟨[0, 2, 4, 7, 12], false, [], []⟩), (3, ⟨[0, 2, 4, 7], false, [], []⟩), (4, ⟨[0, 2, 4, 7, 8], false, [], []⟩), (5, ⟨[6], true, [5, 8, 9, 15, 18, 19, 25, 28], []⟩)]
theorem fd_3 : fnD Try.prog (lookT tab) (lookN note3) 3 = some ifn3 := by kernel_rfl
def note4 : List (Nat × Note) := [(0, ⟨[0, 3], false, [], []⟩), (1, ⟨[0, 3, 5], false, [], []⟩), (2, ⟨[3, 5, 6], false, [], []⟩), (3, ⟨[5, 6, 7], true, [], []⟩), (4, ⟨[5, 6, 7, 8, 9], false, [], []⟩), (5, ⟨[5, 6, 7, 8, 42], false, [], []⟩), (6, ⟨[4], false, [], []⟩), (7, ⟨[5, 6, 7, 8], false, [], []⟩), (8, ⟨[5, 6, 7, 8, 48], false, [], []⟩), (9, ⟨[5, 6, 7, 8], false, [], []⟩), (10, ⟨[5, 6, 7, 8, 10], false, [], []⟩), (11, ⟨[5, 6, 7, 8, 10, 11, 12, 13], false, [], []⟩), (12, ⟨[5, 6, 7, 8, 10, 11, 12, 78], false, [], []⟩), (13, ⟨[4], false, [], []⟩), (14, ⟨[5, 6, 7, 8, 10, 11, 12, 14], false, [], []⟩), (15, ⟨[5, 6, 7, 8, 10, 11, 12, 14, 15], false, [], []⟩), (16, ⟨[5, 6, 7, 8, 10, 11, 12, 14, 15, 82], false, [], []⟩), (18, ⟨[5, 6, 7, 8, 10, 11, 12, 14, 15, 16], false, [], []⟩), (19, ⟨[5, 6, 7, 8, 10, 11, 12, 14, 15, 16, 17, 18], false, [], []⟩), (20, ⟨[5, 6, 7, 8, 10, 11, 12, 14, 15, 16], false, [], []⟩), (21, ⟨[5, 6, 7, 8, 10, 11, 12, 14, 15, 16, 19, 20], false, [], []⟩), (22, ⟨[5, 6, 7, 8, 10, 11, 12, 14, 15, 120], true, [], []⟩), (23, ⟨[4], false, [], []⟩), (17, ⟨[5, 6, 7, 8, 10, 11, 12, 14, 15], false, [], []⟩), (24, ⟨[5, 6, 7, 8, 10, 11, 12, 14, 21], false, [], []⟩), (25, ⟨[5, 6, 7, 8, 10, 11, 12, 14, 21, 125], false, [], []⟩), (27, ⟨[5, 6, 7, 8, 10, 11, 12, 14, 21, 149], false, [], []⟩), (28, ⟨[4], false, [], []⟩), (26, ⟨[5, 6, 7, 8, 10, 11, 12, 14, 21], false, [], []⟩), (29, ⟨[5, 6, 11, 12, 14, 22, 23, 24], true, [], []⟩), (30, ⟨[5, 6, 11, 12, 14, 23, 24, 25], true, [], []⟩), (31, ⟨[5, 12, 14, 23, 24, 25, 26], true, [], []⟩), (32, ⟨[4], false, [], []⟩)]
theorem fd_4 : fnD Try.prog (lookT tab) (lookN note4) 4 = some ifn4 := by kernel_rfl
def note5 : List (Nat × Note) := [(0, ⟨[0, 1, 5], false, [], []⟩), (1, ⟨[0, 1, 5, 7], false, [], []⟩), (2, ⟨[1, 5, 7, 8], false, [], []⟩), (3, ⟨[7, 8, 9], true, [], []⟩), (4, ⟨[7, 8, 9, 10, 11], false, [], []⟩), (5, ⟨[7, 8, 9, 10, 11, 12, 13], false, [], []⟩), (6, ⟨[7, 8, 9, 10, 11, 12, 13, 14], false, [], []⟩), (7, ⟨[7, 8, 10, 11, 12, 13, 14, 15], true, [], []⟩), (8, ⟨[6], true, [], []⟩)]
theorem fd_5 : fnD Try.prog (lookT tab) (lookN note5) 5 = some ifn5 := by kernel_rfl
def note6 : List (Nat × Note) := [(0, ⟨[0, 1, 5], false, [], []⟩), (1, ⟨[0, 1, 5, 7], false, [], []⟩), (2, ⟨[5, 7, 8], false, [], []⟩), (3, ⟨[5, 7, 8, 9], false, [], []⟩), (4, ⟨[7, 8, 9, 10], true, [], []⟩), (5, ⟨[7, 8, 9, 10, 11, 12], false, [], []⟩), (6, ⟨[7, 8, 9, 10, 11, 12, 13, 14], false, [], []⟩), (7, ⟨[7, 8, 9, 10, 11, 12, 13, 14, 61], false, [], []⟩), (8, ⟨[6], false, [], []⟩), (9, ⟨[7, 8, 9, 10, 11, 13, 14, 63], false, [], []⟩), (10, ⟨[7, 15], true, [], []⟩), (11, ⟨[6], false, [], []⟩), (12, ⟨[7, 8, 9, 10, 11, 13, 14, 16, 17], false, [], []⟩), (13, ⟨[7, 8, 9, 10, 11, 13, 14, 16, 17, 18], false, [], []⟩), (14, ⟨[7, 8, 9, 10, 11, 13, 14, 16, 17, 18, 79], false, [], []⟩), (16, ⟨[7, 8, 9, 10, 11, 13, 14, 16, 17, 18, 19, 20], false, [], []⟩), (17, ⟨[7, 8, 9, 10, 11, 13, 14, 16, 17, 18, 19, 20, 21, 22], false, [], []⟩), (18, ⟨[7, 8, 9, 10, 11, 13, 14, 16, 17, 18, 104], false, [], []⟩), (19, ⟨[6], false, [], []⟩), (15, ⟨[7, 8, 9, 10, 11, 13, 14, 16, 17, 18], false, [], []⟩), (20, ⟨[7, 8, 9, 10, 11, 13, 14, 16, 17, 23, 24], false, [], []⟩), (21, ⟨[7, 9, 10, 11, 13, 14, 16, 17, 23, 24, 25, 26], true, [], []⟩), (22, ⟨[7, 9, 10, 11, 13, 14, 16, 17, 24, 26, 27], true, [], []⟩), (23, ⟨[6], true, [], []⟩)]
theorem fd_6 : fnD Try.prog (lookT tab) (lookN note6) 6 = some ifn6 := by kernel_rfl
def note7 : List (Nat × Note) := [(0, ⟨[0, 1, 2], false, [], []⟩), (1, ⟨[0, 1, 2, 7], false, [], []⟩), (2, ⟨[2, 7, 8], false, [], []⟩), (3, ⟨[2, 7, 8, 9, 10], false, [], []⟩), (4, ⟨[7, 8, 9, 10, 11], false, [], []⟩), (5, ⟨[7, 8, 9, 10, 11, 12], false, [], []⟩), (6, ⟨[7, 8, 9, 11, 12, 37], false, [], []⟩), (7, ⟨[6], true, [], []⟩), (8, ⟨[7, 8, 9, 11, 12, 13], false, [], []⟩), (9, ⟨[7, 8, 9, 11, 12, 13, 56], false, [], []⟩), (10, ⟨[6], false, [], []⟩), (11, ⟨[7, 8, 9, 11, 12, 13, 14], false, [], []⟩), (12, ⟨[7, 9, 11, 12, 14, 15], true, [7], []⟩), (13, ⟨[7, 9, 11, 12, 14, 15, 16], false, [], []⟩), (14, ⟨[6], true, [24], []⟩)]
theorem fd_7 : fnD Try.prog (lookT tab) (lookN note7) 7 = some ifn7 := by kernel_rfl
def note8 : List (Nat × Note) := [(0, ⟨[0, 4, 5], false, [], []⟩), (1, ⟨[0, 4, 5, 7], false, [], []⟩), (2, ⟨[0, 4, 5, 7, 12], false, [], []⟩), (3, ⟨[0, 4, 5, 7], false, [], []⟩), (4, ⟨[6], true, [3, 5, 13, 14, 19, 20, 27, 29, 35, 37, 38], []⟩)]
theorem fd_8 : fnD Try.prog (lookT tab) (lookN note8) 8 = some ifn8 := by kernel_rfl
def note9 : List (Nat × Note) := [(0, ⟨[], false, [], []⟩), (1, ⟨[1, 2, 3], false, [], []⟩), (2, ⟨[0], true, [], []⟩)]
theorem fd_9 : fnD Try.prog (lookT tab) (lookN note9) 9 = some ifn9 := by kernel_rfl
def note10 : List (Nat × Note) := [(0, ⟨[1, 2], false, [], []⟩), (1, ⟨[1, 2], false, [], []⟩), (2, ⟨[1, 2], false, [], []⟩), (3, ⟨[2], true, [], []⟩)]
theorem fd_10 : fnD Try.prog (lookT tab) (lookN note10) 10 = some ifn10 := by kernel_rfl
def note11 : List (Nat × Note) := [(0, ⟨[2, 3, 4], false, [], []⟩), (1, ⟨[2, 3, 4, 7, 8, 9], false, [], []⟩), (2, ⟨[7, 8, 9, 10], true, [], []⟩), (3, ⟨[8, 9, 10, 11], true, [], []⟩), (4, ⟨[6], true, [], []⟩)]
theorem fd_11 : fnD Try.prog (lookT tab) (lookN note11) 11 = some ifn11 := by kernel_rfl
def note12 : List (Nat × Note) := [(0, ⟨[0, 1, 4], false, [], []⟩), (1, ⟨[0, 4, 5], false, [], []⟩), (2, ⟨[0, 4, 5, 6], false, [], []⟩), (3, ⟨[0, 4, 5, 6, 14], false, [], []⟩), (4, ⟨[0, 4, 5, 6], false, [], []⟩), (5, ⟨[0, 4, 5, 6, 7], false, [], []⟩), (6, ⟨[0, 4, 5, 6, 7, 23], false, [], []⟩), (8, ⟨[0, 4, 5, 6, 7], false, [], []⟩), (9, ⟨[0, 4, 5, 6, 7], false, [], []⟩), (7, ⟨[0, 4, 5, 6, 7], false, [], []⟩), (10, ⟨[4], true, [], []⟩)]
theorem fd_12 : fnD Try.prog (lookT tab) (lookN note12) 12 = some ifn12 := by kernel_rfl
def note13 : List (Nat × Note) := [(0, ⟨[1], false, [], []⟩), (1, ⟨[1, 3], false, [], []⟩), (2, ⟨[1, 3, 4], false, [], []⟩), (3, ⟨[1, 3, 4, 5], false, [], []⟩), (4, ⟨[1, 3, 4, 5, 16], false, [], []⟩), (6, ⟨[1, 3, 4, 5], false, [], []⟩), (7, ⟨[1, 3, 4, 5], false, [], []⟩), (5, ⟨[1, 3, 4, 5], false, [], []⟩), (8, ⟨[2], false, [], []⟩)]
theorem fd_13 : fnD Try.prog (lookT tab) (lookN note13) 13 = some ifn13 := by kernel_rfl
def note14 : List (Nat × Note) := [(0, ⟨[1, 2], false, [], []⟩), (1, ⟨[1, 2, 10], false, [], []⟩), (2, ⟨[4, 5], true, [], []⟩), (3, ⟨[1, 2, 6], false, [], []⟩), (4, ⟨[1, 2, 6, 17], false, [], []⟩), (6, ⟨[1, 2, 6, 27], false, [], []⟩), (7, ⟨[4, 5], true, [], []⟩), (5, ⟨[1, 2, 6], false, [], []⟩), (8, ⟨[4, 5], false, [], []⟩)]
theorem fd_14 : fnD Try.prog (lookT tab) (lookN note14) 14 = some ifn14 := by kernel_rfl
def note15 : List (Nat × Note) := [(0, ⟨[1, 2, 3, 4, 8], false, [], []⟩), (1, ⟨[1, 2, 3, 4, 8, 26], false, [], []⟩), (2, ⟨[8, 9, 10], false, [], []⟩), (3, ⟨[1, 2, 3, 4, 8, 11], false, [], []⟩), (4, ⟨[1, 2, 3, 4, 8, 11, 13, 14], false, [], []⟩), (5, ⟨[1, 2, 3, 4, 8, 11, 13, 14, 39], false, [], []⟩), (6, ⟨[8, 9, 10], false, [], []⟩), (7, ⟨[1, 3, 4, 8, 13, 45], false, [], []⟩), (8, ⟨[8, 9, 10], false, [4], []⟩), (9, ⟨[3, 4, 8, 15], false, [], []⟩), (10, ⟨[3, 4, 8, 15, 62, 63, 64], false, [], []⟩), (11, ⟨[3, 4, 8, 15, 62, 63, 64, 65], false, [], []⟩), (12, ⟨[3, 4, 8, 15, 16, 17, 62, 63, 64], false, [], []⟩), (13, ⟨[3, 4, 8, 15, 16, 17, 18, 19, 62, 63, 64], false, [], []⟩), (14, ⟨[3, 4, 8, 15, 16, 17, 62, 63, 64, 89], false, [], []⟩), (15, ⟨[3, 4, 8, 15, 16, 20], false, [], []⟩), (16, ⟨[4, 8, 15], false, [9], []⟩), (17, ⟨[3, 4, 8, 15, 62, 63, 64], false, [], []⟩), (18, ⟨[8, 9, 10], false, [], []⟩)]
theorem fd_15 : fnD Try.prog (lookT tab) (lookN note15) 15 = some ifn15 := by kernel_rfl
def note16 : List (Nat × Note) := [(0, ⟨[1], false, [], []⟩), (1, ⟨[1, 3, 4], false, [], [(3, 6)]⟩), (2, ⟨[1, 5], true, [], []⟩), (3, ⟨[2], true, [], []⟩)]
theorem fd_16 : fnD Try.prog (lookT tab) (lookN note16) 16 = some ifn16 := by kernel_rfl
def note17 : List (Nat × Note) := [(0, ⟨[2, 3], false, [], []⟩), (1, ⟨[2, 3, 5], false, [], []⟩), (2, ⟨[4], true, [], []⟩)]
theorem fd_17 : fnD Try.prog (lookT tab) (lookN note17) 17 = some ifn17 := by kernel_rfl
def note18 : List (Nat × Note) := [(0, ⟨[1], false, [], []⟩), (1, ⟨[1, 4], false, [], []⟩), (2, ⟨[1, 4, 9], false, [], []⟩), (3, ⟨[2, 3], true, [], []⟩), (4, ⟨[2, 3], true, [], []⟩)]
theorem fd_18 : fnD Try.prog (lookT tab) (lookN note18) 18 = some ifn18 := by kernel_rfl
def note19 : List (Nat × Note) := [(0, ⟨[1, 2, 3], false, [], []⟩), (1, ⟨[1, 2, 7, 8], true, [], []⟩), (2, ⟨[6], false, [], []⟩)]
theorem fd_19 : fnD Try.prog (lookT tab) (lookN note19) 19 = some ifn19 := by kernel_rfl
def note20 : List (Nat × Note) := [(0, ⟨[1, 2, 4], false, [], []⟩), (1, ⟨[1, 2, 4, 6, 7], false, [], []⟩), (2, ⟨[1, 2, 4, 6, 15], false, [], []⟩), (3, ⟨[4, 5], true, [], []⟩), (4, ⟨[4, 5], true, [], []⟩)]
theorem fd_20 : fnD Try.prog (lookT tab) (lookN note20) 20 = some ifn20 := by kernel_rfl
def note21 : List (Nat × Note) := [(0, ⟨[1, 2], false, [], []⟩), (1, ⟨[1, 2, 6], false, [], []⟩), (2, ⟨[1, 2, 6, 13], false, [], []⟩), (3, ⟨[4, 5], true, [], []⟩), (4, ⟨[1, 2, 20], false, [], []⟩), (5, ⟨[4, 5], false, [], []⟩), (6, ⟨[4, 5], true, [], []⟩)]
theorem fd_21 : fnD Try.prog (lookT tab) (lookN note21) 21 = some ifn21 := by kernel_rfl
def note22 : List (Nat × Note) := [(0, ⟨[1, 2, 3, 6], false, [], []⟩), (1, ⟨[1, 2, 3, 6, 7], false, [], []⟩), (2, ⟨[1, 2, 3, 6, 7, 9], false, [], []⟩), (3, ⟨[3, 6, 9], false, [], []⟩), (4, ⟨[3, 6, 9, 29], false, [], []⟩), (5, ⟨[6], true, [], []⟩), (6, ⟨[6], true, [], []⟩)]
theorem fd_22 : fnD Try.prog (lookT tab) (lookN note22) 22 = some ifn22 := by kernel_rfl
def note23 : List (Nat × Note) := [(0, ⟨[2, 3], false, [], []⟩), (1, ⟨[4], true, [], []⟩)]
theorem fd_23 : fnD Try.prog (lookT tab) (lookN note23) 23 = some ifn23 := by kernel_rfl
def note24 : List (Nat × Note) := [(0, ⟨[0, 1], false, [], []⟩), (1, ⟨[0, 1, 10], false, [], []⟩), (2, ⟨[4], false, [], []⟩), (3, ⟨[0, 1, 5], false, [], []⟩), (4, ⟨[0, 1, 5, 14], false, [], []⟩), (6, ⟨[0, 1, 5, 25], false, [], []⟩), (7, ⟨[4], false, [], []⟩), (5, ⟨[0, 1, 5], false, [], []⟩), (8, ⟨[4], false, [], []⟩)]
theorem fd_24 : fnD Try.prog (lookT tab) (lookN note24) 24 = some ifn24 := by kernel_rfl
def note25 : List (Nat × Note) := [(0, ⟨[1, 2, 3], false, [], []⟩), (1, ⟨[1, 2, 3, 9], false, [], []⟩), (2, ⟨[1, 2, 3], false, [], []⟩), (3, ⟨[2, 7], true, [], []⟩), (4, ⟨[6], false, [], []⟩)]
theorem fd_25 : fnD Try.prog (lookT tab) (lookN note25) 25 = some ifn25 := by kernel_rfl
def note26 : List (Nat × Note) := [(0, ⟨[1], false, [], []⟩), (1, ⟨[1, 14], false, [], []⟩), (2, ⟨[2], false, [], []⟩), (3, ⟨[1, 3], false, [], []⟩), (4, ⟨[1, 3, 4], false, [], []⟩), (5, ⟨[1, 3, 4, 21], false, [], []⟩), (7, ⟨[1, 3, 4, 5], false, [], []⟩), (8, ⟨[1, 3, 4, 5, 6], false, [], []⟩), (9, ⟨[1, 4, 5, 49], false, [], []⟩), (10, ⟨[2], false, [], []⟩), (11, ⟨[1, 3, 4], true, [], []⟩), (6, ⟨[1, 3, 4], false, [], []⟩), (12, ⟨[2], false, [], []⟩)]
theorem fd_26 : fnD Try.prog (lookT tab) (lookN note26) 26 = some ifn26 := by kernel_rfl
def note27 : List (Nat × Note) := [(0, ⟨[2, 3], false, [], []⟩), (1, ⟨[2, 3, 5, 6], false, [], []⟩), (2, ⟨[2, 3, 5, 6, 7], false, [], []⟩), (3, ⟨[2, 3, 5, 6, 7, 8, 9], false, [], []⟩), (4, ⟨[2, 3, 5, 6, 7, 8, 9, 10, 11], false, [], []⟩), (5, ⟨[2, 3, 5, 6, 7, 8, 9, 10, 11, 12], false, [5, 11, 12], []⟩), (6, ⟨[2, 3, 5, 6, 7, 8, 9, 10, 11, 12, 13], false, [3, 7, 8], []⟩), (7, ⟨[2, 3, 5, 6, 7, 8, 9, 10, 11, 12, 13, 14, 15], false, [], []⟩), (8, ⟨[2, 3, 5, 6, 7, 8, 9, 10, 11, 12, 13, 14, 15, 16, 17], false, [], []⟩), (9, ⟨[2, 3, 5, 6, 7, 8, 9, 10, 11, 12, 13, 15, 17, 18], true, [], []⟩), (10, ⟨[4], true, [1, 30, 36], []⟩)]
theorem fd_27 : fnD Try.prog (lookT tab) (lookN note27) 27 = some ifn27 := by kernel_rfl
def note28 : List (Nat × Note) := [(0, ⟨[1, 2, 3, 4, 8], false, [], []⟩), (1, ⟨[1, 2, 3, 4, 8, 9], false, [], []⟩), (2, ⟨[1, 2, 3, 4, 8, 29], false, [], []⟩), (3, ⟨[8], false, [], []⟩), (4, ⟨[1, 2, 3, 4, 8, 10], false, [], []⟩), (5, ⟨[1, 2, 3, 4, 8, 10, 37], false, [], []⟩), (6, ⟨[8], false, [], []⟩), (7, ⟨[1, 2, 3, 4, 8, 11, 12], false, [], []⟩), (8, ⟨[1, 3, 4, 8, 11, 53], false, [], []⟩), (9, ⟨[1, 4, 8, 11, 13], false, [], []⟩), (10, ⟨[1, 4, 8, 11, 13, 14], false, [], []⟩), (11, ⟨[1, 4, 8, 11, 13, 14, 60], false, [], []⟩), (13, ⟨[1, 4, 8, 11, 13, 14, 15], false, [], []⟩), (14, ⟨[1, 4, 8, 11, 13, 14, 15, 77], false, [], []⟩), (15, ⟨[1, 4, 8, 11, 13, 14], false, [], []⟩), (12, ⟨[1, 4, 8, 11, 13, 14], false, [], []⟩), (16, ⟨[8], false, [], []⟩), (17, ⟨[1, 3, 4, 8, 16], false, [], []⟩), (18, ⟨[1, 3, 4, 8, 16, 17], false, [], []⟩), (19, ⟨[1, 3, 4, 8, 16, 17, 87], false, [], []⟩), (21, ⟨[1, 3, 4, 8, 16, 17, 18], false, [], []⟩), (22, ⟨[1, 3, 4, 8, 16, 17, 18, 98], false, [], []⟩), (23, ⟨[1, 3, 4, 8, 16, 17, 18, 19, 20], false, [], []⟩), (24, ⟨[1, 3, 4, 8, 16, 17, 18, 112], false, [], []⟩), (25, ⟨[1, 3, 4, 8, 16, 17, 18, 21], false, [], []⟩), (26, ⟨[1, 3, 4, 8, 16, 17, 18, 21, 22], false, [], []⟩), (27, ⟨[1, 3, 4, 8, 16, 17, 18, 21, 22, 122], false, [], []⟩), (29, ⟨[1, 3, 4, 8, 16, 17, 18, 21, 22, 133], false, [], []⟩), (30, ⟨[1, 3, 4, 8, 16, 17, 18, 21, 22], false, [], []⟩), (28, ⟨[1, 3, 4, 8, 16, 17, 18, 21, 22], false, [], []⟩), (31, ⟨[1, 3, 4, 8, 16, 17, 21], false, [], []⟩), (32, ⟨[1, 3, 4, 8, 16, 17], false, [], []⟩), (20, ⟨[1, 3, 4, 8, 16, 17], false, [], []⟩), (33, ⟨[8], false, [], []⟩)]
theorem fd_28 : fnD Try.prog (lookT tab) (lookN note28) 28 = some ifn28 := by kernel_rfl
def note29 : List (Nat × Note) := [(0, ⟨[1, 2, 3], false, [], []⟩), (1, ⟨[2, 3, 7], false, [], []⟩), (2, ⟨[2, 3, 7, 14], false, [], []⟩), (3, ⟨[2, 3, 7], false, [], []⟩), (4, ⟨[2, 3, 7, 8], false, [], []⟩), (5, ⟨[2, 3, 7, 25], false, [], []⟩), (6, ⟨[6], false, [], []⟩), (7, ⟨[6], true, [], []⟩)]
theorem fd_29 : fnD Try.prog (lookT tab) (lookN note29) 29 = some ifn29 := by kernel_rfl
def note30 : List (Nat × Note) := [(0, ⟨[0], false, [], []⟩), (1, ⟨[0, 3], false, [], []⟩), (2, ⟨[0, 3, 9, 10, 11], false, [], []⟩), (3, ⟨[0, 3, 9, 10, 11, 12], false, [], []⟩), (4, ⟨[0, 3, 5, 9, 10, 11], false, [], []⟩), (5, ⟨[0, 3, 9, 10, 11], false, [], []⟩), (6, ⟨[0, 3, 9, 10, 11, 20], false, [], []⟩), (7, ⟨[0, 3, 9, 10, 11], false, [], []⟩), (8, ⟨[0, 3, 9, 10, 11], false, [], []⟩), (9, ⟨[0, 6], false, [], []⟩), (10, ⟨[6, 25, 26, 27], false, [], []⟩), (11, ⟨[6, 25, 26, 27, 28], false, [], []⟩), (12, ⟨[6, 8, 25, 26, 27], false, [], []⟩), (13, ⟨[6, 25, 26, 27], false, [], []⟩), (14, ⟨[6, 25, 26, 27], false, [], []⟩), (15, ⟨[2], false, [], []⟩)]
theorem fd_30 : fnD Try.prog (lookT tab) (lookN note30) 30 = some ifn30 := by kernel_rfl
def note31 : List (Nat × Note) := [(0, ⟨[1, 2, 3], false, [], []⟩), (1, ⟨[1, 2, 3], false, [], []⟩), (2, ⟨[1, 2, 3, 5], false, [], []⟩), (3, ⟨[1, 3, 5], false, [], []⟩), (4, ⟨[4], true, [], []⟩)]
theorem fd_31 : fnD Try.prog (lookT tab) (lookN note31) 31 = some ifn31 := by kernel_rfl
def note32 : List (Nat × Note) := [(0, ⟨[1], false, [], []⟩), (1, ⟨[2], true, [], []⟩)]
theorem fd_32 : fnD Try.prog (lookT tab) (lookN note32) 32 = some ifn32 := by kernel_rfl
def note33 : List (Nat × Note) := [(0, ⟨[0, 1], false, [], []⟩), (1, ⟨[4], false, [], []⟩)]
theorem fd_33 : fnD Try.prog (lookT tab) (lookN note33) 33 = some ifn33 := by kernel_rfl
def note34 : List (Nat × Note) := [(0, ⟨[0], false, [], []⟩), (1, ⟨[0, 4], false, [], []⟩), (2, ⟨[2], false, [], []⟩), (3, ⟨[2], false, [], []⟩)]
theorem fd_34 : fnD Try.prog (lookT tab) (lookN note34) 34 = some ifn34 := by kernel_rfl
def note35 : List (Nat × Note) := [(0, ⟨[1, 2], false, [], []⟩), (1, ⟨[4], true, [], []⟩)]
theorem fd_35 : fnD Try.prog (lookT tab) (lookN note35) 35 = some ifn35 := by kernel_rfl
def note36 : List (Nat × Note) := [(0, ⟨[0, 1], false, [], []⟩), (1, ⟨[0, 1, 10], false, [], []⟩), (2, ⟨[4], false, [], []⟩), (3, ⟨[0, 1, 12, 13], false, [], []⟩), (4, ⟨[0, 1, 12, 13, 14], false, [], []⟩), (5, ⟨[0, 1, 5, 12, 13], false, [], []⟩), (6, ⟨[0, 1, 12, 13, 24], false, [], []⟩), (7, ⟨[4], false, [], []⟩), (8, ⟨[0, 1, 12, 13], false, [], []⟩), (9, ⟨[4], false, [], []⟩)]
theorem fd_36 : fnD Try.prog (lookT tab) (lookN note36) 36 = some ifn36 := by kernel_rfl
def note37 : List (Nat × Note) := [(0, ⟨[1], false, [], []⟩), (1, ⟨[2], true, [], []⟩)]
theorem fd_37 : fnD Try.prog (lookT tab) (lookN note37) 37 = some ifn37 := by kernel_rfl
def note38 : List (Nat × Note) := [(0, ⟨[1, 2], false, [], []⟩), (1, ⟨[1, 2, 7], false, [], []⟩), (2, ⟨[2], true, [], []⟩), (3, ⟨[2, 3], true, [], []⟩), (4, ⟨[2], true, [], []⟩)]
theorem fd_38 : fnD Try.prog (lookT tab) (lookN note38) 38 = some ifn38 := by kernel_rfl
def note39 : List (Nat × Note) := [(0, ⟨[1, 2, 3], false, [], []⟩), (1, ⟨[1, 2, 3, 7], false, [], []⟩), (2, ⟨[1, 2, 3, 7, 8], false, [], []⟩), (3, ⟨[1, 2, 3, 7, 8, 13], false, [], []⟩), (5, ⟨[1, 2, 3, 7, 8, 29], false, [], []⟩), (6, ⟨[1, 2, 3, 7, 8], false, [], []⟩), (4, ⟨[1, 2, 3, 7, 8], false, [], []⟩), (7, ⟨[6], false, [], []⟩)]
theorem fd_39 : fnD Try.prog (lookT tab) (lookN note39) 39 = some ifn39 := by kernel_rfl
def note40 : List (Nat × Note) := [(0, ⟨[1, 2, 3, 6], false, [], []⟩), (1, ⟨[1, 2, 3, 6, 7], false, [], []⟩), (2, ⟨[3, 6, 8], true, [], [(1, 7), (1, 15), (3, 7), (3, 15), (9, 7)]⟩), (3, ⟨[3, 6, 8, 9], false, [], []⟩), (4, ⟨[3, 6, 8, 32], false, [], []⟩), (5, ⟨[6], true, [], []⟩), (6, ⟨[6], true, [], []⟩)]
theorem fd_40 : fnD Try.prog (lookT tab) (lookN note40) 40 = some ifn40 := by kernel_rfl
def note41 : List (Nat × Note) := [(0, ⟨[1, 2, 4], false, [], []⟩), (1, ⟨[1, 2, 4, 6, 7], false, [], []⟩), (2, ⟨[1, 2, 4, 6, 17], false, [], []⟩), (3, ⟨[4, 5], true, [], []⟩), (4, ⟨[1, 2, 4, 8], false, [], []⟩), (5, ⟨[1, 2, 4, 8, 9], false, [], []⟩), (6, ⟨[1, 2, 4, 8, 9, 26], false, [], []⟩), (8, ⟨[1, 2, 4, 8, 9, 36], false, [], []⟩), (9, ⟨[1, 2, 4, 8, 9], false, [], []⟩), (7, ⟨[1, 2, 4, 8, 9], false, [], []⟩), (10, ⟨[4, 5], true, [], []⟩)]
theorem fd_41 : fnD Try.prog (lookT tab) (lookN note41) 41 = some ifn41 := by kernel_rfl
def note42 : List (Nat × Note) := [(0, ⟨[1, 2, 3], false, [], []⟩), (1, ⟨[1, 2, 7], true, [], []⟩), (2, ⟨[6], true, [], []⟩)]
theorem fd_42 : fnD Try.prog (lookT tab) (lookN note42) 42 = some ifn42 := by kernel_rfl
def note44 : List (Nat × Note) := [(0, ⟨[0, 1], false, [], []⟩), (1, ⟨[0, 1, 7, 8], false, [], []⟩), (2, ⟨[0, 1, 7, 8, 9], false, [], []⟩), (3, ⟨[0, 1, 5, 7, 8], false, [], []⟩), (4, ⟨[0, 1, 5, 7, 8, 16], false, [], []⟩), (5, ⟨[4], false, [], []⟩), (6, ⟨[0, 1, 7, 8], false, [], []⟩), (7, ⟨[4], false, [], []⟩)]
theorem fd_44 : fnD Try.prog (lookT tab) (lookN note44) 44 = some ifn44 := by kernel_rfl
theorem cfgOk : CfgOk Try.prog (lookT tab) cfg := by
  refine ⟨tysOk, by kernel_rfl, fun f ifn _ hf => ?_, fun f p hp => ?_⟩
  · have hf : fnOf f = some ifn := hf
    unfold fnOf at hf
    split at hf <;> first | (cases hf; done) | skip
    · cases hf; exact fnD_ok fd_3
    · cases hf; exact fnD_ok fd_4
    · cases hf; exact fnD_ok fd_5
    · cases hf; exact fnD_ok fd_6
    · cases hf; exact fnD_ok fd_7
    · cases hf; exact fnD_ok fd_8
    · cases hf; exact fnD_ok fd_9
    · cases hf; exact fnD_ok fd_10
    · cases hf; exact fnD_ok fd_11
    · cases hf; exact fnD_ok fd_12
    · cases hf; exact fnD_ok fd_13
    · cases hf; exact fnD_ok fd_14
    · cases hf; exact fnD_ok fd_15
    · cases hf; exact fnD_ok fd_16
    · cases hf; exact fnD_ok fd_17
    · cases hf; exact fnD_ok fd_18
    · cases hf; exact fnD_ok fd_19
    · cases hf; exact fnD_ok fd_20
    · cases hf; exact fnD_ok fd_21
    · cases hf; exact fnD_ok fd_22
    · cases hf; exact fnD_ok fd_23
    · cases hf; exact fnD_ok fd_24
    · cases hf; exact fnD_ok fd_25
    · cases hf; exact fnD_ok fd_26
    · cases hf; exact fnD_ok fd_27
    · cases hf; exact fnD_ok fd_28
    · cases hf; exact fnD_ok fd_29
    · cases hf; exact fnD_ok fd_30
    · cases hf; exact fnD_ok fd_31
    · cases hf; exact fnD_ok fd_32
    · cases hf; exact fnD_ok fd_33
    · cases hf; exact fnD_ok fd_34
    · cases hf; exact fnD_ok fd_35
    · cases hf; exact fnD_ok fd_36
    · cases hf; exact fnD_ok fd_37
    · cases hf; exact fnD_ok fd_38
    · cases hf; exact fnD_ok fd_39
    · cases hf; exact fnD_ok fd_40
    · cases hf; exact fnD_ok fd_41
    · cases hf; exact fnD_ok fd_42
    · cases hf; exact fnD_ok fd_44
  · have hp : primOf f = some p := hp
    unfold primOf at hp
    split at hp <;> first | (cases hp; done) | skip
    · cases hp; exact ⟨⟨Try.f43, Try.func43, by kernel_rfl, by kernel_rfl⟩, growP_lay (ti := tiOf 41) Try.growLEntry (tysOk 41 _ (by kernel_rfl)) (by decide)⟩
end Go.Proofs.Ytghljcgkeeodaaa.Abs
