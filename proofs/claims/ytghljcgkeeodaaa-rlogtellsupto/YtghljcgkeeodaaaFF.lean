import Derived.Test.YtghljcgkeeodaaaLib3
import Derived.Test.YtghljcgkeeodaaaPrim1
set_option linter.all false
namespace Go.Proofs.Ytghljcgkeeodaaa.Abs
open Go.Abs
/-- vendue/venduelaw07.RlogPuts -/
def ic3 : IC :=
 (.seq
 (.reg [
 ⟨some 4, .box (.slot 1), none⟩,
 ⟨some 6, .mov (.lit (.bool false)), none⟩] [0, 2, 4] false)
 (.seq
 (.reg [
 ⟨some 9, .call (.lit (.func (.func 9) [] [])) [], none⟩,
 ⟨some 7, .mov (.slot 9), none⟩] [0, 2, 4, 7] false)
 (.seq
 (.seq
 (.reg [
 ⟨some 10, .mov (.slot 2), none⟩,
 ⟨some 11, .len (.slice 3) (.slot 10), none⟩,
 ⟨some 12, .bin .gtr none (.slot 11) (.lit (.int .i64 5)), none⟩] [0, 2, 4, 7, 12] false)
 (.cond (.slot 12)
 (.reg [
 ⟨some 13, .mov (.slot 2), none⟩,
 ⟨some 14, .sl (.slice 3) (.slot 13) none (some (.lit (.int .i64 5))) none, none⟩,
 ⟨some 2, .mov (.slot 14), none⟩] [0, 2, 4, 7] false)
 .skip))
 (.seq
 (.reg [
 ⟨some 15, .load 4 true (.slot 4), none⟩,
 ⟨some 16, .call (.lit (.func (.func 10) [] [])) [(.slot 15)], none⟩,
 ⟨some 8, .alloc [(.int .u64 0), (.int .u64 0), (.int .i64 0), (.slice true 0 [] .full)], none⟩,
 ⟨none, .store 4 (.slot 8) (.slot 16), none⟩] [0, 2, 4, 7, 8] false)
 (.seq
 (.regd [] [
 (⟨some 17, .mov (.slot 7), none⟩, none),
 (⟨some 18, .mov (.slot 17), none⟩, none),
 (⟨some 19, .mov (.slot 0), (some (18, true))⟩, none),
 (⟨some 20, .faddr 2 (.slot 4), (some (18, true))⟩, none),
 (⟨some 21, .load 1 false (.slot 20), (some (18, true))⟩, none),
 (⟨some 22, .pcall (.lit (.func (.func 12) [] [])) [(.slot 19), (.slot 21)], (some (18, true))⟩, none),
 (⟨some 23, .load 4 true (.slot 4), (some (18, true))⟩, none),
 (⟨some 24, .load 4 true (.slot 4), (some (18, true))⟩, none),
 (⟨some 25, .pcall (.lit (.func (.func 13) [] [])) [(.slot 24)], (some (18, true))⟩, none),
 (⟨some 26, .pcall (.lit (.func (.func 11) [] [])) [(.slot 22), (.slot 23), (.slot 25)], (some (18, true))⟩, none),
 (⟨some 27, .pick (.slot 18) (.slot 26) (.lit (.bool false)), none⟩, none),
 (⟨some 28, .mov (.slot 27), none⟩, none),
 (⟨some 29, .mov (.slot 0), (some (28, true))⟩, none),
 (⟨some 30, .faddr 2 (.slot 4), (some (28, true))⟩, none),
 (⟨some 31, .load 1 false (.slot 30), (some (28, true))⟩, none),
 (⟨some 32, .pcall (.lit (.func (.func 12) [] [])) [(.slot 29), (.slot 31)], (some (28, true))⟩, none),
 (⟨some 33, .load 4 true (.slot 8), (some (28, true))⟩, none),
 (⟨some 34, .load 4 true (.slot 8), (some (28, true))⟩, none),
 (⟨some 35, .pcall (.lit (.func (.func 13) [] [])) [(.slot 34)], (some (28, true))⟩, none),
 (⟨some 36, .pcall (.lit (.func (.func 11) [] [])) [(.slot 32), (.slot 33), (.slot 35)], (some (28, true))⟩, none),
 (⟨some 37, .pick (.slot 28) (.slot 36) (.lit (.bool false)), none⟩, none),
 (⟨some 38, .mov (.slot 37), none⟩, none),
 (⟨some 39, .mov (.slot 0), (some (38, true))⟩, none),
 (⟨some 40, .faddr 2 (.slot 4), (some (38, true))⟩, none),
 (⟨some 41, .load 1 false (.slot 40), (some (38, true))⟩, none),
 (⟨some 42, .pcall (.lit (.func (.func 12) [] [])) [(.slot 39), (.slot 41)], (some (38, true))⟩, none),
 (⟨some 43, .load 4 true (.slot 8), (some (38, true))⟩, none),
 (⟨some 44, .mov (.slot 2), (some (38, true))⟩, none),
 (⟨some 45, .pcall (.lit (.func (.func 11) [] [])) [(.slot 42), (.slot 43), (.slot 44)], (some (38, true))⟩, none),
 (⟨some 46, .pick (.slot 38) (.slot 45) (.lit (.bool false)), none⟩, none),
 (⟨some 6, .mov (.slot 46), none⟩, none)] [] [6] true)
 .ret)))))
def ifn3 : IFn := ⟨47, [.inl 6], ic3⟩
/-- vendue/venduelaw07.RlogAgrees -/
def ic4l1 : IC :=
 (.seq
 (.seq
 (.reg [
 ⟨some 121, .mov (.slot 21), none⟩,
 ⟨some 122, .faddr 2 (.slot 6), none⟩,
 ⟨some 123, .load 1 false (.slot 122), none⟩,
 ⟨some 124, .len (.slice 3) (.slot 123), none⟩,
 ⟨some 125, .bin .lss none (.slot 121) (.slot 124), none⟩] [5, 6, 7, 8, 10, 11, 12, 14, 21, 125] false)
 (.cond (.slot 125)
 .skip
 (.exit 2)))
 (.seq
 (.block 3
 (.seq
 (.regd [] [
 (⟨some 128, .faddr 2 (.slot 6), none⟩, none),
 (⟨some 129, .load 1 false (.slot 128), none⟩, none),
 (⟨some 130, .mov (.slot 21), none⟩, none),
 (⟨some 131, .iaddr (.slice 3) (.slot 129) (.slot 130), none⟩, none),
 (⟨some 132, .faddr 0 (.slot 131), none⟩, none),
 (⟨some 133, .load 1 false (.slot 132), none⟩, none),
 (⟨some 134, .faddr 0 (.slot 7), none⟩, none),
 (⟨some 135, .load 1 false (.slot 134), none⟩, none),
 (⟨some 136, .bin .leq none (.slot 133) (.slot 135), none⟩, none),
 (⟨some 137, .mov (.slot 136), none⟩, none),
 (⟨some 138, .faddr 2 (.slot 11), (some (137, true))⟩, none),
 (⟨some 139, .load 1 false (.slot 138), (some (137, true))⟩, none),
 (⟨some 140, .mov (.slot 21), (some (137, true))⟩, none),
 (⟨some 141, .iaddr (.slice 3) (.slot 139) (.slot 140), (some (137, true))⟩, none),
 (⟨some 142, .load 3 true (.slot 141), (some (137, true))⟩, none),
 (⟨some 143, .faddr 2 (.slot 6), (some (137, true))⟩, none),
 (⟨some 144, .load 1 false (.slot 143), (some (137, true))⟩, none),
 (⟨some 145, .mov (.slot 21), (some (137, true))⟩, none),
 (⟨some 146, .iaddr (.slice 3) (.slot 144) (.slot 145), (some (137, true))⟩, none),
 (⟨some 147, .load 3 true (.slot 146), (some (137, true))⟩, none),
 (⟨some 148, .bin .neq (some (.struct [(0, 1, false, .int), (1, 1, false, .int), (2, 1, false, .str)])) (.slot 142) (.slot 147), (some (137, true))⟩, none),
 (⟨some 149, .pick (.slot 137) (.slot 148) (.lit (.bool false)), none⟩, none)] [] [5, 6, 7, 8, 10, 11, 12, 14, 21, 149] false)
 (.cond (.slot 149)
 (.seq
 (.reg [
 ⟨some 4, .mov (.lit (.bool false)), none⟩] [4] false)
 .ret)
 .skip)))
 (.reg [
 ⟨some 126, .mov (.slot 21), none⟩,
 ⟨some 127, .bin .add none (.slot 126) (.lit (.int .i64 1)), none⟩,
 ⟨some 21, .mov (.slot 127), none⟩] [5, 6, 7, 8, 10, 11, 12, 14, 21] false)))
def ic4l0 : IC :=
 (.seq
 (.seq
 (.reg [
 ⟨some 79, .mov (.slot 15), none⟩,
 ⟨some 80, .mov (.slot 10), none⟩,
 ⟨some 81, .len (.slice 3) (.slot 80), none⟩,
 ⟨some 82, .bin .lss none (.slot 79) (.slot 81), none⟩] [5, 6, 7, 8, 10, 11, 12, 14, 15, 82] false)
 (.cond (.slot 82)
 .skip
 (.exit 0)))
 (.seq
 (.block 1
 (.seq
 (.reg [
 ⟨some 85, .mov (.slot 10), none⟩,
 ⟨some 86, .mov (.slot 15), none⟩,
 ⟨some 87, .iaddr (.slice 3) (.slot 85) (.slot 86), none⟩,
 ⟨some 88, .load 3 true (.slot 87), none⟩,
 ⟨some 16, .alloc [(.int .u64 0), (.int .u64 0), (.str ⟨#[]⟩)], none⟩,
 ⟨none, .store 3 (.slot 16) (.slot 88), none⟩] [5, 6, 7, 8, 10, 11, 12, 14, 15, 16] false)
 (.seq
 (.reg [
 ⟨some 90, .load 3 true (.slot 6), none⟩,
 ⟨some 91, .faddr 0 (.slot 16), none⟩,
 ⟨some 92, .load 1 false (.slot 91), none⟩,
 ⟨some 93, .call (.lit (.func (.func 14) [] [])) [(.slot 90), (.slot 92)], none⟩,
 ⟨some 89, .mov (.slot 93), none⟩,
 ⟨some 94, .extract (.slot 89) 0, none⟩,
 ⟨some 95, .extract (.slot 89) 1, none⟩,
 ⟨some 17, .mov (.slot 94), none⟩,
 ⟨some 18, .mov (.slot 95), none⟩] [5, 6, 7, 8, 10, 11, 12, 14, 15, 16, 17, 18] false)
 (.seq
 (.reg [
 ⟨some 96, .mov (.slot 14), none⟩,
 ⟨some 97, .mov (.slot 96), none⟩,
 ⟨some 98, .mov (.slot 18), (some (97, true))⟩,
 ⟨some 99, .pick (.slot 97) (.slot 98) (.lit (.bool false)), none⟩,
 ⟨some 100, .mov (.slot 99), none⟩,
 ⟨some 101, .mov (.slot 17), (some (100, true))⟩,
 ⟨some 102, .faddr 1 (.slot 16), (some (100, true))⟩,
 ⟨some 103, .load 1 false (.slot 102), (some (100, true))⟩,
 ⟨some 104, .bin .eql (some .int) (.slot 101) (.slot 103), (some (100, true))⟩,
 ⟨some 105, .pick (.slot 100) (.slot 104) (.lit (.bool false)), none⟩,
 ⟨some 14, .mov (.slot 105), none⟩] [5, 6, 7, 8, 10, 11, 12, 14, 15, 16] false)
 (.seq
 (.reg [
 ⟨some 107, .load 3 true (.slot 11), none⟩,
 ⟨some 108, .faddr 0 (.slot 16), none⟩,
 ⟨some 109, .load 1 false (.slot 108), none⟩,
 ⟨some 110, .call (.lit (.func (.func 14) [] [])) [(.slot 107), (.slot 109)], none⟩,
 ⟨some 106, .mov (.slot 110), none⟩,
 ⟨some 111, .extract (.slot 106) 0, none⟩,
 ⟨some 112, .extract (.slot 106) 1, none⟩,
 ⟨some 19, .mov (.slot 111), none⟩,
 ⟨some 20, .mov (.slot 112), none⟩] [5, 6, 7, 8, 10, 11, 12, 14, 15, 16, 19, 20] false)
 (.seq
 (.reg [
 ⟨some 113, .mov (.slot 20), none⟩,
 ⟨some 114, .un .not (.slot 113), none⟩,
 ⟨some 115, .mov (.slot 114), none⟩,
 ⟨some 116, .mov (.slot 19), (some (115, false))⟩,
 ⟨some 117, .faddr 1 (.slot 16), (some (115, false))⟩,
 ⟨some 118, .load 1 false (.slot 117), (some (115, false))⟩,
 ⟨some 119, .bin .neq (some .int) (.slot 116) (.slot 118), (some (115, false))⟩,
 ⟨some 120, .pick (.slot 115) (.lit (.bool true)) (.slot 119), none⟩] [5, 6, 7, 8, 10, 11, 12, 14, 15, 120] true)
 (.cond (.slot 120)
 (.seq
 (.reg [
 ⟨some 4, .mov (.lit (.bool false)), none⟩] [4] false)
 .ret)
 .skip)))))))
 (.reg [
 ⟨some 83, .mov (.slot 15), none⟩,
 ⟨some 84, .bin .add none (.slot 83) (.lit (.int .i64 1)), none⟩,
 ⟨some 15, .mov (.slot 84), none⟩] [5, 6, 7, 8, 10, 11, 12, 14, 15] false)))
def ic4 : IC :=
 (.seq
 (.reg [
 ⟨some 3, .box (.slot 1), none⟩,
 ⟨some 4, .mov (.lit (.bool false)), none⟩] [0, 3] false)
 (.seq
 (.reg [
 ⟨some 27, .call (.lit (.func (.func 9) [] [])) [], none⟩,
 ⟨some 5, .mov (.slot 27), none⟩] [0, 3, 5] false)
 (.seq
 (.reg [
 ⟨some 28, .mov (.slot 0), none⟩,
 ⟨some 29, .faddr 2 (.slot 3), none⟩,
 ⟨some 30, .load 1 false (.slot 29), none⟩,
 ⟨some 31, .call (.lit (.func (.func 12) [] [])) [(.slot 28), (.slot 30)], none⟩,
 ⟨some 6, .alloc [(.int .u64 0), (.int .u64 0), (.slice true 0 [] .full)], none⟩,
 ⟨none, .store 3 (.slot 6) (.slot 31), none⟩] [3, 5, 6] false)
 (.seq
 (.reg [
 ⟨some 32, .load 4 true (.slot 3), none⟩,
 ⟨some 33, .call (.lit (.func (.func 10) [] [])) [(.slot 32)], none⟩,
 ⟨some 7, .alloc [(.int .u64 0), (.int .u64 0), (.int .i64 0), (.slice true 0 [] .full)], none⟩,
 ⟨none, .store 4 (.slot 7) (.slot 33), none⟩] [5, 6, 7] true)
 (.seq
 (.reg [
 ⟨some 35, .load 3 true (.slot 6), none⟩,
 ⟨some 36, .faddr 0 (.slot 7), none⟩,
 ⟨some 37, .load 1 false (.slot 36), none⟩,
 ⟨some 38, .call (.lit (.func (.func 14) [] [])) [(.slot 35), (.slot 37)], none⟩,
 ⟨some 34, .mov (.slot 38), none⟩,
 ⟨some 39, .extract (.slot 34) 0, none⟩,
 ⟨some 40, .extract (.slot 34) 1, none⟩,
 ⟨some 8, .mov (.slot 39), none⟩,
 ⟨some 9, .mov (.slot 40), none⟩] [5, 6, 7, 8, 9] false)
 (.seq
 (.seq
 (.reg [
 ⟨some 41, .mov (.slot 9), none⟩,
 ⟨some 42, .un .not (.slot 41), none⟩] [5, 6, 7, 8, 42] false)
 (.cond (.slot 42)
 (.seq
 (.reg [
 ⟨some 43, .mov (.slot 5), none⟩,
 ⟨some 4, .mov (.slot 43), none⟩] [4] false)
 .ret)
 .skip))
 (.seq
 (.reg [
 ⟨some 44, .mov (.slot 8), none⟩,
 ⟨some 45, .faddr 1 (.slot 7), none⟩,
 ⟨none, .store 1 (.slot 45) (.slot 44), none⟩] [5, 6, 7, 8] false)
 (.seq
 (.seq
 (.reg [
 ⟨some 46, .faddr 1 (.slot 7), none⟩,
 ⟨some 47, .load 1 false (.slot 46), none⟩,
 ⟨some 48, .bin .eql (some .int) (.slot 47) (.lit (.int .u64 0)), none⟩] [5, 6, 7, 8, 48] false)
 (.cond (.slot 48)
 (.reg [
 ⟨some 49, .faddr 1 (.slot 7), none⟩,
 ⟨none, .store 1 (.slot 49) (.lit (.int .u64 1)), none⟩] [5, 6, 7, 8] false)
 .skip))
 (.seq
 (.reg [
 ⟨some 50, .load 4 true (.slot 7), none⟩,
 ⟨some 51, .call (.lit (.func (.func 13) [] [])) [(.slot 50)], none⟩,
 ⟨some 10, .mov (.slot 51), none⟩] [5, 6, 7, 8, 10] false)
 (.seq
 (.reg [
 ⟨some 53, .load 3 true (.slot 6), none⟩,
 ⟨some 54, .faddr 0 (.slot 7), none⟩,
 ⟨some 55, .load 1 false (.slot 54), none⟩,
 ⟨some 56, .mov (.slot 8), none⟩,
 ⟨some 57, .mov (.slot 10), none⟩,
 ⟨some 58, .call (.lit (.func (.func 15) [] [])) [(.slot 53), (.slot 55), (.slot 56), (.slot 57)], none⟩,
 ⟨some 52, .mov (.slot 58), none⟩,
 ⟨some 59, .extract (.slot 52) 0, none⟩,
 ⟨some 60, .extract (.slot 52) 1, none⟩,
 ⟨some 61, .extract (.slot 52) 2, none⟩,
 ⟨some 11, .alloc [(.int .u64 0), (.int .u64 0), (.slice true 0 [] .full)], none⟩,
 ⟨none, .store 3 (.slot 11) (.slot 59), none⟩,
 ⟨some 12, .mov (.slot 60), none⟩,
 ⟨some 13, .mov (.slot 61), none⟩] [5, 6, 7, 8, 10, 11, 12, 13] false)
 (.seq
 (.seq
 (.reg [
 ⟨some 62, .mov (.slot 13), none⟩,
 ⟨some 63, .un .not (.slot 62), none⟩,
 ⟨some 64, .mov (.slot 63), none⟩,
 ⟨some 65, .mov (.slot 12), (some (64, false))⟩,
 ⟨some 66, .faddr 0 (.slot 7), (some (64, false))⟩,
 ⟨some 67, .load 1 false (.slot 66), (some (64, false))⟩,
 ⟨some 68, .mov (.slot 10), (some (64, false))⟩,
 ⟨some 69, .len (.slice 3) (.slot 68), (some (64, false))⟩,
 ⟨some 70, .conv (.int .u64) (.slot 69), (some (64, false))⟩,
 ⟨some 71, .bin .add none (.slot 67) (.slot 70), (some (64, false))⟩,
 ⟨some 72, .bin .neq (some .int) (.slot 65) (.slot 71), (some (64, false))⟩,
 ⟨some 73, .pick (.slot 64) (.lit (.bool true)) (.slot 72), none⟩,
 ⟨some 74, .mov (.slot 73), none⟩,
 ⟨some 75, .load 3 true (.slot 11), (some (74, false))⟩,
 ⟨some 76, .call (.lit (.func (.func 16) [] [])) [(.slot 75)], (some (74, false))⟩,
 ⟨some 77, .un .not (.slot 76), (some (74, false))⟩,
 ⟨some 78, .pick (.slot 74) (.lit (.bool true)) (.slot 77), none⟩] [5, 6, 7, 8, 10, 11, 12, 78] false)
 (.cond (.slot 78)
 (.seq
 (.reg [
 ⟨some 4, .mov (.lit (.bool false)), none⟩] [4] false)
 .ret)
 .skip))
 (.seq
 (.reg [
 ⟨some 14, .mov (.lit (.bool true)), none⟩] [5, 6, 7, 8, 10, 11, 12, 14] false)
 (.seq
 (.seq
 (.reg [
 ⟨some 15, .mov (.lit (.int .i64 0)), none⟩] [5, 6, 7, 8, 10, 11, 12, 14, 15] false)
 (.block 0
 (.loop ic4l0)))
 (.seq
 (.seq
 (.reg [
 ⟨some 21, .mov (.lit (.int .i64 0)), none⟩] [5, 6, 7, 8, 10, 11, 12, 14, 21] false)
 (.block 2
 (.loop ic4l1)))
 (.seq
 (.reg [
 ⟨some 151, .load 3 true (.slot 11), none⟩,
 ⟨some 152, .faddr 0 (.slot 7), none⟩,
 ⟨some 153, .load 1 false (.slot 152), none⟩,
 ⟨some 154, .mov (.slot 8), none⟩,
 ⟨some 155, .mov (.slot 10), none⟩,
 ⟨some 156, .call (.lit (.func (.func 15) [] [])) [(.slot 151), (.slot 153), (.slot 154), (.slot 155)], none⟩,
 ⟨some 150, .mov (.slot 156), none⟩,
 ⟨some 157, .extract (.slot 150) 0, none⟩,
 ⟨some 158, .extract (.slot 150) 1, none⟩,
 ⟨some 159, .extract (.slot 150) 2, none⟩,
 ⟨some 22, .alloc [(.int .u64 0), (.int .u64 0), (.slice true 0 [] .full)], none⟩,
 ⟨none, .store 3 (.slot 22) (.slot 157), none⟩,
 ⟨some 23, .mov (.slot 158), none⟩,
 ⟨some 24, .mov (.slot 159), none⟩] [5, 6, 11, 12, 14, 22, 23, 24] true)
 (.seq
 (.reg [
 ⟨some 160, .load 3 true (.slot 22), none⟩,
 ⟨some 161, .load 3 true (.slot 11), none⟩,
 ⟨some 162, .call (.lit (.func (.func 17) [] [])) [(.slot 160), (.slot 161)], none⟩,
 ⟨some 25, .mov (.slot 162), none⟩] [5, 6, 11, 12, 14, 23, 24, 25] true)
 (.seq
 (.reg [
 ⟨some 163, .load 3 true (.slot 11), none⟩,
 ⟨some 164, .load 3 true (.slot 6), none⟩,
 ⟨some 165, .call (.lit (.func (.func 17) [] [])) [(.slot 163), (.slot 164)], none⟩,
 ⟨some 26, .mov (.slot 165), none⟩] [5, 12, 14, 23, 24, 25, 26] true)
 (.seq
 (.reg [
 ⟨some 166, .mov (.slot 5), none⟩,
 ⟨some 167, .mov (.slot 166), none⟩,
 ⟨some 168, .mov (.slot 24), (some (167, true))⟩,
 ⟨some 169, .pick (.slot 167) (.slot 168) (.lit (.bool false)), none⟩,
 ⟨some 170, .mov (.slot 169), none⟩,
 ⟨some 171, .mov (.slot 23), (some (170, true))⟩,
 ⟨some 172, .mov (.slot 12), (some (170, true))⟩,
 ⟨some 173, .bin .eql (some .int) (.slot 171) (.slot 172), (some (170, true))⟩,
 ⟨some 174, .pick (.slot 170) (.slot 173) (.lit (.bool false)), none⟩,
 ⟨some 175, .mov (.slot 174), none⟩,
 ⟨some 176, .mov (.slot 25), (some (175, true))⟩,
 ⟨some 177, .pick (.slot 175) (.slot 176) (.lit (.bool false)), none⟩,
 ⟨some 178, .mov (.slot 177), none⟩,
 ⟨some 179, .mov (.slot 14), (some (178, true))⟩,
 ⟨some 180, .un .not (.slot 179), (some (178, true))⟩,
 ⟨some 181, .mov (.slot 180), (some (178, true))⟩,
 ⟨some 182, .mov (.slot 26), (some (181, false))⟩,
 ⟨some 183, .pick (.slot 181) (.lit (.bool true)) (.slot 182), (some (178, true))⟩,
 ⟨some 184, .pick (.slot 178) (.slot 183) (.lit (.bool false)), none⟩,
 ⟨some 4, .mov (.slot 184), none⟩] [4] false)
 .ret))))))))))))))))))
def ifn4 : IFn := ⟨185, [.inl 4], ic4⟩
/-- vendue/venduelaw07.RlogNewer -/
def ic5 : IC :=
 (.seq
 (.reg [
 ⟨some 5, .box (.slot 2), none⟩,
 ⟨some 6, .mov (.lit (.bool false)), none⟩] [0, 1, 5] false)
 (.seq
 (.reg [
 ⟨some 16, .call (.lit (.func (.func 9) [] [])) [], none⟩,
 ⟨some 7, .mov (.slot 16), none⟩] [0, 1, 5, 7] false)
 (.seq
 (.reg [
 ⟨some 17, .mov (.slot 0), none⟩,
 ⟨some 18, .iaddr (.arr 2 1 false) (.slot 5) (.lit (.int .i64 0)), none⟩,
 ⟨some 19, .load 1 false (.slot 18), none⟩,
 ⟨some 20, .call (.lit (.func (.func 12) [] [])) [(.slot 17), (.slot 19)], none⟩,
 ⟨some 8, .alloc [(.int .u64 0), (.int .u64 0), (.slice true 0 [] .full)], none⟩,
 ⟨none, .store 3 (.slot 8) (.slot 20), none⟩] [1, 5, 7, 8] false)
 (.seq
 (.reg [
 ⟨some 21, .mov (.slot 1), none⟩,
 ⟨some 22, .iaddr (.arr 2 1 false) (.slot 5) (.lit (.int .i64 1)), none⟩,
 ⟨some 23, .load 1 false (.slot 22), none⟩,
 ⟨some 24, .call (.lit (.func (.func 12) [] [])) [(.slot 21), (.slot 23)], none⟩,
 ⟨some 9, .alloc [(.int .u64 0), (.int .u64 0), (.slice true 0 [] .full)], none⟩,
 ⟨none, .store 3 (.slot 9) (.slot 24), none⟩] [7, 8, 9] true)
 (.seq
 (.reg [
 ⟨some 26, .load 3 true (.slot 8), none⟩,
 ⟨some 27, .call (.lit (.func (.func 18) [] [])) [(.slot 26)], none⟩,
 ⟨some 25, .mov (.slot 27), none⟩,
 ⟨some 28, .extract (.slot 25) 0, none⟩,
 ⟨some 29, .extract (.slot 25) 1, none⟩,
 ⟨some 10, .mov (.slot 28), none⟩,
 ⟨some 11, .mov (.slot 29), none⟩] [7, 8, 9, 10, 11] false)
 (.seq
 (.reg [
 ⟨some 31, .load 3 true (.slot 9), none⟩,
 ⟨some 32, .call (.lit (.func (.func 18) [] [])) [(.slot 31)], none⟩,
 ⟨some 30, .mov (.slot 32), none⟩,
 ⟨some 33, .extract (.slot 30) 0, none⟩,
 ⟨some 34, .extract (.slot 30) 1, none⟩,
 ⟨some 12, .mov (.slot 33), none⟩,
 ⟨some 13, .mov (.slot 34), none⟩] [7, 8, 9, 10, 11, 12, 13] false)
 (.seq
 (.reg [
 ⟨some 35, .load 3 true (.slot 8), none⟩,
 ⟨some 36, .mov (.slot 12), none⟩,
 ⟨some 37, .mov (.slot 13), none⟩,
 ⟨some 38, .call (.lit (.func (.func 19) [] [])) [(.slot 35), (.slot 36), (.slot 37)], none⟩,
 ⟨some 14, .mov (.slot 38), none⟩] [7, 8, 9, 10, 11, 12, 13, 14] false)
 (.seq
 (.reg [
 ⟨some 39, .load 3 true (.slot 9), none⟩,
 ⟨some 40, .mov (.slot 10), none⟩,
 ⟨some 41, .mov (.slot 11), none⟩,
 ⟨some 42, .call (.lit (.func (.func 19) [] [])) [(.slot 39), (.slot 40), (.slot 41)], none⟩,
 ⟨some 15, .mov (.slot 42), none⟩] [7, 8, 10, 11, 12, 13, 14, 15] true)
 (.seq
 (.reg [
 ⟨some 43, .mov (.slot 7), none⟩,
 ⟨some 44, .mov (.slot 43), none⟩,
 ⟨some 45, .mov (.slot 14), (some (44, true))⟩,
 ⟨some 46, .mov (.slot 45), (some (44, true))⟩,
 ⟨some 47, .mov (.slot 15), (some (46, false))⟩,
 ⟨some 48, .pick (.slot 46) (.lit (.bool true)) (.slot 47), (some (44, true))⟩,
 ⟨some 49, .pick (.slot 44) (.slot 48) (.lit (.bool false)), none⟩,
 ⟨some 50, .mov (.slot 49), none⟩,
 ⟨some 51, .mov (.slot 14), (some (50, true))⟩,
 ⟨some 52, .mov (.slot 51), (some (50, true))⟩,
 ⟨some 53, .mov (.slot 15), (some (52, true))⟩,
 ⟨some 54, .pick (.slot 52) (.slot 53) (.lit (.bool false)), (some (50, true))⟩,
 ⟨some 55, .mov (.slot 10), (some (50, true))⟩,
 ⟨some 56, .mov (.slot 12), (some (50, true))⟩,
 ⟨some 57, .bin .eql (some .int) (.slot 55) (.slot 56), (some (50, true))⟩,
 ⟨some 58, .mov (.slot 57), (some (50, true))⟩,
 ⟨some 59, .mov (.slot 11), (some (58, true))⟩,
 ⟨some 60, .mov (.slot 13), (some (58, true))⟩,
 ⟨some 61, .bin .eql (some .int) (.slot 59) (.slot 60), (some (58, true))⟩,
 ⟨some 62, .pick (.slot 58) (.slot 61) (.lit (.bool false)), (some (50, true))⟩,
 ⟨some 63, .bin .eql (some .bool) (.slot 54) (.slot 62), (some (50, true))⟩,
 ⟨some 64, .pick (.slot 50) (.slot 63) (.lit (.bool false)), none⟩,
 ⟨some 65, .mov (.slot 64), none⟩,
 ⟨some 66, .load 3 true (.slot 8), (some (65, true))⟩,
 ⟨some 67, .mov (.slot 10), (some (65, true))⟩,
 ⟨some 68, .mov (.slot 11), (some (65, true))⟩,
 ⟨some 69, .call (.lit (.func (.func 19) [] [])) [(.slot 66), (.slot 67), (.slot 68)], (some (65, true))⟩,
 ⟨some 70, .pick (.slot 65) (.slot 69) (.lit (.bool false)), none⟩,
 ⟨some 71, .mov (.slot 70), none⟩,
 ⟨some 72, .load 3 true (.slot 8), (some (71, true))⟩,
 ⟨some 73, .mov (.slot 11), (some (71, true))⟩,
 ⟨some 74, .bin .add none (.slot 73) (.lit (.int .u64 1)), (some (71, true))⟩,
 ⟨some 75, .call (.lit (.func (.func 19) [] [])) [(.slot 72), (.lit (.int .u64 0)), (.slot 74)], (some (71, true))⟩,
 ⟨some 76, .pick (.slot 71) (.slot 75) (.lit (.bool false)), none⟩,
 ⟨some 6, .mov (.slot 76), none⟩] [6] true)
 .ret)))))))))
def ifn5 : IFn := ⟨77, [.inl 6], ic5⟩
/-- vendue/venduelaw07.RlogCuts -/
def ic6l0 : IC :=
 (.seq
 (.seq
 (.reg [
 ⟨some 77, .mov (.slot 18), none⟩,
 ⟨some 78, .mov (.slot 13), none⟩,
 ⟨some 79, .bin .leq none (.slot 77) (.slot 78), none⟩] [7, 8, 9, 10, 11, 13, 14, 16, 17, 18, 79] false)
 (.cond (.slot 79)
 .skip
 (.exit 0)))
 (.seq
 (.block 1
 (.seq
 (.reg [
 ⟨some 83, .load 3 true (.slot 8), none⟩,
 ⟨some 84, .mov (.slot 18), none⟩,
 ⟨some 85, .call (.lit (.func (.func 21) [] [])) [(.slot 83), (.slot 84)], none⟩,
 ⟨some 82, .mov (.slot 85), none⟩,
 ⟨some 86, .extract (.slot 82) 0, none⟩,
 ⟨some 87, .extract (.slot 82) 1, none⟩,
 ⟨some 19, .mov (.slot 86), none⟩,
 ⟨some 20, .mov (.slot 87), none⟩] [7, 8, 9, 10, 11, 13, 14, 16, 17, 18, 19, 20] false)
 (.seq
 (.reg [
 ⟨some 89, .load 3 true (.slot 11), none⟩,
 ⟨some 90, .mov (.slot 18), none⟩,
 ⟨some 91, .call (.lit (.func (.func 21) [] [])) [(.slot 89), (.slot 90)], none⟩,
 ⟨some 88, .mov (.slot 91), none⟩,
 ⟨some 92, .extract (.slot 88) 0, none⟩,
 ⟨some 93, .extract (.slot 88) 1, none⟩,
 ⟨some 21, .mov (.slot 92), none⟩,
 ⟨some 22, .mov (.slot 93), none⟩] [7, 8, 9, 10, 11, 13, 14, 16, 17, 18, 19, 20, 21, 22] false)
 (.seq
 (.reg [
 ⟨some 94, .mov (.slot 20), none⟩,
 ⟨some 95, .un .not (.slot 94), none⟩,
 ⟨some 96, .mov (.slot 95), none⟩,
 ⟨some 97, .mov (.slot 22), (some (96, false))⟩,
 ⟨some 98, .un .not (.slot 97), (some (96, false))⟩,
 ⟨some 99, .pick (.slot 96) (.lit (.bool true)) (.slot 98), none⟩,
 ⟨some 100, .mov (.slot 99), none⟩,
 ⟨some 101, .mov (.slot 19), (some (100, false))⟩,
 ⟨some 102, .mov (.slot 21), (some (100, false))⟩,
 ⟨some 103, .bin .neq (some .int) (.slot 101) (.slot 102), (some (100, false))⟩,
 ⟨some 104, .pick (.slot 100) (.lit (.bool true)) (.slot 103), none⟩] [7, 8, 9, 10, 11, 13, 14, 16, 17, 18, 104] false)
 (.cond (.slot 104)
 (.seq
 (.reg [
 ⟨some 6, .mov (.lit (.bool false)), none⟩] [6] false)
 .ret)
 .skip)))))
 (.reg [
 ⟨some 80, .mov (.slot 18), none⟩,
 ⟨some 81, .bin .add none (.slot 80) (.lit (.int .u64 1)), none⟩,
 ⟨some 18, .mov (.slot 81), none⟩] [7, 8, 9, 10, 11, 13, 14, 16, 17, 18] false)))
def ic6 : IC :=
 (.seq
 (.reg [
 ⟨some 5, .box (.slot 2), none⟩,
 ⟨some 6, .mov (.lit (.bool false)), none⟩] [0, 1, 5] false)
 (.seq
 (.reg [
 ⟨some 28, .call (.lit (.func (.func 9) [] [])) [], none⟩,
 ⟨some 7, .mov (.slot 28), none⟩] [0, 1, 5, 7] false)
 (.seq
 (.reg [
 ⟨some 29, .mov (.slot 0), none⟩,
 ⟨some 30, .mov (.slot 1), none⟩,
 ⟨some 31, .call (.lit (.func (.func 12) [] [])) [(.slot 29), (.slot 30)], none⟩,
 ⟨some 8, .alloc [(.int .u64 0), (.int .u64 0), (.slice true 0 [] .full)], none⟩,
 ⟨none, .store 3 (.slot 8) (.slot 31), none⟩] [5, 7, 8] false)
 (.seq
 (.reg [
 ⟨some 32, .faddr 0 (.slot 8), none⟩,
 ⟨some 33, .load 1 false (.slot 32), none⟩,
 ⟨some 34, .iaddr (.arr 2 1 false) (.slot 5) (.lit (.int .i64 0)), none⟩,
 ⟨some 35, .load 1 false (.slot 34), none⟩,
 ⟨some 36, .bin .and none (.slot 35) (.lit (.int .i64 15)), none⟩,
 ⟨some 37, .conv (.int .u64) (.slot 36), none⟩,
 ⟨some 38, .bin .add none (.slot 33) (.slot 37), none⟩,
 ⟨some 9, .mov (.slot 38), none⟩] [5, 7, 8, 9] false)
 (.seq
 (.reg [
 ⟨some 39, .faddr 0 (.slot 8), none⟩,
 ⟨some 40, .load 1 false (.slot 39), none⟩,
 ⟨some 41, .iaddr (.arr 2 1 false) (.slot 5) (.lit (.int .i64 1)), none⟩,
 ⟨some 42, .load 1 false (.slot 41), none⟩,
 ⟨some 43, .bin .and none (.slot 42) (.lit (.int .i64 15)), none⟩,
 ⟨some 44, .conv (.int .u64) (.slot 43), none⟩,
 ⟨some 45, .bin .add none (.slot 40) (.slot 44), none⟩,
 ⟨some 10, .mov (.slot 45), none⟩] [7, 8, 9, 10] true)
 (.seq
 (.reg [
 ⟨some 47, .load 3 true (.slot 8), none⟩,
 ⟨some 48, .mov (.slot 9), none⟩,
 ⟨some 49, .call (.lit (.func (.func 20) [] [])) [(.slot 47), (.slot 48)], none⟩,
 ⟨some 46, .mov (.slot 49), none⟩,
 ⟨some 50, .extract (.slot 46) 0, none⟩,
 ⟨some 51, .extract (.slot 46) 1, none⟩,
 ⟨some 11, .alloc [(.int .u64 0), (.int .u64 0), (.slice true 0 [] .full)], none⟩,
 ⟨none, .store 3 (.slot 11) (.slot 50), none⟩,
 ⟨some 12, .mov (.slot 51), none⟩] [7, 8, 9, 10, 11, 12] false)
 (.seq
 (.reg [
 ⟨some 53, .load 3 true (.slot 8), none⟩,
 ⟨some 54, .call (.lit (.func (.func 18) [] [])) [(.slot 53)], none⟩,
 ⟨some 52, .mov (.slot 54), none⟩,
 ⟨some 55, .extract (.slot 52) 0, none⟩,
 ⟨some 56, .extract (.slot 52) 1, none⟩,
 ⟨some 13, .mov (.slot 55), none⟩,
 ⟨some 14, .mov (.slot 56), none⟩] [7, 8, 9, 10, 11, 12, 13, 14] false)
 (.seq
 (.seq
 (.reg [
 ⟨some 57, .mov (.slot 12), none⟩,
 ⟨some 58, .mov (.slot 9), none⟩,
 ⟨some 59, .mov (.slot 13), none⟩,
 ⟨some 60, .bin .leq none (.slot 58) (.slot 59), none⟩,
 ⟨some 61, .bin .neq (some .bool) (.slot 57) (.slot 60), none⟩] [7, 8, 9, 10, 11, 12, 13, 14, 61] false)
 (.cond (.slot 61)
 (.seq
 (.reg [
 ⟨some 6, .mov (.lit (.bool false)), none⟩] [6] false)
 .ret)
 .skip))
 (.seq
 (.seq
 (.reg [
 ⟨some 62, .mov (.slot 12), none⟩,
 ⟨some 63, .un .not (.slot 62), none⟩] [7, 8, 9, 10, 11, 13, 14, 63] false)
 (.cond (.slot 63)
 (.seq
 (.reg [
 ⟨some 64, .load 3 true (.slot 11), none⟩,
 ⟨some 65, .load 3 true (.slot 8), none⟩,
 ⟨some 66, .call (.lit (.func (.func 17) [] [])) [(.slot 64), (.slot 65)], none⟩,
 ⟨some 15, .mov (.slot 66), none⟩] [7, 15] true)
 (.seq
 (.reg [
 ⟨some 67, .mov (.slot 7), none⟩,
 ⟨some 68, .mov (.slot 67), none⟩,
 ⟨some 69, .mov (.slot 15), (some (68, true))⟩,
 ⟨some 70, .pick (.slot 68) (.slot 69) (.lit (.bool false)), none⟩,
 ⟨some 6, .mov (.slot 70), none⟩] [6] false)
 .ret))
 .skip))
 (.seq
 (.reg [
 ⟨some 72, .load 3 true (.slot 11), none⟩,
 ⟨some 73, .call (.lit (.func (.func 18) [] [])) [(.slot 72)], none⟩,
 ⟨some 71, .mov (.slot 73), none⟩,
 ⟨some 74, .extract (.slot 71) 0, none⟩,
 ⟨some 75, .extract (.slot 71) 1, none⟩,
 ⟨some 16, .mov (.slot 74), none⟩,
 ⟨some 17, .mov (.slot 75), none⟩] [7, 8, 9, 10, 11, 13, 14, 16, 17] false)
 (.seq
 (.seq
 (.reg [
 ⟨some 76, .mov (.slot 9), none⟩,
 ⟨some 18, .mov (.slot 76), none⟩] [7, 8, 9, 10, 11, 13, 14, 16, 17, 18] false)
 (.block 0
 (.loop ic6l0)))
 (.seq
 (.reg [
 ⟨some 106, .load 3 true (.slot 11), none⟩,
 ⟨some 107, .mov (.slot 10), none⟩,
 ⟨some 108, .call (.lit (.func (.func 20) [] [])) [(.slot 106), (.slot 107)], none⟩,
 ⟨some 105, .mov (.slot 108), none⟩,
 ⟨some 109, .extract (.slot 105) 0, none⟩,
 ⟨some 110, .extract (.slot 105) 1, none⟩,
 ⟨some 23, .alloc [(.int .u64 0), (.int .u64 0), (.slice true 0 [] .full)], none⟩,
 ⟨none, .store 3 (.slot 23) (.slot 109), none⟩,
 ⟨some 24, .mov (.slot 110), none⟩] [7, 8, 9, 10, 11, 13, 14, 16, 17, 23, 24] false)
 (.seq
 (.reg [
 ⟨some 112, .load 3 true (.slot 8), none⟩,
 ⟨some 113, .mov (.slot 9), none⟩,
 ⟨some 114, .mov (.slot 10), none⟩,
 ⟨some 115, .minmax true [(.slot 113), (.slot 114)], none⟩,
 ⟨some 116, .call (.lit (.func (.func 20) [] [])) [(.slot 112), (.slot 115)], none⟩,
 ⟨some 111, .mov (.slot 116), none⟩,
 ⟨some 117, .extract (.slot 111) 0, none⟩,
 ⟨some 118, .extract (.slot 111) 1, none⟩,
 ⟨some 25, .alloc [(.int .u64 0), (.int .u64 0), (.slice true 0 [] .full)], none⟩,
 ⟨none, .store 3 (.slot 25) (.slot 117), none⟩,
 ⟨some 26, .mov (.slot 118), none⟩] [7, 9, 10, 11, 13, 14, 16, 17, 23, 24, 25, 26] true)
 (.seq
 (.reg [
 ⟨some 119, .load 3 true (.slot 23), none⟩,
 ⟨some 120, .load 3 true (.slot 25), none⟩,
 ⟨some 121, .call (.lit (.func (.func 17) [] [])) [(.slot 119), (.slot 120)], none⟩,
 ⟨some 27, .mov (.slot 121), none⟩] [7, 9, 10, 11, 13, 14, 16, 17, 24, 26, 27] true)
 (.seq
 (.reg [
 ⟨some 122, .mov (.slot 7), none⟩,
 ⟨some 123, .mov (.slot 122), none⟩,
 ⟨some 124, .mov (.slot 16), (some (123, true))⟩,
 ⟨some 125, .mov (.slot 13), (some (123, true))⟩,
 ⟨some 126, .bin .eql (some .int) (.slot 124) (.slot 125), (some (123, true))⟩,
 ⟨some 127, .pick (.slot 123) (.slot 126) (.lit (.bool false)), none⟩,
 ⟨some 128, .mov (.slot 127), none⟩,
 ⟨some 129, .mov (.slot 17), (some (128, true))⟩,
 ⟨some 130, .mov (.slot 14), (some (128, true))⟩,
 ⟨some 131, .bin .eql (some .int) (.slot 129) (.slot 130), (some (128, true))⟩,
 ⟨some 132, .pick (.slot 128) (.slot 131) (.lit (.bool false)), none⟩,
 ⟨some 133, .mov (.slot 132), none⟩,
 ⟨some 134, .load 3 true (.slot 11), (some (133, true))⟩,
 ⟨some 135, .call (.lit (.func (.func 16) [] [])) [(.slot 134)], (some (133, true))⟩,
 ⟨some 136, .pick (.slot 133) (.slot 135) (.lit (.bool false)), none⟩,
 ⟨some 137, .mov (.slot 136), none⟩,
 ⟨some 138, .mov (.slot 10), (some (137, true))⟩,
 ⟨some 139, .mov (.slot 9), (some (137, true))⟩,
 ⟨some 140, .bin .lss none (.slot 138) (.slot 139), (some (137, true))⟩,
 ⟨some 141, .mov (.slot 140), (some (137, true))⟩,
 ⟨some 142, .mov (.slot 24), (some (141, true))⟩,
 ⟨some 143, .un .not (.slot 142), (some (141, true))⟩,
 ⟨some 144, .pick (.slot 141) (.slot 143) (.lit (.bool false)), (some (137, true))⟩,
 ⟨some 145, .mov (.slot 144), (some (137, true))⟩,
 ⟨some 146, .mov (.slot 10), (some (145, false))⟩,
 ⟨some 147, .mov (.slot 9), (some (145, false))⟩,
 ⟨some 148, .bin .geq none (.slot 146) (.slot 147), (some (145, false))⟩,
 ⟨some 149, .mov (.slot 148), (some (145, false))⟩,
 ⟨some 150, .mov (.slot 24), (some (149, true))⟩,
 ⟨some 151, .mov (.slot 26), (some (149, true))⟩,
 ⟨some 152, .bin .eql (some .bool) (.slot 150) (.slot 151), (some (149, true))⟩,
 ⟨some 153, .pick (.slot 149) (.slot 152) (.lit (.bool false)), (some (145, false))⟩,
 ⟨some 154, .mov (.slot 153), (some (145, false))⟩,
 ⟨some 155, .mov (.slot 27), (some (154, true))⟩,
 ⟨some 156, .mov (.slot 155), (some (154, true))⟩,
 ⟨some 157, .mov (.slot 24), (some (156, false))⟩,
 ⟨some 158, .un .not (.slot 157), (some (156, false))⟩,
 ⟨some 159, .pick (.slot 156) (.lit (.bool true)) (.slot 158), (some (154, true))⟩,
 ⟨some 160, .pick (.slot 154) (.slot 159) (.lit (.bool false)), (some (145, false))⟩,
 ⟨some 161, .pick (.slot 145) (.lit (.bool true)) (.slot 160), (some (137, true))⟩,
 ⟨some 162, .pick (.slot 137) (.slot 161) (.lit (.bool false)), none⟩,
 ⟨some 6, .mov (.slot 162), none⟩] [6] true)
 .ret)))))))))))))))
def ifn6 : IFn := ⟨163, [.inl 6], ic6⟩
/-- vendue/venduelaw07.RlogAdds -/
def ic7 : IC :=
 (.seq
 (.reg [
 ⟨some 6, .mov (.lit (.bool false)), none⟩] [0, 1, 2] false)
 (.seq
 (.reg [
 ⟨some 17, .call (.lit (.func (.func 9) [] [])) [], none⟩,
 ⟨some 7, .mov (.slot 17), none⟩] [0, 1, 2, 7] false)
 (.seq
 (.reg [
 ⟨some 18, .mov (.slot 0), none⟩,
 ⟨some 19, .mov (.slot 1), none⟩,
 ⟨some 20, .call (.lit (.func (.func 12) [] [])) [(.slot 18), (.slot 19)], none⟩,
 ⟨some 8, .alloc [(.int .u64 0), (.int .u64 0), (.slice true 0 [] .full)], none⟩,
 ⟨none, .store 3 (.slot 8) (.slot 20), none⟩] [2, 7, 8] false)
 (.seq
 (.reg [
 ⟨some 22, .load 3 true (.slot 8), none⟩,
 ⟨some 23, .call (.lit (.func (.func 18) [] [])) [(.slot 22)], none⟩,
 ⟨some 21, .mov (.slot 23), none⟩,
 ⟨some 24, .extract (.slot 21) 0, none⟩,
 ⟨some 25, .extract (.slot 21) 1, none⟩,
 ⟨some 9, .mov (.slot 24), none⟩,
 ⟨some 10, .mov (.slot 25), none⟩] [2, 7, 8, 9, 10] false)
 (.seq
 (.reg [
 ⟨some 26, .mov (.slot 2), none⟩,
 ⟨some 27, .bin .and none (.slot 26) (.lit (.int .u64 63)), none⟩,
 ⟨some 11, .mov (.slot 27), none⟩] [7, 8, 9, 10, 11] false)
 (.seq
 (.reg [
 ⟨some 28, .load 3 true (.slot 8), none⟩,
 ⟨some 29, .mov (.slot 11), none⟩,
 ⟨some 30, .call (.lit (.func (.func 22) [] [])) [(.slot 28), (.slot 29), (.lit (.str (bs [110, 101, 119])))], none⟩,
 ⟨some 12, .alloc [(.int .u64 0), (.int .u64 0), (.slice true 0 [] .full)], none⟩,
 ⟨none, .store 3 (.slot 12) (.slot 30), none⟩] [7, 8, 9, 10, 11, 12] false)
 (.seq
 (.seq
 (.reg [
 ⟨some 31, .mov (.slot 11), none⟩,
 ⟨some 32, .mov (.slot 10), none⟩,
 ⟨some 33, .bin .lss none (.slot 31) (.slot 32), none⟩,
 ⟨some 34, .mov (.slot 33), none⟩,
 ⟨some 35, .mov (.slot 11), (some (34, false))⟩,
 ⟨some 36, .bin .eql (some .int) (.slot 35) (.lit (.int .u64 0)), (some (34, false))⟩,
 ⟨some 37, .pick (.slot 34) (.lit (.bool true)) (.slot 36), none⟩] [7, 8, 9, 11, 12, 37] false)
 (.cond (.slot 37)
 (.seq
 (.reg [
 ⟨some 38, .mov (.slot 7), none⟩,
 ⟨some 39, .mov (.slot 38), none⟩,
 ⟨some 40, .load 3 true (.slot 12), (some (39, true))⟩,
 ⟨some 41, .load 3 true (.slot 8), (some (39, true))⟩,
 ⟨some 42, .call (.lit (.func (.func 23) [] [])) [(.slot 40), (.slot 41)], (some (39, true))⟩,
 ⟨some 43, .pick (.slot 39) (.slot 42) (.lit (.bool false)), none⟩,
 ⟨some 6, .mov (.slot 43), none⟩] [6] true)
 .ret)
 .skip))
 (.seq
 (.reg [
 ⟨some 44, .faddr 2 (.slot 12), none⟩,
 ⟨some 45, .load 1 false (.slot 44), none⟩,
 ⟨some 46, .len (.slice 3) (.slot 45), none⟩,
 ⟨some 13, .mov (.slot 46), none⟩] [7, 8, 9, 11, 12, 13] false)
 (.seq
 (.seq
 (.reg [
 ⟨some 47, .mov (.slot 13), none⟩,
 ⟨some 48, .bin .eql (some .int) (.slot 47) (.lit (.int .i64 0)), none⟩,
 ⟨some 49, .mov (.slot 48), none⟩,
 ⟨some 50, .mov (.slot 13), (some (49, false))⟩,
 ⟨some 51, .faddr 2 (.slot 8), (some (49, false))⟩,
 ⟨some 52, .load 1 false (.slot 51), (some (49, false))⟩,
 ⟨some 53, .len (.slice 3) (.slot 52), (some (49, false))⟩,
 ⟨some 54, .bin .add none (.slot 53) (.lit (.int .i64 1)), (some (49, false))⟩,
 ⟨some 55, .bin .neq (some .int) (.slot 50) (.slot 54), (some (49, false))⟩,
 ⟨some 56, .pick (.slot 49) (.lit (.bool true)) (.slot 55), none⟩] [7, 8, 9, 11, 12, 13, 56] false)
 (.cond (.slot 56)
 (.seq
 (.reg [
 ⟨some 6, .mov (.lit (.bool false)), none⟩] [6] false)
 .ret)
 .skip))
 (.seq
 (.reg [
 ⟨some 57, .faddr 2 (.slot 12), none⟩,
 ⟨some 58, .load 1 false (.slot 57), none⟩,
 ⟨some 59, .mov (.slot 13), none⟩,
 ⟨some 60, .bin .sub none (.slot 59) (.lit (.int .i64 1)), none⟩,
 ⟨some 61, .iaddr (.slice 3) (.slot 58) (.slot 60), none⟩,
 ⟨some 62, .load 3 true (.slot 61), none⟩,
 ⟨some 14, .alloc [(.int .u64 0), (.int .u64 0), (.str ⟨#[]⟩)], none⟩,
 ⟨none, .store 3 (.slot 14) (.slot 62), none⟩] [7, 8, 9, 11, 12, 13, 14] false)
 (.seq
 (.regd [] [
 (⟨some 63, .faddr 2 (.slot 12), none⟩, none),
 (⟨some 64, .load 1 false (.slot 63), none⟩, none),
 (⟨some 65, .mov (.slot 13), none⟩, none),
 (⟨some 66, .bin .sub none (.slot 65) (.lit (.int .i64 1)), none⟩, none),
 (⟨some 67, .sl (.slice 3) (.slot 64) none (some (.slot 66)) none, none⟩, none),
 (⟨some 68, .faddr 2 (.slot 8), none⟩, none),
 (⟨some 69, .load 1 false (.slot 68), none⟩, none),
 (⟨some 70, .pcall (.lit (.func (.func 24) [] [])) [(.slot 67), (.slot 69)], none⟩, none),
 (⟨some 15, .mov (.slot 70), none⟩, none)] [] [7, 9, 11, 12, 14, 15] true)
 (.seq
 (.reg [
 ⟨some 71, .load 3 true (.slot 12), none⟩,
 ⟨some 72, .mov (.slot 9), none⟩,
 ⟨some 73, .bin .add none (.slot 72) (.lit (.int .u64 1)), none⟩,
 ⟨some 74, .call (.lit (.func (.func 25) [] [])) [(.slot 71), (.slot 73), (.lit (.int .i64 5))], none⟩,
 ⟨some 16, .mov (.slot 74), none⟩] [7, 9, 11, 12, 14, 15, 16] false)
 (.seq
 (.regd [] [
 (⟨some 75, .mov (.slot 7), none⟩, none),
 (⟨some 76, .mov (.slot 75), none⟩, none),
 (⟨some 77, .mov (.slot 15), (some (76, true))⟩, none),
 (⟨some 78, .pick (.slot 76) (.slot 77) (.lit (.bool false)), none⟩, none),
 (⟨some 79, .mov (.slot 78), none⟩, none),
 (⟨some 80, .faddr 0 (.slot 14), (some (79, true))⟩, none),
 (⟨some 81, .load 1 false (.slot 80), (some (79, true))⟩, none),
 (⟨some 82, .mov (.slot 9), (some (79, true))⟩, none),
 (⟨some 83, .bin .add none (.slot 82) (.lit (.int .u64 1)), (some (79, true))⟩, none),
 (⟨some 84, .bin .eql (some .int) (.slot 81) (.slot 83), (some (79, true))⟩, none),
 (⟨some 85, .pick (.slot 79) (.slot 84) (.lit (.bool false)), none⟩, none),
 (⟨some 86, .mov (.slot 85), none⟩, none),
 (⟨some 87, .faddr 1 (.slot 14), (some (86, true))⟩, none),
 (⟨some 88, .load 1 false (.slot 87), (some (86, true))⟩, none),
 (⟨some 89, .mov (.slot 11), (some (86, true))⟩, none),
 (⟨some 90, .bin .eql (some .int) (.slot 88) (.slot 89), (some (86, true))⟩, none),
 (⟨some 91, .pick (.slot 86) (.slot 90) (.lit (.bool false)), none⟩, none),
 (⟨some 92, .mov (.slot 91), none⟩, none),
 (⟨some 93, .faddr 2 (.slot 14), (some (92, true))⟩, none),
 (⟨some 94, .load 1 false (.slot 93), (some (92, true))⟩, none),
 (⟨some 95, .bin .eql (some .str) (.slot 94) (.lit (.str (bs [110, 101, 119]))), (some (92, true))⟩, none),
 (⟨some 96, .pick (.slot 92) (.slot 95) (.lit (.bool false)), none⟩, none),
 (⟨some 97, .mov (.slot 96), none⟩, none),
 (⟨some 98, .load 3 true (.slot 12), (some (97, true))⟩, none),
 (⟨some 99, .pcall (.lit (.func (.func 16) [] [])) [(.slot 98)], (some (97, true))⟩, none),
 (⟨some 100, .pick (.slot 97) (.slot 99) (.lit (.bool false)), none⟩, none),
 (⟨some 101, .mov (.slot 100), none⟩, none),
 (⟨some 102, .mov (.slot 16), (some (101, true))⟩, none),
 (⟨some 103, .len (.slice 3) (.slot 102), (some (101, true))⟩, none),
 (⟨some 104, .bin .eql (some .int) (.slot 103) (.lit (.int .i64 1)), (some (101, true))⟩, none),
 (⟨some 105, .pick (.slot 101) (.slot 104) (.lit (.bool false)), none⟩, none),
 (⟨some 106, .mov (.slot 105), none⟩, none),
 (⟨some 107, .mov (.slot 16), (some (106, true))⟩, none),
 (⟨some 108, .iaddr (.slice 3) (.slot 107) (.lit (.int .i64 0)), (some (106, true))⟩, none),
 (⟨some 109, .load 3 true (.slot 108), (some (106, true))⟩, none),
 (⟨some 110, .load 3 true (.slot 14), (some (106, true))⟩, none),
 (⟨some 111, .bin .eql (some (.struct [(0, 1, false, .int), (1, 1, false, .int), (2, 1, false, .str)])) (.slot 109) (.slot 110), (some (106, true))⟩, none),
 (⟨some 112, .pick (.slot 106) (.slot 111) (.lit (.bool false)), none⟩, none),
 (⟨some 6, .mov (.slot 112), none⟩, none)] [] [6] true)
 .ret)))))))))))))
def ifn7 : IFn := ⟨113, [.inl 6], ic7⟩
/-- vendue/venduelaw07.RlogTells -/
def ic8 : IC :=
 (.seq
 (.reg [
 ⟨some 4, .box (.slot 1), none⟩,
 ⟨some 5, .box (.slot 2), none⟩,
 ⟨some 6, .mov (.lit (.bool false)), none⟩] [0, 4, 5] false)
 (.seq
 (.reg [
 ⟨some 8, .call (.lit (.func (.func 9) [] [])) [], none⟩,
 ⟨some 7, .mov (.slot 8), none⟩] [0, 4, 5, 7] false)
 (.seq
 (.seq
 (.reg [
 ⟨some 9, .faddr 2 (.slot 4), none⟩,
 ⟨some 10, .load 1 false (.slot 9), none⟩,
 ⟨some 11, .len (.slice 3) (.slot 10), none⟩,
 ⟨some 12, .bin .gtr none (.slot 11) (.lit (.int .i64 9)), none⟩] [0, 4, 5, 7, 12] false)
 (.cond (.slot 12)
 (.reg [
 ⟨some 13, .faddr 2 (.slot 4), none⟩,
 ⟨some 14, .load 1 false (.slot 13), none⟩,
 ⟨some 15, .sl (.slice 3) (.slot 14) none (some (.lit (.int .i64 9))) none, none⟩,
 ⟨some 16, .faddr 2 (.slot 4), none⟩,
 ⟨none, .store 1 (.slot 16) (.slot 15), none⟩] [0, 4, 5, 7] false)
 .skip))
 (.seq
 (.regd [] [
 (⟨some 17, .mov (.slot 7), none⟩, none),
 (⟨some 18, .mov (.slot 17), none⟩, none),
 (⟨some 19, .load 3 true (.slot 4), (some (18, true))⟩, none),
 (⟨some 20, .pcall (.lit (.func (.func 16) [] [])) [(.slot 19)], (some (18, true))⟩, none),
 (⟨some 21, .load 3 true (.slot 4), (some (18, true))⟩, none),
 (⟨some 22, .pcall (.lit (.func (.func 26) [] [])) [(.slot 21)], (some (18, true))⟩, none),
 (⟨some 23, .bin .eql (some .bool) (.slot 20) (.slot 22), (some (18, true))⟩, none),
 (⟨some 24, .pick (.slot 18) (.slot 23) (.lit (.bool false)), none⟩, none),
 (⟨some 25, .mov (.slot 24), none⟩, none),
 (⟨some 26, .load 3 true (.slot 4), (some (25, true))⟩, none),
 (⟨some 27, .mov (.slot 0), (some (25, true))⟩, none),
 (⟨some 28, .faddr 2 (.slot 5), (some (25, true))⟩, none),
 (⟨some 29, .load 1 false (.slot 28), (some (25, true))⟩, none),
 (⟨some 30, .pcall (.lit (.func (.func 12) [] [])) [(.slot 27), (.slot 29)], (some (25, true))⟩, none),
 (⟨some 31, .pcall (.lit (.func (.func 23) [] [])) [(.slot 26), (.slot 30)], (some (25, true))⟩, none),
 (⟨some 32, .load 3 true (.slot 4), (some (25, true))⟩, none),
 (⟨some 33, .mov (.slot 0), (some (25, true))⟩, none),
 (⟨some 34, .faddr 2 (.slot 5), (some (25, true))⟩, none),
 (⟨some 35, .load 1 false (.slot 34), (some (25, true))⟩, none),
 (⟨some 36, .pcall (.lit (.func (.func 12) [] [])) [(.slot 33), (.slot 35)], (some (25, true))⟩, none),
 (⟨some 37, .pcall (.lit (.func (.func 17) [] [])) [(.slot 32), (.slot 36)], (some (25, true))⟩, none),
 (⟨some 38, .bin .eql (some .bool) (.slot 31) (.slot 37), (some (25, true))⟩, none),
 (⟨some 39, .pick (.slot 25) (.slot 38) (.lit (.bool false)), none⟩, none),
 (⟨some 40, .mov (.slot 39), none⟩, none),
 (⟨some 41, .mov (.slot 0), (some (40, true))⟩, none),
 (⟨some 42, .faddr 2 (.slot 5), (some (40, true))⟩, none),
 (⟨some 43, .load 1 false (.slot 42), (some (40, true))⟩, none),
 (⟨some 44, .pcall (.lit (.func (.func 12) [] [])) [(.slot 41), (.slot 43)], (some (40, true))⟩, none),
 (⟨some 45, .load 4 true (.slot 5), (some (40, true))⟩, none),
 (⟨some 46, .pcall (.lit (.func (.func 27) [] [])) [(.slot 44), (.slot 45)], (some (40, true))⟩, none),
 (⟨some 47, .pick (.slot 40) (.slot 46) (.lit (.bool false)), none⟩, none),
 (⟨some 48, .mov (.slot 47), none⟩, none),
 (⟨some 49, .mov (.slot 0), (some (48, true))⟩, none),
 (⟨some 50, .faddr 2 (.slot 5), (some (48, true))⟩, none),
 (⟨some 51, .load 1 false (.slot 50), (some (48, true))⟩, none),
 (⟨some 52, .pcall (.lit (.func (.func 12) [] [])) [(.slot 49), (.slot 51)], (some (48, true))⟩, none),
 (⟨some 53, .load 4 true (.slot 5), (some (48, true))⟩, none),
 (⟨some 54, .pcall (.lit (.func (.func 10) [] [])) [(.slot 53)], (some (48, true))⟩, none),
 (⟨some 55, .pcall (.lit (.func (.func 27) [] [])) [(.slot 52), (.slot 54)], (some (48, true))⟩, none),
 (⟨some 56, .pick (.slot 48) (.slot 55) (.lit (.bool false)), none⟩, none),
 (⟨some 6, .mov (.slot 56), none⟩, none)] [] [6] true)
 .ret))))
def ifn8 : IFn := ⟨57, [.inl 6], ic8⟩
/-- vendue/venduelaw07.awake -/
def ic9 : IC :=
 (.seq
 (.reg [
 ⟨some 0, .mov (.lit (.bool false)), none⟩] [] false)
 (.seq
 (.reg [
 ⟨some 5, .bslice 1 (.int .i64 0) 3 [(0, (.lit (.int .i64 0))), (1, (.lit (.int .i64 0))), (2, (.lit (.int .i64 0)))], none⟩,
 ⟨some 6, .call (.lit (.func (.func 12) [] [])) [(.slot 5), (.lit (.int .i64 0))], none⟩,
 ⟨some 7, .build [(.int .u64 0), (.int .u64 0), (.str ⟨#[]⟩)] [(0, 1, (.lit (.int .u64 2))), (1, 1, (.lit (.int .u64 2)))], none⟩,
 ⟨some 8, .bslice 3 (.agg [(.int .u64 0), (.int .u64 0), (.str ⟨#[]⟩)]) 1 [(0, (.slot 7))], none⟩,
 ⟨some 9, .call (.lit (.func (.func 15) [] [])) [(.slot 6), (.lit (.int .u64 1)), (.lit (.int .u64 1)), (.slot 8)], none⟩,
 ⟨some 4, .mov (.slot 9), none⟩,
 ⟨some 10, .extract (.slot 4) 0, none⟩,
 ⟨some 11, .extract (.slot 4) 1, none⟩,
 ⟨some 12, .extract (.slot 4) 2, none⟩,
 ⟨some 1, .alloc [(.int .u64 0), (.int .u64 0), (.slice true 0 [] .full)], none⟩,
 ⟨none, .store 3 (.slot 1) (.slot 10), none⟩,
 ⟨some 2, .mov (.slot 11), none⟩,
 ⟨some 3, .mov (.slot 12), none⟩] [1, 2, 3] false)
 (.seq
 (.reg [
 ⟨some 13, .mov (.slot 3), none⟩,
 ⟨some 14, .mov (.slot 13), none⟩,
 ⟨some 15, .mov (.slot 2), (some (14, true))⟩,
 ⟨some 16, .bin .eql (some .int) (.slot 15) (.lit (.int .u64 2)), (some (14, true))⟩,
 ⟨some 17, .pick (.slot 14) (.slot 16) (.lit (.bool false)), none⟩,
 ⟨some 18, .mov (.slot 17), none⟩,
 ⟨some 19, .faddr 2 (.slot 1), (some (18, true))⟩,
 ⟨some 20, .load 1 false (.slot 19), (some (18, true))⟩,
 ⟨some 21, .len (.slice 3) (.slot 20), (some (18, true))⟩,
 ⟨some 22, .bin .eql (some .int) (.slot 21) (.lit (.int .i64 2)), (some (18, true))⟩,
 ⟨some 23, .pick (.slot 18) (.slot 22) (.lit (.bool false)), none⟩,
 ⟨some 24, .mov (.slot 23), none⟩,
 ⟨some 25, .faddr 2 (.slot 1), (some (24, true))⟩,
 ⟨some 26, .load 1 false (.slot 25), (some (24, true))⟩,
 ⟨some 27, .iaddr (.slice 3) (.slot 26) (.lit (.int .i64 1)), (some (24, true))⟩,
 ⟨some 28, .faddr 1 (.slot 27), (some (24, true))⟩,
 ⟨some 29, .load 1 false (.slot 28), (some (24, true))⟩,
 ⟨some 30, .bin .eql (some .int) (.slot 29) (.lit (.int .u64 2)), (some (24, true))⟩,
 ⟨some 31, .pick (.slot 24) (.slot 30) (.lit (.bool false)), none⟩,
 ⟨some 0, .mov (.slot 31), none⟩] [0] true)
 .ret)))
def ifn9 : IFn := ⟨32, [.inl 0], ic9⟩
/-- (vendue/venduelaw07.Ask).near -/
def ic10 : IC :=
 (.seq
 (.reg [
 ⟨some 1, .box (.slot 0), none⟩,
 ⟨some 2, .alloc [(.int .u64 0), (.int .u64 0), (.int .i64 0), (.slice true 0 [] .full)], none⟩] [1, 2] false)
 (.seq
 (.reg [
 ⟨some 3, .faddr 0 (.slot 1), none⟩,
 ⟨some 4, .load 1 false (.slot 3), none⟩,
 ⟨some 5, .bin .and none (.slot 4) (.lit (.int .u64 31)), none⟩,
 ⟨some 6, .bin .rem none (.slot 5) (.lit (.int .u64 21)), none⟩,
 ⟨some 7, .faddr 0 (.slot 1), none⟩,
 ⟨none, .store 1 (.slot 7) (.slot 6), none⟩] [1, 2] false)
 (.seq
 (.reg [
 ⟨some 8, .faddr 1 (.slot 1), none⟩,
 ⟨some 9, .load 1 false (.slot 8), none⟩,
 ⟨some 10, .bin .and none (.slot 9) (.lit (.int .u64 7)), none⟩,
 ⟨some 11, .faddr 1 (.slot 1), none⟩,
 ⟨none, .store 1 (.slot 11) (.slot 10), none⟩] [1, 2] false)
 (.seq
 (.reg [
 ⟨some 12, .load 4 true (.slot 1), none⟩,
 ⟨none, .store 4 (.slot 2) (.slot 12), none⟩] [2] true)
 .ret))))
def ifn10 : IFn := ⟨13, [.inr (2, 4, true)], ic10⟩
/-- vendue/venduelaw07.puts -/
def ic11 : IC :=
 (.seq
 (.reg [
 ⟨some 3, .box (.slot 0), none⟩,
 ⟨some 4, .box (.slot 1), none⟩,
 ⟨some 6, .mov (.lit (.bool false)), none⟩] [2, 3, 4] false)
 (.seq
 (.reg [
 ⟨some 13, .load 3 true (.slot 3), none⟩,
 ⟨some 14, .faddr 0 (.slot 4), none⟩,
 ⟨some 15, .load 1 false (.slot 14), none⟩,
 ⟨some 16, .faddr 1 (.slot 4), none⟩,
 ⟨some 17, .load 1 false (.slot 16), none⟩,
 ⟨some 18, .mov (.slot 2), none⟩,
 ⟨some 19, .call (.lit (.func (.func 15) [] [])) [(.slot 13), (.slot 15), (.slot 17), (.slot 18)], none⟩,
 ⟨some 12, .mov (.slot 19), none⟩,
 ⟨some 20, .extract (.slot 12) 0, none⟩,
 ⟨some 21, .extract (.slot 12) 1, none⟩,
 ⟨some 22, .extract (.slot 12) 2, none⟩,
 ⟨some 7, .alloc [(.int .u64 0), (.int .u64 0), (.slice true 0 [] .full)], none⟩,
 ⟨none, .store 3 (.slot 7) (.slot 20), none⟩,
 ⟨some 8, .mov (.slot 21), none⟩,
 ⟨some 9, .mov (.slot 22), none⟩] [2, 3, 4, 7, 8, 9] false)
 (.seq
 (.reg [
 ⟨some 23, .load 3 true (.slot 3), none⟩,
 ⟨some 24, .faddr 0 (.slot 4), none⟩,
 ⟨some 25, .load 1 false (.slot 24), none⟩,
 ⟨some 26, .faddr 1 (.slot 4), none⟩,
 ⟨some 27, .load 1 false (.slot 26), none⟩,
 ⟨some 28, .mov (.slot 2), none⟩,
 ⟨some 29, .call (.lit (.func (.func 28) [] [])) [(.slot 23), (.slot 25), (.slot 27), (.slot 28)], none⟩,
 ⟨some 10, .alloc [(.int .u64 0), (.int .u64 0), (.slice true 0 [] .full), (.int .u64 0), (.bool false)], none⟩,
 ⟨none, .store 5 (.slot 10) (.slot 29), none⟩] [7, 8, 9, 10] true)
 (.seq
 (.reg [
 ⟨some 30, .load 3 true (.slot 7), none⟩,
 ⟨some 31, .faddr 0 (.slot 10), none⟩,
 ⟨some 32, .load 3 true (.slot 31), none⟩,
 ⟨some 33, .call (.lit (.func (.func 17) [] [])) [(.slot 30), (.slot 32)], none⟩,
 ⟨some 11, .mov (.slot 33), none⟩] [8, 9, 10, 11] true)
 (.seq
 (.reg [
 ⟨some 34, .mov (.slot 11), none⟩,
 ⟨some 35, .mov (.slot 34), none⟩,
 ⟨some 36, .mov (.slot 8), (some (35, true))⟩,
 ⟨some 37, .faddr 3 (.slot 10), (some (35, true))⟩,
 ⟨some 38, .load 1 false (.slot 37), (some (35, true))⟩,
 ⟨some 39, .bin .eql (some .int) (.slot 36) (.slot 38), (some (35, true))⟩,
 ⟨some 40, .pick (.slot 35) (.slot 39) (.lit (.bool false)), none⟩,
 ⟨some 41, .mov (.slot 40), none⟩,
 ⟨some 42, .mov (.slot 9), (some (41, true))⟩,
 ⟨some 43, .faddr 4 (.slot 10), (some (41, true))⟩,
 ⟨some 44, .load 1 false (.slot 43), (some (41, true))⟩,
 ⟨some 45, .bin .eql (some .bool) (.slot 42) (.slot 44), (some (41, true))⟩,
 ⟨some 46, .pick (.slot 41) (.slot 45) (.lit (.bool false)), none⟩,
 ⟨some 6, .mov (.slot 46), none⟩] [6] true)
 .ret)))))
def ifn11 : IFn := ⟨47, [.inl 6], ic11⟩
/-- vendue/venduelaw07.made -/
def ic12l0 : IC :=
 (.seq
 (.seq
 (.reg [
 ⟨some 16, .mov (.slot 7), none⟩,
 ⟨some 17, .mov (.slot 0), none⟩,
 ⟨some 18, .len (.slice 1) (.slot 17), none⟩,
 ⟨some 19, .bin .lss none (.slot 16) (.slot 18), none⟩,
 ⟨some 20, .mov (.slot 19), none⟩,
 ⟨some 21, .mov (.slot 7), (some (20, true))⟩,
 ⟨some 22, .bin .lss none (.slot 21) (.lit (.int .i64 12)), (some (20, true))⟩,
 ⟨some 23, .pick (.slot 20) (.slot 22) (.lit (.bool false)), none⟩] [0, 4, 5, 6, 7, 23] false)
 (.cond (.slot 23)
 .skip
 (.exit 0)))
 (.seq
 (.block 1
 (.seq
 (.reg [
 ⟨some 26, .mov (.slot 6), none⟩,
 ⟨some 27, .mov (.slot 0), none⟩,
 ⟨some 28, .mov (.slot 7), none⟩,
 ⟨some 29, .iaddr (.slice 1) (.slot 27) (.slot 28), none⟩,
 ⟨some 30, .load 1 false (.slot 29), none⟩,
 ⟨some 31, .bin .rem none (.slot 30) (.lit (.int .i64 3)), none⟩,
 ⟨some 32, .bin .add none (.slot 31) (.lit (.int .i64 3)), none⟩,
 ⟨some 33, .bin .rem none (.slot 32) (.lit (.int .i64 3)), none⟩,
 ⟨some 34, .conv (.int .u64) (.slot 33), none⟩,
 ⟨some 35, .bin .add none (.slot 26) (.slot 34), none⟩,
 ⟨some 6, .mov (.slot 35), none⟩] [0, 4, 5, 6, 7] false)
 (.regd [] [
 (⟨some 36, .faddr 2 (.slot 5), none⟩, none),
 (⟨some 37, .load 1 false (.slot 36), none⟩, none),
 (⟨some 38, .faddr 0 (.slot 5), none⟩, none),
 (⟨some 39, .load 1 false (.slot 38), none⟩, none),
 (⟨some 40, .bin .add none (.slot 39) (.lit (.int .u64 1)), none⟩, none),
 (⟨some 41, .mov (.slot 7), none⟩, none),
 (⟨some 42, .conv (.int .u64) (.slot 41), none⟩, none),
 (⟨some 43, .bin .add none (.slot 40) (.slot 42), none⟩, none),
 (⟨some 44, .mov (.slot 6), none⟩, none),
 (⟨some 45, .mov (.slot 0), none⟩, none),
 (⟨some 46, .mov (.slot 7), none⟩, none),
 (⟨some 47, .iaddr (.slice 1) (.slot 45) (.slot 46), none⟩, none),
 (⟨some 48, .load 1 false (.slot 47), none⟩, none),
 (⟨some 49, .bin .and none (.slot 48) (.lit (.int .i64 15)), none⟩, none),
 (⟨some 50, .bin .add none (.lit (.int .i64 97)) (.slot 49), none⟩, none),
 (⟨some 51, .conv (.int .u8) (.slot 50), none⟩, none),
 (⟨some 52, .bslice 1 (.int .u8 0) 1 [(0, (.slot 51))], none⟩, none),
 (⟨some 53, .conv .ofBytes (.slot 52), none⟩, none),
 (⟨some 54, .build [(.int .u64 0), (.int .u64 0), (.str ⟨#[]⟩)] [(0, 1, (.slot 43)), (1, 1, (.slot 44)), (2, 1, (.slot 53))], none⟩, none),
 (⟨some 55, .bslice 3 (.agg [(.int .u64 0), (.int .u64 0), (.str ⟨#[]⟩)]) 1 [(0, (.slot 54))], none⟩, none),
 (⟨some 56, .append 3 32 (.slot 37) (.slot 55), none⟩, none),
 (⟨some 57, .faddr 2 (.slot 5), none⟩, none),
 (⟨none, .store 1 (.slot 57) (.slot 56), none⟩, none)] [] [0, 4, 5, 6, 7] false)))
 (.reg [
 ⟨some 24, .mov (.slot 7), none⟩,
 ⟨some 25, .bin .add none (.slot 24) (.lit (.int .i64 1)), none⟩,
 ⟨some 7, .mov (.slot 25), none⟩] [0, 4, 5, 6, 7] false)))
def ic12 : IC :=
 (.seq
 (.reg [
 ⟨some 4, .alloc [(.int .u64 0), (.int .u64 0), (.slice true 0 [] .full)], none⟩] [0, 1, 4] false)
 (.seq
 (.reg [
 ⟨some 8, .mov (.slot 1), none⟩,
 ⟨some 9, .bin .and none (.slot 8) (.lit (.int .i64 7)), none⟩,
 ⟨some 10, .conv (.int .u64) (.slot 9), none⟩,
 ⟨some 11, .build [(.int .u64 0), (.int .u64 0), (.slice true 0 [] .full)] [(0, 1, (.slot 10))], none⟩,
 ⟨some 5, .alloc [(.int .u64 0), (.int .u64 0), (.slice true 0 [] .full)], none⟩,
 ⟨none, .store 3 (.slot 5) (.slot 11), none⟩] [0, 4, 5] false)
 (.seq
 (.reg [
 ⟨some 6, .mov (.lit (.int .u64 1)), none⟩] [0, 4, 5, 6] false)
 (.seq
 (.seq
 (.reg [
 ⟨some 12, .faddr 0 (.slot 5), none⟩,
 ⟨some 13, .load 1 false (.slot 12), none⟩,
 ⟨some 14, .bin .gtr none (.slot 13) (.lit (.int .u64 0)), none⟩] [0, 4, 5, 6, 14] false)
 (.cond (.slot 14)
 (.reg [
 ⟨some 15, .faddr 1 (.slot 5), none⟩,
 ⟨none, .store 1 (.slot 15) (.lit (.int .u64 1)), none⟩] [0, 4, 5, 6] false)
 .skip))
 (.seq
 (.seq
 (.reg [
 ⟨some 7, .mov (.lit (.int .i64 0)), none⟩] [0, 4, 5, 6, 7] false)
 (.block 0
 (.loop ic12l0)))
 (.seq
 (.reg [
 ⟨some 58, .load 3 true (.slot 5), none⟩,
 ⟨none, .store 3 (.slot 4) (.slot 58), none⟩] [4] true)
 .ret))))))
def ifn12 : IFn := ⟨59, [.inr (4, 3, true)], ic12⟩
/-- (vendue/venduelaw07.Ask).more -/
def ic13l0 : IC :=
 (.seq
 (.seq
 (.reg [
 ⟨some 8, .mov (.slot 5), none⟩,
 ⟨some 9, .faddr 3 (.slot 1), none⟩,
 ⟨some 10, .load 1 false (.slot 9), none⟩,
 ⟨some 11, .len (.slice 1) (.slot 10), none⟩,
 ⟨some 12, .bin .lss none (.slot 8) (.slot 11), none⟩,
 ⟨some 13, .mov (.slot 12), none⟩,
 ⟨some 14, .mov (.slot 5), (some (13, true))⟩,
 ⟨some 15, .bin .lss none (.slot 14) (.lit (.int .i64 8)), (some (13, true))⟩,
 ⟨some 16, .pick (.slot 13) (.slot 15) (.lit (.bool false)), none⟩] [1, 3, 4, 5, 16] false)
 (.cond (.slot 16)
 .skip
 (.exit 0)))
 (.seq
 (.block 1
 (.seq
 (.reg [
 ⟨some 19, .mov (.slot 4), none⟩,
 ⟨some 20, .faddr 3 (.slot 1), none⟩,
 ⟨some 21, .load 1 false (.slot 20), none⟩,
 ⟨some 22, .mov (.slot 5), none⟩,
 ⟨some 23, .iaddr (.slice 1) (.slot 21) (.slot 22), none⟩,
 ⟨some 24, .load 1 false (.slot 23), none⟩,
 ⟨some 25, .bin .rem none (.slot 24) (.lit (.int .i64 3)), none⟩,
 ⟨some 26, .bin .add none (.slot 25) (.lit (.int .i64 3)), none⟩,
 ⟨some 27, .bin .rem none (.slot 26) (.lit (.int .i64 3)), none⟩,
 ⟨some 28, .conv (.int .u64) (.slot 27), none⟩,
 ⟨some 29, .bin .add none (.slot 19) (.slot 28), none⟩,
 ⟨some 4, .mov (.slot 29), none⟩] [1, 3, 4, 5] false)
 (.regd [] [
 (⟨some 30, .mov (.slot 3), none⟩, none),
 (⟨some 31, .faddr 0 (.slot 1), none⟩, none),
 (⟨some 32, .load 1 false (.slot 31), none⟩, none),
 (⟨some 33, .bin .add none (.slot 32) (.lit (.int .u64 1)), none⟩, none),
 (⟨some 34, .mov (.slot 5), none⟩, none),
 (⟨some 35, .conv (.int .u64) (.slot 34), none⟩, none),
 (⟨some 36, .bin .add none (.slot 33) (.slot 35), none⟩, none),
 (⟨some 37, .mov (.slot 4), none⟩, none),
 (⟨some 38, .faddr 3 (.slot 1), none⟩, none),
 (⟨some 39, .load 1 false (.slot 38), none⟩, none),
 (⟨some 40, .mov (.slot 5), none⟩, none),
 (⟨some 41, .iaddr (.slice 1) (.slot 39) (.slot 40), none⟩, none),
 (⟨some 42, .load 1 false (.slot 41), none⟩, none),
 (⟨some 43, .bin .and none (.slot 42) (.lit (.int .i64 15)), none⟩, none),
 (⟨some 44, .bin .add none (.lit (.int .i64 65)) (.slot 43), none⟩, none),
 (⟨some 45, .conv (.int .u8) (.slot 44), none⟩, none),
 (⟨some 46, .bslice 1 (.int .u8 0) 1 [(0, (.slot 45))], none⟩, none),
 (⟨some 47, .conv .ofBytes (.slot 46), none⟩, none),
 (⟨some 48, .build [(.int .u64 0), (.int .u64 0), (.str ⟨#[]⟩)] [(0, 1, (.slot 36)), (1, 1, (.slot 37)), (2, 1, (.slot 47))], none⟩, none),
 (⟨some 49, .bslice 3 (.agg [(.int .u64 0), (.int .u64 0), (.str ⟨#[]⟩)]) 1 [(0, (.slot 48))], none⟩, none),
 (⟨some 50, .append 3 32 (.slot 30) (.slot 49), none⟩, none),
 (⟨some 3, .mov (.slot 50), none⟩, none)] [] [1, 3, 4, 5] false)))
 (.reg [
 ⟨some 17, .mov (.slot 5), none⟩,
 ⟨some 18, .bin .add none (.slot 17) (.lit (.int .i64 1)), none⟩,
 ⟨some 5, .mov (.slot 18), none⟩] [1, 3, 4, 5] false)))
def ic13 : IC :=
 (.seq
 (.reg [
 ⟨some 1, .box (.slot 0), none⟩,
 ⟨some 2, .mov (.lit (.slice true 0 [] .full)), none⟩] [1] false)
 (.seq
 (.reg [
 ⟨some 3, .mov (.lit (.slice true 0 [] .full)), none⟩] [1, 3] false)
 (.seq
 (.reg [
 ⟨some 6, .faddr 1 (.slot 1), none⟩,
 ⟨some 7, .load 1 false (.slot 6), none⟩,
 ⟨some 4, .mov (.slot 7), none⟩] [1, 3, 4] false)
 (.seq
 (.seq
 (.reg [
 ⟨some 5, .mov (.lit (.int .i64 0)), none⟩] [1, 3, 4, 5] false)
 (.block 0
 (.loop ic13l0)))
 (.seq
 (.reg [
 ⟨some 51, .mov (.slot 3), none⟩,
 ⟨some 2, .mov (.slot 51), none⟩] [2] false)
 .ret)))))
def ifn13 : IFn := ⟨52, [.inl 2], ic13⟩
/-- vendue/vendueref07.Term -/
def ic14l0 : IC :=
 (.seq
 (.seq
 (.reg [
 ⟨some 13, .mov (.slot 6), none⟩,
 ⟨some 14, .faddr 2 (.slot 2), none⟩,
 ⟨some 15, .load 1 false (.slot 14), none⟩,
 ⟨some 16, .len (.slice 3) (.slot 15), none⟩,
 ⟨some 17, .bin .lss none (.slot 13) (.slot 16), none⟩] [1, 2, 6, 17] false)
 (.cond (.slot 17)
 .skip
 (.exit 0)))
 (.seq
 (.block 1
 (.seq
 (.reg [
 ⟨some 20, .faddr 2 (.slot 2), none⟩,
 ⟨some 21, .load 1 false (.slot 20), none⟩,
 ⟨some 22, .mov (.slot 6), none⟩,
 ⟨some 23, .iaddr (.slice 3) (.slot 21) (.slot 22), none⟩,
 ⟨some 24, .faddr 0 (.slot 23), none⟩,
 ⟨some 25, .load 1 false (.slot 24), none⟩,
 ⟨some 26, .mov (.slot 1), none⟩,
 ⟨some 27, .bin .eql (some .int) (.slot 25) (.slot 26), none⟩] [1, 2, 6, 27] false)
 (.cond (.slot 27)
 (.seq
 (.reg [
 ⟨some 28, .faddr 2 (.slot 2), none⟩,
 ⟨some 29, .load 1 false (.slot 28), none⟩,
 ⟨some 30, .mov (.slot 6), none⟩,
 ⟨some 31, .iaddr (.slice 3) (.slot 29) (.slot 30), none⟩,
 ⟨some 32, .faddr 1 (.slot 31), none⟩,
 ⟨some 33, .load 1 false (.slot 32), none⟩,
 ⟨some 4, .mov (.slot 33), none⟩,
 ⟨some 5, .mov (.lit (.bool true)), none⟩] [4, 5] true)
 .ret)
 .skip)))
 (.reg [
 ⟨some 18, .mov (.slot 6), none⟩,
 ⟨some 19, .bin .add none (.slot 18) (.lit (.int .i64 1)), none⟩,
 ⟨some 6, .mov (.slot 19), none⟩] [1, 2, 6] false)))
def ic14 : IC :=
 (.seq
 (.reg [
 ⟨some 2, .box (.slot 0), none⟩,
 ⟨some 4, .mov (.lit (.int .u64 0)), none⟩,
 ⟨some 5, .mov (.lit (.bool false)), none⟩] [1, 2] false)
 (.seq
 (.seq
 (.reg [
 ⟨some 7, .mov (.slot 1), none⟩,
 ⟨some 8, .faddr 0 (.slot 2), none⟩,
 ⟨some 9, .load 1 false (.slot 8), none⟩,
 ⟨some 10, .bin .eql (some .int) (.slot 7) (.slot 9), none⟩] [1, 2, 10] false)
 (.cond (.slot 10)
 (.seq
 (.reg [
 ⟨some 11, .faddr 1 (.slot 2), none⟩,
 ⟨some 12, .load 1 false (.slot 11), none⟩,
 ⟨some 4, .mov (.slot 12), none⟩,
 ⟨some 5, .mov (.lit (.bool true)), none⟩] [4, 5] true)
 .ret)
 .skip))
 (.seq
 (.seq
 (.reg [
 ⟨some 6, .mov (.lit (.int .i64 0)), none⟩] [1, 2, 6] false)
 (.block 0
 (.loop ic14l0)))
 (.seq
 (.reg [
 ⟨some 4, .mov (.lit (.int .u64 0)), none⟩,
 ⟨some 5, .mov (.lit (.bool false)), none⟩] [4, 5] false)
 .ret))))
def ifn14 : IFn := ⟨34, [.inl 4, .inl 5], ic14⟩
/-- vendue/rlog.Put -/
def ic15l0 : IC :=
 (.seq
 (.reg [
 ⟨some 65, .bin .lss none (.slot 64) (.slot 63), none⟩] [3, 4, 8, 15, 62, 63, 64, 65] false)
 (.seq
 (.cond (.slot 65)
 .skip
 (.exit 1))
 (.seq
 (.block 2
 (.seq
 (.reg [
 ⟨some 66, .mov (.slot 64), none⟩,
 ⟨some 67, .iaddr (.slice 3) (.slot 62) (.slot 64), none⟩,
 ⟨some 68, .load 3 true (.slot 67), none⟩,
 ⟨some 17, .alloc [(.int .u64 0), (.int .u64 0), (.str ⟨#[]⟩)], none⟩,
 ⟨some 16, .mov (.slot 66), none⟩,
 ⟨none, .store 3 (.slot 17) (.slot 68), none⟩] [3, 4, 8, 15, 16, 17, 62, 63, 64] false)
 (.seq
 (.reg [
 ⟨some 70, .load 3 true (.slot 4), none⟩,
 ⟨some 71, .faddr 0 (.slot 17), none⟩,
 ⟨some 72, .load 1 false (.slot 71), none⟩,
 ⟨some 73, .call (.lit (.func (.func 21) [] [])) [(.slot 70), (.slot 72)], none⟩,
 ⟨some 69, .mov (.slot 73), none⟩,
 ⟨some 74, .extract (.slot 69) 0, none⟩,
 ⟨some 75, .extract (.slot 69) 1, none⟩,
 ⟨some 18, .mov (.slot 74), none⟩,
 ⟨some 19, .mov (.slot 75), none⟩] [3, 4, 8, 15, 16, 17, 18, 19, 62, 63, 64] false)
 (.seq
 (.seq
 (.reg [
 ⟨some 76, .faddr 0 (.slot 17), none⟩,
 ⟨some 77, .load 1 false (.slot 76), none⟩,
 ⟨some 78, .faddr 0 (.slot 4), none⟩,
 ⟨some 79, .load 1 false (.slot 78), none⟩,
 ⟨some 80, .bin .leq none (.slot 77) (.slot 79), none⟩,
 ⟨some 81, .mov (.slot 80), none⟩,
 ⟨some 82, .mov (.slot 19), (some (81, false))⟩,
 ⟨some 83, .mov (.slot 82), (some (81, false))⟩,
 ⟨some 84, .mov (.slot 18), (some (83, true))⟩,
 ⟨some 85, .faddr 1 (.slot 17), (some (83, true))⟩,
 ⟨some 86, .load 1 false (.slot 85), (some (83, true))⟩,
 ⟨some 87, .bin .eql (some .int) (.slot 84) (.slot 86), (some (83, true))⟩,
 ⟨some 88, .pick (.slot 83) (.slot 87) (.lit (.bool false)), (some (81, false))⟩,
 ⟨some 89, .pick (.slot 81) (.lit (.bool true)) (.slot 88), none⟩] [3, 4, 8, 15, 16, 17, 62, 63, 64, 89] false)
 (.cond (.slot 89)
 (.exit 2)
 .skip))
 (.seq
 (.reg [
 ⟨some 90, .faddr 0 (.slot 17), none⟩,
 ⟨some 91, .load 1 false (.slot 90), none⟩,
 ⟨some 92, .faddr 0 (.slot 4), none⟩,
 ⟨some 93, .load 1 false (.slot 92), none⟩,
 ⟨some 94, .bin .sub none (.slot 91) (.slot 93), none⟩,
 ⟨some 95, .bin .sub none (.slot 94) (.lit (.int .u64 1)), none⟩,
 ⟨some 96, .conv (.int .i64) (.slot 95), none⟩,
 ⟨some 20, .mov (.slot 96), none⟩] [3, 4, 8, 15, 16, 20] false)
 (.seq
 (.regd [] [
 (⟨some 97, .faddr 2 (.slot 4), none⟩, none),
 (⟨some 98, .load 1 false (.slot 97), none⟩, none),
 (⟨some 99, .mov (.slot 20), none⟩, none),
 (⟨some 100, .mov (.slot 20), none⟩, none),
 (⟨some 101, .sl (.slice 3) (.slot 98) none (some (.slot 99)) (some (.slot 100)), none⟩, none),
 (⟨some 102, .mov (.slot 3), none⟩, none),
 (⟨some 103, .mov (.slot 16), none⟩, none),
 (⟨some 104, .sl (.slice 3) (.slot 102) (some (.slot 103)) none none, none⟩, none),
 (⟨some 105, .bslice 1 (.slice true 0 [] .full) 2 [(0, (.slot 101)), (1, (.slot 104))], none⟩, none),
 (⟨some 106, .pcall (.lit (.func (.func 30) [] [])) [(.slot 105)], none⟩, none),
 (⟨some 107, .faddr 2 (.slot 4), none⟩, none),
 (⟨none, .store 1 (.slot 107) (.slot 106), none⟩, none)] [] [4, 8, 15] false)
 (.exit 1)))))))
 (.reg [
 ⟨some 108, .bin .add none (.slot 64) (.lit (.int .i64 1)), none⟩,
 ⟨some 64, .mov (.slot 108), none⟩] [3, 4, 8, 15, 62, 63, 64] false))))
def ic15 : IC :=
 (.seq
 (.reg [
 ⟨some 4, .box (.slot 0), none⟩,
 ⟨some 8, .alloc [(.int .u64 0), (.int .u64 0), (.slice true 0 [] .full)], none⟩,
 ⟨some 9, .mov (.lit (.int .u64 0)), none⟩,
 ⟨some 10, .mov (.lit (.bool false)), none⟩] [1, 2, 3, 4, 8] false)
 (.scope
 (.seq
 (.seq
 (.reg [
 ⟨some 21, .mov (.slot 1), none⟩,
 ⟨some 22, .mov (.slot 2), none⟩,
 ⟨some 23, .mov (.slot 3), none⟩,
 ⟨some 24, .build [(.int .u64 0), (.int .u64 0), (.slice true 0 [] .full)] [(0, 1, (.slot 21)), (1, 1, (.slot 22)), (2, 1, (.slot 23))], none⟩,
 ⟨some 25, .call (.lit (.func (.func 16) [] [])) [(.slot 24)], none⟩,
 ⟨some 26, .un .not (.slot 25), none⟩] [1, 2, 3, 4, 8, 26] false)
 (.cond (.slot 26)
 (.seq
 (.reg [
 ⟨some 27, .load 3 true (.slot 4), none⟩,
 ⟨none, .store 3 (.slot 8) (.slot 27), none⟩,
 ⟨some 9, .mov (.lit (.int .u64 0)), none⟩,
 ⟨some 10, .mov (.lit (.bool false)), none⟩] [8, 9, 10] false)
 .ret)
 .skip))
 (.seq
 (.reg [
 ⟨some 29, .load 3 true (.slot 4), none⟩,
 ⟨some 30, .call (.lit (.func (.func 18) [] [])) [(.slot 29)], none⟩,
 ⟨some 28, .mov (.slot 30), none⟩,
 ⟨some 31, .extract (.slot 28) 0, none⟩,
 ⟨some 32, .extract (.slot 28) 1, none⟩,
 ⟨some 11, .mov (.slot 31), none⟩,
 ⟨some 12, .mov (.slot 32), none⟩] [1, 2, 3, 4, 8, 11] false)
 (.seq
 (.reg [
 ⟨some 34, .load 3 true (.slot 4), none⟩,
 ⟨some 35, .mov (.slot 1), none⟩,
 ⟨some 36, .call (.lit (.func (.func 21) [] [])) [(.slot 34), (.slot 35)], none⟩,
 ⟨some 33, .mov (.slot 36), none⟩,
 ⟨some 37, .extract (.slot 33) 0, none⟩,
 ⟨some 38, .extract (.slot 33) 1, none⟩,
 ⟨some 13, .mov (.slot 37), none⟩,
 ⟨some 14, .mov (.slot 38), none⟩] [1, 2, 3, 4, 8, 11, 13, 14] false)
 (.seq
 (.block 0
 (.seq
 (.reg [
 ⟨some 40, .mov (.slot 1), none⟩,
 ⟨some 41, .mov (.slot 11), none⟩,
 ⟨some 42, .bin .gtr none (.slot 40) (.slot 41), none⟩,
 ⟨some 39, .mov (.slot 42), none⟩] [1, 2, 3, 4, 8, 11, 13, 14, 39] false)
 (.cond (.slot 39)
 (.seq
 (.reg [
 ⟨some 43, .load 3 true (.slot 4), none⟩,
 ⟨some 44, .mov (.slot 11), none⟩,
 ⟨none, .store 3 (.slot 8) (.slot 43), none⟩,
 ⟨some 9, .mov (.slot 44), none⟩,
 ⟨some 10, .mov (.lit (.bool false)), none⟩] [8, 9, 10] false)
 .ret)
 (.seq
 (.reg [
 ⟨some 46, .mov (.slot 14), none⟩,
 ⟨some 47, .mov (.slot 46), none⟩,
 ⟨some 48, .mov (.slot 13), (some (47, true))⟩,
 ⟨some 49, .mov (.slot 2), (some (47, true))⟩,
 ⟨some 50, .bin .neq (some .int) (.slot 48) (.slot 49), (some (47, true))⟩,
 ⟨some 51, .pick (.slot 47) (.slot 50) (.lit (.bool false)), none⟩,
 ⟨some 45, .mov (.slot 51), none⟩] [1, 3, 4, 8, 13, 45] false)
 (.cond (.slot 45)
 (.seq
 (.regd [] [
 (⟨some 52, .load 3 true (.slot 4), none⟩, none),
 (⟨some 53, .load 3 true (.slot 4), none⟩, none),
 (⟨some 54, .mov (.slot 1), none⟩, none),
 (⟨some 55, .mov (.slot 13), none⟩, none),
 (⟨some 56, .pcall (.lit (.func (.func 29) [] [])) [(.slot 53), (.slot 54), (.slot 55)], none⟩, none),
 (⟨none, .store 3 (.slot 8) (.slot 52), none⟩, none),
 (⟨some 9, .mov (.slot 56), none⟩, none),
 (⟨some 10, .mov (.lit (.bool false)), none⟩, none)] [] [8, 9, 10] false)
 .ret)
 .skip)))))
 (.seq
 (.reg [
 ⟨some 57, .mov (.slot 1), none⟩,
 ⟨some 58, .mov (.slot 3), none⟩,
 ⟨some 59, .len (.slice 3) (.slot 58), none⟩,
 ⟨some 60, .conv (.int .u64) (.slot 59), none⟩,
 ⟨some 61, .bin .add none (.slot 57) (.slot 60), none⟩,
 ⟨some 15, .mov (.slot 61), none⟩] [3, 4, 8, 15] false)
 (.seq
 .skip
 (.seq
 (.seq
 (.reg [
 ⟨some 62, .mov (.slot 3), none⟩,
 ⟨some 63, .len (.slice 3) (.slot 62), none⟩,
 ⟨some 64, .mov (.lit (.int .i64 0)), none⟩] [3, 4, 8, 15, 62, 63, 64] false)
 (.block 1
 (.loop ic15l0)))
 (.seq
 (.reg [
 ⟨some 109, .load 3 true (.slot 4), none⟩,
 ⟨some 110, .mov (.slot 15), none⟩,
 ⟨none, .store 3 (.slot 8) (.slot 109), none⟩,
 ⟨some 9, .mov (.slot 110), none⟩,
 ⟨some 10, .mov (.lit (.bool true)), none⟩] [8, 9, 10] false)
 .ret))))))))))
def ifn15 : IFn := ⟨111, [.inr (8, 3, true), .inl 9, .inl 10], ic15⟩
/-- vendue/rlog.Check -/
def ic16 : IC :=
 (.seq
 (.reg [
 ⟨some 1, .box (.slot 0), none⟩,
 ⟨some 2, .mov (.lit (.bool false)), none⟩] [1] false)
 (.seq
 (.regd [[(.int .u64 0)], [(.int .u64 0)]] [
 (⟨some 6, .faddr 0 (.slot 1), none⟩, none),
 (⟨some 7, .load 1 false (.slot 6), none⟩, none),
 (⟨some 8, .faddr 1 (.slot 1), none⟩, none),
 (⟨some 9, .load 1 false (.slot 8), none⟩, none),
 (⟨some 3, .alloc [(.int .u64 0)], none⟩, some 0),
 (⟨some 4, .alloc [(.int .u64 0)], none⟩, some 1),
 (⟨none, .store 1 (.slot 3) (.slot 7), none⟩, none),
 (⟨none, .store 1 (.slot 4) (.slot 9), none⟩, none)] [(3, 6)] [1, 3, 4] false)
 (.seq
 (.reg [
 ⟨some 10, .mkFunc 31 [] [(.slot 3), (.slot 4)], none⟩,
 ⟨some 5, .mov (.slot 10), none⟩] [1, 5] true)
 (.seq
 (.reg [
 ⟨some 11, .faddr 0 (.slot 1), none⟩,
 ⟨some 12, .load 1 false (.slot 11), none⟩,
 ⟨some 13, .faddr 1 (.slot 1), none⟩,
 ⟨some 14, .load 1 false (.slot 13), none⟩,
 ⟨some 15, .minmax true [(.slot 12), (.slot 14)], none⟩,
 ⟨some 16, .bin .leq none (.slot 15) (.lit (.int .u64 1099511627776)), none⟩,
 ⟨some 17, .mov (.slot 16), none⟩,
 ⟨some 18, .faddr 2 (.slot 1), (some (17, true))⟩,
 ⟨some 19, .load 1 false (.slot 18), (some (17, true))⟩,
 ⟨some 20, .mov (.slot 5), (some (17, true))⟩,
 ⟨some 21, .call (.lit (.func (.func 33) [] [])) [(.slot 19), (.slot 20)], (some (17, true))⟩,
 ⟨some 22, .un .not (.slot 21), (some (17, true))⟩,
 ⟨some 23, .pick (.slot 17) (.slot 22) (.lit (.bool false)), none⟩,
 ⟨some 2, .mov (.slot 23), none⟩] [2] true)
 .ret))))
def ifn16 : IFn := ⟨24, [.inl 2], ic16⟩
/-- vendue/vendueref07.Same -/
def ic17 : IC :=
 (.seq
 (.reg [
 ⟨some 2, .box (.slot 0), none⟩,
 ⟨some 3, .box (.slot 1), none⟩,
 ⟨some 4, .mov (.lit (.bool false)), none⟩] [2, 3] false)
 (.seq
 (.reg [
 ⟨some 6, .faddr 2 (.slot 2), none⟩,
 ⟨some 7, .load 1 false (.slot 6), none⟩,
 ⟨some 8, .faddr 2 (.slot 3), none⟩,
 ⟨some 9, .load 1 false (.slot 8), none⟩,
 ⟨some 10, .call (.lit (.func (.func 24) [] [])) [(.slot 7), (.slot 9)], none⟩,
 ⟨some 5, .mov (.slot 10), none⟩] [2, 3, 5] false)
 (.seq
 (.reg [
 ⟨some 11, .mov (.slot 5), none⟩,
 ⟨some 12, .mov (.slot 11), none⟩,
 ⟨some 13, .faddr 0 (.slot 2), (some (12, true))⟩,
 ⟨some 14, .load 1 false (.slot 13), (some (12, true))⟩,
 ⟨some 15, .faddr 0 (.slot 3), (some (12, true))⟩,
 ⟨some 16, .load 1 false (.slot 15), (some (12, true))⟩,
 ⟨some 17, .bin .eql (some .int) (.slot 14) (.slot 16), (some (12, true))⟩,
 ⟨some 18, .pick (.slot 12) (.slot 17) (.lit (.bool false)), none⟩,
 ⟨some 19, .mov (.slot 18), none⟩,
 ⟨some 20, .faddr 1 (.slot 2), (some (19, true))⟩,
 ⟨some 21, .load 1 false (.slot 20), (some (19, true))⟩,
 ⟨some 22, .faddr 1 (.slot 3), (some (19, true))⟩,
 ⟨some 23, .load 1 false (.slot 22), (some (19, true))⟩,
 ⟨some 24, .bin .eql (some .int) (.slot 21) (.slot 23), (some (19, true))⟩,
 ⟨some 25, .pick (.slot 19) (.slot 24) (.lit (.bool false)), none⟩,
 ⟨some 4, .mov (.slot 25), none⟩] [4] true)
 .ret)))
def ifn17 : IFn := ⟨26, [.inl 4], ic17⟩
/-- vendue/rlog.Last -/
def ic18 : IC :=
 (.seq
 (.reg [
 ⟨some 1, .box (.slot 0), none⟩,
 ⟨some 2, .mov (.lit (.int .u64 0)), none⟩,
 ⟨some 3, .mov (.lit (.int .u64 0)), none⟩] [1] false)
 (.seq
 (.reg [
 ⟨some 5, .faddr 2 (.slot 1), none⟩,
 ⟨some 6, .load 1 false (.slot 5), none⟩,
 ⟨some 7, .len (.slice 3) (.slot 6), none⟩,
 ⟨some 4, .mov (.slot 7), none⟩] [1, 4] false)
 (.seq
 (.seq
 (.reg [
 ⟨some 8, .mov (.slot 4), none⟩,
 ⟨some 9, .bin .eql (some .int) (.slot 8) (.lit (.int .i64 0)), none⟩] [1, 4, 9] false)
 (.cond (.slot 9)
 (.seq
 (.regd [] [
 (⟨some 10, .faddr 0 (.slot 1), none⟩, none),
 (⟨some 11, .load 1 false (.slot 10), none⟩, none),
 (⟨some 12, .faddr 1 (.slot 1), none⟩, none),
 (⟨some 13, .load 1 false (.slot 12), none⟩, none),
 (⟨some 2, .mov (.slot 11), none⟩, none),
 (⟨some 3, .mov (.slot 13), none⟩, none)] [] [2, 3] true)
 .ret)
 .skip))
 (.seq
 (.regd [] [
 (⟨some 14, .faddr 0 (.slot 1), none⟩, none),
 (⟨some 15, .load 1 false (.slot 14), none⟩, none),
 (⟨some 16, .mov (.slot 4), none⟩, none),
 (⟨some 17, .conv (.int .u64) (.slot 16), none⟩, none),
 (⟨some 18, .bin .add none (.slot 15) (.slot 17), none⟩, none),
 (⟨some 19, .faddr 2 (.slot 1), none⟩, none),
 (⟨some 20, .load 1 false (.slot 19), none⟩, none),
 (⟨some 21, .mov (.slot 4), none⟩, none),
 (⟨some 22, .bin .sub none (.slot 21) (.lit (.int .i64 1)), none⟩, none),
 (⟨some 23, .iaddr (.slice 3) (.slot 20) (.slot 22), none⟩, none),
 (⟨some 24, .faddr 1 (.slot 23), none⟩, none),
 (⟨some 25, .load 1 false (.slot 24), none⟩, none),
 (⟨some 2, .mov (.slot 18), none⟩, none),
 (⟨some 3, .mov (.slot 25), none⟩, none)] [] [2, 3] true)
 .ret))))
def ifn18 : IFn := ⟨26, [.inl 2, .inl 3], ic18⟩
/-- vendue/rlog.Newer -/
def ic19 : IC :=
 (.seq
 (.reg [
 ⟨some 3, .box (.slot 0), none⟩,
 ⟨some 6, .mov (.lit (.bool false)), none⟩] [1, 2, 3] false)
 (.seq
 (.reg [
 ⟨some 10, .load 3 true (.slot 3), none⟩,
 ⟨some 11, .call (.lit (.func (.func 18) [] [])) [(.slot 10)], none⟩,
 ⟨some 9, .mov (.slot 11), none⟩,
 ⟨some 12, .extract (.slot 9) 0, none⟩,
 ⟨some 13, .extract (.slot 9) 1, none⟩,
 ⟨some 7, .mov (.slot 12), none⟩,
 ⟨some 8, .mov (.slot 13), none⟩] [1, 2, 7, 8] true)
 (.seq
 (.reg [
 ⟨some 14, .mov (.slot 2), none⟩,
 ⟨some 15, .mov (.slot 8), none⟩,
 ⟨some 16, .bin .gtr none (.slot 14) (.slot 15), none⟩,
 ⟨some 17, .mov (.slot 16), none⟩,
 ⟨some 18, .mov (.slot 2), (some (17, false))⟩,
 ⟨some 19, .mov (.slot 8), (some (17, false))⟩,
 ⟨some 20, .bin .eql (some .int) (.slot 18) (.slot 19), (some (17, false))⟩,
 ⟨some 21, .mov (.slot 20), (some (17, false))⟩,
 ⟨some 22, .mov (.slot 1), (some (21, true))⟩,
 ⟨some 23, .mov (.slot 7), (some (21, true))⟩,
 ⟨some 24, .bin .geq none (.slot 22) (.slot 23), (some (21, true))⟩,
 ⟨some 25, .pick (.slot 21) (.slot 24) (.lit (.bool false)), (some (17, false))⟩,
 ⟨some 26, .pick (.slot 17) (.lit (.bool true)) (.slot 25), none⟩,
 ⟨some 6, .mov (.slot 26), none⟩] [6] false)
 .ret)))
def ifn19 : IFn := ⟨27, [.inl 6], ic19⟩
/-- vendue/rlog.Cut -/
def ic20 : IC :=
 (.seq
 (.reg [
 ⟨some 2, .box (.slot 0), none⟩,
 ⟨some 4, .alloc [(.int .u64 0), (.int .u64 0), (.slice true 0 [] .full)], none⟩,
 ⟨some 5, .mov (.lit (.bool false)), none⟩] [1, 2, 4] false)
 (.seq
 (.reg [
 ⟨some 9, .load 3 true (.slot 2), none⟩,
 ⟨some 10, .mov (.slot 1), none⟩,
 ⟨some 11, .call (.lit (.func (.func 21) [] [])) [(.slot 9), (.slot 10)], none⟩,
 ⟨some 8, .mov (.slot 11), none⟩,
 ⟨some 12, .extract (.slot 8) 0, none⟩,
 ⟨some 13, .extract (.slot 8) 1, none⟩,
 ⟨some 6, .mov (.slot 12), none⟩,
 ⟨some 7, .mov (.slot 13), none⟩] [1, 2, 4, 6, 7] false)
 (.seq
 (.seq
 (.reg [
 ⟨some 14, .mov (.slot 7), none⟩,
 ⟨some 15, .un .not (.slot 14), none⟩] [1, 2, 4, 6, 15] false)
 (.cond (.slot 15)
 (.seq
 (.reg [
 ⟨some 16, .load 3 true (.slot 2), none⟩,
 ⟨none, .store 3 (.slot 4) (.slot 16), none⟩,
 ⟨some 5, .mov (.lit (.bool false)), none⟩] [4, 5] true)
 .ret)
 .skip))
 (.seq
 (.reg [
 ⟨some 17, .mov (.slot 1), none⟩,
 ⟨some 18, .mov (.slot 6), none⟩,
 ⟨some 19, .load 3 true (.slot 2), none⟩,
 ⟨some 20, .mov (.slot 1), none⟩,
 ⟨some 21, .call (.lit (.func (.func 35) [] [])) [(.slot 19), (.slot 20)], none⟩,
 ⟨some 22, .call (.lit (.func (.func 34) [] [])) [(.slot 21)], none⟩,
 ⟨some 23, .build [(.int .u64 0), (.int .u64 0), (.slice true 0 [] .full)] [(0, 1, (.slot 17)), (1, 1, (.slot 18)), (2, 1, (.slot 22))], none⟩,
 ⟨none, .store 3 (.slot 4) (.slot 23), none⟩,
 ⟨some 5, .mov (.lit (.bool true)), none⟩] [4, 5] true)
 .ret))))
def ifn20 : IFn := ⟨24, [.inr (4, 3, true), .inl 5], ic20⟩
/-- vendue/rlog.Term -/
def ic21 : IC :=
 (.seq
 (.reg [
 ⟨some 2, .box (.slot 0), none⟩,
 ⟨some 4, .mov (.lit (.int .u64 0)), none⟩,
 ⟨some 5, .mov (.lit (.bool false)), none⟩] [1, 2] false)
 (.seq
 (.reg [
 ⟨some 9, .load 3 true (.slot 2), none⟩,
 ⟨some 10, .call (.lit (.func (.func 18) [] [])) [(.slot 9)], none⟩,
 ⟨some 8, .mov (.slot 10), none⟩,
 ⟨some 11, .extract (.slot 8) 0, none⟩,
 ⟨some 12, .extract (.slot 8) 1, none⟩,
 ⟨some 6, .mov (.slot 11), none⟩,
 ⟨some 7, .mov (.slot 12), none⟩] [1, 2, 6] false)
 (.seq
 (.block 0
 (.seq
 (.reg [
 ⟨some 14, .mov (.slot 1), none⟩,
 ⟨some 15, .faddr 0 (.slot 2), none⟩,
 ⟨some 16, .load 1 false (.slot 15), none⟩,
 ⟨some 17, .bin .eql (some .int) (.slot 14) (.slot 16), none⟩,
 ⟨some 13, .mov (.slot 17), none⟩] [1, 2, 6, 13] false)
 (.cond (.slot 13)
 (.seq
 (.reg [
 ⟨some 18, .faddr 1 (.slot 2), none⟩,
 ⟨some 19, .load 1 false (.slot 18), none⟩,
 ⟨some 4, .mov (.slot 19), none⟩,
 ⟨some 5, .mov (.lit (.bool true)), none⟩] [4, 5] true)
 .ret)
 (.seq
 (.reg [
 ⟨some 21, .mov (.slot 1), none⟩,
 ⟨some 22, .faddr 0 (.slot 2), none⟩,
 ⟨some 23, .load 1 false (.slot 22), none⟩,
 ⟨some 24, .bin .lss none (.slot 21) (.slot 23), none⟩,
 ⟨some 25, .mov (.slot 24), none⟩,
 ⟨some 26, .mov (.slot 1), (some (25, false))⟩,
 ⟨some 27, .mov (.slot 6), (some (25, false))⟩,
 ⟨some 28, .bin .gtr none (.slot 26) (.slot 27), (some (25, false))⟩,
 ⟨some 29, .pick (.slot 25) (.lit (.bool true)) (.slot 28), none⟩,
 ⟨some 20, .mov (.slot 29), none⟩] [1, 2, 20] false)
 (.cond (.slot 20)
 (.seq
 (.reg [
 ⟨some 4, .mov (.lit (.int .u64 0)), none⟩,
 ⟨some 5, .mov (.lit (.bool false)), none⟩] [4, 5] false)
 .ret)
 .skip)))))
 (.seq
 (.reg [
 ⟨some 30, .faddr 2 (.slot 2), none⟩,
 ⟨some 31, .load 1 false (.slot 30), none⟩,
 ⟨some 32, .mov (.slot 1), none⟩,
 ⟨some 33, .faddr 0 (.slot 2), none⟩,
 ⟨some 34, .load 1 false (.slot 33), none⟩,
 ⟨some 35, .bin .sub none (.slot 32) (.slot 34), none⟩,
 ⟨some 36, .bin .sub none (.slot 35) (.lit (.int .u64 1)), none⟩,
 ⟨some 37, .iaddr (.slice 3) (.slot 31) (.slot 36), none⟩,
 ⟨some 38, .faddr 1 (.slot 37), none⟩,
 ⟨some 39, .load 1 false (.slot 38), none⟩,
 ⟨some 4, .mov (.slot 39), none⟩,
 ⟨some 5, .mov (.lit (.bool true)), none⟩] [4, 5] true)
 .ret))))
def ifn21 : IFn := ⟨40, [.inl 4, .inl 5], ic21⟩
/-- vendue/rlog.Add -/
def ic22 : IC :=
 (.seq
 (.reg [
 ⟨some 3, .box (.slot 0), none⟩,
 ⟨some 6, .alloc [(.int .u64 0), (.int .u64 0), (.slice true 0 [] .full)], none⟩] [1, 2, 3, 6] false)
 (.seq
 (.reg [
 ⟨some 11, .load 3 true (.slot 3), none⟩,
 ⟨some 12, .call (.lit (.func (.func 18) [] [])) [(.slot 11)], none⟩,
 ⟨some 10, .mov (.slot 12), none⟩,
 ⟨some 13, .extract (.slot 10) 0, none⟩,
 ⟨some 14, .extract (.slot 10) 1, none⟩,
 ⟨some 7, .mov (.slot 13), none⟩,
 ⟨some 8, .mov (.slot 14), none⟩] [1, 2, 3, 6, 7] false)
 (.seq
 (.reg [
 ⟨some 15, .load 3 true (.slot 3), none⟩,
 ⟨some 9, .alloc [(.int .u64 0), (.int .u64 0), (.slice true 0 [] .full)], none⟩,
 ⟨none, .store 3 (.slot 9) (.slot 15), none⟩] [1, 2, 3, 6, 7, 9] false)
 (.seq
 (.reg [
 ⟨some 16, .faddr 2 (.slot 3), none⟩,
 ⟨some 17, .load 1 false (.slot 16), none⟩,
 ⟨some 18, .call (.lit (.func (.func 34) [] [])) [(.slot 17)], none⟩,
 ⟨some 19, .mov (.slot 7), none⟩,
 ⟨some 20, .bin .add none (.slot 19) (.lit (.int .u64 1)), none⟩,
 ⟨some 21, .mov (.slot 1), none⟩,
 ⟨some 22, .mov (.slot 2), none⟩,
 ⟨some 23, .build [(.int .u64 0), (.int .u64 0), (.str ⟨#[]⟩)] [(0, 1, (.slot 20)), (1, 1, (.slot 21)), (2, 1, (.slot 22))], none⟩,
 ⟨some 24, .bslice 3 (.agg [(.int .u64 0), (.int .u64 0), (.str ⟨#[]⟩)]) 1 [(0, (.slot 23))], none⟩,
 ⟨some 25, .append 3 32 (.slot 18) (.slot 24), none⟩,
 ⟨some 26, .faddr 2 (.slot 9), none⟩,
 ⟨none, .store 1 (.slot 26) (.slot 25), none⟩] [3, 6, 9] false)
 (.seq
 (.seq
 (.reg [
 ⟨some 27, .load 3 true (.slot 9), none⟩,
 ⟨some 28, .call (.lit (.func (.func 16) [] [])) [(.slot 27)], none⟩,
 ⟨some 29, .un .not (.slot 28), none⟩] [3, 6, 9, 29] false)
 (.cond (.slot 29)
 (.seq
 (.reg [
 ⟨some 30, .load 3 true (.slot 3), none⟩,
 ⟨none, .store 3 (.slot 6) (.slot 30), none⟩] [6] true)
 .ret)
 .skip))
 (.seq
 (.reg [
 ⟨some 31, .load 3 true (.slot 9), none⟩,
 ⟨none, .store 3 (.slot 6) (.slot 31), none⟩] [6] true)
 .ret))))))
def ifn22 : IFn := ⟨32, [.inr (6, 3, true)], ic22⟩
/-- vendue/rlog.Same -/
def ic23 : IC :=
 (.seq
 (.reg [
 ⟨some 2, .box (.slot 0), none⟩,
 ⟨some 3, .box (.slot 1), none⟩,
 ⟨some 4, .mov (.lit (.bool false)), none⟩] [2, 3] false)
 (.seq
 (.reg [
 ⟨some 5, .faddr 0 (.slot 2), none⟩,
 ⟨some 6, .load 1 false (.slot 5), none⟩,
 ⟨some 7, .faddr 0 (.slot 3), none⟩,
 ⟨some 8, .load 1 false (.slot 7), none⟩,
 ⟨some 9, .bin .eql (some .int) (.slot 6) (.slot 8), none⟩,
 ⟨some 10, .mov (.slot 9), none⟩,
 ⟨some 11, .faddr 1 (.slot 2), (some (10, true))⟩,
 ⟨some 12, .load 1 false (.slot 11), (some (10, true))⟩,
 ⟨some 13, .faddr 1 (.slot 3), (some (10, true))⟩,
 ⟨some 14, .load 1 false (.slot 13), (some (10, true))⟩,
 ⟨some 15, .bin .eql (some .int) (.slot 12) (.slot 14), (some (10, true))⟩,
 ⟨some 16, .pick (.slot 10) (.slot 15) (.lit (.bool false)), none⟩,
 ⟨some 17, .mov (.slot 16), none⟩,
 ⟨some 18, .faddr 2 (.slot 2), (some (17, true))⟩,
 ⟨some 19, .load 1 false (.slot 18), (some (17, true))⟩,
 ⟨some 20, .faddr 2 (.slot 3), (some (17, true))⟩,
 ⟨some 21, .load 1 false (.slot 20), (some (17, true))⟩,
 ⟨some 22, .call (.lit (.func (.func 36) [] [])) [(.slot 19), (.slot 21)], (some (17, true))⟩,
 ⟨some 23, .pick (.slot 17) (.slot 22) (.lit (.bool false)), none⟩,
 ⟨some 4, .mov (.slot 23), none⟩] [4] true)
 .ret))
def ifn23 : IFn := ⟨24, [.inl 4], ic23⟩
/-- vendue/vendueref06.SameEntries -/
def ic24l0 : IC :=
 (.seq
 (.seq
 (.reg [
 ⟨some 11, .mov (.slot 5), none⟩,
 ⟨some 12, .mov (.slot 0), none⟩,
 ⟨some 13, .len (.slice 3) (.slot 12), none⟩,
 ⟨some 14, .bin .lss none (.slot 11) (.slot 13), none⟩] [0, 1, 5, 14] false)
 (.cond (.slot 14)
 .skip
 (.exit 0)))
 (.seq
 (.block 1
 (.seq
 (.regd [] [
 (⟨some 17, .mov (.slot 0), none⟩, none),
 (⟨some 18, .mov (.slot 5), none⟩, none),
 (⟨some 19, .iaddr (.slice 3) (.slot 17) (.slot 18), none⟩, none),
 (⟨some 20, .load 3 true (.slot 19), none⟩, none),
 (⟨some 21, .mov (.slot 1), none⟩, none),
 (⟨some 22, .mov (.slot 5), none⟩, none),
 (⟨some 23, .iaddr (.slice 3) (.slot 21) (.slot 22), none⟩, none),
 (⟨some 24, .load 3 true (.slot 23), none⟩, none),
 (⟨some 25, .bin .neq (some (.struct [(0, 1, false, .int), (1, 1, false, .int), (2, 1, false, .str)])) (.slot 20) (.slot 24), none⟩, none)] [] [0, 1, 5, 25] false)
 (.cond (.slot 25)
 (.seq
 (.reg [
 ⟨some 4, .mov (.lit (.bool false)), none⟩] [4] false)
 .ret)
 .skip)))
 (.reg [
 ⟨some 15, .mov (.slot 5), none⟩,
 ⟨some 16, .bin .add none (.slot 15) (.lit (.int .i64 1)), none⟩,
 ⟨some 5, .mov (.slot 16), none⟩] [0, 1, 5] false)))
def ic24 : IC :=
 (.seq
 (.reg [
 ⟨some 4, .mov (.lit (.bool false)), none⟩] [0, 1] false)
 (.seq
 (.seq
 (.reg [
 ⟨some 6, .mov (.slot 0), none⟩,
 ⟨some 7, .len (.slice 3) (.slot 6), none⟩,
 ⟨some 8, .mov (.slot 1), none⟩,
 ⟨some 9, .len (.slice 3) (.slot 8), none⟩,
 ⟨some 10, .bin .neq (some .int) (.slot 7) (.slot 9), none⟩] [0, 1, 10] false)
 (.cond (.slot 10)
 (.seq
 (.reg [
 ⟨some 4, .mov (.lit (.bool false)), none⟩] [4] false)
 .ret)
 .skip))
 (.seq
 (.seq
 (.reg [
 ⟨some 5, .mov (.lit (.int .i64 0)), none⟩] [0, 1, 5] false)
 (.block 0
 (.loop ic24l0)))
 (.seq
 (.reg [
 ⟨some 4, .mov (.lit (.bool true)), none⟩] [4] false)
 .ret))))
def ifn24 : IFn := ⟨26, [.inl 4], ic24⟩
/-- vendue/rlog.From -/
def ic25 : IC :=
 (.seq
 (.reg [
 ⟨some 3, .box (.slot 0), none⟩,
 ⟨some 6, .mov (.lit (.slice true 0 [] .full)), none⟩] [1, 2, 3] false)
 (.seq
 (.seq
 (.reg [
 ⟨some 8, .mov (.slot 1), none⟩,
 ⟨some 9, .bin .gtr none (.slot 8) (.lit (.int .u64 0)), none⟩] [1, 2, 3, 9] false)
 (.cond (.slot 9)
 (.reg [
 ⟨some 10, .mov (.slot 1), none⟩,
 ⟨some 11, .bin .sub none (.slot 10) (.lit (.int .u64 1)), none⟩,
 ⟨some 1, .mov (.slot 11), none⟩] [1, 2, 3] false)
 .skip))
 (.seq
 (.reg [
 ⟨some 12, .load 3 true (.slot 3), none⟩,
 ⟨some 13, .mov (.slot 1), none⟩,
 ⟨some 14, .call (.lit (.func (.func 35) [] [])) [(.slot 12), (.slot 13)], none⟩,
 ⟨some 7, .mov (.slot 14), none⟩] [2, 7] true)
 (.seq
 (.reg [
 ⟨some 15, .mov (.slot 7), none⟩,
 ⟨some 16, .mov (.slot 7), none⟩,
 ⟨some 17, .len (.slice 3) (.slot 16), none⟩,
 ⟨some 18, .mov (.slot 2), none⟩,
 ⟨some 19, .minmax true [(.slot 18), (.lit (.int .i64 0))], none⟩,
 ⟨some 20, .minmax false [(.slot 17), (.slot 19)], none⟩,
 ⟨some 21, .sl (.slice 3) (.slot 15) none (some (.slot 20)) none, none⟩,
 ⟨some 22, .call (.lit (.func (.func 34) [] [])) [(.slot 21)], none⟩,
 ⟨some 6, .mov (.slot 22), none⟩] [6] false)
 .ret))))
def ifn25 : IFn := ⟨23, [.inl 6], ic25⟩
/-- vendue/vendueref07.Check -/
def ic26l0 : IC :=
 (.seq
 (.seq
 (.reg [
 ⟨some 17, .mov (.slot 4), none⟩,
 ⟨some 18, .faddr 2 (.slot 1), none⟩,
 ⟨some 19, .load 1 false (.slot 18), none⟩,
 ⟨some 20, .len (.slice 3) (.slot 19), none⟩,
 ⟨some 21, .bin .lss none (.slot 17) (.slot 20), none⟩] [1, 3, 4, 21] false)
 (.cond (.slot 21)
 .skip
 (.exit 0)))
 (.seq
 (.block 1
 (.seq
 (.reg [
 ⟨some 24, .faddr 2 (.slot 1), none⟩,
 ⟨some 25, .load 1 false (.slot 24), none⟩,
 ⟨some 26, .mov (.slot 4), none⟩,
 ⟨some 27, .iaddr (.slice 3) (.slot 25) (.slot 26), none⟩,
 ⟨some 28, .load 3 true (.slot 27), none⟩,
 ⟨some 5, .alloc [(.int .u64 0), (.int .u64 0), (.str ⟨#[]⟩)], none⟩,
 ⟨none, .store 3 (.slot 5) (.slot 28), none⟩] [1, 3, 4, 5] false)
 (.seq
 (.reg [
 ⟨some 29, .load 3 true (.slot 5), none⟩,
 ⟨some 30, .call (.lit (.func (.func 37) [] [])) [(.slot 29)], none⟩,
 ⟨some 6, .mov (.slot 30), none⟩] [1, 3, 4, 5, 6] false)
 (.seq
 (.seq
 (.reg [
 ⟨some 31, .mov (.slot 6), none⟩,
 ⟨some 32, .un .not (.slot 31), none⟩,
 ⟨some 33, .mov (.slot 32), none⟩,
 ⟨some 34, .faddr 0 (.slot 5), (some (33, false))⟩,
 ⟨some 35, .load 1 false (.slot 34), (some (33, false))⟩,
 ⟨some 36, .faddr 0 (.slot 1), (some (33, false))⟩,
 ⟨some 37, .load 1 false (.slot 36), (some (33, false))⟩,
 ⟨some 38, .bin .add none (.slot 37) (.lit (.int .u64 1)), (some (33, false))⟩,
 ⟨some 39, .mov (.slot 4), (some (33, false))⟩,
 ⟨some 40, .conv (.int .u64) (.slot 39), (some (33, false))⟩,
 ⟨some 41, .bin .add none (.slot 38) (.slot 40), (some (33, false))⟩,
 ⟨some 42, .bin .neq (some .int) (.slot 35) (.slot 41), (some (33, false))⟩,
 ⟨some 43, .pick (.slot 33) (.lit (.bool true)) (.slot 42), none⟩,
 ⟨some 44, .mov (.slot 43), none⟩,
 ⟨some 45, .faddr 1 (.slot 5), (some (44, false))⟩,
 ⟨some 46, .load 1 false (.slot 45), (some (44, false))⟩,
 ⟨some 47, .mov (.slot 3), (some (44, false))⟩,
 ⟨some 48, .bin .lss none (.slot 46) (.slot 47), (some (44, false))⟩,
 ⟨some 49, .pick (.slot 44) (.lit (.bool true)) (.slot 48), none⟩] [1, 4, 5, 49] false)
 (.cond (.slot 49)
 (.seq
 (.reg [
 ⟨some 2, .mov (.lit (.bool false)), none⟩] [2] false)
 .ret)
 .skip))
 (.reg [
 ⟨some 50, .faddr 1 (.slot 5), none⟩,
 ⟨some 51, .load 1 false (.slot 50), none⟩,
 ⟨some 3, .mov (.slot 51), none⟩] [1, 3, 4] true)))))
 (.reg [
 ⟨some 22, .mov (.slot 4), none⟩,
 ⟨some 23, .bin .add none (.slot 22) (.lit (.int .i64 1)), none⟩,
 ⟨some 4, .mov (.slot 23), none⟩] [1, 3, 4] false)))
def ic26 : IC :=
 (.seq
 (.reg [
 ⟨some 1, .box (.slot 0), none⟩,
 ⟨some 2, .mov (.lit (.bool false)), none⟩] [1] false)
 (.seq
 (.seq
 (.reg [
 ⟨some 7, .faddr 0 (.slot 1), none⟩,
 ⟨some 8, .load 1 false (.slot 7), none⟩,
 ⟨some 9, .bin .gtr none (.slot 8) (.lit (.int .u64 1099511627776)), none⟩,
 ⟨some 10, .mov (.slot 9), none⟩,
 ⟨some 11, .faddr 1 (.slot 1), (some (10, false))⟩,
 ⟨some 12, .load 1 false (.slot 11), (some (10, false))⟩,
 ⟨some 13, .bin .gtr none (.slot 12) (.lit (.int .u64 1099511627776)), (some (10, false))⟩,
 ⟨some 14, .pick (.slot 10) (.lit (.bool true)) (.slot 13), none⟩] [1, 14] false)
 (.cond (.slot 14)
 (.seq
 (.reg [
 ⟨some 2, .mov (.lit (.bool false)), none⟩] [2] false)
 .ret)
 .skip))
 (.seq
 (.reg [
 ⟨some 15, .faddr 1 (.slot 1), none⟩,
 ⟨some 16, .load 1 false (.slot 15), none⟩,
 ⟨some 3, .mov (.slot 16), none⟩] [1, 3] false)
 (.seq
 (.seq
 (.reg [
 ⟨some 4, .mov (.lit (.int .i64 0)), none⟩] [1, 3, 4] false)
 (.block 0
 (.loop ic26l0)))
 (.seq
 (.reg [
 ⟨some 2, .mov (.lit (.bool true)), none⟩] [2] false)
 .ret)))))
def ifn26 : IFn := ⟨52, [.inl 2], ic26⟩
/-- vendue/venduelaw07.tells -/
def ic27 : IC :=
 (.seq
 (.reg [
 ⟨some 2, .box (.slot 0), none⟩,
 ⟨some 3, .box (.slot 1), none⟩,
 ⟨some 4, .mov (.lit (.bool false)), none⟩] [2, 3] false)
 (.seq
 (.reg [
 ⟨some 20, .load 3 true (.slot 2), none⟩,
 ⟨some 21, .call (.lit (.func (.func 18) [] [])) [(.slot 20)], none⟩,
 ⟨some 19, .mov (.slot 21), none⟩,
 ⟨some 22, .extract (.slot 19) 0, none⟩,
 ⟨some 23, .extract (.slot 19) 1, none⟩,
 ⟨some 5, .mov (.slot 22), none⟩,
 ⟨some 6, .mov (.slot 23), none⟩] [2, 3, 5, 6] false)
 (.seq
 (.reg [
 ⟨some 24, .load 3 true (.slot 2), none⟩,
 ⟨some 25, .call (.lit (.func (.func 38) [] [])) [(.slot 24)], none⟩,
 ⟨some 7, .alloc [(.int .u64 0), (.int .u64 0)], none⟩,
 ⟨none, .store 2 (.slot 7) (.slot 25), none⟩] [2, 3, 5, 6, 7] false)
 (.seq
 (.reg [
 ⟨some 27, .load 3 true (.slot 2), none⟩,
 ⟨some 28, .faddr 0 (.slot 3), none⟩,
 ⟨some 29, .load 1 false (.slot 28), none⟩,
 ⟨some 30, .call (.lit (.func (.func 21) [] [])) [(.slot 27), (.slot 29)], none⟩,
 ⟨some 26, .mov (.slot 30), none⟩,
 ⟨some 31, .extract (.slot 26) 0, none⟩,
 ⟨some 32, .extract (.slot 26) 1, none⟩,
 ⟨some 8, .mov (.slot 31), none⟩,
 ⟨some 9, .mov (.slot 32), none⟩] [2, 3, 5, 6, 7, 8, 9] false)
 (.seq
 (.reg [
 ⟨some 34, .load 3 true (.slot 2), none⟩,
 ⟨some 35, .faddr 0 (.slot 3), none⟩,
 ⟨some 36, .load 1 false (.slot 35), none⟩,
 ⟨some 37, .call (.lit (.func (.func 14) [] [])) [(.slot 34), (.slot 36)], none⟩,
 ⟨some 33, .mov (.slot 37), none⟩,
 ⟨some 38, .extract (.slot 33) 0, none⟩,
 ⟨some 39, .extract (.slot 33) 1, none⟩,
 ⟨some 10, .mov (.slot 38), none⟩,
 ⟨some 11, .mov (.slot 39), none⟩] [2, 3, 5, 6, 7, 8, 9, 10, 11] false)
 (.seq
 (.regd [] [
 (⟨some 40, .load 3 true (.slot 2), none⟩, none),
 (⟨some 41, .faddr 0 (.slot 3), none⟩, none),
 (⟨some 42, .load 1 false (.slot 41), none⟩, none),
 (⟨some 43, .faddr 2 (.slot 3), none⟩, none),
 (⟨some 44, .load 1 false (.slot 43), none⟩, none),
 (⟨some 45, .pcall (.lit (.func (.func 25) [] [])) [(.slot 40), (.slot 42), (.slot 44)], none⟩, none),
 (⟨some 46, .load 3 true (.slot 2), none⟩, none),
 (⟨some 47, .faddr 0 (.slot 3), none⟩, none),
 (⟨some 48, .load 1 false (.slot 47), none⟩, none),
 (⟨some 49, .faddr 2 (.slot 3), none⟩, none),
 (⟨some 50, .load 1 false (.slot 49), none⟩, none),
 (⟨some 51, .pcall (.lit (.func (.func 39) [] [])) [(.slot 46), (.slot 48), (.slot 50)], none⟩, none),
 (⟨some 52, .pcall (.lit (.func (.func 24) [] [])) [(.slot 45), (.slot 51)], none⟩, none),
 (⟨some 12, .mov (.slot 52), none⟩, none)] [] [2, 3, 5, 6, 7, 8, 9, 10, 11, 12] false)
 (.seq
 (.regd [] [
 (⟨some 53, .load 3 true (.slot 2), none⟩, none),
 (⟨some 54, .faddr 1 (.slot 3), none⟩, none),
 (⟨some 55, .load 1 false (.slot 54), none⟩, none),
 (⟨some 56, .pcall (.lit (.func (.func 22) [] [])) [(.slot 53), (.slot 55), (.lit (.str (bs [100])))], none⟩, none),
 (⟨some 57, .load 3 true (.slot 2), none⟩, none),
 (⟨some 58, .faddr 1 (.slot 3), none⟩, none),
 (⟨some 59, .load 1 false (.slot 58), none⟩, none),
 (⟨some 60, .pcall (.lit (.func (.func 40) [] [])) [(.slot 57), (.slot 59), (.lit (.str (bs [100])))], none⟩, none),
 (⟨some 61, .pcall (.lit (.func (.func 17) [] [])) [(.slot 56), (.slot 60)], none⟩, none),
 (⟨some 13, .mov (.slot 61), none⟩, none)] [] [2, 3, 5, 6, 7, 8, 9, 10, 11, 12, 13] false)
 (.seq
 (.reg [
 ⟨some 63, .load 3 true (.slot 2), none⟩,
 ⟨some 64, .faddr 0 (.slot 3), none⟩,
 ⟨some 65, .load 1 false (.slot 64), none⟩,
 ⟨some 66, .call (.lit (.func (.func 20) [] [])) [(.slot 63), (.slot 65)], none⟩,
 ⟨some 62, .mov (.slot 66), none⟩,
 ⟨some 67, .extract (.slot 62) 0, none⟩,
 ⟨some 68, .extract (.slot 62) 1, none⟩,
 ⟨some 14, .alloc [(.int .u64 0), (.int .u64 0), (.slice true 0 [] .full)], none⟩,
 ⟨none, .store 3 (.slot 14) (.slot 67), none⟩,
 ⟨some 15, .mov (.slot 68), none⟩] [2, 3, 5, 6, 7, 8, 9, 10, 11, 12, 13, 14, 15] false)
 (.seq
 (.reg [
 ⟨some 70, .load 3 true (.slot 2), none⟩,
 ⟨some 71, .faddr 0 (.slot 3), none⟩,
 ⟨some 72, .load 1 false (.slot 71), none⟩,
 ⟨some 73, .call (.lit (.func (.func 41) [] [])) [(.slot 70), (.slot 72)], none⟩,
 ⟨some 69, .mov (.slot 73), none⟩,
 ⟨some 74, .extract (.slot 69) 0, none⟩,
 ⟨some 75, .extract (.slot 69) 1, none⟩,
 ⟨some 16, .alloc [(.int .u64 0), (.int .u64 0), (.slice true 0 [] .full)], none⟩,
 ⟨none, .store 3 (.slot 16) (.slot 74), none⟩,
 ⟨some 17, .mov (.slot 75), none⟩] [2, 3, 5, 6, 7, 8, 9, 10, 11, 12, 13, 14, 15, 16, 17] false)
 (.seq
 (.reg [
 ⟨some 76, .load 3 true (.slot 14), none⟩,
 ⟨some 77, .load 3 true (.slot 16), none⟩,
 ⟨some 78, .call (.lit (.func (.func 17) [] [])) [(.slot 76), (.slot 77)], none⟩,
 ⟨some 18, .mov (.slot 78), none⟩] [2, 3, 5, 6, 7, 8, 9, 10, 11, 12, 13, 15, 17, 18] true)
 (.seq
 (.regd [] [
 (⟨some 79, .load 3 true (.slot 2), none⟩, none),
 (⟨some 80, .pcall (.lit (.func (.func 16) [] [])) [(.slot 79)], none⟩, none),
 (⟨some 81, .mov (.slot 80), none⟩, none),
 (⟨some 82, .mov (.slot 5), (some (81, true))⟩, none),
 (⟨some 83, .faddr 0 (.slot 7), (some (81, true))⟩, none),
 (⟨some 84, .load 1 false (.slot 83), (some (81, true))⟩, none),
 (⟨some 85, .bin .eql (some .int) (.slot 82) (.slot 84), (some (81, true))⟩, none),
 (⟨some 86, .pick (.slot 81) (.slot 85) (.lit (.bool false)), none⟩, none),
 (⟨some 87, .mov (.slot 86), none⟩, none),
 (⟨some 88, .mov (.slot 6), (some (87, true))⟩, none),
 (⟨some 89, .faddr 1 (.slot 7), (some (87, true))⟩, none),
 (⟨some 90, .load 1 false (.slot 89), (some (87, true))⟩, none),
 (⟨some 91, .bin .eql (some .int) (.slot 88) (.slot 90), (some (87, true))⟩, none),
 (⟨some 92, .pick (.slot 87) (.slot 91) (.lit (.bool false)), none⟩, none),
 (⟨some 93, .mov (.slot 92), none⟩, none),
 (⟨some 94, .mov (.slot 8), (some (93, true))⟩, none),
 (⟨some 95, .mov (.slot 10), (some (93, true))⟩, none),
 (⟨some 96, .bin .eql (some .int) (.slot 94) (.slot 95), (some (93, true))⟩, none),
 (⟨some 97, .pick (.slot 93) (.slot 96) (.lit (.bool false)), none⟩, none),
 (⟨some 98, .mov (.slot 97), none⟩, none),
 (⟨some 99, .mov (.slot 9), (some (98, true))⟩, none),
 (⟨some 100, .mov (.slot 11), (some (98, true))⟩, none),
 (⟨some 101, .bin .eql (some .bool) (.slot 99) (.slot 100), (some (98, true))⟩, none),
 (⟨some 102, .pick (.slot 98) (.slot 101) (.lit (.bool false)), none⟩, none),
 (⟨some 103, .mov (.slot 102), none⟩, none),
 (⟨some 104, .load 3 true (.slot 2), (some (103, true))⟩, none),
 (⟨some 105, .faddr 0 (.slot 3), (some (103, true))⟩, none),
 (⟨some 106, .load 1 false (.slot 105), (some (103, true))⟩, none),
 (⟨some 107, .faddr 1 (.slot 3), (some (103, true))⟩, none),
 (⟨some 108, .load 1 false (.slot 107), (some (103, true))⟩, none),
 (⟨some 109, .pcall (.lit (.func (.func 19) [] [])) [(.slot 104), (.slot 106), (.slot 108)], (some (103, true))⟩, none),
 (⟨some 110, .load 3 true (.slot 2), (some (103, true))⟩, none),
 (⟨some 111, .faddr 0 (.slot 3), (some (103, true))⟩, none),
 (⟨some 112, .load 1 false (.slot 111), (some (103, true))⟩, none),
 (⟨some 113, .faddr 1 (.slot 3), (some (103, true))⟩, none),
 (⟨some 114, .load 1 false (.slot 113), (some (103, true))⟩, none),
 (⟨some 115, .pcall (.lit (.func (.func 42) [] [])) [(.slot 110), (.slot 112), (.slot 114)], (some (103, true))⟩, none),
 (⟨some 116, .bin .eql (some .bool) (.slot 109) (.slot 115), (some (103, true))⟩, none),
 (⟨some 117, .pick (.slot 103) (.slot 116) (.lit (.bool false)), none⟩, none),
 (⟨some 118, .mov (.slot 117), none⟩, none),
 (⟨some 119, .mov (.slot 12), (some (118, true))⟩, none),
 (⟨some 120, .pick (.slot 118) (.slot 119) (.lit (.bool false)), none⟩, none),
 (⟨some 121, .mov (.slot 120), none⟩, none),
 (⟨some 122, .mov (.slot 13), (some (121, true))⟩, none),
 (⟨some 123, .pick (.slot 121) (.slot 122) (.lit (.bool false)), none⟩, none),
 (⟨some 124, .mov (.slot 123), none⟩, none),
 (⟨some 125, .mov (.slot 18), (some (124, true))⟩, none),
 (⟨some 126, .pick (.slot 124) (.slot 125) (.lit (.bool false)), none⟩, none),
 (⟨some 127, .mov (.slot 126), none⟩, none),
 (⟨some 128, .mov (.slot 15), (some (127, true))⟩, none),
 (⟨some 129, .mov (.slot 17), (some (127, true))⟩, none),
 (⟨some 130, .bin .eql (some .bool) (.slot 128) (.slot 129), (some (127, true))⟩, none),
 (⟨some 131, .pick (.slot 127) (.slot 130) (.lit (.bool false)), none⟩, none),
 (⟨some 4, .mov (.slot 131), none⟩, none)] [] [4] true)
 .ret)))))))))))
def ifn27 : IFn := ⟨132, [.inl 4], ic27⟩
/-- vendue/vendueref07.Put -/
def ic28l2 : IC :=
 (.seq
 (.seq
 (.reg [
 ⟨some 118, .mov (.slot 22), none⟩,
 ⟨some 119, .faddr 2 (.slot 16), none⟩,
 ⟨some 120, .load 1 false (.slot 119), none⟩,
 ⟨some 121, .len (.slice 3) (.slot 120), none⟩,
 ⟨some 122, .bin .lss none (.slot 118) (.slot 121), none⟩] [1, 3, 4, 8, 16, 17, 18, 21, 22, 122] false)
 (.cond (.slot 122)
 .skip
 (.exit 4)))
 (.seq
 (.block 5
 (.seq
 (.regd [] [
 (⟨some 125, .faddr 2 (.slot 16), none⟩, none),
 (⟨some 126, .load 1 false (.slot 125), none⟩, none),
 (⟨some 127, .mov (.slot 22), none⟩, none),
 (⟨some 128, .iaddr (.slice 3) (.slot 126) (.slot 127), none⟩, none),
 (⟨some 129, .faddr 0 (.slot 128), none⟩, none),
 (⟨some 130, .load 1 false (.slot 129), none⟩, none),
 (⟨some 131, .faddr 0 (.slot 18), none⟩, none),
 (⟨some 132, .load 1 false (.slot 131), none⟩, none),
 (⟨some 133, .bin .lss none (.slot 130) (.slot 132), none⟩, none)] [] [1, 3, 4, 8, 16, 17, 18, 21, 22, 133] false)
 (.cond (.slot 133)
 (.regd [] [
 (⟨some 134, .faddr 2 (.slot 21), none⟩, none),
 (⟨some 135, .load 1 false (.slot 134), none⟩, none),
 (⟨some 136, .faddr 2 (.slot 16), none⟩, none),
 (⟨some 137, .load 1 false (.slot 136), none⟩, none),
 (⟨some 138, .mov (.slot 22), none⟩, none),
 (⟨some 139, .iaddr (.slice 3) (.slot 137) (.slot 138), none⟩, none),
 (⟨some 140, .load 3 true (.slot 139), none⟩, none),
 (⟨some 141, .bslice 3 (.agg [(.int .u64 0), (.int .u64 0), (.str ⟨#[]⟩)]) 1 [(0, (.slot 140))], none⟩, none),
 (⟨some 142, .append 3 32 (.slot 135) (.slot 141), none⟩, none),
 (⟨some 143, .faddr 2 (.slot 21), none⟩, none),
 (⟨none, .store 1 (.slot 143) (.slot 142), none⟩, none)] [] [1, 3, 4, 8, 16, 17, 18, 21, 22] false)
 .skip)))
 (.reg [
 ⟨some 123, .mov (.slot 22), none⟩,
 ⟨some 124, .bin .add none (.slot 123) (.lit (.int .i64 1)), none⟩,
 ⟨some 22, .mov (.slot 124), none⟩] [1, 3, 4, 8, 16, 17, 18, 21, 22] false)))
def ic28l1 : IC :=
 (.seq
 (.seq
 (.reg [
 ⟨some 84, .mov (.slot 17), none⟩,
 ⟨some 85, .mov (.slot 3), none⟩,
 ⟨some 86, .len (.slice 3) (.slot 85), none⟩,
 ⟨some 87, .bin .lss none (.slot 84) (.slot 86), none⟩] [1, 3, 4, 8, 16, 17, 87] false)
 (.cond (.slot 87)
 .skip
 (.exit 2)))
 (.seq
 (.block 3
 (.seq
 (.reg [
 ⟨some 90, .mov (.slot 3), none⟩,
 ⟨some 91, .mov (.slot 17), none⟩,
 ⟨some 92, .iaddr (.slice 3) (.slot 90) (.slot 91), none⟩,
 ⟨some 93, .load 3 true (.slot 92), none⟩,
 ⟨some 18, .alloc [(.int .u64 0), (.int .u64 0), (.str ⟨#[]⟩)], none⟩,
 ⟨none, .store 3 (.slot 18) (.slot 93), none⟩] [1, 3, 4, 8, 16, 17, 18] false)
 (.seq
 (.seq
 (.reg [
 ⟨some 94, .faddr 0 (.slot 18), none⟩,
 ⟨some 95, .load 1 false (.slot 94), none⟩,
 ⟨some 96, .faddr 0 (.slot 4), none⟩,
 ⟨some 97, .load 1 false (.slot 96), none⟩,
 ⟨some 98, .bin .leq none (.slot 95) (.slot 97), none⟩] [1, 3, 4, 8, 16, 17, 18, 98] false)
 (.cond (.slot 98)
 (.exit 3)
 .skip))
 (.seq
 (.reg [
 ⟨some 100, .load 3 true (.slot 16), none⟩,
 ⟨some 101, .faddr 0 (.slot 18), none⟩,
 ⟨some 102, .load 1 false (.slot 101), none⟩,
 ⟨some 103, .call (.lit (.func (.func 14) [] [])) [(.slot 100), (.slot 102)], none⟩,
 ⟨some 99, .mov (.slot 103), none⟩,
 ⟨some 104, .extract (.slot 99) 0, none⟩,
 ⟨some 105, .extract (.slot 99) 1, none⟩,
 ⟨some 19, .mov (.slot 104), none⟩,
 ⟨some 20, .mov (.slot 105), none⟩] [1, 3, 4, 8, 16, 17, 18, 19, 20] false)
 (.seq
 (.seq
 (.reg [
 ⟨some 106, .mov (.slot 20), none⟩,
 ⟨some 107, .mov (.slot 106), none⟩,
 ⟨some 108, .mov (.slot 19), (some (107, true))⟩,
 ⟨some 109, .faddr 1 (.slot 18), (some (107, true))⟩,
 ⟨some 110, .load 1 false (.slot 109), (some (107, true))⟩,
 ⟨some 111, .bin .eql (some .int) (.slot 108) (.slot 110), (some (107, true))⟩,
 ⟨some 112, .pick (.slot 107) (.slot 111) (.lit (.bool false)), none⟩] [1, 3, 4, 8, 16, 17, 18, 112] false)
 (.cond (.slot 112)
 (.exit 3)
 .skip))
 (.seq
 (.reg [
 ⟨some 113, .faddr 0 (.slot 4), none⟩,
 ⟨some 114, .load 1 false (.slot 113), none⟩,
 ⟨some 115, .faddr 1 (.slot 4), none⟩,
 ⟨some 116, .load 1 false (.slot 115), none⟩,
 ⟨some 117, .build [(.int .u64 0), (.int .u64 0), (.slice true 0 [] .full)] [(0, 1, (.slot 114)), (1, 1, (.slot 116))], none⟩,
 ⟨some 21, .alloc [(.int .u64 0), (.int .u64 0), (.slice true 0 [] .full)], none⟩,
 ⟨none, .store 3 (.slot 21) (.slot 117), none⟩] [1, 3, 4, 8, 16, 17, 18, 21] false)
 (.seq
 (.seq
 (.reg [
 ⟨some 22, .mov (.lit (.int .i64 0)), none⟩] [1, 3, 4, 8, 16, 17, 18, 21, 22] false)
 (.block 4
 (.loop ic28l2)))
 (.seq
 (.reg [
 ⟨some 144, .faddr 2 (.slot 21), none⟩,
 ⟨some 145, .load 1 false (.slot 144), none⟩,
 ⟨some 146, .load 3 true (.slot 18), none⟩,
 ⟨some 147, .bslice 3 (.agg [(.int .u64 0), (.int .u64 0), (.str ⟨#[]⟩)]) 1 [(0, (.slot 146))], none⟩,
 ⟨some 148, .append 3 32 (.slot 145) (.slot 147), none⟩,
 ⟨some 149, .faddr 2 (.slot 21), none⟩,
 ⟨none, .store 1 (.slot 149) (.slot 148), none⟩] [1, 3, 4, 8, 16, 17, 21] false)
 (.reg [
 ⟨some 150, .load 3 true (.slot 21), none⟩,
 ⟨none, .store 3 (.slot 16) (.slot 150), none⟩] [1, 3, 4, 8, 16, 17] false)))))))))
 (.reg [
 ⟨some 88, .mov (.slot 17), none⟩,
 ⟨some 89, .bin .add none (.slot 88) (.lit (.int .i64 1)), none⟩,
 ⟨some 17, .mov (.slot 89), none⟩] [1, 3, 4, 8, 16, 17] false)))
def ic28l0 : IC :=
 (.seq
 (.seq
 (.reg [
 ⟨some 56, .mov (.slot 14), none⟩,
 ⟨some 57, .faddr 2 (.slot 4), none⟩,
 ⟨some 58, .load 1 false (.slot 57), none⟩,
 ⟨some 59, .len (.slice 3) (.slot 58), none⟩,
 ⟨some 60, .bin .lss none (.slot 56) (.slot 59), none⟩] [1, 4, 8, 11, 13, 14, 60] false)
 (.cond (.slot 60)
 .skip
 (.exit 0)))
 (.seq
 (.block 1
 (.seq
 (.reg [
 ⟨some 63, .faddr 2 (.slot 4), none⟩,
 ⟨some 64, .load 1 false (.slot 63), none⟩,
 ⟨some 65, .mov (.slot 14), none⟩,
 ⟨some 66, .iaddr (.slice 3) (.slot 64) (.slot 65), none⟩,
 ⟨some 67, .load 3 true (.slot 66), none⟩,
 ⟨some 15, .alloc [(.int .u64 0), (.int .u64 0), (.str ⟨#[]⟩)], none⟩,
 ⟨none, .store 3 (.slot 15) (.slot 67), none⟩] [1, 4, 8, 11, 13, 14, 15] false)
 (.seq
 (.reg [
 ⟨some 68, .faddr 0 (.slot 15), none⟩,
 ⟨some 69, .load 1 false (.slot 68), none⟩,
 ⟨some 70, .mov (.slot 1), none⟩,
 ⟨some 71, .bin .lss none (.slot 69) (.slot 70), none⟩,
 ⟨some 72, .mov (.slot 71), none⟩,
 ⟨some 73, .faddr 1 (.slot 15), (some (72, true))⟩,
 ⟨some 74, .load 1 false (.slot 73), (some (72, true))⟩,
 ⟨some 75, .mov (.slot 11), (some (72, true))⟩,
 ⟨some 76, .bin .neq (some .int) (.slot 74) (.slot 75), (some (72, true))⟩,
 ⟨some 77, .pick (.slot 72) (.slot 76) (.lit (.bool false)), none⟩] [1, 4, 8, 11, 13, 14, 15, 77] false)
 (.cond (.slot 77)
 (.reg [
 ⟨some 78, .faddr 0 (.slot 15), none⟩,
 ⟨some 79, .load 1 false (.slot 78), none⟩,
 ⟨some 13, .mov (.slot 79), none⟩] [1, 4, 8, 11, 13, 14] false)
 .skip))))
 (.reg [
 ⟨some 61, .mov (.slot 14), none⟩,
 ⟨some 62, .bin .add none (.slot 61) (.lit (.int .i64 1)), none⟩,
 ⟨some 14, .mov (.slot 62), none⟩] [1, 4, 8, 11, 13, 14] false)))
def ic28 : IC :=
 (.seq
 (.reg [
 ⟨some 4, .box (.slot 0), none⟩,
 ⟨some 8, .alloc [(.int .u64 0), (.int .u64 0), (.slice true 0 [] .full), (.int .u64 0), (.bool false)], none⟩] [1, 2, 3, 4, 8] false)
 (.seq
 (.reg [
 ⟨some 23, .mov (.slot 1), none⟩,
 ⟨some 24, .mov (.slot 2), none⟩,
 ⟨some 25, .mov (.slot 3), none⟩,
 ⟨some 26, .build [(.int .u64 0), (.int .u64 0), (.slice true 0 [] .full)] [(0, 1, (.slot 23)), (1, 1, (.slot 24)), (2, 1, (.slot 25))], none⟩,
 ⟨some 27, .call (.lit (.func (.func 26) [] [])) [(.slot 26)], none⟩,
 ⟨some 9, .mov (.slot 27), none⟩] [1, 2, 3, 4, 8, 9] false)
 (.seq
 (.seq
 (.reg [
 ⟨some 28, .mov (.slot 9), none⟩,
 ⟨some 29, .un .not (.slot 28), none⟩] [1, 2, 3, 4, 8, 29] false)
 (.cond (.slot 29)
 (.seq
 (.reg [
 ⟨some 30, .load 3 true (.slot 4), none⟩,
 ⟨some 31, .build [(.int .u64 0), (.int .u64 0), (.slice true 0 [] .full), (.int .u64 0), (.bool false)] [(0, 3, (.slot 30))], none⟩,
 ⟨none, .store 5 (.slot 8) (.slot 31), none⟩] [8] false)
 .ret)
 .skip))
 (.seq
 (.reg [
 ⟨some 32, .load 3 true (.slot 4), none⟩,
 ⟨some 33, .call (.lit (.func (.func 38) [] [])) [(.slot 32)], none⟩,
 ⟨some 10, .alloc [(.int .u64 0), (.int .u64 0)], none⟩,
 ⟨none, .store 2 (.slot 10) (.slot 33), none⟩] [1, 2, 3, 4, 8, 10] false)
 (.seq
 (.seq
 (.reg [
 ⟨some 34, .mov (.slot 1), none⟩,
 ⟨some 35, .faddr 0 (.slot 10), none⟩,
 ⟨some 36, .load 1 false (.slot 35), none⟩,
 ⟨some 37, .bin .gtr none (.slot 34) (.slot 36), none⟩] [1, 2, 3, 4, 8, 10, 37] false)
 (.cond (.slot 37)
 (.seq
 (.reg [
 ⟨some 38, .load 3 true (.slot 4), none⟩,
 ⟨some 39, .faddr 0 (.slot 10), none⟩,
 ⟨some 40, .load 1 false (.slot 39), none⟩,
 ⟨some 41, .build [(.int .u64 0), (.int .u64 0), (.slice true 0 [] .full), (.int .u64 0), (.bool false)] [(0, 3, (.slot 38)), (3, 1, (.slot 40))], none⟩,
 ⟨none, .store 5 (.slot 8) (.slot 41), none⟩] [8] false)
 .ret)
 .skip))
 (.seq
 (.reg [
 ⟨some 43, .load 3 true (.slot 4), none⟩,
 ⟨some 44, .mov (.slot 1), none⟩,
 ⟨some 45, .call (.lit (.func (.func 14) [] [])) [(.slot 43), (.slot 44)], none⟩,
 ⟨some 42, .mov (.slot 45), none⟩,
 ⟨some 46, .extract (.slot 42) 0, none⟩,
 ⟨some 47, .extract (.slot 42) 1, none⟩,
 ⟨some 11, .mov (.slot 46), none⟩,
 ⟨some 12, .mov (.slot 47), none⟩] [1, 2, 3, 4, 8, 11, 12] false)
 (.seq
 (.seq
 (.reg [
 ⟨some 48, .mov (.slot 12), none⟩,
 ⟨some 49, .mov (.slot 48), none⟩,
 ⟨some 50, .mov (.slot 11), (some (49, true))⟩,
 ⟨some 51, .mov (.slot 2), (some (49, true))⟩,
 ⟨some 52, .bin .neq (some .int) (.slot 50) (.slot 51), (some (49, true))⟩,
 ⟨some 53, .pick (.slot 49) (.slot 52) (.lit (.bool false)), none⟩] [1, 3, 4, 8, 11, 53] false)
 (.cond (.slot 53)
 (.seq
 (.reg [
 ⟨some 54, .faddr 0 (.slot 4), none⟩,
 ⟨some 55, .load 1 false (.slot 54), none⟩,
 ⟨some 13, .mov (.slot 55), none⟩] [1, 4, 8, 11, 13] false)
 (.seq
 (.seq
 (.reg [
 ⟨some 14, .mov (.lit (.int .i64 0)), none⟩] [1, 4, 8, 11, 13, 14] false)
 (.block 0
 (.loop ic28l0)))
 (.seq
 (.reg [
 ⟨some 80, .load 3 true (.slot 4), none⟩,
 ⟨some 81, .mov (.slot 13), none⟩,
 ⟨some 82, .build [(.int .u64 0), (.int .u64 0), (.slice true 0 [] .full), (.int .u64 0), (.bool false)] [(0, 3, (.slot 80)), (3, 1, (.slot 81))], none⟩,
 ⟨none, .store 5 (.slot 8) (.slot 82), none⟩] [8] false)
 .ret)))
 .skip))
 (.seq
 (.reg [
 ⟨some 83, .load 3 true (.slot 4), none⟩,
 ⟨some 16, .alloc [(.int .u64 0), (.int .u64 0), (.slice true 0 [] .full)], none⟩,
 ⟨none, .store 3 (.slot 16) (.slot 83), none⟩] [1, 3, 4, 8, 16] false)
 (.seq
 (.seq
 (.reg [
 ⟨some 17, .mov (.lit (.int .i64 0)), none⟩] [1, 3, 4, 8, 16, 17] false)
 (.block 2
 (.loop ic28l1)))
 (.seq
 (.reg [
 ⟨some 151, .load 3 true (.slot 16), none⟩,
 ⟨some 152, .mov (.slot 1), none⟩,
 ⟨some 153, .mov (.slot 3), none⟩,
 ⟨some 154, .len (.slice 3) (.slot 153), none⟩,
 ⟨some 155, .conv (.int .u64) (.slot 154), none⟩,
 ⟨some 156, .bin .add none (.slot 152) (.slot 155), none⟩,
 ⟨some 157, .build [(.int .u64 0), (.int .u64 0), (.slice true 0 [] .full), (.int .u64 0), (.bool false)] [(0, 3, (.slot 151)), (3, 1, (.slot 156)), (4, 1, (.lit (.bool true)))], none⟩,
 ⟨none, .store 5 (.slot 8) (.slot 157), none⟩] [8] false)
 .ret))))))))))
def ifn28 : IFn := ⟨158, [.inr (8, 5, true)], ic28⟩
/-- vendue/rlog.hint -/
def ic29l0 : IC :=
 (.seq
 (.seq
 (.reg [
 ⟨some 11, .mov (.slot 7), none⟩,
 ⟨some 12, .faddr 0 (.slot 3), none⟩,
 ⟨some 13, .load 1 false (.slot 12), none⟩,
 ⟨some 14, .bin .gtr none (.slot 11) (.slot 13), none⟩] [2, 3, 7, 14] false)
 (.cond (.slot 14)
 .skip
 (.exit 0)))
 (.block 1
 (.seq
 (.reg [
 ⟨some 15, .mov (.slot 7), none⟩,
 ⟨some 16, .bin .sub none (.slot 15) (.lit (.int .u64 1)), none⟩,
 ⟨some 7, .mov (.slot 16), none⟩] [2, 3, 7] false)
 (.seq
 (.reg [
 ⟨some 18, .load 3 true (.slot 3), none⟩,
 ⟨some 19, .mov (.slot 7), none⟩,
 ⟨some 20, .call (.lit (.func (.func 21) [] [])) [(.slot 18), (.slot 19)], none⟩,
 ⟨some 17, .mov (.slot 20), none⟩,
 ⟨some 21, .extract (.slot 17) 0, none⟩,
 ⟨some 22, .extract (.slot 17) 1, none⟩,
 ⟨some 8, .mov (.slot 21), none⟩,
 ⟨some 9, .mov (.slot 22), none⟩] [2, 3, 7, 8] false)
 (.seq
 (.reg [
 ⟨some 23, .mov (.slot 8), none⟩,
 ⟨some 24, .mov (.slot 2), none⟩,
 ⟨some 25, .bin .neq (some .int) (.slot 23) (.slot 24), none⟩] [2, 3, 7, 25] false)
 (.cond (.slot 25)
 (.seq
 (.reg [
 ⟨some 26, .mov (.slot 7), none⟩,
 ⟨some 6, .mov (.slot 26), none⟩] [6] false)
 .ret)
 .skip))))))
def ic29 : IC :=
 (.seq
 (.reg [
 ⟨some 3, .box (.slot 0), none⟩,
 ⟨some 6, .mov (.lit (.int .u64 0)), none⟩] [1, 2, 3] false)
 (.seq
 (.reg [
 ⟨some 10, .mov (.slot 1), none⟩,
 ⟨some 7, .mov (.slot 10), none⟩] [2, 3, 7] false)
 (.seq
 (.block 0
 (.loop ic29l0))
 (.seq
 (.reg [
 ⟨some 27, .faddr 0 (.slot 3), none⟩,
 ⟨some 28, .load 1 false (.slot 27), none⟩,
 ⟨some 6, .mov (.slot 28), none⟩] [6] true)
 .ret))))
def ifn29 : IFn := ⟨29, [.inl 6], ic29⟩
/-- slices.Concat[[]vendue/api.Entry,vendue/api.Entry] -/
def ic30l1 : IC :=
 (.seq
 (.reg [
 ⟨some 28, .bin .lss none (.slot 27) (.slot 26), none⟩] [6, 25, 26, 27, 28] false)
 (.seq
 (.cond (.slot 28)
 .skip
 (.exit 2))
 (.seq
 (.block 3
 (.seq
 (.reg [
 ⟨some 29, .iaddr (.slice 1) (.slot 25) (.slot 27), none⟩,
 ⟨some 30, .load 1 false (.slot 29), none⟩,
 ⟨some 8, .mov (.slot 30), none⟩] [6, 8, 25, 26, 27] false)
 (.reg [
 ⟨some 31, .mov (.slot 6), none⟩,
 ⟨some 32, .mov (.slot 8), none⟩,
 ⟨some 33, .append 3 32 (.slot 31) (.slot 32), none⟩,
 ⟨some 6, .mov (.slot 33), none⟩] [6, 25, 26, 27] false)))
 (.reg [
 ⟨some 34, .bin .add none (.slot 27) (.lit (.int .i64 1)), none⟩,
 ⟨some 27, .mov (.slot 34), none⟩] [6, 25, 26, 27] false))))
def ic30l0 : IC :=
 (.seq
 (.reg [
 ⟨some 12, .bin .lss none (.slot 11) (.slot 10), none⟩] [0, 3, 9, 10, 11, 12] false)
 (.seq
 (.cond (.slot 12)
 .skip
 (.exit 0))
 (.seq
 (.block 1
 (.seq
 (.reg [
 ⟨some 13, .iaddr (.slice 1) (.slot 9) (.slot 11), none⟩,
 ⟨some 14, .load 1 false (.slot 13), none⟩,
 ⟨some 5, .mov (.slot 14), none⟩] [0, 3, 5, 9, 10, 11] false)
 (.seq
 (.reg [
 ⟨some 15, .mov (.slot 3), none⟩,
 ⟨some 16, .mov (.slot 5), none⟩,
 ⟨some 17, .len (.slice 3) (.slot 16), none⟩,
 ⟨some 18, .bin .add none (.slot 15) (.slot 17), none⟩,
 ⟨some 3, .mov (.slot 18), none⟩] [0, 3, 9, 10, 11] false)
 (.seq
 (.reg [
 ⟨some 19, .mov (.slot 3), none⟩,
 ⟨some 20, .bin .lss none (.slot 19) (.lit (.int .i64 0)), none⟩] [0, 3, 9, 10, 11, 20] false)
 (.cond (.slot 20)
 (.reg [
 ⟨some 21, .mkIface 9 (.lit (.str (bs [108, 101, 110, 32, 111, 117, 116, 32, 111, 102, 32, 114, 97, 110, 103, 101]))), none⟩,
 ⟨none, .bad, none⟩] [0, 3, 9, 10, 11] false)
 .skip)))))
 (.reg [
 ⟨some 22, .bin .add none (.slot 11) (.lit (.int .i64 1)), none⟩,
 ⟨some 11, .mov (.slot 22), none⟩] [0, 3, 9, 10, 11] false))))
def ic30 : IC :=
 (.seq
 (.reg [
 ⟨some 2, .mov (.lit (.slice true 0 [] .full)), none⟩] [0] false)
 (.seq
 (.reg [
 ⟨some 3, .mov (.lit (.int .i64 0)), none⟩] [0, 3] false)
 (.seq
 (.seq
 (.reg [
 ⟨some 9, .mov (.slot 0), none⟩,
 ⟨some 10, .len (.slice 1) (.slot 9), none⟩,
 ⟨some 11, .mov (.lit (.int .i64 0)), none⟩] [0, 3, 9, 10, 11] false)
 (.block 0
 (.loop ic30l0)))
 (.seq
 (.reg [
 ⟨some 23, .mov (.slot 3), none⟩,
 ⟨some 24, .call (.lit (.func (.func 43) [] [])) [(.lit (.slice true 0 [] .full)), (.slot 23)], none⟩,
 ⟨some 6, .mov (.slot 24), none⟩] [0, 6] false)
 (.seq
 (.seq
 (.reg [
 ⟨some 25, .mov (.slot 0), none⟩,
 ⟨some 26, .len (.slice 1) (.slot 25), none⟩,
 ⟨some 27, .mov (.lit (.int .i64 0)), none⟩] [6, 25, 26, 27] false)
 (.block 2
 (.loop ic30l1)))
 (.seq
 (.reg [
 ⟨some 35, .mov (.slot 6), none⟩,
 ⟨some 2, .mov (.slot 35), none⟩] [2] false)
 .ret))))))
def ifn30 : IFn := ⟨36, [.inl 2], ic30⟩
/-- vendue/rlog.Check$1 -/
def ic31 : IC :=
 (.seq
 (.reg [
 ⟨some 3, .box (.slot 0), none⟩,
 ⟨some 4, .mov (.lit (.bool false)), none⟩] [1, 2, 3] false)
 (.seq
 (.reg [
 ⟨some 6, .load 1 false (.slot 1), none⟩,
 ⟨some 7, .bin .add none (.slot 6) (.lit (.int .u64 1)), none⟩,
 ⟨none, .store 1 (.slot 1) (.slot 7), none⟩] [1, 2, 3] false)
 (.seq
 (.reg [
 ⟨some 8, .faddr 1 (.slot 3), none⟩,
 ⟨some 9, .load 1 false (.slot 8), none⟩,
 ⟨some 10, .load 1 false (.slot 2), none⟩,
 ⟨some 11, .bin .lss none (.slot 9) (.slot 10), none⟩,
 ⟨some 5, .mov (.slot 11), none⟩] [1, 2, 3, 5] false)
 (.seq
 (.reg [
 ⟨some 12, .faddr 1 (.slot 3), none⟩,
 ⟨some 13, .load 1 false (.slot 12), none⟩,
 ⟨none, .store 1 (.slot 2) (.slot 13), none⟩] [1, 3, 5] false)
 (.seq
 (.reg [
 ⟨some 14, .mov (.slot 5), none⟩,
 ⟨some 15, .mov (.slot 14), none⟩,
 ⟨some 16, .faddr 0 (.slot 3), (some (15, false))⟩,
 ⟨some 17, .load 1 false (.slot 16), (some (15, false))⟩,
 ⟨some 18, .load 1 false (.slot 1), (some (15, false))⟩,
 ⟨some 19, .bin .neq (some .int) (.slot 17) (.slot 18), (some (15, false))⟩,
 ⟨some 20, .pick (.slot 15) (.lit (.bool true)) (.slot 19), none⟩,
 ⟨some 21, .mov (.slot 20), none⟩,
 ⟨some 22, .load 3 true (.slot 3), (some (21, false))⟩,
 ⟨some 23, .call (.lit (.func (.func 32) [] [])) [(.slot 22)], (some (21, false))⟩,
 ⟨some 24, .un .not (.slot 23), (some (21, false))⟩,
 ⟨some 25, .pick (.slot 21) (.lit (.bool true)) (.slot 24), none⟩,
 ⟨some 4, .mov (.slot 25), none⟩] [4] true)
 .ret)))))
def ifn31 : IFn := ⟨26, [.inl 4], ic31⟩
/-- vendue/entry.Check -/
def ic32 : IC :=
 (.seq
 (.reg [
 ⟨some 1, .box (.slot 0), none⟩,
 ⟨some 2, .mov (.lit (.bool false)), none⟩] [1] false)
 (.seq
 (.reg [
 ⟨some 3, .faddr 0 (.slot 1), none⟩,
 ⟨some 4, .load 1 false (.slot 3), none⟩,
 ⟨some 5, .faddr 1 (.slot 1), none⟩,
 ⟨some 6, .load 1 false (.slot 5), none⟩,
 ⟨some 7, .minmax false [(.slot 4), (.slot 6)], none⟩,
 ⟨some 8, .bin .geq none (.slot 7) (.lit (.int .u64 1)), none⟩,
 ⟨some 9, .mov (.slot 8), none⟩,
 ⟨some 10, .faddr 0 (.slot 1), (some (9, true))⟩,
 ⟨some 11, .load 1 false (.slot 10), (some (9, true))⟩,
 ⟨some 12, .faddr 1 (.slot 1), (some (9, true))⟩,
 ⟨some 13, .load 1 false (.slot 12), (some (9, true))⟩,
 ⟨some 14, .minmax true [(.slot 11), (.slot 13)], (some (9, true))⟩,
 ⟨some 15, .bin .leq none (.slot 14) (.lit (.int .u64 1099511627776)), (some (9, true))⟩,
 ⟨some 16, .pick (.slot 9) (.slot 15) (.lit (.bool false)), none⟩,
 ⟨some 17, .mov (.slot 16), none⟩,
 ⟨some 18, .faddr 2 (.slot 1), (some (17, true))⟩,
 ⟨some 19, .load 1 false (.slot 18), (some (17, true))⟩,
 ⟨some 20, .len .str (.slot 19), (some (17, true))⟩,
 ⟨some 21, .bin .leq none (.slot 20) (.lit (.int .i64 60)), (some (17, true))⟩,
 ⟨some 22, .pick (.slot 17) (.slot 21) (.lit (.bool false)), none⟩,
 ⟨some 2, .mov (.slot 22), none⟩] [2] true)
 .ret))
def ifn32 : IFn := ⟨23, [.inl 2], ic32⟩
/-- slices.ContainsFunc[[]vendue/api.Entry,vendue/api.Entry] -/
def ic33 : IC :=
 (.seq
 (.reg [
 ⟨some 4, .mov (.lit (.bool false)), none⟩] [0, 1] false)
 (.seq
 (.reg [
 ⟨some 5, .mov (.slot 0), none⟩,
 ⟨some 6, .mov (.slot 1), none⟩,
 ⟨some 7, .call (.lit (.func (.func 44) [] [])) [(.slot 5), (.slot 6)], none⟩,
 ⟨some 8, .bin .geq none (.slot 7) (.lit (.int .i64 0)), none⟩,
 ⟨some 4, .mov (.slot 8), none⟩] [4] false)
 .ret))
def ifn33 : IFn := ⟨9, [.inl 4], ic33⟩
/-- slices.Clone[[]vendue/api.Entry,vendue/api.Entry] -/
def ic34 : IC :=
 (.seq
 (.reg [
 ⟨some 2, .mov (.lit (.slice true 0 [] .full)), none⟩] [0] false)
 (.seq
 (.seq
 (.reg [
 ⟨some 3, .mov (.slot 0), none⟩,
 ⟨some 4, .bin .eql (some .slice) (.slot 3) (.lit (.slice true 0 [] .full)), none⟩] [0, 4] false)
 (.cond (.slot 4)
 (.seq
 (.reg [
 ⟨some 2, .mov (.lit (.slice true 0 [] .full)), none⟩] [2] false)
 .ret)
 .skip))
 (.seq
 (.reg [
 ⟨some 5, .bslice 3 (.agg [(.int .u64 0), (.int .u64 0), (.str ⟨#[]⟩)]) 0 [], none⟩,
 ⟨some 6, .mov (.slot 0), none⟩,
 ⟨some 7, .append 3 32 (.slot 5) (.slot 6), none⟩,
 ⟨some 2, .mov (.slot 7), none⟩] [2] false)
 .ret)))
def ifn34 : IFn := ⟨8, [.inl 2], ic34⟩
/-- vendue/rlog.behind -/
def ic35 : IC :=
 (.seq
 (.reg [
 ⟨some 2, .box (.slot 0), none⟩,
 ⟨some 4, .mov (.lit (.slice true 0 [] .full)), none⟩] [1, 2] false)
 (.seq
 (.reg [
 ⟨some 5, .faddr 2 (.slot 2), none⟩,
 ⟨some 6, .load 1 false (.slot 5), none⟩,
 ⟨some 7, .mov (.slot 1), none⟩,
 ⟨some 8, .faddr 0 (.slot 2), none⟩,
 ⟨some 9, .load 1 false (.slot 8), none⟩,
 ⟨some 10, .minmax true [(.slot 7), (.slot 9)], none⟩,
 ⟨some 11, .faddr 0 (.slot 2), none⟩,
 ⟨some 12, .load 1 false (.slot 11), none⟩,
 ⟨some 13, .bin .sub none (.slot 10) (.slot 12), none⟩,
 ⟨some 14, .faddr 2 (.slot 2), none⟩,
 ⟨some 15, .load 1 false (.slot 14), none⟩,
 ⟨some 16, .len (.slice 3) (.slot 15), none⟩,
 ⟨some 17, .conv (.int .u64) (.slot 16), none⟩,
 ⟨some 18, .minmax false [(.slot 13), (.slot 17)], none⟩,
 ⟨some 19, .sl (.slice 3) (.slot 6) (some (.slot 18)) none none, none⟩,
 ⟨some 4, .mov (.slot 19), none⟩] [4] true)
 .ret))
def ifn35 : IFn := ⟨20, [.inl 4], ic35⟩
/-- slices.Equal[[]vendue/api.Entry,vendue/api.Entry] -/
def ic36l0 : IC :=
 (.seq
 (.reg [
 ⟨some 14, .bin .lss none (.slot 13) (.slot 12), none⟩] [0, 1, 12, 13, 14] false)
 (.seq
 (.cond (.slot 14)
 .skip
 (.exit 0))
 (.seq
 (.block 1
 (.seq
 (.reg [
 ⟨some 15, .mov (.slot 13), none⟩,
 ⟨some 5, .mov (.slot 15), none⟩] [0, 1, 5, 12, 13] false)
 (.seq
 (.regd [] [
 (⟨some 16, .mov (.slot 0), none⟩, none),
 (⟨some 17, .mov (.slot 5), none⟩, none),
 (⟨some 18, .iaddr (.slice 3) (.slot 16) (.slot 17), none⟩, none),
 (⟨some 19, .load 3 true (.slot 18), none⟩, none),
 (⟨some 20, .mov (.slot 1), none⟩, none),
 (⟨some 21, .mov (.slot 5), none⟩, none),
 (⟨some 22, .iaddr (.slice 3) (.slot 20) (.slot 21), none⟩, none),
 (⟨some 23, .load 3 true (.slot 22), none⟩, none),
 (⟨some 24, .bin .neq (some (.struct [(0, 1, false, .int), (1, 1, false, .int), (2, 1, false, .str)])) (.slot 19) (.slot 23), none⟩, none)] [] [0, 1, 12, 13, 24] false)
 (.cond (.slot 24)
 (.seq
 (.reg [
 ⟨some 4, .mov (.lit (.bool false)), none⟩] [4] false)
 .ret)
 .skip))))
 (.reg [
 ⟨some 25, .bin .add none (.slot 13) (.lit (.int .i64 1)), none⟩,
 ⟨some 13, .mov (.slot 25), none⟩] [0, 1, 12, 13] false))))
def ic36 : IC :=
 (.seq
 (.reg [
 ⟨some 4, .mov (.lit (.bool false)), none⟩] [0, 1] false)
 (.seq
 (.seq
 (.reg [
 ⟨some 6, .mov (.slot 0), none⟩,
 ⟨some 7, .len (.slice 3) (.slot 6), none⟩,
 ⟨some 8, .mov (.slot 1), none⟩,
 ⟨some 9, .len (.slice 3) (.slot 8), none⟩,
 ⟨some 10, .bin .neq (some .int) (.slot 7) (.slot 9), none⟩] [0, 1, 10] false)
 (.cond (.slot 10)
 (.seq
 (.reg [
 ⟨some 4, .mov (.lit (.bool false)), none⟩] [4] false)
 .ret)
 .skip))
 (.seq
 (.seq
 (.reg [
 ⟨some 11, .mov (.slot 0), none⟩,
 ⟨some 12, .len (.slice 3) (.slot 11), none⟩,
 ⟨some 13, .mov (.lit (.int .i64 0)), none⟩] [0, 1, 12, 13] false)
 (.block 0
 (.loop ic36l0)))
 (.seq
 (.reg [
 ⟨some 4, .mov (.lit (.bool true)), none⟩] [4] false)
 .ret))))
def ifn36 : IFn := ⟨26, [.inl 4], ic36⟩
/-- vendue/vendueref06.Check -/
def ic37 : IC :=
 (.seq
 (.reg [
 ⟨some 1, .box (.slot 0), none⟩,
 ⟨some 2, .mov (.lit (.bool false)), none⟩] [1] false)
 (.seq
 (.reg [
 ⟨some 3, .faddr 0 (.slot 1), none⟩,
 ⟨some 4, .load 1 false (.slot 3), none⟩,
 ⟨some 5, .bin .geq none (.slot 4) (.lit (.int .u64 1)), none⟩,
 ⟨some 6, .mov (.slot 5), none⟩,
 ⟨some 7, .faddr 0 (.slot 1), (some (6, true))⟩,
 ⟨some 8, .load 1 false (.slot 7), (some (6, true))⟩,
 ⟨some 9, .bin .leq none (.slot 8) (.lit (.int .u64 1099511627776)), (some (6, true))⟩,
 ⟨some 10, .pick (.slot 6) (.slot 9) (.lit (.bool false)), none⟩,
 ⟨some 11, .mov (.slot 10), none⟩,
 ⟨some 12, .faddr 1 (.slot 1), (some (11, true))⟩,
 ⟨some 13, .load 1 false (.slot 12), (some (11, true))⟩,
 ⟨some 14, .bin .geq none (.slot 13) (.lit (.int .u64 1)), (some (11, true))⟩,
 ⟨some 15, .pick (.slot 11) (.slot 14) (.lit (.bool false)), none⟩,
 ⟨some 16, .mov (.slot 15), none⟩,
 ⟨some 17, .faddr 1 (.slot 1), (some (16, true))⟩,
 ⟨some 18, .load 1 false (.slot 17), (some (16, true))⟩,
 ⟨some 19, .bin .leq none (.slot 18) (.lit (.int .u64 1099511627776)), (some (16, true))⟩,
 ⟨some 20, .pick (.slot 16) (.slot 19) (.lit (.bool false)), none⟩,
 ⟨some 21, .mov (.slot 20), none⟩,
 ⟨some 22, .faddr 2 (.slot 1), (some (21, true))⟩,
 ⟨some 23, .load 1 false (.slot 22), (some (21, true))⟩,
 ⟨some 24, .len .str (.slot 23), (some (21, true))⟩,
 ⟨some 25, .bin .leq none (.slot 24) (.lit (.int .i64 60)), (some (21, true))⟩,
 ⟨some 26, .pick (.slot 21) (.slot 25) (.lit (.bool false)), none⟩,
 ⟨some 2, .mov (.slot 26), none⟩] [2] true)
 .ret))
def ifn37 : IFn := ⟨27, [.inl 2], ic37⟩
/-- vendue/vendueref07.Last -/
def ic38 : IC :=
 (.seq
 (.reg [
 ⟨some 1, .box (.slot 0), none⟩,
 ⟨some 2, .alloc [(.int .u64 0), (.int .u64 0)], none⟩] [1, 2] false)
 (.seq
 (.seq
 (.reg [
 ⟨some 4, .faddr 2 (.slot 1), none⟩,
 ⟨some 5, .load 1 false (.slot 4), none⟩,
 ⟨some 6, .len (.slice 3) (.slot 5), none⟩,
 ⟨some 7, .bin .eql (some .int) (.slot 6) (.lit (.int .i64 0)), none⟩] [1, 2, 7] false)
 (.cond (.slot 7)
 (.seq
 (.reg [
 ⟨some 8, .faddr 0 (.slot 1), none⟩,
 ⟨some 9, .load 1 false (.slot 8), none⟩,
 ⟨some 10, .faddr 1 (.slot 1), none⟩,
 ⟨some 11, .load 1 false (.slot 10), none⟩,
 ⟨some 12, .build [(.int .u64 0), (.int .u64 0)] [(0, 1, (.slot 9)), (1, 1, (.slot 11))], none⟩,
 ⟨none, .store 2 (.slot 2) (.slot 12), none⟩] [2] true)
 .ret)
 .skip))
 (.seq
 (.reg [
 ⟨some 13, .faddr 2 (.slot 1), none⟩,
 ⟨some 14, .load 1 false (.slot 13), none⟩,
 ⟨some 15, .faddr 2 (.slot 1), none⟩,
 ⟨some 16, .load 1 false (.slot 15), none⟩,
 ⟨some 17, .len (.slice 3) (.slot 16), none⟩,
 ⟨some 18, .bin .sub none (.slot 17) (.lit (.int .i64 1)), none⟩,
 ⟨some 19, .iaddr (.slice 3) (.slot 14) (.slot 18), none⟩,
 ⟨some 20, .load 3 true (.slot 19), none⟩,
 ⟨some 3, .alloc [(.int .u64 0), (.int .u64 0), (.str ⟨#[]⟩)], none⟩,
 ⟨none, .store 3 (.slot 3) (.slot 20), none⟩] [2, 3] true)
 (.seq
 (.reg [
 ⟨some 21, .faddr 0 (.slot 3), none⟩,
 ⟨some 22, .load 1 false (.slot 21), none⟩,
 ⟨some 23, .faddr 1 (.slot 3), none⟩,
 ⟨some 24, .load 1 false (.slot 23), none⟩,
 ⟨some 25, .build [(.int .u64 0), (.int .u64 0)] [(0, 1, (.slot 22)), (1, 1, (.slot 24))], none⟩,
 ⟨none, .store 2 (.slot 2) (.slot 25), none⟩] [2] true)
 .ret))))
def ifn38 : IFn := ⟨26, [.inr (2, 2, true)], ic38⟩
/-- vendue/vendueref07.From -/
def ic39l0 : IC :=
 (.seq
 (.seq
 (.reg [
 ⟨some 9, .mov (.slot 8), none⟩,
 ⟨some 10, .faddr 2 (.slot 3), none⟩,
 ⟨some 11, .load 1 false (.slot 10), none⟩,
 ⟨some 12, .len (.slice 3) (.slot 11), none⟩,
 ⟨some 13, .bin .lss none (.slot 9) (.slot 12), none⟩] [1, 2, 3, 7, 8, 13] false)
 (.cond (.slot 13)
 .skip
 (.exit 0)))
 (.seq
 (.block 1
 (.seq
 (.reg [
 ⟨some 16, .faddr 2 (.slot 3), none⟩,
 ⟨some 17, .load 1 false (.slot 16), none⟩,
 ⟨some 18, .mov (.slot 8), none⟩,
 ⟨some 19, .iaddr (.slice 3) (.slot 17) (.slot 18), none⟩,
 ⟨some 20, .faddr 0 (.slot 19), none⟩,
 ⟨some 21, .load 1 false (.slot 20), none⟩,
 ⟨some 22, .mov (.slot 1), none⟩,
 ⟨some 23, .bin .geq none (.slot 21) (.slot 22), none⟩,
 ⟨some 24, .mov (.slot 23), none⟩,
 ⟨some 25, .mov (.slot 7), (some (24, true))⟩,
 ⟨some 26, .len (.slice 3) (.slot 25), (some (24, true))⟩,
 ⟨some 27, .mov (.slot 2), (some (24, true))⟩,
 ⟨some 28, .bin .lss none (.slot 26) (.slot 27), (some (24, true))⟩,
 ⟨some 29, .pick (.slot 24) (.slot 28) (.lit (.bool false)), none⟩] [1, 2, 3, 7, 8, 29] false)
 (.cond (.slot 29)
 (.reg [
 ⟨some 30, .mov (.slot 7), none⟩,
 ⟨some 31, .faddr 2 (.slot 3), none⟩,
 ⟨some 32, .load 1 false (.slot 31), none⟩,
 ⟨some 33, .mov (.slot 8), none⟩,
 ⟨some 34, .iaddr (.slice 3) (.slot 32) (.slot 33), none⟩,
 ⟨some 35, .load 3 true (.slot 34), none⟩,
 ⟨some 36, .bslice 3 (.agg [(.int .u64 0), (.int .u64 0), (.str ⟨#[]⟩)]) 1 [(0, (.slot 35))], none⟩,
 ⟨some 37, .append 3 32 (.slot 30) (.slot 36), none⟩,
 ⟨some 7, .mov (.slot 37), none⟩] [1, 2, 3, 7, 8] false)
 .skip)))
 (.reg [
 ⟨some 14, .mov (.slot 8), none⟩,
 ⟨some 15, .bin .add none (.slot 14) (.lit (.int .i64 1)), none⟩,
 ⟨some 8, .mov (.slot 15), none⟩] [1, 2, 3, 7, 8] false)))
def ic39 : IC :=
 (.seq
 (.reg [
 ⟨some 3, .box (.slot 0), none⟩,
 ⟨some 6, .mov (.lit (.slice true 0 [] .full)), none⟩] [1, 2, 3] false)
 (.seq
 (.reg [
 ⟨some 7, .mov (.lit (.slice true 0 [] .full)), none⟩] [1, 2, 3, 7] false)
 (.seq
 (.seq
 (.reg [
 ⟨some 8, .mov (.lit (.int .i64 0)), none⟩] [1, 2, 3, 7, 8] false)
 (.block 0
 (.loop ic39l0)))
 (.seq
 (.reg [
 ⟨some 38, .mov (.slot 7), none⟩,
 ⟨some 6, .mov (.slot 38), none⟩] [6] false)
 .ret))))
def ifn39 : IFn := ⟨39, [.inl 6], ic39⟩
/-- vendue/vendueref07.Add -/
def ic40 : IC :=
 (.seq
 (.reg [
 ⟨some 3, .box (.slot 0), none⟩,
 ⟨some 6, .alloc [(.int .u64 0), (.int .u64 0), (.slice true 0 [] .full)], none⟩] [1, 2, 3, 6] false)
 (.seq
 (.reg [
 ⟨some 10, .load 3 true (.slot 3), none⟩,
 ⟨some 11, .call (.lit (.func (.func 38) [] [])) [(.slot 10)], none⟩,
 ⟨some 7, .alloc [(.int .u64 0), (.int .u64 0)], none⟩,
 ⟨none, .store 2 (.slot 7) (.slot 11), none⟩] [1, 2, 3, 6, 7] false)
 (.seq
 (.regd [[(.int .u64 0), (.int .u64 0), (.slice true 0 [] .full)]] [
 (⟨some 12, .faddr 0 (.slot 3), none⟩, none),
 (⟨some 13, .load 1 false (.slot 12), none⟩, none),
 (⟨some 14, .faddr 1 (.slot 3), none⟩, none),
 (⟨some 15, .load 1 false (.slot 14), none⟩, none),
 (⟨some 16, .bslice 3 (.agg [(.int .u64 0), (.int .u64 0), (.str ⟨#[]⟩)]) 0 [], none⟩, none),
 (⟨some 17, .faddr 2 (.slot 3), none⟩, none),
 (⟨some 18, .load 1 false (.slot 17), none⟩, none),
 (⟨some 19, .append 3 32 (.slot 16) (.slot 18), none⟩, none),
 (⟨some 20, .faddr 0 (.slot 7), none⟩, none),
 (⟨some 21, .load 1 false (.slot 20), none⟩, none),
 (⟨some 22, .bin .add none (.slot 21) (.lit (.int .u64 1)), none⟩, none),
 (⟨some 23, .mov (.slot 1), none⟩, none),
 (⟨some 24, .mov (.slot 2), none⟩, none),
 (⟨some 25, .build [(.int .u64 0), (.int .u64 0), (.str ⟨#[]⟩)] [(0, 1, (.slot 22)), (1, 1, (.slot 23)), (2, 1, (.slot 24))], none⟩, none),
 (⟨some 26, .bslice 3 (.agg [(.int .u64 0), (.int .u64 0), (.str ⟨#[]⟩)]) 1 [(0, (.slot 25))], none⟩, none),
 (⟨some 27, .append 3 32 (.slot 19) (.slot 26), none⟩, none),
 (⟨some 28, .build [(.int .u64 0), (.int .u64 0), (.slice true 0 [] .full)] [(0, 1, (.slot 13)), (1, 1, (.slot 15)), (2, 1, (.slot 27))], none⟩, none),
 (⟨some 8, .alloc [(.int .u64 0), (.int .u64 0), (.slice true 0 [] .full)], none⟩, some 0),
 (⟨none, .store 3 (.slot 8) (.slot 28), none⟩, none)] [(1, 7), (1, 15), (3, 7), (3, 15), (9, 7)] [3, 6, 8] true)
 (.seq
 (.reg [
 ⟨some 29, .load 3 true (.slot 8), none⟩,
 ⟨some 30, .call (.lit (.func (.func 26) [] [])) [(.slot 29)], none⟩,
 ⟨some 9, .mov (.slot 30), none⟩] [3, 6, 8, 9] false)
 (.seq
 (.seq
 (.reg [
 ⟨some 31, .mov (.slot 9), none⟩,
 ⟨some 32, .un .not (.slot 31), none⟩] [3, 6, 8, 32] false)
 (.cond (.slot 32)
 (.seq
 (.reg [
 ⟨some 33, .load 3 true (.slot 3), none⟩,
 ⟨none, .store 3 (.slot 6) (.slot 33), none⟩] [6] true)
 .ret)
 .skip))
 (.seq
 (.reg [
 ⟨some 34, .load 3 true (.slot 8), none⟩,
 ⟨none, .store 3 (.slot 6) (.slot 34), none⟩] [6] true)
 .ret))))))
def ifn40 : IFn := ⟨35, [.inr (6, 3, true)], ic40⟩
/-- vendue/vendueref07.Cut -/
def ic41l0 : IC :=
 (.seq
 (.seq
 (.reg [
 ⟨some 22, .mov (.slot 9), none⟩,
 ⟨some 23, .faddr 2 (.slot 2), none⟩,
 ⟨some 24, .load 1 false (.slot 23), none⟩,
 ⟨some 25, .len (.slice 3) (.slot 24), none⟩,
 ⟨some 26, .bin .lss none (.slot 22) (.slot 25), none⟩] [1, 2, 4, 8, 9, 26] false)
 (.cond (.slot 26)
 .skip
 (.exit 0)))
 (.seq
 (.block 1
 (.seq
 (.reg [
 ⟨some 29, .faddr 2 (.slot 2), none⟩,
 ⟨some 30, .load 1 false (.slot 29), none⟩,
 ⟨some 31, .mov (.slot 9), none⟩,
 ⟨some 32, .iaddr (.slice 3) (.slot 30) (.slot 31), none⟩,
 ⟨some 33, .faddr 0 (.slot 32), none⟩,
 ⟨some 34, .load 1 false (.slot 33), none⟩,
 ⟨some 35, .mov (.slot 1), none⟩,
 ⟨some 36, .bin .gtr none (.slot 34) (.slot 35), none⟩] [1, 2, 4, 8, 9, 36] false)
 (.cond (.slot 36)
 (.regd [] [
 (⟨some 37, .faddr 2 (.slot 8), none⟩, none),
 (⟨some 38, .load 1 false (.slot 37), none⟩, none),
 (⟨some 39, .faddr 2 (.slot 2), none⟩, none),
 (⟨some 40, .load 1 false (.slot 39), none⟩, none),
 (⟨some 41, .mov (.slot 9), none⟩, none),
 (⟨some 42, .iaddr (.slice 3) (.slot 40) (.slot 41), none⟩, none),
 (⟨some 43, .load 3 true (.slot 42), none⟩, none),
 (⟨some 44, .bslice 3 (.agg [(.int .u64 0), (.int .u64 0), (.str ⟨#[]⟩)]) 1 [(0, (.slot 43))], none⟩, none),
 (⟨some 45, .append 3 32 (.slot 38) (.slot 44), none⟩, none),
 (⟨some 46, .faddr 2 (.slot 8), none⟩, none),
 (⟨none, .store 1 (.slot 46) (.slot 45), none⟩, none)] [] [1, 2, 4, 8, 9] false)
 .skip)))
 (.reg [
 ⟨some 27, .mov (.slot 9), none⟩,
 ⟨some 28, .bin .add none (.slot 27) (.lit (.int .i64 1)), none⟩,
 ⟨some 9, .mov (.slot 28), none⟩] [1, 2, 4, 8, 9] false)))
def ic41 : IC :=
 (.seq
 (.reg [
 ⟨some 2, .box (.slot 0), none⟩,
 ⟨some 4, .alloc [(.int .u64 0), (.int .u64 0), (.slice true 0 [] .full)], none⟩,
 ⟨some 5, .mov (.lit (.bool false)), none⟩] [1, 2, 4] false)
 (.seq
 (.reg [
 ⟨some 11, .load 3 true (.slot 2), none⟩,
 ⟨some 12, .mov (.slot 1), none⟩,
 ⟨some 13, .call (.lit (.func (.func 14) [] [])) [(.slot 11), (.slot 12)], none⟩,
 ⟨some 10, .mov (.slot 13), none⟩,
 ⟨some 14, .extract (.slot 10) 0, none⟩,
 ⟨some 15, .extract (.slot 10) 1, none⟩,
 ⟨some 6, .mov (.slot 14), none⟩,
 ⟨some 7, .mov (.slot 15), none⟩] [1, 2, 4, 6, 7] false)
 (.seq
 (.seq
 (.reg [
 ⟨some 16, .mov (.slot 7), none⟩,
 ⟨some 17, .un .not (.slot 16), none⟩] [1, 2, 4, 6, 17] false)
 (.cond (.slot 17)
 (.seq
 (.reg [
 ⟨some 18, .load 3 true (.slot 2), none⟩,
 ⟨none, .store 3 (.slot 4) (.slot 18), none⟩,
 ⟨some 5, .mov (.lit (.bool false)), none⟩] [4, 5] true)
 .ret)
 .skip))
 (.seq
 (.reg [
 ⟨some 19, .mov (.slot 1), none⟩,
 ⟨some 20, .mov (.slot 6), none⟩,
 ⟨some 21, .build [(.int .u64 0), (.int .u64 0), (.slice true 0 [] .full)] [(0, 1, (.slot 19)), (1, 1, (.slot 20))], none⟩,
 ⟨some 8, .alloc [(.int .u64 0), (.int .u64 0), (.slice true 0 [] .full)], none⟩,
 ⟨none, .store 3 (.slot 8) (.slot 21), none⟩] [1, 2, 4, 8] false)
 (.seq
 (.seq
 (.reg [
 ⟨some 9, .mov (.lit (.int .i64 0)), none⟩] [1, 2, 4, 8, 9] false)
 (.block 0
 (.loop ic41l0)))
 (.seq
 (.reg [
 ⟨some 47, .load 3 true (.slot 8), none⟩,
 ⟨none, .store 3 (.slot 4) (.slot 47), none⟩,
 ⟨some 5, .mov (.lit (.bool true)), none⟩] [4, 5] true)
 .ret))))))
def ifn41 : IFn := ⟨48, [.inr (4, 3, true), .inl 5], ic41⟩
/-- vendue/vendueref07.Newer -/
def ic42 : IC :=
 (.seq
 (.reg [
 ⟨some 3, .box (.slot 0), none⟩,
 ⟨some 6, .mov (.lit (.bool false)), none⟩] [1, 2, 3] false)
 (.seq
 (.reg [
 ⟨some 8, .load 3 true (.slot 3), none⟩,
 ⟨some 9, .call (.lit (.func (.func 38) [] [])) [(.slot 8)], none⟩,
 ⟨some 7, .alloc [(.int .u64 0), (.int .u64 0)], none⟩,
 ⟨none, .store 2 (.slot 7) (.slot 9), none⟩] [1, 2, 7] true)
 (.seq
 (.reg [
 ⟨some 10, .mov (.slot 2), none⟩,
 ⟨some 11, .faddr 1 (.slot 7), none⟩,
 ⟨some 12, .load 1 false (.slot 11), none⟩,
 ⟨some 13, .bin .gtr none (.slot 10) (.slot 12), none⟩,
 ⟨some 14, .mov (.slot 13), none⟩,
 ⟨some 15, .mov (.slot 2), (some (14, false))⟩,
 ⟨some 16, .faddr 1 (.slot 7), (some (14, false))⟩,
 ⟨some 17, .load 1 false (.slot 16), (some (14, false))⟩,
 ⟨some 18, .bin .eql (some .int) (.slot 15) (.slot 17), (some (14, false))⟩,
 ⟨some 19, .mov (.slot 18), (some (14, false))⟩,
 ⟨some 20, .mov (.slot 1), (some (19, true))⟩,
 ⟨some 21, .faddr 0 (.slot 7), (some (19, true))⟩,
 ⟨some 22, .load 1 false (.slot 21), (some (19, true))⟩,
 ⟨some 23, .bin .geq none (.slot 20) (.slot 22), (some (19, true))⟩,
 ⟨some 24, .pick (.slot 19) (.slot 23) (.lit (.bool false)), (some (14, false))⟩,
 ⟨some 25, .pick (.slot 14) (.lit (.bool true)) (.slot 24), none⟩,
 ⟨some 6, .mov (.slot 25), none⟩] [6] true)
 .ret)))
def ifn42 : IFn := ⟨26, [.inl 6], ic42⟩
/-- slices.IndexFunc[[]vendue/api.Entry,vendue/api.Entry] -/
def ic44l0 : IC :=
 (.seq
 (.reg [
 ⟨some 9, .bin .lss none (.slot 8) (.slot 7), none⟩] [0, 1, 7, 8, 9] false)
 (.seq
 (.cond (.slot 9)
 .skip
 (.exit 0))
 (.seq
 (.block 1
 (.seq
 (.reg [
 ⟨some 10, .mov (.slot 8), none⟩,
 ⟨some 5, .mov (.slot 10), none⟩] [0, 1, 5, 7, 8] false)
 (.seq
 (.reg [
 ⟨some 11, .mov (.slot 1), none⟩,
 ⟨some 12, .mov (.slot 0), none⟩,
 ⟨some 13, .mov (.slot 5), none⟩,
 ⟨some 14, .iaddr (.slice 3) (.slot 12) (.slot 13), none⟩,
 ⟨some 15, .load 3 true (.slot 14), none⟩,
 ⟨some 16, .call (.slot 11) [(.slot 15)], none⟩] [0, 1, 5, 7, 8, 16] false)
 (.cond (.slot 16)
 (.seq
 (.reg [
 ⟨some 17, .mov (.slot 5), none⟩,
 ⟨some 4, .mov (.slot 17), none⟩] [4] false)
 .ret)
 .skip))))
 (.reg [
 ⟨some 18, .bin .add none (.slot 8) (.lit (.int .i64 1)), none⟩,
 ⟨some 8, .mov (.slot 18), none⟩] [0, 1, 7, 8] false))))
def ic44 : IC :=
 (.seq
 (.reg [
 ⟨some 4, .mov (.lit (.int .i64 0)), none⟩] [0, 1] false)
 (.seq
 (.seq
 (.reg [
 ⟨some 6, .mov (.slot 0), none⟩,
 ⟨some 7, .len (.slice 3) (.slot 6), none⟩,
 ⟨some 8, .mov (.lit (.int .i64 0)), none⟩] [0, 1, 7, 8] false)
 (.block 0
 (.loop ic44l0)))
 (.seq
 (.reg [
 ⟨some 4, .mov (.lit (.int .i64 (-1))), none⟩] [4] false)
 .ret)))
def ifn44 : IFn := ⟨19, [.inl 4], ic44⟩
def fnOf : Nat → Option IFn
  | 3 => some ifn3
  | 4 => some ifn4
  | 5 => some ifn5
  | 6 => some ifn6
  | 7 => some ifn7
  | 8 => some ifn8
  | 9 => some ifn9
  | 10 => some ifn10
  | 11 => some ifn11
  | 12 => some ifn12
  | 13 => some ifn13
  | 14 => some ifn14
  | 15 => some ifn15
  | 16 => some ifn16
  | 17 => some ifn17
  | 18 => some ifn18
  | 19 => some ifn19
  | 20 => some ifn20
  | 21 => some ifn21
  | 22 => some ifn22
  | 23 => some ifn23
  | 24 => some ifn24
  | 25 => some ifn25
  | 26 => some ifn26
  | 27 => some ifn27
  | 28 => some ifn28
  | 29 => some ifn29
  | 30 => some ifn30
  | 31 => some ifn31
  | 32 => some ifn32
  | 33 => some ifn33
  | 34 => some ifn34
  | 35 => some ifn35
  | 36 => some ifn36
  | 37 => some ifn37
  | 38 => some ifn38
  | 39 => some ifn39
  | 40 => some ifn40
  | 41 => some ifn41
  | 42 => some ifn42
  | 44 => some ifn44
  | _ => none
def modeTab : Nat → CMode
  | 31 => .heap
  | 33 => .heap
  | 34 => .keep
  | 43 => .heap
  | 44 => .heap
  | 57 => .heap
  | _ => .pure
def primOf : Nat → Option (List AV → AH → Option (AV × AH))
  | 43 => some (growP 3 32)
  | _ => none
def cfg : Cfg := ⟨fnOf, modeTab, primOf⟩
theorem pr_43 : cfg.prim 43 = some (growP 3 32) := rfl
theorem cf_3 (args : List AV) (h : AH) (hn : args.length ≤ 47) : call cfg 3 args h = leaveK [.inl 6] (run cfg h.blocks.length ic3 ⟨ofList (argList args 0), h⟩) := call_fn (C := cfg) (show cfg.fn 3 = some ifn3 from rfl) rfl args h hn
theorem cf_4 (args : List AV) (h : AH) (hn : args.length ≤ 185) : call cfg 4 args h = leaveK [.inl 4] (run cfg h.blocks.length ic4 ⟨ofList (argList args 0), h⟩) := call_fn (C := cfg) (show cfg.fn 4 = some ifn4 from rfl) rfl args h hn
theorem cf_5 (args : List AV) (h : AH) (hn : args.length ≤ 77) : call cfg 5 args h = leaveK [.inl 6] (run cfg h.blocks.length ic5 ⟨ofList (argList args 0), h⟩) := call_fn (C := cfg) (show cfg.fn 5 = some ifn5 from rfl) rfl args h hn
theorem cf_6 (args : List AV) (h : AH) (hn : args.length ≤ 163) : call cfg 6 args h = leaveK [.inl 6] (run cfg h.blocks.length ic6 ⟨ofList (argList args 0), h⟩) := call_fn (C := cfg) (show cfg.fn 6 = some ifn6 from rfl) rfl args h hn
theorem cf_7 (args : List AV) (h : AH) (hn : args.length ≤ 113) : call cfg 7 args h = leaveK [.inl 6] (run cfg h.blocks.length ic7 ⟨ofList (argList args 0), h⟩) := call_fn (C := cfg) (show cfg.fn 7 = some ifn7 from rfl) rfl args h hn
theorem cf_8 (args : List AV) (h : AH) (hn : args.length ≤ 57) : call cfg 8 args h = leaveK [.inl 6] (run cfg h.blocks.length ic8 ⟨ofList (argList args 0), h⟩) := call_fn (C := cfg) (show cfg.fn 8 = some ifn8 from rfl) rfl args h hn
theorem cf_9 (args : List AV) (h : AH) (hn : args.length ≤ 32) : call cfg 9 args h = leaveK [.inl 0] (run cfg h.blocks.length ic9 ⟨ofList (argList args 0), h⟩) := call_fn (C := cfg) (show cfg.fn 9 = some ifn9 from rfl) rfl args h hn
theorem cf_10 (args : List AV) (h : AH) (hn : args.length ≤ 13) : call cfg 10 args h = leaveK [.inr (2, 4, true)] (run cfg h.blocks.length ic10 ⟨ofList (argList args 0), h⟩) := call_fn (C := cfg) (show cfg.fn 10 = some ifn10 from rfl) rfl args h hn
theorem cf_11 (args : List AV) (h : AH) (hn : args.length ≤ 47) : call cfg 11 args h = leaveK [.inl 6] (run cfg h.blocks.length ic11 ⟨ofList (argList args 0), h⟩) := call_fn (C := cfg) (show cfg.fn 11 = some ifn11 from rfl) rfl args h hn
theorem cf_12 (args : List AV) (h : AH) (hn : args.length ≤ 59) : call cfg 12 args h = leaveK [.inr (4, 3, true)] (run cfg h.blocks.length ic12 ⟨ofList (argList args 0), h⟩) := call_fn (C := cfg) (show cfg.fn 12 = some ifn12 from rfl) rfl args h hn
theorem cf_13 (args : List AV) (h : AH) (hn : args.length ≤ 52) : call cfg 13 args h = leaveK [.inl 2] (run cfg h.blocks.length ic13 ⟨ofList (argList args 0), h⟩) := call_fn (C := cfg) (show cfg.fn 13 = some ifn13 from rfl) rfl args h hn
theorem cf_14 (args : List AV) (h : AH) (hn : args.length ≤ 34) : call cfg 14 args h = leaveK [.inl 4, .inl 5] (run cfg h.blocks.length ic14 ⟨ofList (argList args 0), h⟩) := call_fn (C := cfg) (show cfg.fn 14 = some ifn14 from rfl) rfl args h hn
theorem cf_15 (args : List AV) (h : AH) (hn : args.length ≤ 111) : call cfg 15 args h = leaveK [.inr (8, 3, true), .inl 9, .inl 10] (run cfg h.blocks.length ic15 ⟨ofList (argList args 0), h⟩) := call_fn (C := cfg) (show cfg.fn 15 = some ifn15 from rfl) rfl args h hn
theorem cf_16 (args : List AV) (h : AH) (hn : args.length ≤ 24) : call cfg 16 args h = leaveK [.inl 2] (run cfg h.blocks.length ic16 ⟨ofList (argList args 0), h⟩) := call_fn (C := cfg) (show cfg.fn 16 = some ifn16 from rfl) rfl args h hn
theorem cf_17 (args : List AV) (h : AH) (hn : args.length ≤ 26) : call cfg 17 args h = leaveK [.inl 4] (run cfg h.blocks.length ic17 ⟨ofList (argList args 0), h⟩) := call_fn (C := cfg) (show cfg.fn 17 = some ifn17 from rfl) rfl args h hn
theorem cf_18 (args : List AV) (h : AH) (hn : args.length ≤ 26) : call cfg 18 args h = leaveK [.inl 2, .inl 3] (run cfg h.blocks.length ic18 ⟨ofList (argList args 0), h⟩) := call_fn (C := cfg) (show cfg.fn 18 = some ifn18 from rfl) rfl args h hn
theorem cf_19 (args : List AV) (h : AH) (hn : args.length ≤ 27) : call cfg 19 args h = leaveK [.inl 6] (run cfg h.blocks.length ic19 ⟨ofList (argList args 0), h⟩) := call_fn (C := cfg) (show cfg.fn 19 = some ifn19 from rfl) rfl args h hn
theorem cf_20 (args : List AV) (h : AH) (hn : args.length ≤ 24) : call cfg 20 args h = leaveK [.inr (4, 3, true), .inl 5] (run cfg h.blocks.length ic20 ⟨ofList (argList args 0), h⟩) := call_fn (C := cfg) (show cfg.fn 20 = some ifn20 from rfl) rfl args h hn
theorem cf_21 (args : List AV) (h : AH) (hn : args.length ≤ 40) : call cfg 21 args h = leaveK [.inl 4, .inl 5] (run cfg h.blocks.length ic21 ⟨ofList (argList args 0), h⟩) := call_fn (C := cfg) (show cfg.fn 21 = some ifn21 from rfl) rfl args h hn
theorem cf_22 (args : List AV) (h : AH) (hn : args.length ≤ 32) : call cfg 22 args h = leaveK [.inr (6, 3, true)] (run cfg h.blocks.length ic22 ⟨ofList (argList args 0), h⟩) := call_fn (C := cfg) (show cfg.fn 22 = some ifn22 from rfl) rfl args h hn
theorem cf_23 (args : List AV) (h : AH) (hn : args.length ≤ 24) : call cfg 23 args h = leaveK [.inl 4] (run cfg h.blocks.length ic23 ⟨ofList (argList args 0), h⟩) := call_fn (C := cfg) (show cfg.fn 23 = some ifn23 from rfl) rfl args h hn
theorem cf_24 (args : List AV) (h : AH) (hn : args.length ≤ 26) : call cfg 24 args h = leaveK [.inl 4] (run cfg h.blocks.length ic24 ⟨ofList (argList args 0), h⟩) := call_fn (C := cfg) (show cfg.fn 24 = some ifn24 from rfl) rfl args h hn
theorem cf_25 (args : List AV) (h : AH) (hn : args.length ≤ 23) : call cfg 25 args h = leaveK [.inl 6] (run cfg h.blocks.length ic25 ⟨ofList (argList args 0), h⟩) := call_fn (C := cfg) (show cfg.fn 25 = some ifn25 from rfl) rfl args h hn
theorem cf_26 (args : List AV) (h : AH) (hn : args.length ≤ 52) : call cfg 26 args h = leaveK [.inl 2] (run cfg h.blocks.length ic26 ⟨ofList (argList args 0), h⟩) := call_fn (C := cfg) (show cfg.fn 26 = some ifn26 from rfl) rfl args h hn
theorem cf_27 (args : List AV) (h : AH) (hn : args.length ≤ 132) : call cfg 27 args h = leaveK [.inl 4] (run cfg h.blocks.length ic27 ⟨ofList (argList args 0), h⟩) := call_fn (C := cfg) (show cfg.fn 27 = some ifn27 from rfl) rfl args h hn
theorem cf_28 (args : List AV) (h : AH) (hn : args.length ≤ 158) : call cfg 28 args h = leaveK [.inr (8, 5, true)] (run cfg h.blocks.length ic28 ⟨ofList (argList args 0), h⟩) := call_fn (C := cfg) (show cfg.fn 28 = some ifn28 from rfl) rfl args h hn
theorem cf_29 (args : List AV) (h : AH) (hn : args.length ≤ 29) : call cfg 29 args h = leaveK [.inl 6] (run cfg h.blocks.length ic29 ⟨ofList (argList args 0), h⟩) := call_fn (C := cfg) (show cfg.fn 29 = some ifn29 from rfl) rfl args h hn
theorem cf_30 (args : List AV) (h : AH) (hn : args.length ≤ 36) : call cfg 30 args h = leaveK [.inl 2] (run cfg h.blocks.length ic30 ⟨ofList (argList args 0), h⟩) := call_fn (C := cfg) (show cfg.fn 30 = some ifn30 from rfl) rfl args h hn
theorem cf_31 (args : List AV) (h : AH) (hn : args.length ≤ 26) : call cfg 31 args h = leaveK [.inl 4] (run cfg h.blocks.length ic31 ⟨ofList (argList args 0), h⟩) := call_fn (C := cfg) (show cfg.fn 31 = some ifn31 from rfl) rfl args h hn
theorem cf_32 (args : List AV) (h : AH) (hn : args.length ≤ 23) : call cfg 32 args h = leaveK [.inl 2] (run cfg h.blocks.length ic32 ⟨ofList (argList args 0), h⟩) := call_fn (C := cfg) (show cfg.fn 32 = some ifn32 from rfl) rfl args h hn
theorem cf_33 (args : List AV) (h : AH) (hn : args.length ≤ 9) : call cfg 33 args h = leaveK [.inl 4] (run cfg h.blocks.length ic33 ⟨ofList (argList args 0), h⟩) := call_fn (C := cfg) (show cfg.fn 33 = some ifn33 from rfl) rfl args h hn
theorem cf_34 (args : List AV) (h : AH) (hn : args.length ≤ 8) : call cfg 34 args h = leaveK [.inl 2] (run cfg h.blocks.length ic34 ⟨ofList (argList args 0), h⟩) := call_fn (C := cfg) (show cfg.fn 34 = some ifn34 from rfl) rfl args h hn
theorem cf_35 (args : List AV) (h : AH) (hn : args.length ≤ 20) : call cfg 35 args h = leaveK [.inl 4] (run cfg h.blocks.length ic35 ⟨ofList (argList args 0), h⟩) := call_fn (C := cfg) (show cfg.fn 35 = some ifn35 from rfl) rfl args h hn
theorem cf_36 (args : List AV) (h : AH) (hn : args.length ≤ 26) : call cfg 36 args h = leaveK [.inl 4] (run cfg h.blocks.length ic36 ⟨ofList (argList args 0), h⟩) := call_fn (C := cfg) (show cfg.fn 36 = some ifn36 from rfl) rfl args h hn
theorem cf_37 (args : List AV) (h : AH) (hn : args.length ≤ 27) : call cfg 37 args h = leaveK [.inl 2] (run cfg h.blocks.length ic37 ⟨ofList (argList args 0), h⟩) := call_fn (C := cfg) (show cfg.fn 37 = some ifn37 from rfl) rfl args h hn
theorem cf_38 (args : List AV) (h : AH) (hn : args.length ≤ 26) : call cfg 38 args h = leaveK [.inr (2, 2, true)] (run cfg h.blocks.length ic38 ⟨ofList (argList args 0), h⟩) := call_fn (C := cfg) (show cfg.fn 38 = some ifn38 from rfl) rfl args h hn
theorem cf_39 (args : List AV) (h : AH) (hn : args.length ≤ 39) : call cfg 39 args h = leaveK [.inl 6] (run cfg h.blocks.length ic39 ⟨ofList (argList args 0), h⟩) := call_fn (C := cfg) (show cfg.fn 39 = some ifn39 from rfl) rfl args h hn
theorem cf_40 (args : List AV) (h : AH) (hn : args.length ≤ 35) : call cfg 40 args h = leaveK [.inr (6, 3, true)] (run cfg h.blocks.length ic40 ⟨ofList (argList args 0), h⟩) := call_fn (C := cfg) (show cfg.fn 40 = some ifn40 from rfl) rfl args h hn
theorem cf_41 (args : List AV) (h : AH) (hn : args.length ≤ 48) : call cfg 41 args h = leaveK [.inr (4, 3, true), .inl 5] (run cfg h.blocks.length ic41 ⟨ofList (argList args 0), h⟩) := call_fn (C := cfg) (show cfg.fn 41 = some ifn41 from rfl) rfl args h hn
theorem cf_42 (args : List AV) (h : AH) (hn : args.length ≤ 26) : call cfg 42 args h = leaveK [.inl 6] (run cfg h.blocks.length ic42 ⟨ofList (argList args 0), h⟩) := call_fn (C := cfg) (show cfg.fn 42 = some ifn42 from rfl) rfl args h hn
theorem cf_44 (args : List AV) (h : AH) (hn : args.length ≤ 19) : call cfg 44 args h = leaveK [.inl 4] (run cfg h.blocks.length ic44 ⟨ofList (argList args 0), h⟩) := call_fn (C := cfg) (show cfg.fn 44 = some ifn44 from rfl) rfl args h hn
@[go_sem] theorem mode_3 : cfg.mode 3 = .pure := rfl
@[go_sem] theorem mode_4 : cfg.mode 4 = .pure := rfl
@[go_sem] theorem mode_5 : cfg.mode 5 = .pure := rfl
@[go_sem] theorem mode_6 : cfg.mode 6 = .pure := rfl
@[go_sem] theorem mode_7 : cfg.mode 7 = .pure := rfl
@[go_sem] theorem mode_8 : cfg.mode 8 = .pure := rfl
@[go_sem] theorem mode_9 : cfg.mode 9 = .pure := rfl
@[go_sem] theorem mode_10 : cfg.mode 10 = .pure := rfl
@[go_sem] theorem mode_11 : cfg.mode 11 = .pure := rfl
@[go_sem] theorem mode_12 : cfg.mode 12 = .pure := rfl
@[go_sem] theorem mode_13 : cfg.mode 13 = .pure := rfl
@[go_sem] theorem mode_14 : cfg.mode 14 = .pure := rfl
@[go_sem] theorem mode_15 : cfg.mode 15 = .pure := rfl
@[go_sem] theorem mode_16 : cfg.mode 16 = .pure := rfl
@[go_sem] theorem mode_17 : cfg.mode 17 = .pure := rfl
@[go_sem] theorem mode_18 : cfg.mode 18 = .pure := rfl
@[go_sem] theorem mode_19 : cfg.mode 19 = .pure := rfl
@[go_sem] theorem mode_20 : cfg.mode 20 = .pure := rfl
@[go_sem] theorem mode_21 : cfg.mode 21 = .pure := rfl
@[go_sem] theorem mode_22 : cfg.mode 22 = .pure := rfl
@[go_sem] theorem mode_23 : cfg.mode 23 = .pure := rfl
@[go_sem] theorem mode_24 : cfg.mode 24 = .pure := rfl
@[go_sem] theorem mode_25 : cfg.mode 25 = .pure := rfl
@[go_sem] theorem mode_26 : cfg.mode 26 = .pure := rfl
@[go_sem] theorem mode_27 : cfg.mode 27 = .pure := rfl
@[go_sem] theorem mode_28 : cfg.mode 28 = .pure := rfl
@[go_sem] theorem mode_29 : cfg.mode 29 = .pure := rfl
@[go_sem] theorem mode_30 : cfg.mode 30 = .pure := rfl
@[go_sem] theorem mode_31 : cfg.mode 31 = .heap := rfl
@[go_sem] theorem mode_32 : cfg.mode 32 = .pure := rfl
@[go_sem] theorem mode_33 : cfg.mode 33 = .heap := rfl
@[go_sem] theorem mode_34 : cfg.mode 34 = .keep := rfl
@[go_sem] theorem mode_35 : cfg.mode 35 = .pure := rfl
@[go_sem] theorem mode_36 : cfg.mode 36 = .pure := rfl
@[go_sem] theorem mode_37 : cfg.mode 37 = .pure := rfl
@[go_sem] theorem mode_38 : cfg.mode 38 = .pure := rfl
@[go_sem] theorem mode_39 : cfg.mode 39 = .pure := rfl
@[go_sem] theorem mode_40 : cfg.mode 40 = .pure := rfl
@[go_sem] theorem mode_41 : cfg.mode 41 = .pure := rfl
@[go_sem] theorem mode_42 : cfg.mode 42 = .pure := rfl
@[go_sem] theorem mode_43 : cfg.mode 43 = .heap := rfl
@[go_sem] theorem mode_44 : cfg.mode 44 = .heap := rfl
@[go_sem] theorem mode_57 : cfg.mode 57 = .heap := rfl
@[go_sem] theorem mode_60 : cfg.mode 60 = .pure := rfl
@[go_sem] theorem ac_3 (l : List AV) (h : AH) : aCall cfg (call cfg) 3 l h = if refsAll 0 0 (stripAll (freezeAll h l).1) then pureK (freezeAll h l).2 (call cfg 3 (stripAll (freezeAll h l).1) AH.empty) else none := aCall_pure cfg 3 mode_3 l h
@[go_sem] theorem acp_3 (l : List AV) (h : AH) : aCallP cfg (call cfg) 3 l h = if refsAll 0 0 (stripAll l) then pureK h (call cfg 3 (stripAll l) AH.empty) else none := aCallP_pure mode_3 l h
@[go_sem] theorem ac_4 (l : List AV) (h : AH) : aCall cfg (call cfg) 4 l h = if refsAll 0 0 (stripAll (freezeAll h l).1) then pureK (freezeAll h l).2 (call cfg 4 (stripAll (freezeAll h l).1) AH.empty) else none := aCall_pure cfg 4 mode_4 l h
@[go_sem] theorem acp_4 (l : List AV) (h : AH) : aCallP cfg (call cfg) 4 l h = if refsAll 0 0 (stripAll l) then pureK h (call cfg 4 (stripAll l) AH.empty) else none := aCallP_pure mode_4 l h
@[go_sem] theorem ac_5 (l : List AV) (h : AH) : aCall cfg (call cfg) 5 l h = if refsAll 0 0 (stripAll (freezeAll h l).1) then pureK (freezeAll h l).2 (call cfg 5 (stripAll (freezeAll h l).1) AH.empty) else none := aCall_pure cfg 5 mode_5 l h
@[go_sem] theorem acp_5 (l : List AV) (h : AH) : aCallP cfg (call cfg) 5 l h = if refsAll 0 0 (stripAll l) then pureK h (call cfg 5 (stripAll l) AH.empty) else none := aCallP_pure mode_5 l h
@[go_sem] theorem ac_6 (l : List AV) (h : AH) : aCall cfg (call cfg) 6 l h = if refsAll 0 0 (stripAll (freezeAll h l).1) then pureK (freezeAll h l).2 (call cfg 6 (stripAll (freezeAll h l).1) AH.empty) else none := aCall_pure cfg 6 mode_6 l h
@[go_sem] theorem acp_6 (l : List AV) (h : AH) : aCallP cfg (call cfg) 6 l h = if refsAll 0 0 (stripAll l) then pureK h (call cfg 6 (stripAll l) AH.empty) else none := aCallP_pure mode_6 l h
@[go_sem] theorem ac_7 (l : List AV) (h : AH) : aCall cfg (call cfg) 7 l h = if refsAll 0 0 (stripAll (freezeAll h l).1) then pureK (freezeAll h l).2 (call cfg 7 (stripAll (freezeAll h l).1) AH.empty) else none := aCall_pure cfg 7 mode_7 l h
@[go_sem] theorem acp_7 (l : List AV) (h : AH) : aCallP cfg (call cfg) 7 l h = if refsAll 0 0 (stripAll l) then pureK h (call cfg 7 (stripAll l) AH.empty) else none := aCallP_pure mode_7 l h
@[go_sem] theorem ac_8 (l : List AV) (h : AH) : aCall cfg (call cfg) 8 l h = if refsAll 0 0 (stripAll (freezeAll h l).1) then pureK (freezeAll h l).2 (call cfg 8 (stripAll (freezeAll h l).1) AH.empty) else none := aCall_pure cfg 8 mode_8 l h
@[go_sem] theorem acp_8 (l : List AV) (h : AH) : aCallP cfg (call cfg) 8 l h = if refsAll 0 0 (stripAll l) then pureK h (call cfg 8 (stripAll l) AH.empty) else none := aCallP_pure mode_8 l h
@[go_sem] theorem ac_9 (l : List AV) (h : AH) : aCall cfg (call cfg) 9 l h = if refsAll 0 0 (stripAll (freezeAll h l).1) then pureK (freezeAll h l).2 (call cfg 9 (stripAll (freezeAll h l).1) AH.empty) else none := aCall_pure cfg 9 mode_9 l h
@[go_sem] theorem acp_9 (l : List AV) (h : AH) : aCallP cfg (call cfg) 9 l h = if refsAll 0 0 (stripAll l) then pureK h (call cfg 9 (stripAll l) AH.empty) else none := aCallP_pure mode_9 l h
@[go_sem] theorem ac_10 (l : List AV) (h : AH) : aCall cfg (call cfg) 10 l h = if refsAll 0 0 (stripAll (freezeAll h l).1) then pureK (freezeAll h l).2 (call cfg 10 (stripAll (freezeAll h l).1) AH.empty) else none := aCall_pure cfg 10 mode_10 l h
@[go_sem] theorem acp_10 (l : List AV) (h : AH) : aCallP cfg (call cfg) 10 l h = if refsAll 0 0 (stripAll l) then pureK h (call cfg 10 (stripAll l) AH.empty) else none := aCallP_pure mode_10 l h
@[go_sem] theorem ac_11 (l : List AV) (h : AH) : aCall cfg (call cfg) 11 l h = if refsAll 0 0 (stripAll (freezeAll h l).1) then pureK (freezeAll h l).2 (call cfg 11 (stripAll (freezeAll h l).1) AH.empty) else none := aCall_pure cfg 11 mode_11 l h
@[go_sem] theorem acp_11 (l : List AV) (h : AH) : aCallP cfg (call cfg) 11 l h = if refsAll 0 0 (stripAll l) then pureK h (call cfg 11 (stripAll l) AH.empty) else none := aCallP_pure mode_11 l h
@[go_sem] theorem ac_12 (l : List AV) (h : AH) : aCall cfg (call cfg) 12 l h = if refsAll 0 0 (stripAll (freezeAll h l).1) then pureK (freezeAll h l).2 (call cfg 12 (stripAll (freezeAll h l).1) AH.empty) else none := aCall_pure cfg 12 mode_12 l h
@[go_sem] theorem acp_12 (l : List AV) (h : AH) : aCallP cfg (call cfg) 12 l h = if refsAll 0 0 (stripAll l) then pureK h (call cfg 12 (stripAll l) AH.empty) else none := aCallP_pure mode_12 l h
@[go_sem] theorem ac_13 (l : List AV) (h : AH) : aCall cfg (call cfg) 13 l h = if refsAll 0 0 (stripAll (freezeAll h l).1) then pureK (freezeAll h l).2 (call cfg 13 (stripAll (freezeAll h l).1) AH.empty) else none := aCall_pure cfg 13 mode_13 l h
@[go_sem] theorem acp_13 (l : List AV) (h : AH) : aCallP cfg (call cfg) 13 l h = if refsAll 0 0 (stripAll l) then pureK h (call cfg 13 (stripAll l) AH.empty) else none := aCallP_pure mode_13 l h
@[go_sem] theorem ac_14 (l : List AV) (h : AH) : aCall cfg (call cfg) 14 l h = if refsAll 0 0 (stripAll (freezeAll h l).1) then pureK (freezeAll h l).2 (call cfg 14 (stripAll (freezeAll h l).1) AH.empty) else none := aCall_pure cfg 14 mode_14 l h
@[go_sem] theorem acp_14 (l : List AV) (h : AH) : aCallP cfg (call cfg) 14 l h = if refsAll 0 0 (stripAll l) then pureK h (call cfg 14 (stripAll l) AH.empty) else none := aCallP_pure mode_14 l h
@[go_sem] theorem ac_15 (l : List AV) (h : AH) : aCall cfg (call cfg) 15 l h = if refsAll 0 0 (stripAll (freezeAll h l).1) then pureK (freezeAll h l).2 (call cfg 15 (stripAll (freezeAll h l).1) AH.empty) else none := aCall_pure cfg 15 mode_15 l h
@[go_sem] theorem acp_15 (l : List AV) (h : AH) : aCallP cfg (call cfg) 15 l h = if refsAll 0 0 (stripAll l) then pureK h (call cfg 15 (stripAll l) AH.empty) else none := aCallP_pure mode_15 l h
@[go_sem] theorem ac_16 (l : List AV) (h : AH) : aCall cfg (call cfg) 16 l h = if refsAll 0 0 (stripAll (freezeAll h l).1) then pureK (freezeAll h l).2 (call cfg 16 (stripAll (freezeAll h l).1) AH.empty) else none := aCall_pure cfg 16 mode_16 l h
@[go_sem] theorem acp_16 (l : List AV) (h : AH) : aCallP cfg (call cfg) 16 l h = if refsAll 0 0 (stripAll l) then pureK h (call cfg 16 (stripAll l) AH.empty) else none := aCallP_pure mode_16 l h
@[go_sem] theorem ac_17 (l : List AV) (h : AH) : aCall cfg (call cfg) 17 l h = if refsAll 0 0 (stripAll (freezeAll h l).1) then pureK (freezeAll h l).2 (call cfg 17 (stripAll (freezeAll h l).1) AH.empty) else none := aCall_pure cfg 17 mode_17 l h
@[go_sem] theorem acp_17 (l : List AV) (h : AH) : aCallP cfg (call cfg) 17 l h = if refsAll 0 0 (stripAll l) then pureK h (call cfg 17 (stripAll l) AH.empty) else none := aCallP_pure mode_17 l h
@[go_sem] theorem ac_18 (l : List AV) (h : AH) : aCall cfg (call cfg) 18 l h = if refsAll 0 0 (stripAll (freezeAll h l).1) then pureK (freezeAll h l).2 (call cfg 18 (stripAll (freezeAll h l).1) AH.empty) else none := aCall_pure cfg 18 mode_18 l h
@[go_sem] theorem acp_18 (l : List AV) (h : AH) : aCallP cfg (call cfg) 18 l h = if refsAll 0 0 (stripAll l) then pureK h (call cfg 18 (stripAll l) AH.empty) else none := aCallP_pure mode_18 l h
@[go_sem] theorem ac_19 (l : List AV) (h : AH) : aCall cfg (call cfg) 19 l h = if refsAll 0 0 (stripAll (freezeAll h l).1) then pureK (freezeAll h l).2 (call cfg 19 (stripAll (freezeAll h l).1) AH.empty) else none := aCall_pure cfg 19 mode_19 l h
@[go_sem] theorem acp_19 (l : List AV) (h : AH) : aCallP cfg (call cfg) 19 l h = if refsAll 0 0 (stripAll l) then pureK h (call cfg 19 (stripAll l) AH.empty) else none := aCallP_pure mode_19 l h
@[go_sem] theorem ac_20 (l : List AV) (h : AH) : aCall cfg (call cfg) 20 l h = if refsAll 0 0 (stripAll (freezeAll h l).1) then pureK (freezeAll h l).2 (call cfg 20 (stripAll (freezeAll h l).1) AH.empty) else none := aCall_pure cfg 20 mode_20 l h
@[go_sem] theorem acp_20 (l : List AV) (h : AH) : aCallP cfg (call cfg) 20 l h = if refsAll 0 0 (stripAll l) then pureK h (call cfg 20 (stripAll l) AH.empty) else none := aCallP_pure mode_20 l h
@[go_sem] theorem ac_21 (l : List AV) (h : AH) : aCall cfg (call cfg) 21 l h = if refsAll 0 0 (stripAll (freezeAll h l).1) then pureK (freezeAll h l).2 (call cfg 21 (stripAll (freezeAll h l).1) AH.empty) else none := aCall_pure cfg 21 mode_21 l h
@[go_sem] theorem acp_21 (l : List AV) (h : AH) : aCallP cfg (call cfg) 21 l h = if refsAll 0 0 (stripAll l) then pureK h (call cfg 21 (stripAll l) AH.empty) else none := aCallP_pure mode_21 l h
@[go_sem] theorem ac_22 (l : List AV) (h : AH) : aCall cfg (call cfg) 22 l h = if refsAll 0 0 (stripAll (freezeAll h l).1) then pureK (freezeAll h l).2 (call cfg 22 (stripAll (freezeAll h l).1) AH.empty) else none := aCall_pure cfg 22 mode_22 l h
@[go_sem] theorem acp_22 (l : List AV) (h : AH) : aCallP cfg (call cfg) 22 l h = if refsAll 0 0 (stripAll l) then pureK h (call cfg 22 (stripAll l) AH.empty) else none := aCallP_pure mode_22 l h
@[go_sem] theorem ac_23 (l : List AV) (h : AH) : aCall cfg (call cfg) 23 l h = if refsAll 0 0 (stripAll (freezeAll h l).1) then pureK (freezeAll h l).2 (call cfg 23 (stripAll (freezeAll h l).1) AH.empty) else none := aCall_pure cfg 23 mode_23 l h
@[go_sem] theorem acp_23 (l : List AV) (h : AH) : aCallP cfg (call cfg) 23 l h = if refsAll 0 0 (stripAll l) then pureK h (call cfg 23 (stripAll l) AH.empty) else none := aCallP_pure mode_23 l h
@[go_sem] theorem ac_24 (l : List AV) (h : AH) : aCall cfg (call cfg) 24 l h = if refsAll 0 0 (stripAll (freezeAll h l).1) then pureK (freezeAll h l).2 (call cfg 24 (stripAll (freezeAll h l).1) AH.empty) else none := aCall_pure cfg 24 mode_24 l h
@[go_sem] theorem acp_24 (l : List AV) (h : AH) : aCallP cfg (call cfg) 24 l h = if refsAll 0 0 (stripAll l) then pureK h (call cfg 24 (stripAll l) AH.empty) else none := aCallP_pure mode_24 l h
@[go_sem] theorem ac_25 (l : List AV) (h : AH) : aCall cfg (call cfg) 25 l h = if refsAll 0 0 (stripAll (freezeAll h l).1) then pureK (freezeAll h l).2 (call cfg 25 (stripAll (freezeAll h l).1) AH.empty) else none := aCall_pure cfg 25 mode_25 l h
@[go_sem] theorem acp_25 (l : List AV) (h : AH) : aCallP cfg (call cfg) 25 l h = if refsAll 0 0 (stripAll l) then pureK h (call cfg 25 (stripAll l) AH.empty) else none := aCallP_pure mode_25 l h
@[go_sem] theorem ac_26 (l : List AV) (h : AH) : aCall cfg (call cfg) 26 l h = if refsAll 0 0 (stripAll (freezeAll h l).1) then pureK (freezeAll h l).2 (call cfg 26 (stripAll (freezeAll h l).1) AH.empty) else none := aCall_pure cfg 26 mode_26 l h
@[go_sem] theorem acp_26 (l : List AV) (h : AH) : aCallP cfg (call cfg) 26 l h = if refsAll 0 0 (stripAll l) then pureK h (call cfg 26 (stripAll l) AH.empty) else none := aCallP_pure mode_26 l h
@[go_sem] theorem ac_27 (l : List AV) (h : AH) : aCall cfg (call cfg) 27 l h = if refsAll 0 0 (stripAll (freezeAll h l).1) then pureK (freezeAll h l).2 (call cfg 27 (stripAll (freezeAll h l).1) AH.empty) else none := aCall_pure cfg 27 mode_27 l h
@[go_sem] theorem acp_27 (l : List AV) (h : AH) : aCallP cfg (call cfg) 27 l h = if refsAll 0 0 (stripAll l) then pureK h (call cfg 27 (stripAll l) AH.empty) else none := aCallP_pure mode_27 l h
@[go_sem] theorem ac_28 (l : List AV) (h : AH) : aCall cfg (call cfg) 28 l h = if refsAll 0 0 (stripAll (freezeAll h l).1) then pureK (freezeAll h l).2 (call cfg 28 (stripAll (freezeAll h l).1) AH.empty) else none := aCall_pure cfg 28 mode_28 l h
@[go_sem] theorem acp_28 (l : List AV) (h : AH) : aCallP cfg (call cfg) 28 l h = if refsAll 0 0 (stripAll l) then pureK h (call cfg 28 (stripAll l) AH.empty) else none := aCallP_pure mode_28 l h
@[go_sem] theorem ac_29 (l : List AV) (h : AH) : aCall cfg (call cfg) 29 l h = if refsAll 0 0 (stripAll (freezeAll h l).1) then pureK (freezeAll h l).2 (call cfg 29 (stripAll (freezeAll h l).1) AH.empty) else none := aCall_pure cfg 29 mode_29 l h
@[go_sem] theorem acp_29 (l : List AV) (h : AH) : aCallP cfg (call cfg) 29 l h = if refsAll 0 0 (stripAll l) then pureK h (call cfg 29 (stripAll l) AH.empty) else none := aCallP_pure mode_29 l h
@[go_sem] theorem ac_30 (l : List AV) (h : AH) : aCall cfg (call cfg) 30 l h = if refsAll 0 0 (stripAll (freezeAll h l).1) then pureK (freezeAll h l).2 (call cfg 30 (stripAll (freezeAll h l).1) AH.empty) else none := aCall_pure cfg 30 mode_30 l h
@[go_sem] theorem acp_30 (l : List AV) (h : AH) : aCallP cfg (call cfg) 30 l h = if refsAll 0 0 (stripAll l) then pureK h (call cfg 30 (stripAll l) AH.empty) else none := aCallP_pure mode_30 l h
@[go_sem] theorem ac_31 (l : List AV) (h : AH) : aCall cfg (call cfg) 31 l h = call cfg 31 l h := aCall_heap cfg 31 mode_31 l h
@[go_sem] theorem ac_32 (l : List AV) (h : AH) : aCall cfg (call cfg) 32 l h = if refsAll 0 0 (stripAll (freezeAll h l).1) then pureK (freezeAll h l).2 (call cfg 32 (stripAll (freezeAll h l).1) AH.empty) else none := aCall_pure cfg 32 mode_32 l h
@[go_sem] theorem acp_32 (l : List AV) (h : AH) : aCallP cfg (call cfg) 32 l h = if refsAll 0 0 (stripAll l) then pureK h (call cfg 32 (stripAll l) AH.empty) else none := aCallP_pure mode_32 l h
@[go_sem] theorem ac_33 (l : List AV) (h : AH) : aCall cfg (call cfg) 33 l h = call cfg 33 l h := aCall_heap cfg 33 mode_33 l h
@[go_sem] theorem ac_34 (l : List AV) (h : AH) : aCall cfg (call cfg) 34 l h = if refsAll 0 0 (stripAll (freezeAll h l).1) then keepK (freezeAll h l).2 (call cfg 34 (stripAll (freezeAll h l).1) AH.empty) else none := aCall_keep cfg 34 mode_34 l h
@[go_sem] theorem ac_35 (l : List AV) (h : AH) : aCall cfg (call cfg) 35 l h = if refsAll 0 0 (stripAll (freezeAll h l).1) then pureK (freezeAll h l).2 (call cfg 35 (stripAll (freezeAll h l).1) AH.empty) else none := aCall_pure cfg 35 mode_35 l h
@[go_sem] theorem acp_35 (l : List AV) (h : AH) : aCallP cfg (call cfg) 35 l h = if refsAll 0 0 (stripAll l) then pureK h (call cfg 35 (stripAll l) AH.empty) else none := aCallP_pure mode_35 l h
@[go_sem] theorem ac_36 (l : List AV) (h : AH) : aCall cfg (call cfg) 36 l h = if refsAll 0 0 (stripAll (freezeAll h l).1) then pureK (freezeAll h l).2 (call cfg 36 (stripAll (freezeAll h l).1) AH.empty) else none := aCall_pure cfg 36 mode_36 l h
@[go_sem] theorem acp_36 (l : List AV) (h : AH) : aCallP cfg (call cfg) 36 l h = if refsAll 0 0 (stripAll l) then pureK h (call cfg 36 (stripAll l) AH.empty) else none := aCallP_pure mode_36 l h
@[go_sem] theorem ac_37 (l : List AV) (h : AH) : aCall cfg (call cfg) 37 l h = if refsAll 0 0 (stripAll (freezeAll h l).1) then pureK (freezeAll h l).2 (call cfg 37 (stripAll (freezeAll h l).1) AH.empty) else none := aCall_pure cfg 37 mode_37 l h
@[go_sem] theorem acp_37 (l : List AV) (h : AH) : aCallP cfg (call cfg) 37 l h = if refsAll 0 0 (stripAll l) then pureK h (call cfg 37 (stripAll l) AH.empty) else none := aCallP_pure mode_37 l h
@[go_sem] theorem ac_38 (l : List AV) (h : AH) : aCall cfg (call cfg) 38 l h = if refsAll 0 0 (stripAll (freezeAll h l).1) then pureK (freezeAll h l).2 (call cfg 38 (stripAll (freezeAll h l).1) AH.empty) else none := aCall_pure cfg 38 mode_38 l h
@[go_sem] theorem acp_38 (l : List AV) (h : AH) : aCallP cfg (call cfg) 38 l h = if refsAll 0 0 (stripAll l) then pureK h (call cfg 38 (stripAll l) AH.empty) else none := aCallP_pure mode_38 l h
@[go_sem] theorem ac_39 (l : List AV) (h : AH) : aCall cfg (call cfg) 39 l h = if refsAll 0 0 (stripAll (freezeAll h l).1) then pureK (freezeAll h l).2 (call cfg 39 (stripAll (freezeAll h l).1) AH.empty) else none := aCall_pure cfg 39 mode_39 l h
@[go_sem] theorem acp_39 (l : List AV) (h : AH) : aCallP cfg (call cfg) 39 l h = if refsAll 0 0 (stripAll l) then pureK h (call cfg 39 (stripAll l) AH.empty) else none := aCallP_pure mode_39 l h
@[go_sem] theorem ac_40 (l : List AV) (h : AH) : aCall cfg (call cfg) 40 l h = if refsAll 0 0 (stripAll (freezeAll h l).1) then pureK (freezeAll h l).2 (call cfg 40 (stripAll (freezeAll h l).1) AH.empty) else none := aCall_pure cfg 40 mode_40 l h
@[go_sem] theorem acp_40 (l : List AV) (h : AH) : aCallP cfg (call cfg) 40 l h = if refsAll 0 0 (stripAll l) then pureK h (call cfg 40 (stripAll l) AH.empty) else none := aCallP_pure mode_40 l h
@[go_sem] theorem ac_41 (l : List AV) (h : AH) : aCall cfg (call cfg) 41 l h = if refsAll 0 0 (stripAll (freezeAll h l).1) then pureK (freezeAll h l).2 (call cfg 41 (stripAll (freezeAll h l).1) AH.empty) else none := aCall_pure cfg 41 mode_41 l h
@[go_sem] theorem acp_41 (l : List AV) (h : AH) : aCallP cfg (call cfg) 41 l h = if refsAll 0 0 (stripAll l) then pureK h (call cfg 41 (stripAll l) AH.empty) else none := aCallP_pure mode_41 l h
@[go_sem] theorem ac_42 (l : List AV) (h : AH) : aCall cfg (call cfg) 42 l h = if refsAll 0 0 (stripAll (freezeAll h l).1) then pureK (freezeAll h l).2 (call cfg 42 (stripAll (freezeAll h l).1) AH.empty) else none := aCall_pure cfg 42 mode_42 l h
@[go_sem] theorem acp_42 (l : List AV) (h : AH) : aCallP cfg (call cfg) 42 l h = if refsAll 0 0 (stripAll l) then pureK h (call cfg 42 (stripAll l) AH.empty) else none := aCallP_pure mode_42 l h
@[go_sem] theorem ac_43 (l : List AV) (h : AH) : aCall cfg (call cfg) 43 l h = call cfg 43 l h := aCall_heap cfg 43 mode_43 l h
@[go_sem] theorem ac_44 (l : List AV) (h : AH) : aCall cfg (call cfg) 44 l h = call cfg 44 l h := aCall_heap cfg 44 mode_44 l h
@[go_sem] theorem ac_57 (l : List AV) (h : AH) : aCall cfg (call cfg) 57 l h = call cfg 57 l h := aCall_heap cfg 57 mode_57 l h
@[go_sem] theorem ac_60 (l : List AV) (h : AH) : aCall cfg (call cfg) 60 l h = if refsAll 0 0 (stripAll (freezeAll h l).1) then pureK (freezeAll h l).2 (call cfg 60 (stripAll (freezeAll h l).1) AH.empty) else none := aCall_pure cfg 60 mode_60 l h
@[go_sem] theorem acp_60 (l : List AV) (h : AH) : aCallP cfg (call cfg) 60 l h = if refsAll 0 0 (stripAll l) then pureK h (call cfg 60 (stripAll l) AH.empty) else none := aCallP_pure mode_60 l h
def tab : List (Nat × TI) := [
  (1, ⟨.func, 1, 8, [.nilf], false⟩),
  (2, ⟨.int .i64, 1, 8, [(.int .i64 0)], false⟩),
  (3, ⟨.int .i64, 1, 8, [(.int .i64 0)], false⟩),
  (4, ⟨.bool, 1, 1, [(.bool false)], false⟩),
  (5, ⟨.int .u8, 1, 1, [(.int .u8 0)], false⟩),
  (6, ⟨.int .u8, 1, 1, [(.int .u8 0)], false⟩),
  (7, ⟨.struct [(2, 0, false), (3, 1, false), (4, 2, false), (6, 3, false)], 4, 24, [(.int .i64 0), (.int .i64 0), (.bool false), (.int .u8 0)], false⟩),
  (8, ⟨.struct [(2, 0, false), (3, 1, false), (4, 2, false), (6, 3, false)], 4, 24, [(.int .i64 0), (.int .i64 0), (.bool false), (.int .u8 0)], false⟩),
  (9, ⟨.string, 1, 16, [(.str ⟨#[]⟩)], false⟩),
  (10, ⟨.string, 1, 16, [(.str ⟨#[]⟩)], false⟩),
  (11, ⟨.string, 1, 16, [(.str ⟨#[]⟩)], false⟩),
  (12, ⟨.int .u64, 1, 8, [(.int .u64 0)], false⟩),
  (13, ⟨.struct [(9, 0, false), (12, 1, false)], 2, 24, [(.str ⟨#[]⟩), (.int .u64 0)], false⟩),
  (14, ⟨.struct [(9, 0, false), (12, 1, false)], 2, 24, [(.str ⟨#[]⟩), (.int .u64 0)], false⟩),
  (15, ⟨.pointer 76, 1, 8, [.nilp], false⟩),
  (16, ⟨.pointer 79, 1, 8, [.nilp], false⟩),
  (17, ⟨.pointer 89, 1, 8, [.nilp], false⟩),
  (18, ⟨.struct [(17, 0, false)], 1, 8, [.nilp], false⟩),
  (19, ⟨.struct [(17, 0, false)], 1, 8, [.nilp], false⟩),
  (20, ⟨.iface, 1, 16, [.nili], false⟩),
  (21, ⟨.int .i32, 1, 4, [(.int .i32 0)], false⟩),
  (22, ⟨.slice 3, 1, 24, [(.slice true 0 [] .full)], false⟩),
  (23, ⟨.int .u64, 1, 8, [(.int .u64 0)], false⟩),
  (24, ⟨.struct [(23, 0, false), (23, 1, false), (3, 2, false), (22, 3, false)], 4, 48, [(.int .u64 0), (.int .u64 0), (.int .i64 0), (.slice true 0 [] .full)], false⟩),
  (25, ⟨.struct [(23, 0, false), (23, 1, false), (3, 2, false), (22, 3, false)], 4, 48, [(.int .u64 0), (.int .u64 0), (.int .i64 0), (.slice true 0 [] .full)], false⟩),
  (26, ⟨.slice 41, 1, 24, [(.slice true 0 [] .full)], false⟩),
  (27, ⟨.func, 1, 8, [.nilf], false⟩),
  (28, ⟨.func, 1, 8, [.nilf], false⟩),
  (29, ⟨.func, 1, 8, [.nilf], false⟩),
  (30, ⟨.struct [(23, 0, false), (23, 1, false), (26, 2, false)], 3, 40, [(.int .u64 0), (.int .u64 0), (.slice true 0 [] .full)], false⟩),
  (31, ⟨.struct [(23, 0, false), (23, 1, false), (26, 2, false)], 3, 40, [(.int .u64 0), (.int .u64 0), (.slice true 0 [] .full)], false⟩),
  (32, ⟨.func, 1, 8, [.nilf], false⟩),
  (33, ⟨.func, 1, 8, [.nilf], false⟩),
  (34, ⟨.func, 1, 8, [.nilf], false⟩),
  (36, ⟨.func, 1, 8, [.nilf], false⟩),
  (38, ⟨.func, 1, 8, [.nilf], false⟩),
  (39, ⟨.func, 1, 8, [.nilf], false⟩),
  (40, ⟨.struct [(23, 0, false), (23, 1, false), (9, 2, false)], 3, 32, [(.int .u64 0), (.int .u64 0), (.str ⟨#[]⟩)], false⟩),
  (41, ⟨.struct [(23, 0, false), (23, 1, false), (9, 2, false)], 3, 32, [(.int .u64 0), (.int .u64 0), (.str ⟨#[]⟩)], true⟩),
  (42, ⟨.func, 1, 8, [.nilf], false⟩),
  (43, ⟨.func, 1, 8, [.nilf], false⟩),
  (44, ⟨.array 2 3, 2, 16, [(.int .i64 0), (.int .i64 0)], false⟩),
  (46, ⟨.func, 1, 8, [.nilf], false⟩),
  (47, ⟨.func, 1, 8, [.nilf], false⟩),
  (48, ⟨.func, 1, 8, [.nilf], false⟩),
  (50, ⟨.func, 1, 8, [.nilf], false⟩),
  (51, ⟨.func, 1, 8, [.nilf], false⟩),
  (52, ⟨.func, 1, 8, [.nilf], false⟩),
  (53, ⟨.func, 1, 8, [.nilf], false⟩),
  (54, ⟨.func, 1, 8, [.nilf], false⟩),
  (55, ⟨.func, 1, 8, [.nilf], false⟩),
  (56, ⟨.func, 1, 8, [.nilf], false⟩),
  (57, ⟨.func, 1, 8, [.nilf], false⟩),
  (58, ⟨.struct [(31, 0, false), (23, 3, false), (4, 4, false)], 5, 56, [(.int .u64 0), (.int .u64 0), (.slice true 0 [] .full), (.int .u64 0), (.bool false)], false⟩),
  (59, ⟨.struct [(31, 0, false), (23, 3, false), (4, 4, false)], 5, 56, [(.int .u64 0), (.int .u64 0), (.slice true 0 [] .full), (.int .u64 0), (.bool false)], false⟩),
  (60, ⟨.func, 1, 8, [.nilf], false⟩),
  (61, ⟨.slice 5, 1, 24, [(.slice true 0 [] .full)], false⟩),
  (62, ⟨.func, 1, 8, [.nilf], false⟩),
  (63, ⟨.func, 1, 8, [.nilf], false⟩),
  (64, ⟨.func, 1, 8, [.nilf], false⟩),
  (65, ⟨.func, 1, 8, [.nilf], false⟩),
  (66, ⟨.func, 1, 8, [.nilf], false⟩),
  (67, ⟨.func, 1, 8, [.nilf], false⟩),
  (68, ⟨.struct [(23, 0, false), (23, 1, false)], 2, 16, [(.int .u64 0), (.int .u64 0)], false⟩),
  (69, ⟨.struct [(23, 0, false), (23, 1, false)], 2, 16, [(.int .u64 0), (.int .u64 0)], false⟩),
  (70, ⟨.func, 1, 8, [.nilf], false⟩),
  (71, ⟨.slice 26, 1, 24, [(.slice true 0 [] .full)], false⟩),
  (72, ⟨.func, 1, 8, [.nilf], false⟩),
  (73, ⟨.func, 1, 8, [.nilf], false⟩),
  (74, ⟨.func, 1, 8, [.nilf], false⟩),
  (75, ⟨.struct [(17, 0, false), (17, 1, false), (17, 2, false), (9, 3, false)], 4, 40, [.nilp, .nilp, .nilp, (.str ⟨#[]⟩)], false⟩),
  (76, ⟨.struct [(17, 0, false), (17, 1, false), (17, 2, false), (9, 3, false)], 4, 40, [.nilp, .nilp, .nilp, (.str ⟨#[]⟩)], false⟩),
  (77, ⟨.array 0 16, 0, 0, [], false⟩),
  (78, ⟨.struct [(77, 0, true)], 0, 0, [], false⟩),
  (79, ⟨.struct [(77, 0, true)], 0, 0, [], false⟩),
  (80, ⟨.func, 1, 8, [.nilf], false⟩),
  (81, ⟨.int .u32, 1, 4, [(.int .u32 0)], false⟩),
  (82, ⟨.int .u8, 1, 1, [(.int .u8 0)], false⟩),
  (83, ⟨.int .u8, 1, 1, [(.int .u8 0)], false⟩),
  (84, ⟨.func, 1, 8, [.nilf], false⟩),
  (85, ⟨.pointer 5, 1, 8, [.nilp], false⟩),
  (86, ⟨.int .i32, 1, 4, [(.int .i32 0)], false⟩),
  (87, ⟨.int .i32, 1, 4, [(.int .i32 0)], false⟩),
  (88, ⟨.struct [(12, 0, false), (12, 1, false), (81, 2, false), (82, 3, false), (5, 4, false), (5, 5, false), (83, 6, false), (84, 7, false), (85, 8, false), (86, 9, false), (87, 10, false)], 11, 48, [(.int .u64 0), (.int .u64 0), (.int .u32 0), (.int .u8 0), (.int .u8 0), (.int .u8 0), (.int .u8 0), .nilf, .nilp, (.int .i32 0), (.int .i32 0)], false⟩),
  (89, ⟨.struct [(12, 0, false), (12, 1, false), (81, 2, false), (82, 3, false), (5, 4, false), (5, 5, false), (83, 6, false), (84, 7, false), (85, 8, false), (86, 9, false), (87, 10, false)], 11, 48, [(.int .u64 0), (.int .u64 0), (.int .u32 0), (.int .u8 0), (.int .u8 0), (.int .u8 0), (.int .u8 0), .nilf, .nilp, (.int .i32 0), (.int .i32 0)], false⟩)]
def tiOf (t : Nat) : TI := (lookT tab t).getD ⟨.other, 0, 0, [], false⟩
theorem ty_1 : lookT tab 1 = some ⟨.func, 1, 8, [.nilf], false⟩ := rfl
theorem ty_2 : lookT tab 2 = some ⟨.int .i64, 1, 8, [(.int .i64 0)], false⟩ := rfl
theorem ty_3 : lookT tab 3 = some ⟨.int .i64, 1, 8, [(.int .i64 0)], false⟩ := rfl
theorem ty_4 : lookT tab 4 = some ⟨.bool, 1, 1, [(.bool false)], false⟩ := rfl
theorem ty_5 : lookT tab 5 = some ⟨.int .u8, 1, 1, [(.int .u8 0)], false⟩ := rfl
theorem ty_6 : lookT tab 6 = some ⟨.int .u8, 1, 1, [(.int .u8 0)], false⟩ := rfl
theorem ty_7 : lookT tab 7 = some ⟨.struct [(2, 0, false), (3, 1, false), (4, 2, false), (6, 3, false)], 4, 24, [(.int .i64 0), (.int .i64 0), (.bool false), (.int .u8 0)], false⟩ := rfl
theorem ty_8 : lookT tab 8 = some ⟨.struct [(2, 0, false), (3, 1, false), (4, 2, false), (6, 3, false)], 4, 24, [(.int .i64 0), (.int .i64 0), (.bool false), (.int .u8 0)], false⟩ := rfl
theorem ty_9 : lookT tab 9 = some ⟨.string, 1, 16, [(.str ⟨#[]⟩)], false⟩ := rfl
theorem ty_10 : lookT tab 10 = some ⟨.string, 1, 16, [(.str ⟨#[]⟩)], false⟩ := rfl
theorem ty_11 : lookT tab 11 = some ⟨.string, 1, 16, [(.str ⟨#[]⟩)], false⟩ := rfl
theorem ty_12 : lookT tab 12 = some ⟨.int .u64, 1, 8, [(.int .u64 0)], false⟩ := rfl
theorem ty_13 : lookT tab 13 = some ⟨.struct [(9, 0, false), (12, 1, false)], 2, 24, [(.str ⟨#[]⟩), (.int .u64 0)], false⟩ := rfl
theorem ty_14 : lookT tab 14 = some ⟨.struct [(9, 0, false), (12, 1, false)], 2, 24, [(.str ⟨#[]⟩), (.int .u64 0)], false⟩ := rfl
theorem ty_15 : lookT tab 15 = some ⟨.pointer 76, 1, 8, [.nilp], false⟩ := rfl
theorem ty_16 : lookT tab 16 = some ⟨.pointer 79, 1, 8, [.nilp], false⟩ := rfl
theorem ty_17 : lookT tab 17 = some ⟨.pointer 89, 1, 8, [.nilp], false⟩ := rfl
theorem ty_18 : lookT tab 18 = some ⟨.struct [(17, 0, false)], 1, 8, [.nilp], false⟩ := rfl
theorem ty_19 : lookT tab 19 = some ⟨.struct [(17, 0, false)], 1, 8, [.nilp], false⟩ := rfl
theorem ty_20 : lookT tab 20 = some ⟨.iface, 1, 16, [.nili], false⟩ := rfl
theorem ty_21 : lookT tab 21 = some ⟨.int .i32, 1, 4, [(.int .i32 0)], false⟩ := rfl
theorem ty_22 : lookT tab 22 = some ⟨.slice 3, 1, 24, [(.slice true 0 [] .full)], false⟩ := rfl
theorem ty_23 : lookT tab 23 = some ⟨.int .u64, 1, 8, [(.int .u64 0)], false⟩ := rfl
theorem ty_24 : lookT tab 24 = some ⟨.struct [(23, 0, false), (23, 1, false), (3, 2, false), (22, 3, false)], 4, 48, [(.int .u64 0), (.int .u64 0), (.int .i64 0), (.slice true 0 [] .full)], false⟩ := rfl
theorem ty_25 : lookT tab 25 = some ⟨.struct [(23, 0, false), (23, 1, false), (3, 2, false), (22, 3, false)], 4, 48, [(.int .u64 0), (.int .u64 0), (.int .i64 0), (.slice true 0 [] .full)], false⟩ := rfl
theorem ty_26 : lookT tab 26 = some ⟨.slice 41, 1, 24, [(.slice true 0 [] .full)], false⟩ := rfl
theorem ty_27 : lookT tab 27 = some ⟨.func, 1, 8, [.nilf], false⟩ := rfl
theorem ty_28 : lookT tab 28 = some ⟨.func, 1, 8, [.nilf], false⟩ := rfl
theorem ty_29 : lookT tab 29 = some ⟨.func, 1, 8, [.nilf], false⟩ := rfl
theorem ty_30 : lookT tab 30 = some ⟨.struct [(23, 0, false), (23, 1, false), (26, 2, false)], 3, 40, [(.int .u64 0), (.int .u64 0), (.slice true 0 [] .full)], false⟩ := rfl
theorem ty_31 : lookT tab 31 = some ⟨.struct [(23, 0, false), (23, 1, false), (26, 2, false)], 3, 40, [(.int .u64 0), (.int .u64 0), (.slice true 0 [] .full)], false⟩ := rfl
theorem ty_32 : lookT tab 32 = some ⟨.func, 1, 8, [.nilf], false⟩ := rfl
theorem ty_33 : lookT tab 33 = some ⟨.func, 1, 8, [.nilf], false⟩ := rfl
theorem ty_34 : lookT tab 34 = some ⟨.func, 1, 8, [.nilf], false⟩ := rfl
theorem ty_36 : lookT tab 36 = some ⟨.func, 1, 8, [.nilf], false⟩ := rfl
theorem ty_38 : lookT tab 38 = some ⟨.func, 1, 8, [.nilf], false⟩ := rfl
theorem ty_39 : lookT tab 39 = some ⟨.func, 1, 8, [.nilf], false⟩ := rfl
theorem ty_40 : lookT tab 40 = some ⟨.struct [(23, 0, false), (23, 1, false), (9, 2, false)], 3, 32, [(.int .u64 0), (.int .u64 0), (.str ⟨#[]⟩)], false⟩ := rfl
theorem ty_41 : lookT tab 41 = some ⟨.struct [(23, 0, false), (23, 1, false), (9, 2, false)], 3, 32, [(.int .u64 0), (.int .u64 0), (.str ⟨#[]⟩)], true⟩ := rfl
theorem ty_42 : lookT tab 42 = some ⟨.func, 1, 8, [.nilf], false⟩ := rfl
theorem ty_43 : lookT tab 43 = some ⟨.func, 1, 8, [.nilf], false⟩ := rfl
theorem ty_44 : lookT tab 44 = some ⟨.array 2 3, 2, 16, [(.int .i64 0), (.int .i64 0)], false⟩ := rfl
theorem ty_46 : lookT tab 46 = some ⟨.func, 1, 8, [.nilf], false⟩ := rfl
theorem ty_47 : lookT tab 47 = some ⟨.func, 1, 8, [.nilf], false⟩ := rfl
theorem ty_48 : lookT tab 48 = some ⟨.func, 1, 8, [.nilf], false⟩ := rfl
theorem ty_50 : lookT tab 50 = some ⟨.func, 1, 8, [.nilf], false⟩ := rfl
theorem ty_51 : lookT tab 51 = some ⟨.func, 1, 8, [.nilf], false⟩ := rfl
theorem ty_52 : lookT tab 52 = some ⟨.func, 1, 8, [.nilf], false⟩ := rfl
theorem ty_53 : lookT tab 53 = some ⟨.func, 1, 8, [.nilf], false⟩ := rfl
theorem ty_54 : lookT tab 54 = some ⟨.func, 1, 8, [.nilf], false⟩ := rfl
theorem ty_55 : lookT tab 55 = some ⟨.func, 1, 8, [.nilf], false⟩ := rfl
theorem ty_56 : lookT tab 56 = some ⟨.func, 1, 8, [.nilf], false⟩ := rfl
theorem ty_57 : lookT tab 57 = some ⟨.func, 1, 8, [.nilf], false⟩ := rfl
theorem ty_58 : lookT tab 58 = some ⟨.struct [(31, 0, false), (23, 3, false), (4, 4, false)], 5, 56, [(.int .u64 0), (.int .u64 0), (.slice true 0 [] .full), (.int .u64 0), (.bool false)], false⟩ := rfl
theorem ty_59 : lookT tab 59 = some ⟨.struct [(31, 0, false), (23, 3, false), (4, 4, false)], 5, 56, [(.int .u64 0), (.int .u64 0), (.slice true 0 [] .full), (.int .u64 0), (.bool false)], false⟩ := rfl
theorem ty_60 : lookT tab 60 = some ⟨.func, 1, 8, [.nilf], false⟩ := rfl
theorem ty_61 : lookT tab 61 = some ⟨.slice 5, 1, 24, [(.slice true 0 [] .full)], false⟩ := rfl
theorem ty_62 : lookT tab 62 = some ⟨.func, 1, 8, [.nilf], false⟩ := rfl
theorem ty_63 : lookT tab 63 = some ⟨.func, 1, 8, [.nilf], false⟩ := rfl
theorem ty_64 : lookT tab 64 = some ⟨.func, 1, 8, [.nilf], false⟩ := rfl
theorem ty_65 : lookT tab 65 = some ⟨.func, 1, 8, [.nilf], false⟩ := rfl
theorem ty_66 : lookT tab 66 = some ⟨.func, 1, 8, [.nilf], false⟩ := rfl
theorem ty_67 : lookT tab 67 = some ⟨.func, 1, 8, [.nilf], false⟩ := rfl
theorem ty_68 : lookT tab 68 = some ⟨.struct [(23, 0, false), (23, 1, false)], 2, 16, [(.int .u64 0), (.int .u64 0)], false⟩ := rfl
theorem ty_69 : lookT tab 69 = some ⟨.struct [(23, 0, false), (23, 1, false)], 2, 16, [(.int .u64 0), (.int .u64 0)], false⟩ := rfl
theorem ty_70 : lookT tab 70 = some ⟨.func, 1, 8, [.nilf], false⟩ := rfl
theorem ty_71 : lookT tab 71 = some ⟨.slice 26, 1, 24, [(.slice true 0 [] .full)], false⟩ := rfl
theorem ty_72 : lookT tab 72 = some ⟨.func, 1, 8, [.nilf], false⟩ := rfl
theorem ty_73 : lookT tab 73 = some ⟨.func, 1, 8, [.nilf], false⟩ := rfl
theorem ty_74 : lookT tab 74 = some ⟨.func, 1, 8, [.nilf], false⟩ := rfl
theorem ty_75 : lookT tab 75 = some ⟨.struct [(17, 0, false), (17, 1, false), (17, 2, false), (9, 3, false)], 4, 40, [.nilp, .nilp, .nilp, (.str ⟨#[]⟩)], false⟩ := rfl
theorem ty_76 : lookT tab 76 = some ⟨.struct [(17, 0, false), (17, 1, false), (17, 2, false), (9, 3, false)], 4, 40, [.nilp, .nilp, .nilp, (.str ⟨#[]⟩)], false⟩ := rfl
theorem ty_77 : lookT tab 77 = some ⟨.array 0 16, 0, 0, [], false⟩ := rfl
theorem ty_78 : lookT tab 78 = some ⟨.struct [(77, 0, true)], 0, 0, [], false⟩ := rfl
theorem ty_79 : lookT tab 79 = some ⟨.struct [(77, 0, true)], 0, 0, [], false⟩ := rfl
theorem ty_80 : lookT tab 80 = some ⟨.func, 1, 8, [.nilf], false⟩ := rfl
theorem ty_81 : lookT tab 81 = some ⟨.int .u32, 1, 4, [(.int .u32 0)], false⟩ := rfl
theorem ty_82 : lookT tab 82 = some ⟨.int .u8, 1, 1, [(.int .u8 0)], false⟩ := rfl
theorem ty_83 : lookT tab 83 = some ⟨.int .u8, 1, 1, [(.int .u8 0)], false⟩ := rfl
theorem ty_84 : lookT tab 84 = some ⟨.func, 1, 8, [.nilf], false⟩ := rfl
theorem ty_85 : lookT tab 85 = some ⟨.pointer 5, 1, 8, [.nilp], false⟩ := rfl
theorem ty_86 : lookT tab 86 = some ⟨.int .i32, 1, 4, [(.int .i32 0)], false⟩ := rfl
theorem ty_87 : lookT tab 87 = some ⟨.int .i32, 1, 4, [(.int .i32 0)], false⟩ := rfl
theorem ty_88 : lookT tab 88 = some ⟨.struct [(12, 0, false), (12, 1, false), (81, 2, false), (82, 3, false), (5, 4, false), (5, 5, false), (83, 6, false), (84, 7, false), (85, 8, false), (86, 9, false), (87, 10, false)], 11, 48, [(.int .u64 0), (.int .u64 0), (.int .u32 0), (.int .u8 0), (.int .u8 0), (.int .u8 0), (.int .u8 0), .nilf, .nilp, (.int .i32 0), (.int .i32 0)], false⟩ := rfl
theorem ty_89 : lookT tab 89 = some ⟨.struct [(12, 0, false), (12, 1, false), (81, 2, false), (82, 3, false), (5, 4, false), (5, 5, false), (83, 6, false), (84, 7, false), (85, 8, false), (86, 9, false), (87, 10, false)], 11, 48, [(.int .u64 0), (.int .u64 0), (.int .u32 0), (.int .u8 0), (.int .u8 0), (.int .u8 0), (.int .u8 0), .nilf, .nilp, (.int .i32 0), (.int .i32 0)], false⟩ := rfl
end Go.Proofs.Ytghljcgkeeodaaa.Abs
