import Derived.Test.YtdpkhkiecobkoaaLib3
import Derived.Test.YtdpkhkiecobkoaaPrim1
set_option linter.all false
namespace Go.Proofs.Ytdpkhkiecobkoaa.Abs
open Go.Abs
/-- vendue/venduelaw12.SessionPlays -/
def ic3l0 : IC :=
 (.seq
 (.seq
 (.reg [
 ⟨some 26, .mov (.slot 11), none⟩,
 ⟨some 27, .mov (.slot 1), none⟩,
 ⟨some 28, .len (.slice 3) (.slot 27), none⟩,
 ⟨some 29, .bin .lss none (.slot 26) (.slot 28), none⟩,
 ⟨some 30, .mov (.slot 29), none⟩,
 ⟨some 31, .mov (.slot 11), (some (30, true))⟩,
 ⟨some 32, .bin .lss none (.slot 31) (.lit (.int .i64 30)), (some (30, true))⟩,
 ⟨some 33, .pick (.slot 30) (.slot 32) (.lit (.bool false)), none⟩] [1, 2, 7, 8, 9, 10, 11, 33] false)
 (.cond (.slot 33)
 .skip
 (.exit 0)))
 (.seq
 (.block 1
 (.seq
 (.reg [
 ⟨some 36, .mov (.slot 1), none⟩,
 ⟨some 37, .mov (.slot 11), none⟩,
 ⟨some 38, .iaddr (.slice 3) (.slot 36) (.slot 37), none⟩,
 ⟨some 39, .load 3 true (.slot 38), none⟩,
 ⟨some 12, .alloc [(.int .i64 0), (.int .u64 0), (.str ⟨#[]⟩)], none⟩,
 ⟨none, .store 3 (.slot 12) (.slot 39), none⟩] [1, 2, 7, 8, 9, 10, 11, 12] false)
 (.seq
 (.reg [
 ⟨some 40, .faddr 2 (.slot 12), none⟩,
 ⟨some 41, .load 1 false (.slot 40), none⟩,
 ⟨some 42, .call (.lit (.func (.func 11) [] [])) [(.slot 41), (.lit (.int .i64 52))], none⟩,
 ⟨some 43, .faddr 2 (.slot 12), none⟩,
 ⟨none, .store 1 (.slot 43) (.slot 42), none⟩] [1, 2, 7, 8, 9, 10, 11, 12] false)
 (.seq
 (.reg [
 ⟨some 45, .mov (.slot 8), none⟩,
 ⟨some 46, .load 3 true (.slot 12), none⟩,
 ⟨some 47, .call (.lit (.func (.func 12) [] [])) [(.slot 45), (.slot 46)], none⟩,
 ⟨some 44, .mov (.slot 47), none⟩,
 ⟨some 48, .extract (.slot 44) 0, none⟩,
 ⟨some 49, .extract (.slot 44) 1, none⟩,
 ⟨some 13, .mov (.slot 48), none⟩,
 ⟨some 14, .mov (.slot 49), none⟩] [1, 2, 7, 8, 9, 10, 11, 12, 13, 14] false)
 (.seq
 (.reg [
 ⟨some 51, .mov (.slot 8), none⟩,
 ⟨some 52, .load 3 true (.slot 12), none⟩,
 ⟨some 53, .call (.lit (.func (.func 13) [] [])) [(.slot 51), (.slot 52)], none⟩,
 ⟨some 50, .mov (.slot 53), none⟩,
 ⟨some 54, .extract (.slot 50) 0, none⟩,
 ⟨some 55, .extract (.slot 50) 1, none⟩,
 ⟨some 15, .mov (.slot 54), none⟩,
 ⟨some 16, .mov (.slot 55), none⟩] [1, 2, 7, 8, 9, 10, 11, 12, 13, 14, 15, 16] false)
 (.seq
 (.regd [] [
 (⟨some 56, .mov (.slot 8), none⟩, none),
 (⟨some 57, .load 3 true (.slot 12), none⟩, none),
 (⟨some 58, .mov (.slot 2), none⟩, none),
 (⟨some 59, .pcall (.lit (.func (.func 11) [] [])) [(.slot 58), (.lit (.int .i64 42))], none⟩, none),
 (⟨some 60, .pcall (.lit (.func (.func 15) [] [])) [(.slot 56), (.slot 57), (.slot 59)], none⟩, none),
 (⟨some 61, .mov (.slot 8), none⟩, none),
 (⟨some 62, .load 3 true (.slot 12), none⟩, none),
 (⟨some 63, .mov (.slot 2), none⟩, none),
 (⟨some 64, .pcall (.lit (.func (.func 11) [] [])) [(.slot 63), (.lit (.int .i64 42))], none⟩, none),
 (⟨some 65, .pcall (.lit (.func (.func 16) [] [])) [(.slot 61), (.slot 62), (.slot 64)], none⟩, none),
 (⟨some 66, .pcall (.lit (.func (.func 14) [] [])) [(.slot 60), (.slot 65)], none⟩, none),
 (⟨some 17, .mov (.slot 66), none⟩, none)] [] [1, 2, 7, 8, 9, 10, 11, 12, 13, 14, 15, 16, 17] false)
 (.seq
 (.seq
 (.regd [] [
 (⟨some 67, .mov (.slot 13), none⟩, none),
 (⟨some 68, .mov (.slot 15), none⟩, none),
 (⟨some 69, .bin .neq (some .str) (.slot 67) (.slot 68), none⟩, none),
 (⟨some 70, .mov (.slot 69), none⟩, none),
 (⟨some 71, .mov (.slot 14), (some (70, false))⟩, none),
 (⟨some 72, .mov (.slot 16), (some (70, false))⟩, none),
 (⟨some 73, .bin .neq (some .int) (.slot 71) (.slot 72), (some (70, false))⟩, none),
 (⟨some 74, .pick (.slot 70) (.lit (.bool true)) (.slot 73), none⟩, none),
 (⟨some 75, .mov (.slot 74), none⟩, none),
 (⟨some 76, .mov (.slot 17), (some (75, false))⟩, none),
 (⟨some 77, .un .not (.slot 76), (some (75, false))⟩, none),
 (⟨some 78, .pick (.slot 75) (.lit (.bool true)) (.slot 77), none⟩, none),
 (⟨some 79, .mov (.slot 78), none⟩, none),
 (⟨some 80, .mov (.slot 8), (some (79, false))⟩, none),
 (⟨some 81, .faddr 0 (.slot 12), (some (79, false))⟩, none),
 (⟨some 82, .load 1 false (.slot 81), (some (79, false))⟩, none),
 (⟨some 83, .pcall (.lit (.func (.func 17) [] [])) [(.slot 80), (.slot 82)], (some (79, false))⟩, none),
 (⟨some 84, .mov (.slot 8), (some (79, false))⟩, none),
 (⟨some 85, .faddr 0 (.slot 12), (some (79, false))⟩, none),
 (⟨some 86, .load 1 false (.slot 85), (some (79, false))⟩, none),
 (⟨some 87, .pcall (.lit (.func (.func 18) [] [])) [(.slot 84), (.slot 86)], (some (79, false))⟩, none),
 (⟨some 88, .bin .neq (some .int) (.slot 83) (.slot 87), (some (79, false))⟩, none),
 (⟨some 89, .pick (.slot 79) (.lit (.bool true)) (.slot 88), none⟩, none)] [] [1, 2, 7, 8, 9, 10, 11, 12, 89] false)
 (.cond (.slot 89)
 (.seq
 (.reg [
 ⟨some 6, .mov (.lit (.bool false)), none⟩] [6] false)
 .ret)
 .skip))
 (.seq
 (.seq
 (.reg [
 ⟨some 90, .mov (.slot 11), none⟩,
 ⟨some 91, .bin .and none (.slot 90) (.lit (.int .i64 7)), none⟩,
 ⟨some 92, .bin .neq (some .int) (.slot 91) (.lit (.int .i64 7)), none⟩] [1, 2, 7, 8, 9, 10, 11, 12, 92] false)
 (.cond (.slot 92)
 (.seq
 (.reg [
 ⟨some 93, .faddr 0 (.slot 12), none⟩,
 ⟨some 94, .load 1 false (.slot 93), none⟩,
 ⟨some 95, .bin .rem none (.slot 94) (.lit (.int .i64 5)), none⟩,
 ⟨some 96, .bin .add none (.slot 95) (.lit (.int .i64 5)), none⟩,
 ⟨some 97, .bin .rem none (.slot 96) (.lit (.int .i64 5)), none⟩,
 ⟨some 98, .bin .add none (.lit (.int .i64 1)) (.slot 97), none⟩,
 ⟨some 99, .faddr 0 (.slot 12), none⟩,
 ⟨none, .store 1 (.slot 99) (.slot 98), none⟩] [1, 2, 7, 8, 9, 10, 11, 12] false)
 (.reg [
 ⟨some 100, .faddr 1 (.slot 12), none⟩,
 ⟨some 101, .load 1 false (.slot 100), none⟩,
 ⟨some 102, .bin .and none (.slot 101) (.lit (.int .u64 7)), none⟩,
 ⟨some 103, .bin .add none (.lit (.int .u64 1)) (.slot 102), none⟩,
 ⟨some 104, .faddr 1 (.slot 12), none⟩,
 ⟨none, .store 1 (.slot 104) (.slot 103), none⟩] [1, 2, 7, 8, 9, 10, 11, 12] false))
 .skip))
 (.seq
 (.reg [
 ⟨some 106, .mov (.slot 9), none⟩,
 ⟨some 107, .load 3 true (.slot 12), none⟩,
 ⟨some 108, .call (.lit (.func (.func 12) [] [])) [(.slot 106), (.slot 107)], none⟩,
 ⟨some 105, .mov (.slot 108), none⟩,
 ⟨some 109, .extract (.slot 105) 0, none⟩,
 ⟨some 110, .extract (.slot 105) 1, none⟩,
 ⟨some 18, .mov (.slot 109), none⟩,
 ⟨some 19, .mov (.slot 110), none⟩] [1, 2, 7, 8, 9, 10, 11, 12, 18, 19] false)
 (.seq
 (.reg [
 ⟨some 112, .mov (.slot 10), none⟩,
 ⟨some 113, .load 3 true (.slot 12), none⟩,
 ⟨some 114, .call (.lit (.func (.func 13) [] [])) [(.slot 112), (.slot 113)], none⟩,
 ⟨some 111, .mov (.slot 114), none⟩,
 ⟨some 115, .extract (.slot 111) 0, none⟩,
 ⟨some 116, .extract (.slot 111) 1, none⟩,
 ⟨some 20, .mov (.slot 115), none⟩,
 ⟨some 21, .mov (.slot 116), none⟩] [1, 2, 7, 8, 9, 10, 11, 12, 18, 19, 20, 21] false)
 (.seq
 (.reg [
 ⟨some 117, .mov (.slot 9), none⟩,
 ⟨some 118, .load 3 true (.slot 12), none⟩,
 ⟨some 119, .mov (.slot 11), none⟩,
 ⟨some 120, .bin .add none (.lit (.int .i64 97)) (.slot 119), none⟩,
 ⟨some 121, .conv (.int .u8) (.slot 120), none⟩,
 ⟨some 122, .bslice 1 (.int .u8 0) 1 [(0, (.slot 121))], none⟩,
 ⟨some 123, .conv .ofBytes (.slot 122), none⟩,
 ⟨some 124, .call (.lit (.func (.func 15) [] [])) [(.slot 117), (.slot 118), (.slot 123)], none⟩,
 ⟨some 9, .mov (.slot 124), none⟩] [1, 2, 7, 8, 9, 10, 11, 12, 18, 19, 20, 21] false)
 (.seq
 (.reg [
 ⟨some 125, .mov (.slot 10), none⟩,
 ⟨some 126, .load 3 true (.slot 12), none⟩,
 ⟨some 127, .mov (.slot 11), none⟩,
 ⟨some 128, .bin .add none (.lit (.int .i64 97)) (.slot 127), none⟩,
 ⟨some 129, .conv (.int .u8) (.slot 128), none⟩,
 ⟨some 130, .bslice 1 (.int .u8 0) 1 [(0, (.slot 129))], none⟩,
 ⟨some 131, .conv .ofBytes (.slot 130), none⟩,
 ⟨some 132, .call (.lit (.func (.func 16) [] [])) [(.slot 125), (.slot 126), (.slot 131)], none⟩,
 ⟨some 10, .mov (.slot 132), none⟩] [1, 2, 7, 8, 9, 10, 11, 12, 18, 19, 20, 21] false)
 (.seq
 (.reg [
 ⟨some 133, .mov (.slot 9), none⟩,
 ⟨some 134, .mov (.slot 10), none⟩,
 ⟨some 135, .call (.lit (.func (.func 14) [] [])) [(.slot 133), (.slot 134)], none⟩,
 ⟨some 22, .mov (.slot 135), none⟩] [1, 2, 7, 8, 9, 10, 11, 12, 18, 19, 20, 21, 22] false)
 (.seq
 (.regd [] [
 (⟨some 136, .mov (.slot 18), none⟩, none),
 (⟨some 137, .mov (.slot 20), none⟩, none),
 (⟨some 138, .bin .neq (some .str) (.slot 136) (.slot 137), none⟩, none),
 (⟨some 139, .mov (.slot 138), none⟩, none),
 (⟨some 140, .mov (.slot 19), (some (139, false))⟩, none),
 (⟨some 141, .mov (.slot 21), (some (139, false))⟩, none),
 (⟨some 142, .bin .neq (some .int) (.slot 140) (.slot 141), (some (139, false))⟩, none),
 (⟨some 143, .pick (.slot 139) (.lit (.bool true)) (.slot 142), none⟩, none),
 (⟨some 144, .mov (.slot 143), none⟩, none),
 (⟨some 145, .mov (.slot 22), (some (144, false))⟩, none),
 (⟨some 146, .un .not (.slot 145), (some (144, false))⟩, none),
 (⟨some 147, .pick (.slot 144) (.lit (.bool true)) (.slot 146), none⟩, none),
 (⟨some 148, .mov (.slot 147), none⟩, none),
 (⟨some 149, .mov (.slot 9), (some (148, false))⟩, none),
 (⟨some 150, .faddr 0 (.slot 12), (some (148, false))⟩, none),
 (⟨some 151, .load 1 false (.slot 150), (some (148, false))⟩, none),
 (⟨some 152, .pcall (.lit (.func (.func 17) [] [])) [(.slot 149), (.slot 151)], (some (148, false))⟩, none),
 (⟨some 153, .mov (.slot 10), (some (148, false))⟩, none),
 (⟨some 154, .faddr 0 (.slot 12), (some (148, false))⟩, none),
 (⟨some 155, .load 1 false (.slot 154), (some (148, false))⟩, none),
 (⟨some 156, .pcall (.lit (.func (.func 18) [] [])) [(.slot 153), (.slot 155)], (some (148, false))⟩, none),
 (⟨some 157, .bin .neq (some .int) (.slot 152) (.slot 156), (some (148, false))⟩, none),
 (⟨some 158, .pick (.slot 148) (.lit (.bool true)) (.slot 157), none⟩, none)] [] [1, 2, 7, 8, 9, 10, 11, 158] true)
 (.cond (.slot 158)
 (.seq
 (.reg [
 ⟨some 6, .mov (.lit (.bool false)), none⟩] [6] false)
 .ret)
 .skip)))))))))))))))
 (.reg [
 ⟨some 34, .mov (.slot 11), none⟩,
 ⟨some 35, .bin .add none (.slot 34) (.lit (.int .i64 1)), none⟩,
 ⟨some 11, .mov (.slot 35), none⟩] [1, 2, 7, 8, 9, 10, 11] false)))
def ic3 : IC :=
 (.seq
 (.reg [
 ⟨some 6, .mov (.lit (.bool false)), none⟩] [0, 1, 2] false)
 (.seq
 (.reg [
 ⟨some 23, .call (.lit (.func (.func 9) [] [])) [], none⟩,
 ⟨some 7, .mov (.slot 23), none⟩] [0, 1, 2, 7] false)
 (.seq
 (.reg [
 ⟨some 24, .mov (.slot 0), none⟩,
 ⟨some 25, .call (.lit (.func (.func 10) [] [])) [(.slot 24)], none⟩,
 ⟨some 8, .mov (.slot 25), none⟩] [1, 2, 7, 8] false)
 (.seq
 (.reg [
 ⟨some 9, .mov (.lit (.slice true 0 [] .full)), none⟩] [1, 2, 7, 8, 9] false)
 (.seq
 (.reg [
 ⟨some 10, .mov (.lit (.slice true 0 [] .full)), none⟩] [1, 2, 7, 8, 9, 10] false)
 (.seq
 (.seq
 (.reg [
 ⟨some 11, .mov (.lit (.int .i64 0)), none⟩] [1, 2, 7, 8, 9, 10, 11] false)
 (.block 0
 (.loop ic3l0)))
 (.seq
 (.reg [
 ⟨some 159, .mov (.slot 7), none⟩,
 ⟨some 6, .mov (.slot 159), none⟩] [6] false)
 .ret)))))))
def ifn3 : IFn := ⟨160, [.inl 6], ic3⟩
/-- vendue/venduelaw12.SessionOnce -/
def ic4l0 : IC :=
 (.seq
 (.seq
 (.reg [
 ⟨some 14, .mov (.slot 7), none⟩,
 ⟨some 15, .mov (.slot 0), none⟩,
 ⟨some 16, .len (.slice 2) (.slot 15), none⟩,
 ⟨some 17, .bin .lss none (.slot 14) (.slot 16), none⟩,
 ⟨some 18, .mov (.slot 17), none⟩,
 ⟨some 19, .mov (.slot 7), (some (18, true))⟩,
 ⟨some 20, .bin .lss none (.slot 19) (.lit (.int .i64 60)), (some (18, true))⟩,
 ⟨some 21, .pick (.slot 18) (.slot 20) (.lit (.bool false)), none⟩] [0, 3, 4, 5, 6, 7, 21] false)
 (.cond (.slot 21)
 .skip
 (.exit 0)))
 (.seq
 (.block 1
 (.seq
 (.regd [[(.int .i64 0), (.int .u64 0), (.str ⟨#[]⟩)]] [
 (⟨some 24, .mov (.slot 0), none⟩, none),
 (⟨some 25, .mov (.slot 7), none⟩, none),
 (⟨some 26, .iaddr (.slice 2) (.slot 24) (.slot 25), none⟩, none),
 (⟨some 27, .iaddr (.arr 2 1 false) (.slot 26) (.lit (.int .i64 0)), none⟩, none),
 (⟨some 28, .load 1 false (.slot 27), none⟩, none),
 (⟨some 29, .bin .rem none (.slot 28) (.lit (.int .i64 3)), none⟩, none),
 (⟨some 30, .bin .add none (.slot 29) (.lit (.int .i64 3)), none⟩, none),
 (⟨some 31, .bin .rem none (.slot 30) (.lit (.int .i64 3)), none⟩, none),
 (⟨some 32, .bin .add none (.lit (.int .i64 1)) (.slot 31), none⟩, none),
 (⟨some 33, .mov (.slot 0), none⟩, none),
 (⟨some 34, .mov (.slot 7), none⟩, none),
 (⟨some 35, .iaddr (.slice 2) (.slot 33) (.slot 34), none⟩, none),
 (⟨some 36, .iaddr (.arr 2 1 false) (.slot 35) (.lit (.int .i64 1)), none⟩, none),
 (⟨some 37, .load 1 false (.slot 36), none⟩, none),
 (⟨some 38, .bin .and none (.slot 37) (.lit (.int .i64 15)), none⟩, none),
 (⟨some 39, .bin .add none (.lit (.int .i64 1)) (.slot 38), none⟩, none),
 (⟨some 40, .conv (.int .u64) (.slot 39), none⟩, none),
 (⟨some 41, .build [(.int .i64 0), (.int .u64 0), (.str ⟨#[]⟩)] [(0, 1, (.slot 32)), (1, 1, (.slot 40))], none⟩, none),
 (⟨some 8, .alloc [(.int .i64 0), (.int .u64 0), (.str ⟨#[]⟩)], none⟩, some 0),
 (⟨none, .store 3 (.slot 8) (.slot 41), none⟩, none)] [] [0, 3, 4, 5, 6, 7, 8] false)
 (.seq
 (.reg [
 ⟨some 42, .mov (.slot 4), none⟩,
 ⟨some 43, .faddr 0 (.slot 8), none⟩,
 ⟨some 44, .load 1 false (.slot 43), none⟩,
 ⟨some 45, .call (.lit (.func (.func 17) [] [])) [(.slot 42), (.slot 44)], none⟩,
 ⟨some 9, .mov (.slot 45), none⟩] [0, 3, 4, 5, 6, 7, 8, 9] false)
 (.seq
 (.reg [
 ⟨some 47, .mov (.slot 4), none⟩,
 ⟨some 48, .load 3 true (.slot 8), none⟩,
 ⟨some 49, .call (.lit (.func (.func 12) [] [])) [(.slot 47), (.slot 48)], none⟩,
 ⟨some 46, .mov (.slot 49), none⟩,
 ⟨some 50, .extract (.slot 46) 0, none⟩,
 ⟨some 51, .extract (.slot 46) 1, none⟩,
 ⟨some 10, .mov (.slot 50), none⟩,
 ⟨some 11, .mov (.slot 51), none⟩] [0, 3, 4, 5, 6, 7, 8, 9, 10, 11] false)
 (.seq
 (.reg [
 ⟨some 52, .faddr 1 (.slot 8), none⟩,
 ⟨some 53, .load 1 false (.slot 52), none⟩,
 ⟨some 54, .conv (.int .i64) (.slot 53), none⟩,
 ⟨some 12, .mov (.slot 54), none⟩] [0, 3, 4, 5, 6, 7, 8, 9, 10, 11, 12] false)
 (.seq
 (.seq
 (.reg [
 ⟨some 55, .mov (.slot 11), none⟩,
 ⟨some 56, .bin .eql (some .int) (.slot 55) (.lit (.int .i64 0)), none⟩] [0, 3, 4, 5, 6, 7, 8, 9, 10, 11, 12, 56] false)
 (.cond (.slot 56)
 (.seq
 (.seq
 (.reg [
 ⟨some 57, .faddr 0 (.slot 8), none⟩,
 ⟨some 58, .load 1 false (.slot 57), none⟩,
 ⟨some 59, .mov (.slot 12), none⟩,
 ⟨some 60, .iaddr (.arr 4 17 true) (.slot 5) (.slot 58), none⟩,
 ⟨some 61, .iaddr (.arr 17 1 false) (.slot 60) (.slot 59), none⟩,
 ⟨some 62, .load 1 false (.slot 61), none⟩,
 ⟨some 63, .bin .neq (some .int) (.slot 62) (.lit (.int .i64 0)), none⟩,
 ⟨some 64, .mov (.slot 63), none⟩,
 ⟨some 65, .faddr 1 (.slot 8), (some (64, false))⟩,
 ⟨some 66, .load 1 false (.slot 65), (some (64, false))⟩,
 ⟨some 67, .mov (.slot 9), (some (64, false))⟩,
 ⟨some 68, .bin .leq none (.slot 66) (.slot 67), (some (64, false))⟩,
 ⟨some 69, .pick (.slot 64) (.lit (.bool true)) (.slot 68), none⟩] [0, 3, 4, 5, 6, 7, 8, 9, 10, 11, 12, 69] false)
 (.cond (.slot 69)
 (.seq
 (.reg [
 ⟨some 2, .mov (.lit (.bool false)), none⟩] [2] false)
 .ret)
 .skip))
 (.seq
 (.reg [
 ⟨some 70, .faddr 0 (.slot 8), none⟩,
 ⟨some 71, .load 1 false (.slot 70), none⟩,
 ⟨some 72, .mov (.slot 12), none⟩,
 ⟨some 73, .iaddr (.arr 4 17 true) (.slot 5) (.slot 71), none⟩,
 ⟨some 74, .iaddr (.arr 17 1 false) (.slot 73) (.slot 72), none⟩,
 ⟨none, .store 1 (.slot 74) (.lit (.int .i64 1)), none⟩] [0, 3, 4, 5, 6, 7, 8, 9, 10, 11, 12] false)
 (.seq
 (.regd [] [
 (⟨some 75, .faddr 0 (.slot 8), none⟩, none),
 (⟨some 76, .load 1 false (.slot 75), none⟩, none),
 (⟨some 77, .mov (.slot 12), none⟩, none),
 (⟨some 78, .mov (.slot 7), none⟩, none),
 (⟨some 79, .conv (.int .u8) (.slot 78), none⟩, none),
 (⟨some 80, .bslice 1 (.int .u8 0) 1 [(0, (.slot 79))], none⟩, none),
 (⟨some 81, .conv .ofBytes (.slot 80), none⟩, none),
 (⟨some 82, .iaddr (.arr 4 17 true) (.slot 6) (.slot 76), none⟩, none),
 (⟨some 83, .iaddr (.arr 17 1 false) (.slot 82) (.slot 77), none⟩, none),
 (⟨none, .store 1 (.slot 83) (.slot 81), none⟩, none)] [] [0, 3, 4, 5, 6, 7, 8, 9, 10, 11, 12] false)
 (.regd [] [
 (⟨some 84, .mov (.slot 4), none⟩, none),
 (⟨some 85, .load 3 true (.slot 8), none⟩, none),
 (⟨some 86, .faddr 0 (.slot 8), none⟩, none),
 (⟨some 87, .load 1 false (.slot 86), none⟩, none),
 (⟨some 88, .mov (.slot 12), none⟩, none),
 (⟨some 89, .iaddr (.arr 4 17 true) (.slot 6) (.slot 87), none⟩, none),
 (⟨some 90, .iaddr (.arr 17 1 false) (.slot 89) (.slot 88), none⟩, none),
 (⟨some 91, .load 1 false (.slot 90), none⟩, none),
 (⟨some 92, .pcall (.lit (.func (.func 15) [] [])) [(.slot 84), (.slot 85), (.slot 91)], none⟩, none),
 (⟨some 4, .mov (.slot 92), none⟩, none)] [] [0, 3, 4, 5, 6, 7, 8, 9, 10, 11, 12] false))))
 .skip))
 (.seq
 (.seq
 (.reg [
 ⟨some 93, .mov (.slot 11), none⟩,
 ⟨some 94, .bin .eql (some .int) (.slot 93) (.lit (.int .i64 14)), none⟩,
 ⟨some 95, .mov (.slot 94), none⟩,
 ⟨some 96, .faddr 0 (.slot 8), (some (95, true))⟩,
 ⟨some 97, .load 1 false (.slot 96), (some (95, true))⟩,
 ⟨some 98, .mov (.slot 12), (some (95, true))⟩,
 ⟨some 99, .iaddr (.arr 4 17 true) (.slot 5) (.slot 97), (some (95, true))⟩,
 ⟨some 100, .iaddr (.arr 17 1 false) (.slot 99) (.slot 98), (some (95, true))⟩,
 ⟨some 101, .load 1 false (.slot 100), (some (95, true))⟩,
 ⟨some 102, .bin .neq (some .int) (.slot 101) (.lit (.int .i64 1)), (some (95, true))⟩,
 ⟨some 103, .mov (.slot 102), (some (95, true))⟩,
 ⟨some 104, .mov (.slot 10), (some (103, false))⟩,
 ⟨some 105, .faddr 0 (.slot 8), (some (103, false))⟩,
 ⟨some 106, .load 1 false (.slot 105), (some (103, false))⟩,
 ⟨some 107, .mov (.slot 12), (some (103, false))⟩,
 ⟨some 108, .iaddr (.arr 4 17 true) (.slot 6) (.slot 106), (some (103, false))⟩,
 ⟨some 109, .iaddr (.arr 17 1 false) (.slot 108) (.slot 107), (some (103, false))⟩,
 ⟨some 110, .load 1 false (.slot 109), (some (103, false))⟩,
 ⟨some 111, .bin .neq (some .str) (.slot 104) (.slot 110), (some (103, false))⟩,
 ⟨some 112, .pick (.slot 103) (.lit (.bool true)) (.slot 111), (some (95, true))⟩,
 ⟨some 113, .mov (.slot 112), (some (95, true))⟩,
 ⟨some 114, .faddr 1 (.slot 8), (some (113, false))⟩,
 ⟨some 115, .load 1 false (.slot 114), (some (113, false))⟩,
 ⟨some 116, .mov (.slot 9), (some (113, false))⟩,
 ⟨some 117, .bin .neq (some .int) (.slot 115) (.slot 116), (some (113, false))⟩,
 ⟨some 118, .pick (.slot 113) (.lit (.bool true)) (.slot 117), (some (95, true))⟩,
 ⟨some 119, .pick (.slot 95) (.slot 118) (.lit (.bool false)), none⟩,
 ⟨some 120, .mov (.slot 119), none⟩,
 ⟨some 121, .mov (.slot 11), (some (120, false))⟩,
 ⟨some 122, .bin .eql (some .int) (.slot 121) (.lit (.int .i64 24)), (some (120, false))⟩,
 ⟨some 123, .mov (.slot 122), (some (120, false))⟩,
 ⟨some 124, .faddr 1 (.slot 8), (some (123, true))⟩,
 ⟨some 125, .load 1 false (.slot 124), (some (123, true))⟩,
 ⟨some 126, .mov (.slot 9), (some (123, true))⟩,
 ⟨some 127, .bin .geq none (.slot 125) (.slot 126), (some (123, true))⟩,
 ⟨some 128, .pick (.slot 123) (.slot 127) (.lit (.bool false)), (some (120, false))⟩,
 ⟨some 129, .pick (.slot 120) (.lit (.bool true)) (.slot 128), none⟩] [0, 3, 4, 5, 6, 7, 11, 129] true)
 (.cond (.slot 129)
 (.seq
 (.reg [
 ⟨some 2, .mov (.lit (.bool false)), none⟩] [2] false)
 .ret)
 .skip))
 (.seq
 (.reg [
 ⟨some 130, .mov (.slot 11), none⟩,
 ⟨some 131, .bin .neq (some .int) (.slot 130) (.lit (.int .i64 0)), none⟩,
 ⟨some 132, .mov (.slot 131), none⟩,
 ⟨some 133, .mov (.slot 11), (some (132, true))⟩,
 ⟨some 134, .bin .neq (some .int) (.slot 133) (.lit (.int .i64 14)), (some (132, true))⟩,
 ⟨some 135, .pick (.slot 132) (.slot 134) (.lit (.bool false)), none⟩,
 ⟨some 136, .mov (.slot 135), none⟩,
 ⟨some 137, .mov (.slot 11), (some (136, true))⟩,
 ⟨some 138, .bin .neq (some .int) (.slot 137) (.lit (.int .i64 24)), (some (136, true))⟩,
 ⟨some 139, .pick (.slot 136) (.slot 138) (.lit (.bool false)), none⟩,
 ⟨some 140, .mov (.slot 139), none⟩,
 ⟨some 141, .mov (.slot 4), (some (140, false))⟩,
 ⟨some 142, .call (.lit (.func (.func 19) [] [])) [(.slot 141)], (some (140, false))⟩,
 ⟨some 143, .un .not (.slot 142), (some (140, false))⟩,
 ⟨some 144, .pick (.slot 140) (.lit (.bool true)) (.slot 143), none⟩,
 ⟨some 145, .mov (.slot 144), none⟩,
 ⟨some 146, .mov (.slot 4), (some (145, false))⟩,
 ⟨some 147, .len (.slice 3) (.slot 146), (some (145, false))⟩,
 ⟨some 148, .bin .gtr none (.slot 147) (.lit (.int .i64 3)), (some (145, false))⟩,
 ⟨some 149, .pick (.slot 145) (.lit (.bool true)) (.slot 148), none⟩] [0, 3, 4, 5, 6, 7, 149] false)
 (.cond (.slot 149)
 (.seq
 (.reg [
 ⟨some 2, .mov (.lit (.bool false)), none⟩] [2] false)
 .ret)
 .skip)))))))))
 (.reg [
 ⟨some 22, .mov (.slot 7), none⟩,
 ⟨some 23, .bin .add none (.slot 22) (.lit (.int .i64 1)), none⟩,
 ⟨some 7, .mov (.slot 23), none⟩] [0, 3, 4, 5, 6, 7] false)))
def ic4 : IC :=
 (.seq
 (.reg [
 ⟨some 2, .mov (.lit (.bool false)), none⟩] [0] false)
 (.seq
 (.reg [
 ⟨some 13, .call (.lit (.func (.func 9) [] [])) [], none⟩,
 ⟨some 3, .mov (.slot 13), none⟩] [0, 3] false)
 (.seq
 (.reg [
 ⟨some 4, .mov (.lit (.slice true 0 [] .full)), none⟩] [0, 3, 4] false)
 (.seq
 (.reg [
 ⟨some 5, .alloc [(.int .i64 0), (.int .i64 0), (.int .i64 0), (.int .i64 0), (.int .i64 0), (.int .i64 0), (.int .i64 0), (.int .i64 0), (.int .i64 0), (.int .i64 0), (.int .i64 0), (.int .i64 0), (.int .i64 0), (.int .i64 0), (.int .i64 0), (.int .i64 0), (.int .i64 0), (.int .i64 0), (.int .i64 0), (.int .i64 0), (.int .i64 0), (.int .i64 0), (.int .i64 0), (.int .i64 0), (.int .i64 0), (.int .i64 0), (.int .i64 0), (.int .i64 0), (.int .i64 0), (.int .i64 0), (.int .i64 0), (.int .i64 0), (.int .i64 0), (.int .i64 0), (.int .i64 0), (.int .i64 0), (.int .i64 0), (.int .i64 0), (.int .i64 0), (.int .i64 0), (.int .i64 0), (.int .i64 0), (.int .i64 0), (.int .i64 0), (.int .i64 0), (.int .i64 0), (.int .i64 0), (.int .i64 0), (.int .i64 0), (.int .i64 0), (.int .i64 0), (.int .i64 0), (.int .i64 0), (.int .i64 0), (.int .i64 0), (.int .i64 0), (.int .i64 0), (.int .i64 0), (.int .i64 0), (.int .i64 0), (.int .i64 0), (.int .i64 0), (.int .i64 0), (.int .i64 0), (.int .i64 0), (.int .i64 0), (.int .i64 0), (.int .i64 0)], none⟩] [0, 3, 4, 5] false)
 (.seq
 (.reg [
 ⟨some 6, .alloc [(.str ⟨#[]⟩), (.str ⟨#[]⟩), (.str ⟨#[]⟩), (.str ⟨#[]⟩), (.str ⟨#[]⟩), (.str ⟨#[]⟩), (.str ⟨#[]⟩), (.str ⟨#[]⟩), (.str ⟨#[]⟩), (.str ⟨#[]⟩), (.str ⟨#[]⟩), (.str ⟨#[]⟩), (.str ⟨#[]⟩), (.str ⟨#[]⟩), (.str ⟨#[]⟩), (.str ⟨#[]⟩), (.str ⟨#[]⟩), (.str ⟨#[]⟩), (.str ⟨#[]⟩), (.str ⟨#[]⟩), (.str ⟨#[]⟩), (.str ⟨#[]⟩), (.str ⟨#[]⟩), (.str ⟨#[]⟩), (.str ⟨#[]⟩), (.str ⟨#[]⟩), (.str ⟨#[]⟩), (.str ⟨#[]⟩), (.str ⟨#[]⟩), (.str ⟨#[]⟩), (.str ⟨#[]⟩), (.str ⟨#[]⟩), (.str ⟨#[]⟩), (.str ⟨#[]⟩), (.str ⟨#[]⟩), (.str ⟨#[]⟩), (.str ⟨#[]⟩), (.str ⟨#[]⟩), (.str ⟨#[]⟩), (.str ⟨#[]⟩), (.str ⟨#[]⟩), (.str ⟨#[]⟩), (.str ⟨#[]⟩), (.str ⟨#[]⟩), (.str ⟨#[]⟩), (.str ⟨#[]⟩), (.str ⟨#[]⟩), (.str ⟨#[]⟩), (.str ⟨#[]⟩), (.str ⟨#[]⟩), (.str ⟨#[]⟩), (.str ⟨#[]⟩), (.str ⟨#[]⟩), (.str ⟨#[]⟩), (.str ⟨#[]⟩), (.str ⟨#[]⟩), (.str ⟨#[]⟩), (.str ⟨#[]⟩), (.str ⟨#[]⟩), (.str ⟨#[]⟩), (.str ⟨#[]⟩), (.str ⟨#[]⟩), (.str ⟨#[]⟩), (.str ⟨#[]⟩), (.str ⟨#[]⟩), (.str ⟨#[]⟩), (.str ⟨#[]⟩), (.str ⟨#[]⟩)], none⟩] [0, 3, 4, 5, 6] false)
 (.seq
 (.seq
 (.reg [
 ⟨some 7, .mov (.lit (.int .i64 0)), none⟩] [0, 3, 4, 5, 6, 7] false)
 (.block 0
 (.loop ic4l0)))
 (.seq
 (.reg [
 ⟨some 150, .mov (.slot 3), none⟩,
 ⟨some 2, .mov (.slot 150), none⟩] [2] false)
 .ret)))))))
def ifn4 : IFn := ⟨151, [.inl 2], ic4⟩
/-- vendue/venduelaw12.SessionOwn -/
def ic5l1 : IC :=
 (.seq
 (.seq
 (.reg [
 ⟨some 68, .mov (.slot 9), none⟩,
 ⟨some 69, .bin .lss none (.slot 68) (.lit (.int .i64 16)), none⟩] [0, 3, 4, 5, 6, 7, 9, 69] false)
 (.cond (.slot 69)
 .skip
 (.exit 2)))
 (.seq
 (.block 3
 (.seq
 (.regd [] [
 (⟨some 72, .mov (.slot 4), none⟩, none),
 (⟨some 73, .mov (.slot 9), none⟩, none),
 (⟨some 74, .pcall (.lit (.func (.func 17) [] [])) [(.slot 72), (.slot 73)], none⟩, none),
 (⟨some 75, .mov (.slot 9), none⟩, none),
 (⟨some 76, .iaddr (.arr 16 1 false) (.slot 5) (.slot 75), none⟩, none),
 (⟨some 77, .load 1 false (.slot 76), none⟩, none),
 (⟨some 78, .bin .neq (some .int) (.slot 74) (.slot 77), none⟩, none)] [] [0, 3, 4, 5, 6, 7, 9, 78] false)
 (.cond (.slot 78)
 (.seq
 (.reg [
 ⟨some 2, .mov (.lit (.bool false)), none⟩] [2] false)
 .ret)
 .skip)))
 (.reg [
 ⟨some 70, .mov (.slot 9), none⟩,
 ⟨some 71, .bin .add none (.slot 70) (.lit (.int .i64 1)), none⟩,
 ⟨some 9, .mov (.slot 71), none⟩] [0, 3, 4, 5, 6, 7, 9] false)))
def ic5l0 : IC :=
 (.seq
 (.seq
 (.reg [
 ⟨some 11, .mov (.slot 7), none⟩,
 ⟨some 12, .mov (.slot 0), none⟩,
 ⟨some 13, .len (.slice 2) (.slot 12), none⟩,
 ⟨some 14, .bin .lss none (.slot 11) (.slot 13), none⟩,
 ⟨some 15, .mov (.slot 14), none⟩,
 ⟨some 16, .mov (.slot 7), (some (15, true))⟩,
 ⟨some 17, .bin .lss none (.slot 16) (.lit (.int .i64 40)), (some (15, true))⟩,
 ⟨some 18, .pick (.slot 15) (.slot 17) (.lit (.bool false)), none⟩] [0, 3, 4, 5, 6, 7, 18] false)
 (.cond (.slot 18)
 .skip
 (.exit 0)))
 (.seq
 (.block 1
 (.seq
 (.regd [[(.int .i64 0), (.int .u64 0), (.str ⟨#[]⟩)]] [
 (⟨some 21, .mov (.slot 0), none⟩, none),
 (⟨some 22, .mov (.slot 7), none⟩, none),
 (⟨some 23, .iaddr (.slice 2) (.slot 21) (.slot 22), none⟩, none),
 (⟨some 24, .iaddr (.arr 2 1 false) (.slot 23) (.lit (.int .i64 0)), none⟩, none),
 (⟨some 25, .load 1 false (.slot 24), none⟩, none),
 (⟨some 26, .bin .rem none (.slot 25) (.lit (.int .i64 15)), none⟩, none),
 (⟨some 27, .bin .add none (.slot 26) (.lit (.int .i64 15)), none⟩, none),
 (⟨some 28, .bin .rem none (.slot 27) (.lit (.int .i64 15)), none⟩, none),
 (⟨some 29, .bin .add none (.lit (.int .i64 1)) (.slot 28), none⟩, none),
 (⟨some 30, .mov (.slot 0), none⟩, none),
 (⟨some 31, .mov (.slot 7), none⟩, none),
 (⟨some 32, .iaddr (.slice 2) (.slot 30) (.slot 31), none⟩, none),
 (⟨some 33, .iaddr (.arr 2 1 false) (.slot 32) (.lit (.int .i64 1)), none⟩, none),
 (⟨some 34, .load 1 false (.slot 33), none⟩, none),
 (⟨some 35, .bin .and none (.slot 34) (.lit (.int .i64 7)), none⟩, none),
 (⟨some 36, .bin .add none (.lit (.int .i64 1)) (.slot 35), none⟩, none),
 (⟨some 37, .conv (.int .u64) (.slot 36), none⟩, none),
 (⟨some 38, .build [(.int .i64 0), (.int .u64 0), (.str ⟨#[]⟩)] [(0, 1, (.slot 29)), (1, 1, (.slot 37))], none⟩, none),
 (⟨some 8, .alloc [(.int .i64 0), (.int .u64 0), (.str ⟨#[]⟩)], none⟩, some 0),
 (⟨none, .store 3 (.slot 8) (.slot 38), none⟩, none)] [] [0, 3, 4, 5, 6, 7, 8] false)
 (.seq
 (.seq
 (.reg [
 ⟨some 39, .faddr 0 (.slot 8), none⟩,
 ⟨some 40, .load 1 false (.slot 39), none⟩,
 ⟨some 41, .iaddr (.arr 16 1 false) (.slot 5) (.slot 40), none⟩,
 ⟨some 42, .load 1 false (.slot 41), none⟩,
 ⟨some 43, .bin .eql (some .int) (.slot 42) (.lit (.int .u64 0)), none⟩] [0, 3, 4, 5, 6, 7, 8, 43] false)
 (.cond (.slot 43)
 (.reg [
 ⟨some 44, .mov (.slot 6), none⟩,
 ⟨some 45, .bin .add none (.slot 44) (.lit (.int .i64 1)), none⟩,
 ⟨some 6, .mov (.slot 45), none⟩] [0, 3, 4, 5, 6, 7, 8] false)
 .skip))
 (.seq
 (.regd [] [
 (⟨some 46, .faddr 0 (.slot 8), none⟩, none),
 (⟨some 47, .load 1 false (.slot 46), none⟩, none),
 (⟨some 48, .faddr 0 (.slot 8), none⟩, none),
 (⟨some 49, .load 1 false (.slot 48), none⟩, none),
 (⟨some 50, .iaddr (.arr 16 1 false) (.slot 5) (.slot 49), none⟩, none),
 (⟨some 51, .load 1 false (.slot 50), none⟩, none),
 (⟨some 52, .faddr 1 (.slot 8), none⟩, none),
 (⟨some 53, .load 1 false (.slot 52), none⟩, none),
 (⟨some 54, .minmax true [(.slot 51), (.slot 53)], none⟩, none),
 (⟨some 55, .iaddr (.arr 16 1 false) (.slot 5) (.slot 47), none⟩, none),
 (⟨none, .store 1 (.slot 55) (.slot 54), none⟩, none)] [] [0, 3, 4, 5, 6, 7, 8] false)
 (.seq
 (.reg [
 ⟨some 56, .mov (.slot 4), none⟩,
 ⟨some 57, .load 3 true (.slot 8), none⟩,
 ⟨some 58, .call (.lit (.func (.func 15) [] [])) [(.slot 56), (.slot 57), (.lit (.str (bs [114])))], none⟩,
 ⟨some 4, .mov (.slot 58), none⟩] [0, 3, 4, 5, 6, 7] true)
 (.seq
 (.seq
 (.reg [
 ⟨some 59, .mov (.slot 4), none⟩,
 ⟨some 60, .len (.slice 3) (.slot 59), none⟩,
 ⟨some 61, .mov (.slot 6), none⟩,
 ⟨some 62, .bin .neq (some .int) (.slot 60) (.slot 61), none⟩,
 ⟨some 63, .mov (.slot 62), none⟩,
 ⟨some 64, .mov (.slot 4), (some (63, false))⟩,
 ⟨some 65, .call (.lit (.func (.func 19) [] [])) [(.slot 64)], (some (63, false))⟩,
 ⟨some 66, .un .not (.slot 65), (some (63, false))⟩,
 ⟨some 67, .pick (.slot 63) (.lit (.bool true)) (.slot 66), none⟩] [0, 3, 4, 5, 6, 7, 67] false)
 (.cond (.slot 67)
 (.seq
 (.reg [
 ⟨some 2, .mov (.lit (.bool false)), none⟩] [2] false)
 .ret)
 .skip))
 (.seq
 (.reg [
 ⟨some 9, .mov (.lit (.int .i64 0)), none⟩] [0, 3, 4, 5, 6, 7, 9] false)
 (.block 2
 (.loop ic5l1)))))))))
 (.reg [
 ⟨some 19, .mov (.slot 7), none⟩,
 ⟨some 20, .bin .add none (.slot 19) (.lit (.int .i64 1)), none⟩,
 ⟨some 7, .mov (.slot 20), none⟩] [0, 3, 4, 5, 6, 7] false)))
def ic5 : IC :=
 (.seq
 (.reg [
 ⟨some 2, .mov (.lit (.bool false)), none⟩] [0] false)
 (.seq
 (.reg [
 ⟨some 10, .call (.lit (.func (.func 9) [] [])) [], none⟩,
 ⟨some 3, .mov (.slot 10), none⟩] [0, 3] false)
 (.seq
 (.reg [
 ⟨some 4, .mov (.lit (.slice true 0 [] .full)), none⟩] [0, 3, 4] false)
 (.seq
 (.reg [
 ⟨some 5, .alloc [(.int .u64 0), (.int .u64 0), (.int .u64 0), (.int .u64 0), (.int .u64 0), (.int .u64 0), (.int .u64 0), (.int .u64 0), (.int .u64 0), (.int .u64 0), (.int .u64 0), (.int .u64 0), (.int .u64 0), (.int .u64 0), (.int .u64 0), (.int .u64 0)], none⟩] [0, 3, 4, 5] false)
 (.seq
 (.reg [
 ⟨some 6, .mov (.lit (.int .i64 0)), none⟩] [0, 3, 4, 5, 6] false)
 (.seq
 (.seq
 (.reg [
 ⟨some 7, .mov (.lit (.int .i64 0)), none⟩] [0, 3, 4, 5, 6, 7] false)
 (.block 0
 (.loop ic5l0)))
 (.seq
 (.reg [
 ⟨some 79, .mov (.slot 3), none⟩,
 ⟨some 2, .mov (.slot 79), none⟩] [2] false)
 .ret)))))))
def ifn5 : IFn := ⟨80, [.inl 2], ic5⟩
/-- vendue/venduelaw12.SessionFar -/
def ic6 : IC :=
 (.seq
 (.reg [
 ⟨some 6, .mov (.lit (.bool false)), none⟩] [0, 1, 2] false)
 (.seq
 (.reg [
 ⟨some 16, .call (.lit (.func (.func 9) [] [])) [], none⟩,
 ⟨some 7, .mov (.slot 16), none⟩] [0, 1, 2, 7] false)
 (.seq
 (.reg [
 ⟨some 17, .mov (.slot 0), none⟩,
 ⟨some 18, .bin .rem none (.slot 17) (.lit (.int .i64 15)), none⟩,
 ⟨some 19, .bin .add none (.slot 18) (.lit (.int .i64 15)), none⟩,
 ⟨some 20, .bin .rem none (.slot 19) (.lit (.int .i64 15)), none⟩,
 ⟨some 21, .bin .add none (.lit (.int .i64 1)) (.slot 20), none⟩,
 ⟨some 22, .mov (.slot 1), none⟩,
 ⟨some 23, .bin .and none (.slot 22) (.lit (.int .u64 549755813887)), none⟩,
 ⟨some 24, .bin .add none (.lit (.int .u64 1)) (.slot 23), none⟩,
 ⟨some 25, .build [(.int .i64 0), (.int .u64 0), (.str ⟨#[]⟩)] [(0, 1, (.slot 21)), (1, 1, (.slot 24))], none⟩,
 ⟨some 8, .alloc [(.int .i64 0), (.int .u64 0), (.str ⟨#[]⟩)], none⟩,
 ⟨none, .store 3 (.slot 8) (.slot 25), none⟩] [2, 7, 8] false)
 (.seq
 (.reg [
 ⟨some 26, .load 3 true (.slot 8), none⟩,
 ⟨some 9, .alloc [(.int .i64 0), (.int .u64 0), (.str ⟨#[]⟩)], none⟩,
 ⟨none, .store 3 (.slot 9) (.slot 26), none⟩] [2, 7, 8, 9] false)
 (.seq
 (.reg [
 ⟨some 27, .faddr 1 (.slot 8), none⟩,
 ⟨some 28, .load 1 false (.slot 27), none⟩,
 ⟨some 29, .mov (.slot 2), none⟩,
 ⟨some 30, .bin .and none (.slot 29) (.lit (.int .u64 549755813887)), none⟩,
 ⟨some 31, .bin .add none (.slot 28) (.slot 30), none⟩,
 ⟨some 32, .faddr 1 (.slot 9), none⟩,
 ⟨none, .store 1 (.slot 32) (.slot 31), none⟩] [7, 8, 9] false)
 (.seq
 (.reg [
 ⟨some 33, .load 3 true (.slot 8), none⟩,
 ⟨some 34, .call (.lit (.func (.func 15) [] [])) [(.lit (.slice true 0 [] .full)), (.slot 33), (.lit (.str (bs [97])))], none⟩,
 ⟨some 10, .mov (.slot 34), none⟩] [7, 8, 9, 10] false)
 (.seq
 (.reg [
 ⟨some 36, .mov (.slot 10), none⟩,
 ⟨some 37, .load 3 true (.slot 9), none⟩,
 ⟨some 38, .call (.lit (.func (.func 12) [] [])) [(.slot 36), (.slot 37)], none⟩,
 ⟨some 35, .mov (.slot 38), none⟩,
 ⟨some 39, .extract (.slot 35) 0, none⟩,
 ⟨some 40, .extract (.slot 35) 1, none⟩,
 ⟨some 11, .mov (.slot 39), none⟩,
 ⟨some 12, .mov (.slot 40), none⟩] [7, 8, 9, 10, 12] false)
 (.seq
 (.reg [
 ⟨some 41, .mov (.slot 10), none⟩,
 ⟨some 42, .load 3 true (.slot 9), none⟩,
 ⟨some 43, .call (.lit (.func (.func 15) [] [])) [(.slot 41), (.slot 42), (.lit (.str (bs [98])))], none⟩,
 ⟨some 13, .mov (.slot 43), none⟩] [7, 8, 9, 12, 13] false)
 (.seq
 (.reg [
 ⟨some 45, .mov (.slot 13), none⟩,
 ⟨some 46, .load 3 true (.slot 8), none⟩,
 ⟨some 47, .call (.lit (.func (.func 12) [] [])) [(.slot 45), (.slot 46)], none⟩,
 ⟨some 44, .mov (.slot 47), none⟩,
 ⟨some 48, .extract (.slot 44) 0, none⟩,
 ⟨some 49, .extract (.slot 44) 1, none⟩,
 ⟨some 14, .mov (.slot 48), none⟩,
 ⟨some 15, .mov (.slot 49), none⟩] [7, 8, 9, 12, 13, 15] false)
 (.seq
 (.seq
 (.reg [
 ⟨some 50, .faddr 1 (.slot 9), none⟩,
 ⟨some 51, .load 1 false (.slot 50), none⟩,
 ⟨some 52, .faddr 1 (.slot 8), none⟩,
 ⟨some 53, .load 1 false (.slot 52), none⟩,
 ⟨some 54, .bin .eql (some .int) (.slot 51) (.slot 53), none⟩] [7, 8, 9, 12, 13, 15, 54] false)
 (.cond (.slot 54)
 (.seq
 (.regd [] [
 (⟨some 55, .mov (.slot 7), none⟩, none),
 (⟨some 56, .mov (.slot 55), none⟩, none),
 (⟨some 57, .mov (.slot 12), (some (56, true))⟩, none),
 (⟨some 58, .bin .eql (some .int) (.slot 57) (.lit (.int .i64 14)), (some (56, true))⟩, none),
 (⟨some 59, .pick (.slot 56) (.slot 58) (.lit (.bool false)), none⟩, none),
 (⟨some 60, .mov (.slot 59), none⟩, none),
 (⟨some 61, .mov (.slot 15), (some (60, true))⟩, none),
 (⟨some 62, .bin .eql (some .int) (.slot 61) (.lit (.int .i64 14)), (some (60, true))⟩, none),
 (⟨some 63, .pick (.slot 60) (.slot 62) (.lit (.bool false)), none⟩, none),
 (⟨some 64, .mov (.slot 63), none⟩, none),
 (⟨some 65, .mov (.slot 13), (some (64, true))⟩, none),
 (⟨some 66, .faddr 0 (.slot 8), (some (64, true))⟩, none),
 (⟨some 67, .load 1 false (.slot 66), (some (64, true))⟩, none),
 (⟨some 68, .pcall (.lit (.func (.func 17) [] [])) [(.slot 65), (.slot 67)], (some (64, true))⟩, none),
 (⟨some 69, .faddr 1 (.slot 8), (some (64, true))⟩, none),
 (⟨some 70, .load 1 false (.slot 69), (some (64, true))⟩, none),
 (⟨some 71, .bin .eql (some .int) (.slot 68) (.slot 70), (some (64, true))⟩, none),
 (⟨some 72, .pick (.slot 64) (.slot 71) (.lit (.bool false)), none⟩, none),
 (⟨some 6, .mov (.slot 72), none⟩, none)] [] [6] true)
 .ret)
 .skip))
 (.seq
 (.regd [] [
 (⟨some 73, .mov (.slot 7), none⟩, none),
 (⟨some 74, .mov (.slot 73), none⟩, none),
 (⟨some 75, .mov (.slot 12), (some (74, true))⟩, none),
 (⟨some 76, .bin .eql (some .int) (.slot 75) (.lit (.int .i64 0)), (some (74, true))⟩, none),
 (⟨some 77, .pick (.slot 74) (.slot 76) (.lit (.bool false)), none⟩, none),
 (⟨some 78, .mov (.slot 77), none⟩, none),
 (⟨some 79, .mov (.slot 15), (some (78, true))⟩, none),
 (⟨some 80, .bin .eql (some .int) (.slot 79) (.lit (.int .i64 24)), (some (78, true))⟩, none),
 (⟨some 81, .pick (.slot 78) (.slot 80) (.lit (.bool false)), none⟩, none),
 (⟨some 82, .mov (.slot 81), none⟩, none),
 (⟨some 83, .mov (.slot 13), (some (82, true))⟩, none),
 (⟨some 84, .faddr 0 (.slot 8), (some (82, true))⟩, none),
 (⟨some 85, .load 1 false (.slot 84), (some (82, true))⟩, none),
 (⟨some 86, .pcall (.lit (.func (.func 17) [] [])) [(.slot 83), (.slot 85)], (some (82, true))⟩, none),
 (⟨some 87, .faddr 1 (.slot 9), (some (82, true))⟩, none),
 (⟨some 88, .load 1 false (.slot 87), (some (82, true))⟩, none),
 (⟨some 89, .bin .eql (some .int) (.slot 86) (.slot 88), (some (82, true))⟩, none),
 (⟨some 90, .pick (.slot 82) (.slot 89) (.lit (.bool false)), none⟩, none),
 (⟨some 91, .mov (.slot 90), none⟩, none),
 (⟨some 92, .mov (.slot 13), (some (91, true))⟩, none),
 (⟨some 93, .len (.slice 3) (.slot 92), (some (91, true))⟩, none),
 (⟨some 94, .bin .eql (some .int) (.slot 93) (.lit (.int .i64 1)), (some (91, true))⟩, none),
 (⟨some 95, .pick (.slot 91) (.slot 94) (.lit (.bool false)), none⟩, none),
 (⟨some 6, .mov (.slot 95), none⟩, none)] [] [6] true)
 .ret)))))))))))
def ifn6 : IFn := ⟨96, [.inl 6], ic6⟩
/-- vendue/venduelaw12.SessionWrites -/
def ic7 : IC :=
 (.seq
 (.reg [
 ⟨some 3, .box (.slot 0), none⟩,
 ⟨some 5, .box (.slot 2), none⟩,
 ⟨some 6, .mov (.lit (.bool false)), none⟩] [1, 3, 5] false)
 (.seq
 (.reg [
 ⟨some 15, .call (.lit (.func (.func 9) [] [])) [], none⟩,
 ⟨some 7, .mov (.slot 15), none⟩] [1, 3, 5, 7] false)
 (.seq
 (.reg [
 ⟨some 16, .faddr 2 (.slot 3), none⟩,
 ⟨some 17, .load 1 false (.slot 16), none⟩,
 ⟨some 18, .call (.lit (.func (.func 11) [] [])) [(.slot 17), (.lit (.int .i64 52))], none⟩,
 ⟨some 19, .faddr 2 (.slot 3), none⟩,
 ⟨none, .store 1 (.slot 19) (.slot 18), none⟩] [1, 3, 5, 7] false)
 (.seq
 (.reg [
 ⟨some 20, .faddr 3 (.slot 5), none⟩,
 ⟨some 21, .load 1 false (.slot 20), none⟩,
 ⟨some 22, .call (.lit (.func (.func 11) [] [])) [(.slot 21), (.lit (.int .i64 80))], none⟩,
 ⟨some 8, .mov (.slot 22), none⟩] [1, 3, 5, 7, 8] false)
 (.seq
 (.seq
 (.reg [
 ⟨some 23, .faddr 0 (.slot 5), none⟩,
 ⟨some 24, .load 1 false (.slot 23), none⟩,
 ⟨some 25, .bin .and none (.slot 24) (.lit (.int .i64 3)), none⟩,
 ⟨some 26, .bin .neq (some .int) (.slot 25) (.lit (.int .i64 0)), none⟩] [1, 3, 5, 7, 8, 26] false)
 (.cond (.slot 26)
 (.seq
 (.reg [
 ⟨some 27, .load 3 true (.slot 3), none⟩,
 ⟨some 28, .call (.lit (.func (.func 20) [] [])) [(.slot 27)], none⟩,
 ⟨some 29, .conv .toBytes (.slot 28), none⟩,
 ⟨some 9, .mov (.slot 29), none⟩] [1, 3, 5, 7, 8, 9] false)
 (.seq
 (.reg [
 ⟨some 30, .mov (.slot 9), none⟩,
 ⟨some 31, .len (.slice 1) (.slot 30), none⟩,
 ⟨some 32, .bin .gtr none (.slot 31) (.lit (.int .i64 0)), none⟩] [1, 3, 5, 7, 8, 9, 32] false)
 (.cond (.slot 32)
 (.seq
 (.reg [
 ⟨some 33, .faddr 1 (.slot 5), none⟩,
 ⟨some 34, .load 1 false (.slot 33), none⟩,
 ⟨some 35, .mov (.slot 9), none⟩,
 ⟨some 36, .len (.slice 1) (.slot 35), none⟩,
 ⟨some 37, .bin .rem none (.slot 34) (.slot 36), none⟩,
 ⟨some 38, .mov (.slot 9), none⟩,
 ⟨some 39, .len (.slice 1) (.slot 38), none⟩,
 ⟨some 40, .bin .add none (.slot 37) (.slot 39), none⟩,
 ⟨some 41, .mov (.slot 9), none⟩,
 ⟨some 42, .len (.slice 1) (.slot 41), none⟩,
 ⟨some 43, .bin .rem none (.slot 40) (.slot 42), none⟩,
 ⟨some 10, .mov (.slot 43), none⟩] [1, 3, 5, 7, 9, 10] false)
 (.seq
 (.regd [] [
 (⟨some 44, .mov (.slot 9), none⟩, none),
 (⟨some 45, .mov (.slot 10), none⟩, none),
 (⟨some 46, .mov (.slot 9), none⟩, none),
 (⟨some 47, .mov (.slot 10), none⟩, none),
 (⟨some 48, .iaddr (.slice 1) (.slot 46) (.slot 47), none⟩, none),
 (⟨some 49, .load 1 false (.slot 48), none⟩, none),
 (⟨some 50, .faddr 2 (.slot 5), none⟩, none),
 (⟨some 51, .load 1 false (.slot 50), none⟩, none),
 (⟨some 52, .bin .xor none (.slot 49) (.slot 51), none⟩, none),
 (⟨some 53, .iaddr (.slice 1) (.slot 44) (.slot 45), none⟩, none),
 (⟨none, .store 1 (.slot 53) (.slot 52), none⟩, none)] [] [1, 3, 5, 7, 9, 10] false)
 (.seq
 (.reg [
 ⟨some 54, .mov (.slot 9), none⟩,
 ⟨some 55, .conv .ofBytes (.slot 54), none⟩,
 ⟨some 8, .mov (.slot 55), none⟩] [1, 3, 5, 7, 8, 10] false)
 (.seq
 (.reg [
 ⟨some 56, .faddr 0 (.slot 5), none⟩,
 ⟨some 57, .load 1 false (.slot 56), none⟩,
 ⟨some 58, .bin .and none (.slot 57) (.lit (.int .i64 3)), none⟩,
 ⟨some 59, .bin .eql (some .int) (.slot 58) (.lit (.int .i64 3)), none⟩] [1, 3, 7, 8, 10, 59] true)
 (.cond (.slot 59)
 (.reg [
 ⟨some 60, .mov (.slot 8), none⟩,
 ⟨some 61, .mov (.slot 10), none⟩,
 ⟨some 62, .sl .str (.slot 60) none (some (.slot 61)) none, none⟩,
 ⟨some 8, .mov (.slot 62), none⟩] [1, 3, 7, 8] false)
 .skip)))))
 .skip)))
 .skip))
 (.seq
 (.reg [
 ⟨some 64, .mov (.slot 8), none⟩,
 ⟨some 65, .call (.lit (.func (.func 21) [] [])) [(.slot 64)], none⟩,
 ⟨some 63, .mov (.slot 65), none⟩,
 ⟨some 66, .extract (.slot 63) 0, none⟩,
 ⟨some 67, .extract (.slot 63) 1, none⟩,
 ⟨some 11, .alloc [(.int .i64 0), (.int .u64 0), (.str ⟨#[]⟩)], none⟩,
 ⟨none, .store 3 (.slot 11) (.slot 66), none⟩,
 ⟨some 12, .mov (.slot 67), none⟩] [1, 3, 7, 8, 11, 12] false)
 (.seq
 (.reg [
 ⟨some 69, .mov (.slot 8), none⟩,
 ⟨some 70, .call (.lit (.func (.func 22) [] [])) [(.slot 69)], none⟩,
 ⟨some 68, .mov (.slot 70), none⟩,
 ⟨some 71, .extract (.slot 68) 0, none⟩,
 ⟨some 72, .extract (.slot 68) 1, none⟩,
 ⟨some 13, .alloc [(.int .i64 0), (.int .u64 0), (.str ⟨#[]⟩)], none⟩,
 ⟨none, .store 3 (.slot 13) (.slot 71), none⟩,
 ⟨some 14, .mov (.slot 72), none⟩] [1, 3, 7, 11, 12, 13, 14] false)
 (.seq
 (.regd [] [
 (⟨some 73, .mov (.slot 7), none⟩, none),
 (⟨some 74, .mov (.slot 73), none⟩, none),
 (⟨some 75, .load 3 true (.slot 3), (some (74, true))⟩, none),
 (⟨some 76, .pcall (.lit (.func (.func 23) [] [])) [(.slot 75)], (some (74, true))⟩, none),
 (⟨some 77, .load 3 true (.slot 3), (some (74, true))⟩, none),
 (⟨some 78, .pcall (.lit (.func (.func 24) [] [])) [(.slot 77)], (some (74, true))⟩, none),
 (⟨some 79, .bin .eql (some .bool) (.slot 76) (.slot 78), (some (74, true))⟩, none),
 (⟨some 80, .pick (.slot 74) (.slot 79) (.lit (.bool false)), none⟩, none),
 (⟨some 81, .mov (.slot 80), none⟩, none),
 (⟨some 82, .load 3 true (.slot 3), (some (81, true))⟩, none),
 (⟨some 83, .pcall (.lit (.func (.func 25) [] [])) [(.slot 82)], (some (81, true))⟩, none),
 (⟨some 84, .load 3 true (.slot 3), (some (81, true))⟩, none),
 (⟨some 85, .pcall (.lit (.func (.func 20) [] [])) [(.slot 84)], (some (81, true))⟩, none),
 (⟨some 86, .bin .eql (some .str) (.slot 83) (.slot 85), (some (81, true))⟩, none),
 (⟨some 87, .pick (.slot 81) (.slot 86) (.lit (.bool false)), none⟩, none),
 (⟨some 88, .mov (.slot 87), none⟩, none),
 (⟨some 89, .mov (.slot 1), (some (88, true))⟩, none),
 (⟨some 90, .pcall (.lit (.func (.func 10) [] [])) [(.slot 89)], (some (88, true))⟩, none),
 (⟨some 91, .pcall (.lit (.func (.func 19) [] [])) [(.slot 90)], (some (88, true))⟩, none),
 (⟨some 92, .mov (.slot 1), (some (88, true))⟩, none),
 (⟨some 93, .pcall (.lit (.func (.func 10) [] [])) [(.slot 92)], (some (88, true))⟩, none),
 (⟨some 94, .pcall (.lit (.func (.func 26) [] [])) [(.slot 93)], (some (88, true))⟩, none),
 (⟨some 95, .bin .eql (some .bool) (.slot 91) (.slot 94), (some (88, true))⟩, none),
 (⟨some 96, .pick (.slot 88) (.slot 95) (.lit (.bool false)), none⟩, none),
 (⟨some 97, .mov (.slot 96), none⟩, none),
 (⟨some 98, .load 3 true (.slot 11), (some (97, true))⟩, none),
 (⟨some 99, .load 3 true (.slot 13), (some (97, true))⟩, none),
 (⟨some 100, .bin .eql (some (.struct [(0, 1, false, .int), (1, 1, false, .int), (2, 1, false, .str)])) (.slot 98) (.slot 99), (some (97, true))⟩, none),
 (⟨some 101, .pick (.slot 97) (.slot 100) (.lit (.bool false)), none⟩, none),
 (⟨some 102, .mov (.slot 101), none⟩, none),
 (⟨some 103, .mov (.slot 12), (some (102, true))⟩, none),
 (⟨some 104, .mov (.slot 14), (some (102, true))⟩, none),
 (⟨some 105, .bin .eql (some .int) (.slot 103) (.slot 104), (some (102, true))⟩, none),
 (⟨some 106, .pick (.slot 102) (.slot 105) (.lit (.bool false)), none⟩, none),
 (⟨some 6, .mov (.slot 106), none⟩, none)] [] [6] true)
 .ret))))))))
def ifn7 : IFn := ⟨107, [.inl 6], ic7⟩
/-- vendue/venduelaw12.SessionBack -/
def ic8 : IC :=
 (.seq
 (.reg [
 ⟨some 2, .box (.slot 0), none⟩,
 ⟨some 4, .mov (.lit (.bool false)), none⟩] [1, 2] false)
 (.seq
 (.reg [
 ⟨some 12, .call (.lit (.func (.func 9) [] [])) [], none⟩,
 ⟨some 5, .mov (.slot 12), none⟩] [1, 2, 5] false)
 (.seq
 (.reg [
 ⟨some 13, .faddr 2 (.slot 2), none⟩,
 ⟨some 14, .load 1 false (.slot 13), none⟩,
 ⟨some 15, .call (.lit (.func (.func 11) [] [])) [(.slot 14), (.lit (.int .i64 50))], none⟩,
 ⟨some 16, .faddr 2 (.slot 2), none⟩,
 ⟨none, .store 1 (.slot 16) (.slot 15), none⟩] [1, 2, 5] false)
 (.seq
 (.reg [
 ⟨some 17, .load 3 true (.slot 2), none⟩,
 ⟨some 18, .call (.lit (.func (.func 25) [] [])) [(.slot 17)], none⟩,
 ⟨some 6, .mov (.slot 18), none⟩] [1, 2, 5, 6] false)
 (.seq
 (.reg [
 ⟨some 20, .mov (.slot 6), none⟩,
 ⟨some 21, .call (.lit (.func (.func 21) [] [])) [(.slot 20)], none⟩,
 ⟨some 19, .mov (.slot 21), none⟩,
 ⟨some 22, .extract (.slot 19) 0, none⟩,
 ⟨some 23, .extract (.slot 19) 1, none⟩,
 ⟨some 7, .alloc [(.int .i64 0), (.int .u64 0), (.str ⟨#[]⟩)], none⟩,
 ⟨none, .store 3 (.slot 7) (.slot 22), none⟩,
 ⟨some 8, .mov (.slot 23), none⟩] [1, 2, 5, 6, 7, 8] false)
 (.seq
 (.reg [
 ⟨some 25, .mov (.slot 6), none⟩,
 ⟨some 26, .mov (.slot 1), none⟩,
 ⟨some 27, .bslice 1 (.int .u8 0) 1 [(0, (.slot 26))], none⟩,
 ⟨some 28, .conv .ofBytes (.slot 27), none⟩,
 ⟨some 29, .bin .add none (.slot 25) (.slot 28), none⟩,
 ⟨some 30, .call (.lit (.func (.func 21) [] [])) [(.slot 29)], none⟩,
 ⟨some 24, .mov (.slot 30), none⟩,
 ⟨some 31, .extract (.slot 24) 0, none⟩,
 ⟨some 32, .extract (.slot 24) 1, none⟩,
 ⟨some 9, .alloc [(.int .i64 0), (.int .u64 0), (.str ⟨#[]⟩)], none⟩,
 ⟨none, .store 3 (.slot 9) (.slot 31), none⟩,
 ⟨some 10, .mov (.slot 32), none⟩] [2, 5, 6, 7, 8, 10] true)
 (.seq
 (.reg [
 ⟨some 33, .load 3 true (.slot 2), none⟩,
 ⟨some 34, .call (.lit (.func (.func 24) [] [])) [(.slot 33)], none⟩,
 ⟨some 11, .mov (.slot 34), none⟩] [2, 5, 6, 7, 8, 10, 11] false)
 (.seq
 (.reg [
 ⟨some 35, .mov (.slot 5), none⟩,
 ⟨some 36, .mov (.slot 35), none⟩,
 ⟨some 37, .mov (.slot 11), (some (36, true))⟩,
 ⟨some 38, .mov (.slot 37), (some (36, true))⟩,
 ⟨some 39, .mov (.slot 8), (some (38, true))⟩,
 ⟨some 40, .bin .eql (some .int) (.slot 39) (.lit (.int .i64 0)), (some (38, true))⟩,
 ⟨some 41, .pick (.slot 38) (.slot 40) (.lit (.bool false)), (some (36, true))⟩,
 ⟨some 42, .mov (.slot 41), (some (36, true))⟩,
 ⟨some 43, .load 3 true (.slot 7), (some (42, true))⟩,
 ⟨some 44, .load 3 true (.slot 2), (some (42, true))⟩,
 ⟨some 45, .bin .eql (some (.struct [(0, 1, false, .int), (1, 1, false, .int), (2, 1, false, .str)])) (.slot 43) (.slot 44), (some (42, true))⟩,
 ⟨some 46, .pick (.slot 42) (.slot 45) (.lit (.bool false)), (some (36, true))⟩,
 ⟨some 47, .mov (.slot 46), (some (36, true))⟩,
 ⟨some 48, .mov (.slot 10), (some (47, true))⟩,
 ⟨some 49, .bin .eql (some .int) (.slot 48) (.lit (.int .i64 10)), (some (47, true))⟩,
 ⟨some 50, .pick (.slot 47) (.slot 49) (.lit (.bool false)), (some (36, true))⟩,
 ⟨some 51, .mov (.slot 50), (some (36, true))⟩,
 ⟨some 52, .mov (.slot 6), (some (51, true))⟩,
 ⟨some 53, .len .str (.slot 52), (some (51, true))⟩,
 ⟨some 54, .bin .leq none (.slot 53) (.lit (.int .i64 60)), (some (51, true))⟩,
 ⟨some 55, .pick (.slot 51) (.slot 54) (.lit (.bool false)), (some (36, true))⟩,
 ⟨some 56, .mov (.slot 55), (some (36, true))⟩,
 ⟨some 57, .mov (.slot 11), (some (56, false))⟩,
 ⟨some 58, .un .not (.slot 57), (some (56, false))⟩,
 ⟨some 59, .mov (.slot 58), (some (56, false))⟩,
 ⟨some 60, .mov (.slot 6), (some (59, true))⟩,
 ⟨some 61, .bin .eql (some .str) (.slot 60) (.lit (.str (bs []))), (some (59, true))⟩,
 ⟨some 62, .pick (.slot 59) (.slot 61) (.lit (.bool false)), (some (56, false))⟩,
 ⟨some 63, .mov (.slot 62), (some (56, false))⟩,
 ⟨some 64, .mov (.slot 8), (some (63, true))⟩,
 ⟨some 65, .bin .eql (some .int) (.slot 64) (.lit (.int .i64 10)), (some (63, true))⟩,
 ⟨some 66, .pick (.slot 63) (.slot 65) (.lit (.bool false)), (some (56, false))⟩,
 ⟨some 67, .pick (.slot 56) (.lit (.bool true)) (.slot 66), (some (36, true))⟩,
 ⟨some 68, .pick (.slot 36) (.slot 67) (.lit (.bool false)), none⟩,
 ⟨some 4, .mov (.slot 68), none⟩] [4] true)
 .ret))))))))
def ifn8 : IFn := ⟨69, [.inl 4], ic8⟩
/-- vendue/venduelaw12.awake -/
def ic9 : IC :=
 (.seq
 (.reg [
 ⟨some 0, .mov (.lit (.bool false)), none⟩] [] false)
 (.seq
 (.reg [
 ⟨some 4, .build [(.int .i64 0), (.int .u64 0), (.str ⟨#[]⟩)] [(0, 1, (.lit (.int .i64 1))), (1, 1, (.lit (.int .u64 5)))], none⟩,
 ⟨some 5, .call (.lit (.func (.func 15) [] [])) [(.lit (.slice true 0 [] .full)), (.slot 4), (.lit (.str (bs [111, 107])))], none⟩,
 ⟨some 1, .mov (.slot 5), none⟩] [1] false)
 (.seq
 (.reg [
 ⟨some 7, .mov (.slot 1), none⟩,
 ⟨some 8, .build [(.int .i64 0), (.int .u64 0), (.str ⟨#[]⟩)] [(0, 1, (.lit (.int .i64 1))), (1, 1, (.lit (.int .u64 5)))], none⟩,
 ⟨some 9, .call (.lit (.func (.func 12) [] [])) [(.slot 7), (.slot 8)], none⟩,
 ⟨some 6, .mov (.slot 9), none⟩,
 ⟨some 10, .extract (.slot 6) 0, none⟩,
 ⟨some 11, .extract (.slot 6) 1, none⟩,
 ⟨some 2, .mov (.slot 10), none⟩,
 ⟨some 3, .mov (.slot 11), none⟩] [1, 2, 3] false)
 (.seq
 (.reg [
 ⟨some 12, .mov (.slot 2), none⟩,
 ⟨some 13, .bin .eql (some .str) (.slot 12) (.lit (.str (bs [111, 107]))), none⟩,
 ⟨some 14, .mov (.slot 13), none⟩,
 ⟨some 15, .mov (.slot 3), (some (14, true))⟩,
 ⟨some 16, .bin .eql (some .int) (.slot 15) (.lit (.int .i64 14)), (some (14, true))⟩,
 ⟨some 17, .pick (.slot 14) (.slot 16) (.lit (.bool false)), none⟩,
 ⟨some 18, .mov (.slot 17), none⟩,
 ⟨some 19, .mov (.slot 1), (some (18, true))⟩,
 ⟨some 20, .call (.lit (.func (.func 17) [] [])) [(.slot 19), (.lit (.int .i64 1))], (some (18, true))⟩,
 ⟨some 21, .bin .eql (some .int) (.slot 20) (.lit (.int .u64 5)), (some (18, true))⟩,
 ⟨some 22, .pick (.slot 18) (.slot 21) (.lit (.bool false)), none⟩,
 ⟨some 0, .mov (.slot 22), none⟩] [0] false)
 .ret))))
def ifn9 : IFn := ⟨23, [.inl 0], ic9⟩
/-- vendue/venduelaw12.few -/
def ic10l0 : IC :=
 (.seq
 (.seq
 (.reg [
 ⟨some 6, .mov (.slot 4), none⟩,
 ⟨some 7, .mov (.slot 0), none⟩,
 ⟨some 8, .len (.slice 3) (.slot 7), none⟩,
 ⟨some 9, .bin .lss none (.slot 6) (.slot 8), none⟩,
 ⟨some 10, .mov (.slot 9), none⟩,
 ⟨some 11, .mov (.slot 4), (some (10, true))⟩,
 ⟨some 12, .bin .lss none (.slot 11) (.lit (.int .i64 17)), (some (10, true))⟩,
 ⟨some 13, .pick (.slot 10) (.slot 12) (.lit (.bool false)), none⟩] [0, 3, 4, 13] false)
 (.cond (.slot 13)
 .skip
 (.exit 0)))
 (.seq
 (.block 1
 (.seq
 (.reg [
 ⟨some 16, .mov (.slot 0), none⟩,
 ⟨some 17, .mov (.slot 4), none⟩,
 ⟨some 18, .iaddr (.slice 3) (.slot 16) (.slot 17), none⟩,
 ⟨some 19, .load 3 true (.slot 18), none⟩,
 ⟨some 5, .alloc [(.int .i64 0), (.int .u64 0), (.str ⟨#[]⟩)], none⟩,
 ⟨none, .store 3 (.slot 5) (.slot 19), none⟩] [0, 3, 4, 5] false)
 (.seq
 (.seq
 (.reg [
 ⟨some 20, .faddr 2 (.slot 5), none⟩,
 ⟨some 21, .load 1 false (.slot 20), none⟩,
 ⟨some 22, .len .str (.slot 21), none⟩,
 ⟨some 23, .bin .gtr none (.slot 22) (.lit (.int .i64 42)), none⟩] [0, 3, 4, 5, 23] false)
 (.cond (.slot 23)
 (.reg [
 ⟨some 24, .faddr 2 (.slot 5), none⟩,
 ⟨some 25, .load 1 false (.slot 24), none⟩,
 ⟨some 26, .sl .str (.slot 25) none (some (.lit (.int .i64 42))) none, none⟩,
 ⟨some 27, .faddr 2 (.slot 5), none⟩,
 ⟨none, .store 1 (.slot 27) (.slot 26), none⟩] [0, 3, 4, 5] false)
 .skip))
 (.reg [
 ⟨some 28, .mov (.slot 3), none⟩,
 ⟨some 29, .load 3 true (.slot 5), none⟩,
 ⟨some 30, .bslice 3 (.agg [(.int .i64 0), (.int .u64 0), (.str ⟨#[]⟩)]) 1 [(0, (.slot 29))], none⟩,
 ⟨some 31, .append 3 32 (.slot 28) (.slot 30), none⟩,
 ⟨some 3, .mov (.slot 31), none⟩] [0, 3, 4] true))))
 (.reg [
 ⟨some 14, .mov (.slot 4), none⟩,
 ⟨some 15, .bin .add none (.slot 14) (.lit (.int .i64 1)), none⟩,
 ⟨some 4, .mov (.slot 15), none⟩] [0, 3, 4] false)))
def ic10 : IC :=
 (.seq
 (.reg [
 ⟨some 2, .mov (.lit (.slice true 0 [] .full)), none⟩] [0] false)
 (.seq
 (.reg [
 ⟨some 3, .mov (.lit (.slice true 0 [] .full)), none⟩] [0, 3] false)
 (.seq
 (.seq
 (.reg [
 ⟨some 4, .mov (.lit (.int .i64 0)), none⟩] [0, 3, 4] false)
 (.block 0
 (.loop ic10l0)))
 (.seq
 (.reg [
 ⟨some 32, .mov (.slot 3), none⟩,
 ⟨some 2, .mov (.slot 32), none⟩] [2] false)
 .ret))))
def ifn10 : IFn := ⟨33, [.inl 2], ic10⟩
/-- vendue/venduelaw12.short -/
def ic11 : IC :=
 (.seq
 (.reg [
 ⟨some 4, .mov (.lit (.str (bs []))), none⟩] [0, 1] false)
 (.seq
 (.seq
 (.reg [
 ⟨some 5, .mov (.slot 0), none⟩,
 ⟨some 6, .len .str (.slot 5), none⟩,
 ⟨some 7, .mov (.slot 1), none⟩,
 ⟨some 8, .bin .gtr none (.slot 6) (.slot 7), none⟩] [0, 1, 8] false)
 (.cond (.slot 8)
 (.seq
 (.reg [
 ⟨some 9, .mov (.slot 0), none⟩,
 ⟨some 10, .mov (.slot 1), none⟩,
 ⟨some 11, .sl .str (.slot 9) none (some (.slot 10)) none, none⟩,
 ⟨some 4, .mov (.slot 11), none⟩] [4] false)
 .ret)
 .skip))
 (.seq
 (.reg [
 ⟨some 12, .mov (.slot 0), none⟩,
 ⟨some 4, .mov (.slot 12), none⟩] [4] false)
 .ret)))
def ifn11 : IFn := ⟨13, [.inl 4], ic11⟩
/-- vendue/session.Ask -/
def ic12 : IC :=
 (.seq
 (.reg [
 ⟨some 3, .box (.slot 1), none⟩,
 ⟨some 4, .mov (.lit (.str (bs []))), none⟩,
 ⟨some 5, .mov (.lit (.int .i64 0)), none⟩] [0, 3] false)
 (.seq
 (.seq
 (.reg [
 ⟨some 8, .mov (.slot 0), none⟩,
 ⟨some 9, .call (.lit (.func (.func 19) [] [])) [(.slot 8)], none⟩,
 ⟨some 10, .un .not (.slot 9), none⟩,
 ⟨some 11, .mov (.slot 10), none⟩,
 ⟨some 12, .load 3 true (.slot 3), (some (11, false))⟩,
 ⟨some 13, .call (.lit (.func (.func 23) [] [])) [(.slot 12)], (some (11, false))⟩,
 ⟨some 14, .un .not (.slot 13), (some (11, false))⟩,
 ⟨some 15, .pick (.slot 11) (.lit (.bool true)) (.slot 14), none⟩] [0, 3, 15] false)
 (.cond (.slot 15)
 (.seq
 (.reg [
 ⟨some 4, .mov (.lit (.str (bs []))), none⟩,
 ⟨some 5, .mov (.lit (.int .i64 1)), none⟩] [4, 5] false)
 .ret)
 .skip))
 (.seq
 (.reg [
 ⟨some 17, .mov (.slot 0), none⟩,
 ⟨some 18, .faddr 0 (.slot 3), none⟩,
 ⟨some 19, .load 1 false (.slot 18), none⟩,
 ⟨some 20, .call (.lit (.func (.func 27) [] [])) [(.slot 17), (.slot 19)], none⟩,
 ⟨some 16, .mov (.slot 20), none⟩,
 ⟨some 21, .extract (.slot 16) 0, none⟩,
 ⟨some 22, .extract (.slot 16) 1, none⟩,
 ⟨some 6, .mov (.slot 21), none⟩,
 ⟨some 7, .mov (.slot 22), none⟩] [0, 3, 6, 7] false)
 (.seq
 (.block 0
 (.seq
 (.regd [] [
 (⟨some 24, .mov (.slot 7), none⟩, none),
 (⟨some 25, .un .not (.slot 24), none⟩, none),
 (⟨some 26, .mov (.slot 25), none⟩, none),
 (⟨some 27, .faddr 1 (.slot 3), (some (26, false))⟩, none),
 (⟨some 28, .load 1 false (.slot 27), (some (26, false))⟩, none),
 (⟨some 29, .mov (.slot 0), (some (26, false))⟩, none),
 (⟨some 30, .mov (.slot 6), (some (26, false))⟩, none),
 (⟨some 31, .iaddr (.slice 3) (.slot 29) (.slot 30), (some (26, false))⟩, none),
 (⟨some 32, .faddr 1 (.slot 31), (some (26, false))⟩, none),
 (⟨some 33, .load 1 false (.slot 32), (some (26, false))⟩, none),
 (⟨some 34, .bin .gtr none (.slot 28) (.slot 33), (some (26, false))⟩, none),
 (⟨some 35, .pick (.slot 26) (.lit (.bool true)) (.slot 34), none⟩, none),
 (⟨some 23, .mov (.slot 35), none⟩, none)] [] [0, 3, 6, 23] false)
 (.cond (.slot 23)
 (.seq
 (.reg [
 ⟨some 4, .mov (.lit (.str (bs []))), none⟩,
 ⟨some 5, .mov (.lit (.int .i64 0)), none⟩] [4, 5] false)
 .ret)
 (.seq
 (.regd [] [
 (⟨some 37, .faddr 1 (.slot 3), none⟩, none),
 (⟨some 38, .load 1 false (.slot 37), none⟩, none),
 (⟨some 39, .mov (.slot 0), none⟩, none),
 (⟨some 40, .mov (.slot 6), none⟩, none),
 (⟨some 41, .iaddr (.slice 3) (.slot 39) (.slot 40), none⟩, none),
 (⟨some 42, .faddr 1 (.slot 41), none⟩, none),
 (⟨some 43, .load 1 false (.slot 42), none⟩, none),
 (⟨some 44, .bin .eql (some .int) (.slot 38) (.slot 43), none⟩, none),
 (⟨some 36, .mov (.slot 44), none⟩, none)] [] [0, 6, 36] true)
 (.cond (.slot 36)
 (.seq
 (.reg [
 ⟨some 45, .mov (.slot 0), none⟩,
 ⟨some 46, .mov (.slot 6), none⟩,
 ⟨some 47, .iaddr (.slice 3) (.slot 45) (.slot 46), none⟩,
 ⟨some 48, .faddr 2 (.slot 47), none⟩,
 ⟨some 49, .load 1 false (.slot 48), none⟩,
 ⟨some 4, .mov (.slot 49), none⟩,
 ⟨some 5, .mov (.lit (.int .i64 14)), none⟩] [4, 5] false)
 .ret)
 .skip)))))
 (.seq
 (.reg [
 ⟨some 4, .mov (.lit (.str (bs []))), none⟩,
 ⟨some 5, .mov (.lit (.int .i64 24)), none⟩] [4, 5] false)
 .ret)))))
def ifn12 : IFn := ⟨50, [.inl 4, .inl 5], ic12⟩
/-- vendue/vendueref12.Ask -/
def ic13l0 : IC :=
 (.seq
 (.seq
 (.reg [
 ⟨some 19, .mov (.slot 8), none⟩,
 ⟨some 20, .mov (.slot 0), none⟩,
 ⟨some 21, .len (.slice 3) (.slot 20), none⟩,
 ⟨some 22, .bin .lss none (.slot 19) (.slot 21), none⟩] [0, 3, 8, 22] false)
 (.cond (.slot 22)
 .skip
 (.exit 0)))
 (.seq
 (.block 1
 (.seq
 (.seq
 (.regd [] [
 (⟨some 25, .mov (.slot 0), none⟩, none),
 (⟨some 26, .mov (.slot 8), none⟩, none),
 (⟨some 27, .iaddr (.slice 3) (.slot 25) (.slot 26), none⟩, none),
 (⟨some 28, .faddr 0 (.slot 27), none⟩, none),
 (⟨some 29, .load 1 false (.slot 28), none⟩, none),
 (⟨some 30, .faddr 0 (.slot 3), none⟩, none),
 (⟨some 31, .load 1 false (.slot 30), none⟩, none),
 (⟨some 32, .bin .eql (some .int) (.slot 29) (.slot 31), none⟩, none),
 (⟨some 33, .mov (.slot 32), none⟩, none),
 (⟨some 34, .mov (.slot 0), (some (33, true))⟩, none),
 (⟨some 35, .mov (.slot 8), (some (33, true))⟩, none),
 (⟨some 36, .iaddr (.slice 3) (.slot 34) (.slot 35), (some (33, true))⟩, none),
 (⟨some 37, .faddr 1 (.slot 36), (some (33, true))⟩, none),
 (⟨some 38, .load 1 false (.slot 37), (some (33, true))⟩, none),
 (⟨some 39, .faddr 1 (.slot 3), (some (33, true))⟩, none),
 (⟨some 40, .load 1 false (.slot 39), (some (33, true))⟩, none),
 (⟨some 41, .bin .eql (some .int) (.slot 38) (.slot 40), (some (33, true))⟩, none),
 (⟨some 42, .pick (.slot 33) (.slot 41) (.lit (.bool false)), none⟩, none)] [] [0, 3, 8, 42] false)
 (.cond (.slot 42)
 (.seq
 (.reg [
 ⟨some 43, .mov (.slot 0), none⟩,
 ⟨some 44, .mov (.slot 8), none⟩,
 ⟨some 45, .iaddr (.slice 3) (.slot 43) (.slot 44), none⟩,
 ⟨some 46, .faddr 2 (.slot 45), none⟩,
 ⟨some 47, .load 1 false (.slot 46), none⟩,
 ⟨some 4, .mov (.slot 47), none⟩,
 ⟨some 5, .mov (.lit (.int .i64 14)), none⟩] [4, 5] false)
 .ret)
 .skip))
 (.seq
 (.regd [] [
 (⟨some 48, .mov (.slot 0), none⟩, none),
 (⟨some 49, .mov (.slot 8), none⟩, none),
 (⟨some 50, .iaddr (.slice 3) (.slot 48) (.slot 49), none⟩, none),
 (⟨some 51, .faddr 0 (.slot 50), none⟩, none),
 (⟨some 52, .load 1 false (.slot 51), none⟩, none),
 (⟨some 53, .faddr 0 (.slot 3), none⟩, none),
 (⟨some 54, .load 1 false (.slot 53), none⟩, none),
 (⟨some 55, .bin .eql (some .int) (.slot 52) (.slot 54), none⟩, none),
 (⟨some 56, .mov (.slot 55), none⟩, none),
 (⟨some 57, .mov (.slot 0), (some (56, true))⟩, none),
 (⟨some 58, .mov (.slot 8), (some (56, true))⟩, none),
 (⟨some 59, .iaddr (.slice 3) (.slot 57) (.slot 58), (some (56, true))⟩, none),
 (⟨some 60, .faddr 1 (.slot 59), (some (56, true))⟩, none),
 (⟨some 61, .load 1 false (.slot 60), (some (56, true))⟩, none),
 (⟨some 62, .faddr 1 (.slot 3), (some (56, true))⟩, none),
 (⟨some 63, .load 1 false (.slot 62), (some (56, true))⟩, none),
 (⟨some 64, .bin .gtr none (.slot 61) (.slot 63), (some (56, true))⟩, none),
 (⟨some 65, .pick (.slot 56) (.slot 64) (.lit (.bool false)), none⟩, none)] [] [0, 3, 8, 65] false)
 (.cond (.slot 65)
 (.seq
 (.reg [
 ⟨some 4, .mov (.lit (.str (bs []))), none⟩,
 ⟨some 5, .mov (.lit (.int .i64 24)), none⟩] [4, 5] false)
 .ret)
 .skip))))
 (.reg [
 ⟨some 23, .mov (.slot 8), none⟩,
 ⟨some 24, .bin .add none (.slot 23) (.lit (.int .i64 1)), none⟩,
 ⟨some 8, .mov (.slot 24), none⟩] [0, 3, 8] false)))
def ic13 : IC :=
 (.seq
 (.reg [
 ⟨some 3, .box (.slot 1), none⟩,
 ⟨some 4, .mov (.lit (.str (bs []))), none⟩,
 ⟨some 5, .mov (.lit (.int .i64 0)), none⟩] [0, 3] false)
 (.seq
 (.reg [
 ⟨some 9, .mov (.slot 0), none⟩,
 ⟨some 10, .call (.lit (.func (.func 26) [] [])) [(.slot 9)], none⟩,
 ⟨some 6, .mov (.slot 10), none⟩] [0, 3, 6] false)
 (.seq
 (.reg [
 ⟨some 11, .load 3 true (.slot 3), none⟩,
 ⟨some 12, .call (.lit (.func (.func 24) [] [])) [(.slot 11)], none⟩,
 ⟨some 7, .mov (.slot 12), none⟩] [0, 3, 6, 7] false)
 (.seq
 (.seq
 (.reg [
 ⟨some 13, .mov (.slot 6), none⟩,
 ⟨some 14, .un .not (.slot 13), none⟩,
 ⟨some 15, .mov (.slot 14), none⟩,
 ⟨some 16, .mov (.slot 7), (some (15, false))⟩,
 ⟨some 17, .un .not (.slot 16), (some (15, false))⟩,
 ⟨some 18, .pick (.slot 15) (.lit (.bool true)) (.slot 17), none⟩] [0, 3, 18] false)
 (.cond (.slot 18)
 (.seq
 (.reg [
 ⟨some 4, .mov (.lit (.str (bs []))), none⟩,
 ⟨some 5, .mov (.lit (.int .i64 1)), none⟩] [4, 5] false)
 .ret)
 .skip))
 (.seq
 (.seq
 (.reg [
 ⟨some 8, .mov (.lit (.int .i64 0)), none⟩] [0, 3, 8] false)
 (.block 0
 (.loop ic13l0)))
 (.seq
 (.reg [
 ⟨some 4, .mov (.lit (.str (bs []))), none⟩,
 ⟨some 5, .mov (.lit (.int .i64 0)), none⟩] [4, 5] false)
 .ret))))))
def ifn13 : IFn := ⟨66, [.inl 4, .inl 5], ic13⟩
/-- vendue/vendueref12.Same -/
def ic14l0 : IC :=
 (.seq
 (.seq
 (.reg [
 ⟨some 11, .mov (.slot 5), none⟩,
 ⟨some 12, .mov (.slot 0), none⟩,
 ⟨some 13, .len (.slice 3) (.slot 12), none⟩,
 ⟨some 14, .bin .lss none (.slot 11) (.slot 13), none⟩] [0, 1, 5, 14] false)
 (.cond (.slot 14)
 .skip
 (.exit 0)))
 (.seq
 (.block 1
 (.seq
 (.regd [] [
 (⟨some 17, .mov (.slot 0), none⟩, none),
 (⟨some 18, .mov (.slot 5), none⟩, none),
 (⟨some 19, .iaddr (.slice 3) (.slot 17) (.slot 18), none⟩, none),
 (⟨some 20, .load 3 true (.slot 19), none⟩, none),
 (⟨some 21, .mov (.slot 1), none⟩, none),
 (⟨some 22, .mov (.slot 5), none⟩, none),
 (⟨some 23, .iaddr (.slice 3) (.slot 21) (.slot 22), none⟩, none),
 (⟨some 24, .load 3 true (.slot 23), none⟩, none),
 (⟨some 25, .bin .neq (some (.struct [(0, 1, false, .int), (1, 1, false, .int), (2, 1, false, .str)])) (.slot 20) (.slot 24), none⟩, none)] [] [0, 1, 5, 25] false)
 (.cond (.slot 25)
 (.seq
 (.reg [
 ⟨some 4, .mov (.lit (.bool false)), none⟩] [4] false)
 .ret)
 .skip)))
 (.reg [
 ⟨some 15, .mov (.slot 5), none⟩,
 ⟨some 16, .bin .add none (.slot 15) (.lit (.int .i64 1)), none⟩,
 ⟨some 5, .mov (.slot 16), none⟩] [0, 1, 5] false)))
def ic14 : IC :=
 (.seq
 (.reg [
 ⟨some 4, .mov (.lit (.bool false)), none⟩] [0, 1] false)
 (.seq
 (.seq
 (.reg [
 ⟨some 6, .mov (.slot 0), none⟩,
 ⟨some 7, .len (.slice 3) (.slot 6), none⟩,
 ⟨some 8, .mov (.slot 1), none⟩,
 ⟨some 9, .len (.slice 3) (.slot 8), none⟩,
 ⟨some 10, .bin .neq (some .int) (.slot 7) (.slot 9), none⟩] [0, 1, 10] false)
 (.cond (.slot 10)
 (.seq
 (.reg [
 ⟨some 4, .mov (.lit (.bool false)), none⟩] [4] false)
 .ret)
 .skip))
 (.seq
 (.seq
 (.reg [
 ⟨some 5, .mov (.lit (.int .i64 0)), none⟩] [0, 1, 5] false)
 (.block 0
 (.loop ic14l0)))
 (.seq
 (.reg [
 ⟨some 4, .mov (.lit (.bool true)), none⟩] [4] false)
 .ret))))
def ifn14 : IFn := ⟨26, [.inl 4], ic14⟩
/-- vendue/session.Done -/
def ic15 : IC :=
 (.seq
 (.reg [
 ⟨some 4, .box (.slot 1), none⟩,
 ⟨some 6, .mov (.lit (.slice true 0 [] .full)), none⟩] [0, 2, 4] false)
 (.seq
 (.reg [
 ⟨some 13, .mov (.slot 0), none⟩,
 ⟨some 14, .load 3 true (.slot 4), none⟩,
 ⟨some 15, .call (.lit (.func (.func 12) [] [])) [(.slot 13), (.slot 14)], none⟩,
 ⟨some 12, .mov (.slot 15), none⟩,
 ⟨some 16, .extract (.slot 12) 0, none⟩,
 ⟨some 17, .extract (.slot 12) 1, none⟩,
 ⟨some 7, .mov (.slot 16), none⟩,
 ⟨some 8, .mov (.slot 17), none⟩] [0, 2, 4, 8] false)
 (.seq
 (.seq
 (.reg [
 ⟨some 18, .mov (.slot 8), none⟩,
 ⟨some 19, .bin .neq (some .int) (.slot 18) (.lit (.int .i64 0)), none⟩,
 ⟨some 20, .mov (.slot 19), none⟩,
 ⟨some 21, .mov (.slot 2), (some (20, false))⟩,
 ⟨some 22, .len .str (.slot 21), (some (20, false))⟩,
 ⟨some 23, .bin .gtr none (.slot 22) (.lit (.int .i64 40)), (some (20, false))⟩,
 ⟨some 24, .pick (.slot 20) (.lit (.bool true)) (.slot 23), none⟩] [0, 2, 4, 24] false)
 (.cond (.slot 24)
 (.seq
 (.reg [
 ⟨some 25, .mov (.slot 0), none⟩,
 ⟨some 6, .mov (.slot 25), none⟩] [6] false)
 .ret)
 .skip))
 (.seq
 (.reg [
 ⟨some 27, .mov (.slot 0), none⟩,
 ⟨some 28, .faddr 0 (.slot 4), none⟩,
 ⟨some 29, .load 1 false (.slot 28), none⟩,
 ⟨some 30, .call (.lit (.func (.func 27) [] [])) [(.slot 27), (.slot 29)], none⟩,
 ⟨some 26, .mov (.slot 30), none⟩,
 ⟨some 31, .extract (.slot 26) 0, none⟩,
 ⟨some 32, .extract (.slot 26) 1, none⟩,
 ⟨some 9, .mov (.slot 31), none⟩,
 ⟨some 10, .mov (.slot 32), none⟩] [0, 2, 4, 9, 10] false)
 (.seq
 (.reg [
 ⟨some 33, .mov (.slot 9), none⟩,
 ⟨some 11, .mov (.slot 33), none⟩] [0, 2, 4, 9, 10, 11] false)
 (.seq
 (.seq
 (.reg [
 ⟨some 34, .mov (.slot 10), none⟩] [0, 2, 4, 9, 11, 34] false)
 (.cond (.slot 34)
 (.reg [
 ⟨some 35, .mov (.slot 11), none⟩,
 ⟨some 36, .bin .add none (.slot 35) (.lit (.int .i64 1)), none⟩,
 ⟨some 11, .mov (.slot 36), none⟩] [0, 2, 4, 9, 11] false)
 .skip))
 (.seq
 (.regd [] [
 (⟨some 37, .mov (.slot 0), none⟩, none),
 (⟨some 38, .mov (.slot 9), none⟩, none),
 (⟨some 39, .mov (.slot 9), none⟩, none),
 (⟨some 40, .sl (.slice 3) (.slot 37) none (some (.slot 38)) (some (.slot 39)), none⟩, none),
 (⟨some 41, .faddr 0 (.slot 4), none⟩, none),
 (⟨some 42, .load 1 false (.slot 41), none⟩, none),
 (⟨some 43, .faddr 1 (.slot 4), none⟩, none),
 (⟨some 44, .load 1 false (.slot 43), none⟩, none),
 (⟨some 45, .mov (.slot 2), none⟩, none),
 (⟨some 46, .build [(.int .i64 0), (.int .u64 0), (.str ⟨#[]⟩)] [(0, 1, (.slot 42)), (1, 1, (.slot 44)), (2, 1, (.slot 45))], none⟩, none),
 (⟨some 47, .bslice 3 (.agg [(.int .i64 0), (.int .u64 0), (.str ⟨#[]⟩)]) 1 [(0, (.slot 46))], none⟩, none),
 (⟨some 48, .mov (.slot 0), none⟩, none),
 (⟨some 49, .mov (.slot 11), none⟩, none),
 (⟨some 50, .sl (.slice 3) (.slot 48) (some (.slot 49)) none none, none⟩, none),
 (⟨some 51, .bslice 1 (.slice true 0 [] .full) 3 [(0, (.slot 40)), (1, (.slot 47)), (2, (.slot 50))], none⟩, none),
 (⟨some 52, .pcall (.lit (.func (.func 28) [] [])) [(.slot 51)], none⟩, none),
 (⟨some 6, .mov (.slot 52), none⟩, none)] [] [6] true)
 .ret)))))))
def ifn15 : IFn := ⟨53, [.inl 6], ic15⟩
/-- vendue/vendueref12.Done -/
def ic16l0 : IC :=
 (.seq
 (.seq
 (.reg [
 ⟨some 33, .mov (.slot 12), none⟩,
 ⟨some 34, .mov (.slot 0), none⟩,
 ⟨some 35, .len (.slice 3) (.slot 34), none⟩,
 ⟨some 36, .bin .lss none (.slot 33) (.slot 35), none⟩] [0, 4, 9, 10, 11, 12, 36] false)
 (.cond (.slot 36)
 .skip
 (.exit 0)))
 (.seq
 (.block 1
 (.seq
 (.seq
 (.regd [] [
 (⟨some 39, .mov (.slot 11), none⟩, none),
 (⟨some 40, .un .not (.slot 39), none⟩, none),
 (⟨some 41, .mov (.slot 40), none⟩, none),
 (⟨some 42, .mov (.slot 0), (some (41, true))⟩, none),
 (⟨some 43, .mov (.slot 12), (some (41, true))⟩, none),
 (⟨some 44, .iaddr (.slice 3) (.slot 42) (.slot 43), (some (41, true))⟩, none),
 (⟨some 45, .faddr 0 (.slot 44), (some (41, true))⟩, none),
 (⟨some 46, .load 1 false (.slot 45), (some (41, true))⟩, none),
 (⟨some 47, .faddr 0 (.slot 4), (some (41, true))⟩, none),
 (⟨some 48, .load 1 false (.slot 47), (some (41, true))⟩, none),
 (⟨some 49, .bin .geq none (.slot 46) (.slot 48), (some (41, true))⟩, none),
 (⟨some 50, .pick (.slot 41) (.slot 49) (.lit (.bool false)), none⟩, none)] [] [0, 4, 9, 10, 11, 12, 50] false)
 (.cond (.slot 50)
 (.seq
 (.reg [
 ⟨some 51, .mov (.slot 10), none⟩,
 ⟨some 52, .load 3 true (.slot 9), none⟩,
 ⟨some 53, .bslice 3 (.agg [(.int .i64 0), (.int .u64 0), (.str ⟨#[]⟩)]) 1 [(0, (.slot 52))], none⟩,
 ⟨some 54, .append 3 32 (.slot 51) (.slot 53), none⟩,
 ⟨some 10, .mov (.slot 54), none⟩] [0, 4, 9, 10, 12] false)
 (.reg [
 ⟨some 11, .mov (.lit (.bool true)), none⟩] [0, 4, 9, 10, 11, 12] false))
 .skip))
 (.seq
 (.regd [] [
 (⟨some 55, .mov (.slot 0), none⟩, none),
 (⟨some 56, .mov (.slot 12), none⟩, none),
 (⟨some 57, .iaddr (.slice 3) (.slot 55) (.slot 56), none⟩, none),
 (⟨some 58, .faddr 0 (.slot 57), none⟩, none),
 (⟨some 59, .load 1 false (.slot 58), none⟩, none),
 (⟨some 60, .faddr 0 (.slot 4), none⟩, none),
 (⟨some 61, .load 1 false (.slot 60), none⟩, none),
 (⟨some 62, .bin .neq (some .int) (.slot 59) (.slot 61), none⟩, none)] [] [0, 4, 9, 10, 11, 12, 62] false)
 (.cond (.slot 62)
 (.reg [
 ⟨some 63, .mov (.slot 10), none⟩,
 ⟨some 64, .mov (.slot 0), none⟩,
 ⟨some 65, .mov (.slot 12), none⟩,
 ⟨some 66, .iaddr (.slice 3) (.slot 64) (.slot 65), none⟩,
 ⟨some 67, .load 3 true (.slot 66), none⟩,
 ⟨some 68, .bslice 3 (.agg [(.int .i64 0), (.int .u64 0), (.str ⟨#[]⟩)]) 1 [(0, (.slot 67))], none⟩,
 ⟨some 69, .append 3 32 (.slot 63) (.slot 68), none⟩,
 ⟨some 10, .mov (.slot 69), none⟩] [0, 4, 9, 10, 11, 12] false)
 .skip))))
 (.reg [
 ⟨some 37, .mov (.slot 12), none⟩,
 ⟨some 38, .bin .add none (.slot 37) (.lit (.int .i64 1)), none⟩,
 ⟨some 12, .mov (.slot 38), none⟩] [0, 4, 9, 10, 11, 12] false)))
def ic16 : IC :=
 (.seq
 (.reg [
 ⟨some 4, .box (.slot 1), none⟩,
 ⟨some 6, .mov (.lit (.slice true 0 [] .full)), none⟩] [0, 2, 4] false)
 (.seq
 (.reg [
 ⟨some 14, .mov (.slot 0), none⟩,
 ⟨some 15, .load 3 true (.slot 4), none⟩,
 ⟨some 16, .call (.lit (.func (.func 13) [] [])) [(.slot 14), (.slot 15)], none⟩,
 ⟨some 13, .mov (.slot 16), none⟩,
 ⟨some 17, .extract (.slot 13) 0, none⟩,
 ⟨some 18, .extract (.slot 13) 1, none⟩,
 ⟨some 7, .mov (.slot 17), none⟩,
 ⟨some 8, .mov (.slot 18), none⟩] [0, 2, 4, 8] false)
 (.seq
 (.seq
 (.reg [
 ⟨some 19, .mov (.slot 8), none⟩,
 ⟨some 20, .bin .neq (some .int) (.slot 19) (.lit (.int .i64 0)), none⟩,
 ⟨some 21, .mov (.slot 20), none⟩,
 ⟨some 22, .mov (.slot 2), (some (21, false))⟩,
 ⟨some 23, .len .str (.slot 22), (some (21, false))⟩,
 ⟨some 24, .bin .gtr none (.slot 23) (.lit (.int .i64 40)), (some (21, false))⟩,
 ⟨some 25, .pick (.slot 21) (.lit (.bool true)) (.slot 24), none⟩] [0, 2, 4, 25] false)
 (.cond (.slot 25)
 (.seq
 (.reg [
 ⟨some 26, .mov (.slot 0), none⟩,
 ⟨some 6, .mov (.slot 26), none⟩] [6] false)
 .ret)
 .skip))
 (.seq
 (.reg [
 ⟨some 27, .faddr 0 (.slot 4), none⟩,
 ⟨some 28, .load 1 false (.slot 27), none⟩,
 ⟨some 29, .faddr 1 (.slot 4), none⟩,
 ⟨some 30, .load 1 false (.slot 29), none⟩,
 ⟨some 31, .mov (.slot 2), none⟩,
 ⟨some 32, .build [(.int .i64 0), (.int .u64 0), (.str ⟨#[]⟩)] [(0, 1, (.slot 28)), (1, 1, (.slot 30)), (2, 1, (.slot 31))], none⟩,
 ⟨some 9, .alloc [(.int .i64 0), (.int .u64 0), (.str ⟨#[]⟩)], none⟩,
 ⟨none, .store 3 (.slot 9) (.slot 32), none⟩] [0, 4, 9] false)
 (.seq
 (.reg [
 ⟨some 10, .mov (.lit (.slice true 0 [] .full)), none⟩] [0, 4, 9, 10] false)
 (.seq
 (.reg [
 ⟨some 11, .mov (.lit (.bool false)), none⟩] [0, 4, 9, 10, 11] false)
 (.seq
 (.seq
 (.reg [
 ⟨some 12, .mov (.lit (.int .i64 0)), none⟩] [0, 4, 9, 10, 11, 12] false)
 (.block 0
 (.loop ic16l0)))
 (.seq
 (.seq
 (.reg [
 ⟨some 70, .mov (.slot 11), none⟩,
 ⟨some 71, .un .not (.slot 70), none⟩] [9, 10, 71] false)
 (.cond (.slot 71)
 (.reg [
 ⟨some 72, .mov (.slot 10), none⟩,
 ⟨some 73, .load 3 true (.slot 9), none⟩,
 ⟨some 74, .bslice 3 (.agg [(.int .i64 0), (.int .u64 0), (.str ⟨#[]⟩)]) 1 [(0, (.slot 73))], none⟩,
 ⟨some 75, .append 3 32 (.slot 72) (.slot 74), none⟩,
 ⟨some 10, .mov (.slot 75), none⟩] [10] true)
 .skip))
 (.seq
 (.reg [
 ⟨some 76, .mov (.slot 10), none⟩,
 ⟨some 6, .mov (.slot 76), none⟩] [6] false)
 .ret)))))))))
def ifn16 : IFn := ⟨77, [.inl 6], ic16⟩
/-- vendue/session.Last -/
def ic17 : IC :=
 (.seq
 (.reg [
 ⟨some 4, .mov (.lit (.int .u64 0)), none⟩] [0, 1] false)
 (.seq
 (.reg [
 ⟨some 8, .mov (.slot 0), none⟩,
 ⟨some 9, .mov (.slot 1), none⟩,
 ⟨some 10, .call (.lit (.func (.func 27) [] [])) [(.slot 8), (.slot 9)], none⟩,
 ⟨some 7, .mov (.slot 10), none⟩,
 ⟨some 11, .extract (.slot 7) 0, none⟩,
 ⟨some 12, .extract (.slot 7) 1, none⟩,
 ⟨some 5, .mov (.slot 11), none⟩,
 ⟨some 6, .mov (.slot 12), none⟩] [0, 5, 6] false)
 (.seq
 (.seq
 (.reg [
 ⟨some 13, .mov (.slot 6), none⟩,
 ⟨some 14, .un .not (.slot 13), none⟩,
 ⟨some 15, .mov (.slot 14), none⟩,
 ⟨some 16, .mov (.slot 0), (some (15, false))⟩,
 ⟨some 17, .call (.lit (.func (.func 19) [] [])) [(.slot 16)], (some (15, false))⟩,
 ⟨some 18, .un .not (.slot 17), (some (15, false))⟩,
 ⟨some 19, .pick (.slot 15) (.lit (.bool true)) (.slot 18), none⟩] [0, 5, 19] false)
 (.cond (.slot 19)
 (.seq
 (.reg [
 ⟨some 4, .mov (.lit (.int .u64 0)), none⟩] [4] false)
 .ret)
 .skip))
 (.seq
 (.reg [
 ⟨some 20, .mov (.slot 0), none⟩,
 ⟨some 21, .mov (.slot 5), none⟩,
 ⟨some 22, .iaddr (.slice 3) (.slot 20) (.slot 21), none⟩,
 ⟨some 23, .faddr 1 (.slot 22), none⟩,
 ⟨some 24, .load 1 false (.slot 23), none⟩,
 ⟨some 4, .mov (.slot 24), none⟩] [4] false)
 .ret))))
def ifn17 : IFn := ⟨25, [.inl 4], ic17⟩
/-- vendue/vendueref12.Last -/
def ic18l0 : IC :=
 (.seq
 (.seq
 (.reg [
 ⟨some 9, .mov (.slot 6), none⟩,
 ⟨some 10, .mov (.slot 0), none⟩,
 ⟨some 11, .len (.slice 3) (.slot 10), none⟩,
 ⟨some 12, .bin .lss none (.slot 9) (.slot 11), none⟩,
 ⟨some 13, .mov (.slot 12), none⟩,
 ⟨some 14, .mov (.slot 5), (some (13, true))⟩,
 ⟨some 15, .pick (.slot 13) (.slot 14) (.lit (.bool false)), none⟩] [0, 1, 5, 6, 15] false)
 (.cond (.slot 15)
 .skip
 (.exit 0)))
 (.seq
 (.block 1
 (.seq
 (.reg [
 ⟨some 18, .mov (.slot 0), none⟩,
 ⟨some 19, .mov (.slot 6), none⟩,
 ⟨some 20, .iaddr (.slice 3) (.slot 18) (.slot 19), none⟩,
 ⟨some 21, .faddr 0 (.slot 20), none⟩,
 ⟨some 22, .load 1 false (.slot 21), none⟩,
 ⟨some 23, .mov (.slot 1), none⟩,
 ⟨some 24, .bin .eql (some .int) (.slot 22) (.slot 23), none⟩] [0, 1, 5, 6, 24] false)
 (.cond (.slot 24)
 (.seq
 (.reg [
 ⟨some 25, .mov (.slot 0), none⟩,
 ⟨some 26, .mov (.slot 6), none⟩,
 ⟨some 27, .iaddr (.slice 3) (.slot 25) (.slot 26), none⟩,
 ⟨some 28, .faddr 1 (.slot 27), none⟩,
 ⟨some 29, .load 1 false (.slot 28), none⟩,
 ⟨some 4, .mov (.slot 29), none⟩] [4] false)
 .ret)
 .skip)))
 (.reg [
 ⟨some 16, .mov (.slot 6), none⟩,
 ⟨some 17, .bin .add none (.slot 16) (.lit (.int .i64 1)), none⟩,
 ⟨some 6, .mov (.slot 17), none⟩] [0, 1, 5, 6] false)))
def ic18 : IC :=
 (.seq
 (.reg [
 ⟨some 4, .mov (.lit (.int .u64 0)), none⟩] [0, 1] false)
 (.seq
 (.reg [
 ⟨some 7, .mov (.slot 0), none⟩,
 ⟨some 8, .call (.lit (.func (.func 26) [] [])) [(.slot 7)], none⟩,
 ⟨some 5, .mov (.slot 8), none⟩] [0, 1, 5] false)
 (.seq
 (.seq
 (.reg [
 ⟨some 6, .mov (.lit (.int .i64 0)), none⟩] [0, 1, 5, 6] false)
 (.block 0
 (.loop ic18l0)))
 (.seq
 (.reg [
 ⟨some 4, .mov (.lit (.int .u64 0)), none⟩] [4] false)
 .ret))))
def ifn18 : IFn := ⟨30, [.inl 4], ic18⟩
/-- vendue/session.Right -/
def ic19 : IC :=
 (.seq
 (.reg [
 ⟨some 2, .mov (.lit (.bool false)), none⟩] [0] false)
 (.seq
 (.reg [
 ⟨some 3, .alloc [(.int .i64 0)], none⟩,
 ⟨none, .store 1 (.slot 3) (.lit (.int .i64 0)), none⟩] [0, 3] false)
 (.seq
 (.reg [
 ⟨some 5, .mkFunc 29 [] [(.slot 3)], none⟩,
 ⟨some 4, .mov (.slot 5), none⟩] [0, 4] true)
 (.seq
 (.reg [
 ⟨some 6, .mov (.slot 0), none⟩,
 ⟨some 7, .mov (.slot 4), none⟩,
 ⟨some 8, .call (.lit (.func (.func 30) [] [])) [(.slot 6), (.slot 7)], none⟩,
 ⟨some 9, .un .not (.slot 8), none⟩,
 ⟨some 2, .mov (.slot 9), none⟩] [2] false)
 .ret))))
def ifn19 : IFn := ⟨10, [.inl 2], ic19⟩
/-- vendue/vendueref12.Bytes -/
def ic20 : IC :=
 (.seq
 (.reg [
 ⟨some 1, .box (.slot 0), none⟩,
 ⟨some 2, .mov (.lit (.str (bs []))), none⟩] [1] false)
 (.seq
 (.reg [
 ⟨some 4, .load 3 true (.slot 1), none⟩,
 ⟨some 5, .call (.lit (.func (.func 24) [] [])) [(.slot 4)], none⟩,
 ⟨some 3, .mov (.slot 5), none⟩] [1, 3] false)
 (.seq
 (.seq
 (.reg [
 ⟨some 6, .mov (.slot 3), none⟩,
 ⟨some 7, .un .not (.slot 6), none⟩] [1, 7] false)
 (.cond (.slot 7)
 (.seq
 (.reg [
 ⟨some 2, .mov (.lit (.str (bs []))), none⟩] [2] false)
 .ret)
 .skip))
 (.seq
 (.regd [] [
 (⟨some 8, .faddr 0 (.slot 1), none⟩, none),
 (⟨some 9, .load 1 false (.slot 8), none⟩, none),
 (⟨some 10, .conv (.int .u64) (.slot 9), none⟩, none),
 (⟨some 11, .pcall (.lit (.func (.func 31) [] [])) [(.slot 10)], none⟩, none),
 (⟨some 12, .faddr 1 (.slot 1), none⟩, none),
 (⟨some 13, .load 1 false (.slot 12), none⟩, none),
 (⟨some 14, .pcall (.lit (.func (.func 31) [] [])) [(.slot 13)], none⟩, none),
 (⟨some 15, .bin .add none (.slot 11) (.slot 14), none⟩, none),
 (⟨some 16, .faddr 2 (.slot 1), none⟩, none),
 (⟨some 17, .load 1 false (.slot 16), none⟩, none),
 (⟨some 18, .pcall (.lit (.func (.func 32) [] [])) [(.slot 17)], none⟩, none),
 (⟨some 19, .bin .add none (.slot 15) (.slot 18), none⟩, none),
 (⟨some 2, .mov (.slot 19), none⟩, none)] [] [2] true)
 .ret))))
def ifn20 : IFn := ⟨20, [.inl 2], ic20⟩
/-- vendue/session.Read -/
def ic21 : IC :=
 (.seq
 (.reg [
 ⟨some 2, .alloc [(.int .i64 0), (.int .u64 0), (.str ⟨#[]⟩)], none⟩,
 ⟨some 3, .mov (.lit (.int .i64 0)), none⟩] [0, 2] false)
 (.seq
 (.reg [
 ⟨some 6, .mov (.slot 0), none⟩,
 ⟨some 7, .call (.lit (.func (.func 33) [] [])) [(.slot 6)], none⟩,
 ⟨some 4, .mov (.slot 7), none⟩] [2, 4] false)
 (.seq
 (.reg [
 ⟨some 8, .mov (.slot 4), none⟩,
 ⟨some 9, .call (.lit (.func (.func 34) [] [])) [(.slot 8), (.lit (.int .u64 15))], none⟩,
 ⟨some 10, .conv (.int .i64) (.slot 9), none⟩,
 ⟨some 11, .build [(.int .i64 0), (.int .u64 0), (.str ⟨#[]⟩)] [(0, 1, (.slot 10))], none⟩,
 ⟨some 5, .alloc [(.int .i64 0), (.int .u64 0), (.str ⟨#[]⟩)], none⟩,
 ⟨none, .store 3 (.slot 5) (.slot 11), none⟩] [2, 4, 5] false)
 (.seq
 (.reg [
 ⟨some 12, .mov (.slot 4), none⟩,
 ⟨some 13, .call (.lit (.func (.func 34) [] [])) [(.slot 12), (.lit (.int .u64 1099511627776))], none⟩,
 ⟨some 14, .faddr 1 (.slot 5), none⟩,
 ⟨none, .store 1 (.slot 14) (.slot 13), none⟩] [2, 4, 5] false)
 (.seq
 (.reg [
 ⟨some 15, .mov (.slot 4), none⟩,
 ⟨some 16, .call (.lit (.func (.func 35) [] [])) [(.slot 15), (.lit (.int .i64 50))], none⟩,
 ⟨some 17, .faddr 2 (.slot 5), none⟩,
 ⟨none, .store 1 (.slot 17) (.slot 16), none⟩] [2, 4, 5] false)
 (.seq
 (.seq
 (.reg [
 ⟨some 18, .mov (.slot 4), none⟩,
 ⟨some 19, .call (.lit (.func (.func 36) [] [])) [(.slot 18)], none⟩,
 ⟨some 20, .un .not (.slot 19), none⟩,
 ⟨some 21, .mov (.slot 20), none⟩,
 ⟨some 22, .load 3 true (.slot 5), (some (21, false))⟩,
 ⟨some 23, .call (.lit (.func (.func 23) [] [])) [(.slot 22)], (some (21, false))⟩,
 ⟨some 24, .un .not (.slot 23), (some (21, false))⟩,
 ⟨some 25, .pick (.slot 21) (.lit (.bool true)) (.slot 24), none⟩] [2, 5, 25] false)
 (.cond (.slot 25)
 (.seq
 (.reg [
 ⟨some 26, .build [(.int .i64 0), (.int .u64 0), (.str ⟨#[]⟩)] [], none⟩,
 ⟨none, .store 3 (.slot 2) (.slot 26), none⟩,
 ⟨some 3, .mov (.lit (.int .i64 10)), none⟩] [2, 3] false)
 .ret)
 .skip))
 (.seq
 (.reg [
 ⟨some 27, .load 3 true (.slot 5), none⟩,
 ⟨none, .store 3 (.slot 2) (.slot 27), none⟩,
 ⟨some 3, .mov (.lit (.int .i64 0)), none⟩] [2, 3] true)
 .ret)))))))
def ifn21 : IFn := ⟨28, [.inr (2, 3, true), .inl 3], ic21⟩
/-- vendue/vendueref12.Read -/
def ic22 : IC :=
 (.seq
 (.reg [
 ⟨some 2, .alloc [(.int .i64 0), (.int .u64 0), (.str ⟨#[]⟩)], none⟩,
 ⟨some 3, .mov (.lit (.int .i64 0)), none⟩] [0, 2] false)
 (.seq
 (.reg [
 ⟨some 7, .mov (.slot 0), none⟩,
 ⟨some 8, .build [(.str ⟨#[]⟩), (.bool false)] [(0, 1, (.slot 7))], none⟩,
 ⟨some 9, .box (.slot 8), none⟩,
 ⟨some 4, .mov (.slot 9), none⟩] [2, 4] true)
 (.seq
 (.reg [
 ⟨some 10, .mov (.slot 4), none⟩,
 ⟨some 11, .call (.lit (.func (.func 37) [] [])) [(.slot 10), (.lit (.int .u64 15))], none⟩,
 ⟨some 12, .conv (.int .i64) (.slot 11), none⟩,
 ⟨some 13, .build [(.int .i64 0), (.int .u64 0), (.str ⟨#[]⟩)] [(0, 1, (.slot 12))], none⟩,
 ⟨some 5, .alloc [(.int .i64 0), (.int .u64 0), (.str ⟨#[]⟩)], none⟩,
 ⟨none, .store 3 (.slot 5) (.slot 13), none⟩] [2, 4, 5] false)
 (.seq
 (.reg [
 ⟨some 14, .mov (.slot 4), none⟩,
 ⟨some 15, .call (.lit (.func (.func 37) [] [])) [(.slot 14), (.lit (.int .u64 1099511627776))], none⟩,
 ⟨some 16, .faddr 1 (.slot 5), none⟩,
 ⟨none, .store 1 (.slot 16) (.slot 15), none⟩] [2, 4, 5] false)
 (.seq
 (.reg [
 ⟨some 17, .mov (.slot 4), none⟩,
 ⟨some 18, .call (.lit (.func (.func 38) [] [])) [(.slot 17), (.lit (.int .i64 50))], none⟩,
 ⟨some 19, .faddr 2 (.slot 5), none⟩,
 ⟨none, .store 1 (.slot 19) (.slot 18), none⟩] [2, 4, 5] false)
 (.seq
 (.reg [
 ⟨some 20, .load 3 true (.slot 5), none⟩,
 ⟨some 21, .call (.lit (.func (.func 24) [] [])) [(.slot 20)], none⟩,
 ⟨some 6, .mov (.slot 21), none⟩] [2, 4, 5, 6] false)
 (.seq
 (.seq
 (.reg [
 ⟨some 22, .mov (.slot 4), none⟩,
 ⟨some 23, .call (.lit (.func (.func 39) [] [])) [(.slot 22)], none⟩,
 ⟨some 24, .un .not (.slot 23), none⟩,
 ⟨some 25, .mov (.slot 24), none⟩,
 ⟨some 26, .mov (.slot 6), (some (25, false))⟩,
 ⟨some 27, .un .not (.slot 26), (some (25, false))⟩,
 ⟨some 28, .pick (.slot 25) (.lit (.bool true)) (.slot 27), none⟩] [2, 5, 28] false)
 (.cond (.slot 28)
 (.seq
 (.reg [
 ⟨some 29, .build [(.int .i64 0), (.int .u64 0), (.str ⟨#[]⟩)] [], none⟩,
 ⟨none, .store 3 (.slot 2) (.slot 29), none⟩,
 ⟨some 3, .mov (.lit (.int .i64 10)), none⟩] [2, 3] false)
 .ret)
 .skip))
 (.seq
 (.reg [
 ⟨some 30, .load 3 true (.slot 5), none⟩,
 ⟨none, .store 3 (.slot 2) (.slot 30), none⟩,
 ⟨some 3, .mov (.lit (.int .i64 0)), none⟩] [2, 3] true)
 .ret))))))))
def ifn22 : IFn := ⟨31, [.inr (2, 3, true), .inl 3], ic22⟩
/-- vendue/session.Check -/
def ic23 : IC :=
 (.seq
 (.reg [
 ⟨some 1, .box (.slot 0), none⟩,
 ⟨some 2, .mov (.lit (.bool false)), none⟩] [1] false)
 (.seq
 (.reg [
 ⟨some 3, .faddr 0 (.slot 1), none⟩,
 ⟨some 4, .load 1 false (.slot 3), none⟩,
 ⟨some 5, .bin .geq none (.slot 4) (.lit (.int .i64 1)), none⟩,
 ⟨some 6, .mov (.slot 5), none⟩,
 ⟨some 7, .faddr 0 (.slot 1), (some (6, true))⟩,
 ⟨some 8, .load 1 false (.slot 7), (some (6, true))⟩,
 ⟨some 9, .bin .leq none (.slot 8) (.lit (.int .i64 15)), (some (6, true))⟩,
 ⟨some 10, .pick (.slot 6) (.slot 9) (.lit (.bool false)), none⟩,
 ⟨some 11, .mov (.slot 10), none⟩,
 ⟨some 12, .faddr 1 (.slot 1), (some (11, true))⟩,
 ⟨some 13, .load 1 false (.slot 12), (some (11, true))⟩,
 ⟨some 14, .bin .geq none (.slot 13) (.lit (.int .u64 1)), (some (11, true))⟩,
 ⟨some 15, .pick (.slot 11) (.slot 14) (.lit (.bool false)), none⟩,
 ⟨some 16, .mov (.slot 15), none⟩,
 ⟨some 17, .faddr 1 (.slot 1), (some (16, true))⟩,
 ⟨some 18, .load 1 false (.slot 17), (some (16, true))⟩,
 ⟨some 19, .bin .leq none (.slot 18) (.lit (.int .u64 1099511627776)), (some (16, true))⟩,
 ⟨some 20, .pick (.slot 16) (.slot 19) (.lit (.bool false)), none⟩,
 ⟨some 21, .mov (.slot 20), none⟩,
 ⟨some 22, .faddr 2 (.slot 1), (some (21, true))⟩,
 ⟨some 23, .load 1 false (.slot 22), (some (21, true))⟩,
 ⟨some 24, .len .str (.slot 23), (some (21, true))⟩,
 ⟨some 25, .bin .leq none (.slot 24) (.lit (.int .i64 50)), (some (21, true))⟩,
 ⟨some 26, .pick (.slot 21) (.slot 25) (.lit (.bool false)), none⟩,
 ⟨some 2, .mov (.slot 26), none⟩] [2] true)
 .ret))
def ifn23 : IFn := ⟨27, [.inl 2], ic23⟩
/-- vendue/vendueref12.Check -/
def ic24 : IC :=
 (.seq
 (.reg [
 ⟨some 1, .box (.slot 0), none⟩,
 ⟨some 2, .mov (.lit (.bool false)), none⟩] [1] false)
 (.seq
 (.reg [
 ⟨some 3, .faddr 0 (.slot 1), none⟩,
 ⟨some 4, .load 1 false (.slot 3), none⟩,
 ⟨some 5, .bin .geq none (.slot 4) (.lit (.int .i64 1)), none⟩,
 ⟨some 6, .mov (.slot 5), none⟩,
 ⟨some 7, .faddr 0 (.slot 1), (some (6, true))⟩,
 ⟨some 8, .load 1 false (.slot 7), (some (6, true))⟩,
 ⟨some 9, .bin .leq none (.slot 8) (.lit (.int .i64 15)), (some (6, true))⟩,
 ⟨some 10, .pick (.slot 6) (.slot 9) (.lit (.bool false)), none⟩,
 ⟨some 11, .mov (.slot 10), none⟩,
 ⟨some 12, .faddr 1 (.slot 1), (some (11, true))⟩,
 ⟨some 13, .load 1 false (.slot 12), (some (11, true))⟩,
 ⟨some 14, .bin .geq none (.slot 13) (.lit (.int .u64 1)), (some (11, true))⟩,
 ⟨some 15, .pick (.slot 11) (.slot 14) (.lit (.bool false)), none⟩,
 ⟨some 16, .mov (.slot 15), none⟩,
 ⟨some 17, .faddr 1 (.slot 1), (some (16, true))⟩,
 ⟨some 18, .load 1 false (.slot 17), (some (16, true))⟩,
 ⟨some 19, .bin .leq none (.slot 18) (.lit (.int .u64 1099511627776)), (some (16, true))⟩,
 ⟨some 20, .pick (.slot 16) (.slot 19) (.lit (.bool false)), none⟩,
 ⟨some 21, .mov (.slot 20), none⟩,
 ⟨some 22, .faddr 2 (.slot 1), (some (21, true))⟩,
 ⟨some 23, .load 1 false (.slot 22), (some (21, true))⟩,
 ⟨some 24, .len .str (.slot 23), (some (21, true))⟩,
 ⟨some 25, .bin .leq none (.slot 24) (.lit (.int .i64 50)), (some (21, true))⟩,
 ⟨some 26, .pick (.slot 21) (.slot 25) (.lit (.bool false)), none⟩,
 ⟨some 2, .mov (.slot 26), none⟩] [2] true)
 .ret))
def ifn24 : IFn := ⟨27, [.inl 2], ic24⟩
/-- vendue/session.Bytes -/
def ic25 : IC :=
 (.seq
 (.reg [
 ⟨some 1, .box (.slot 0), none⟩,
 ⟨some 2, .mov (.lit (.str (bs []))), none⟩] [1] false)
 (.seq
 (.seq
 (.reg [
 ⟨some 3, .load 3 true (.slot 1), none⟩,
 ⟨some 4, .call (.lit (.func (.func 23) [] [])) [(.slot 3)], none⟩,
 ⟨some 5, .un .not (.slot 4), none⟩] [1, 5] false)
 (.cond (.slot 5)
 (.seq
 (.reg [
 ⟨some 2, .mov (.lit (.str (bs []))), none⟩] [2] false)
 .ret)
 .skip))
 (.seq
 (.regd [] [
 (⟨some 6, .faddr 0 (.slot 1), none⟩, none),
 (⟨some 7, .load 1 false (.slot 6), none⟩, none),
 (⟨some 8, .conv (.int .u64) (.slot 7), none⟩, none),
 (⟨some 9, .pcall (.lit (.func (.func 41) [] [])) [(.slot 8)], none⟩, none),
 (⟨some 10, .faddr 1 (.slot 1), none⟩, none),
 (⟨some 11, .load 1 false (.slot 10), none⟩, none),
 (⟨some 12, .pcall (.lit (.func (.func 41) [] [])) [(.slot 11)], none⟩, none),
 (⟨some 13, .faddr 2 (.slot 1), none⟩, none),
 (⟨some 14, .load 1 false (.slot 13), none⟩, none),
 (⟨some 15, .pcall (.lit (.func (.func 42) [] [])) [(.slot 14)], none⟩, none),
 (⟨some 16, .bslice 1 (.str ⟨#[]⟩) 3 [(0, (.slot 9)), (1, (.slot 12)), (2, (.slot 15))], none⟩, none),
 (⟨some 17, .pcall (.lit (.func (.func 40) [] [])) [(.slot 16)], none⟩, none),
 (⟨some 2, .mov (.slot 17), none⟩, none)] [] [2] true)
 .ret)))
def ifn25 : IFn := ⟨18, [.inl 2], ic25⟩
/-- vendue/vendueref12.Right -/
def ic26l0 : IC :=
 (.seq
 (.seq
 (.reg [
 ⟨some 5, .mov (.slot 3), none⟩,
 ⟨some 6, .mov (.slot 0), none⟩,
 ⟨some 7, .len (.slice 3) (.slot 6), none⟩,
 ⟨some 8, .bin .lss none (.slot 5) (.slot 7), none⟩] [0, 3, 8] false)
 (.cond (.slot 8)
 .skip
 (.exit 0)))
 (.seq
 (.block 1
 (.seq
 (.regd [] [
 (⟨some 11, .mov (.slot 0), none⟩, none),
 (⟨some 12, .mov (.slot 3), none⟩, none),
 (⟨some 13, .iaddr (.slice 3) (.slot 11) (.slot 12), none⟩, none),
 (⟨some 14, .faddr 0 (.slot 13), none⟩, none),
 (⟨some 15, .load 1 false (.slot 14), none⟩, none),
 (⟨some 16, .mov (.slot 0), none⟩, none),
 (⟨some 17, .mov (.slot 3), none⟩, none),
 (⟨some 18, .iaddr (.slice 3) (.slot 16) (.slot 17), none⟩, none),
 (⟨some 19, .faddr 1 (.slot 18), none⟩, none),
 (⟨some 20, .load 1 false (.slot 19), none⟩, none),
 (⟨some 21, .build [(.int .i64 0), (.int .u64 0), (.str ⟨#[]⟩)] [(0, 1, (.slot 15)), (1, 1, (.slot 20))], none⟩, none),
 (⟨some 22, .pcall (.lit (.func (.func 24) [] [])) [(.slot 21)], none⟩, none),
 (⟨some 4, .mov (.slot 22), none⟩, none)] [] [0, 3, 4] false)
 (.seq
 (.regd [] [
 (⟨some 23, .mov (.slot 4), none⟩, none),
 (⟨some 24, .un .not (.slot 23), none⟩, none),
 (⟨some 25, .mov (.slot 24), none⟩, none),
 (⟨some 26, .mov (.slot 0), (some (25, false))⟩, none),
 (⟨some 27, .mov (.slot 3), (some (25, false))⟩, none),
 (⟨some 28, .iaddr (.slice 3) (.slot 26) (.slot 27), (some (25, false))⟩, none),
 (⟨some 29, .faddr 2 (.slot 28), (some (25, false))⟩, none),
 (⟨some 30, .load 1 false (.slot 29), (some (25, false))⟩, none),
 (⟨some 31, .len .str (.slot 30), (some (25, false))⟩, none),
 (⟨some 32, .bin .gtr none (.slot 31) (.lit (.int .i64 40)), (some (25, false))⟩, none),
 (⟨some 33, .pick (.slot 25) (.lit (.bool true)) (.slot 32), none⟩, none),
 (⟨some 34, .mov (.slot 33), none⟩, none),
 (⟨some 35, .mov (.slot 3), (some (34, false))⟩, none),
 (⟨some 36, .bin .gtr none (.slot 35) (.lit (.int .i64 0)), (some (34, false))⟩, none),
 (⟨some 37, .mov (.slot 36), (some (34, false))⟩, none),
 (⟨some 38, .mov (.slot 0), (some (37, true))⟩, none),
 (⟨some 39, .mov (.slot 3), (some (37, true))⟩, none),
 (⟨some 40, .bin .sub none (.slot 39) (.lit (.int .i64 1)), (some (37, true))⟩, none),
 (⟨some 41, .iaddr (.slice 3) (.slot 38) (.slot 40), (some (37, true))⟩, none),
 (⟨some 42, .faddr 0 (.slot 41), (some (37, true))⟩, none),
 (⟨some 43, .load 1 false (.slot 42), (some (37, true))⟩, none),
 (⟨some 44, .mov (.slot 0), (some (37, true))⟩, none),
 (⟨some 45, .mov (.slot 3), (some (37, true))⟩, none),
 (⟨some 46, .iaddr (.slice 3) (.slot 44) (.slot 45), (some (37, true))⟩, none),
 (⟨some 47, .faddr 0 (.slot 46), (some (37, true))⟩, none),
 (⟨some 48, .load 1 false (.slot 47), (some (37, true))⟩, none),
 (⟨some 49, .bin .geq none (.slot 43) (.slot 48), (some (37, true))⟩, none),
 (⟨some 50, .pick (.slot 37) (.slot 49) (.lit (.bool false)), (some (34, false))⟩, none),
 (⟨some 51, .pick (.slot 34) (.lit (.bool true)) (.slot 50), none⟩, none)] [] [0, 3, 51] false)
 (.cond (.slot 51)
 (.seq
 (.reg [
 ⟨some 2, .mov (.lit (.bool false)), none⟩] [2] false)
 .ret)
 .skip))))
 (.reg [
 ⟨some 9, .mov (.slot 3), none⟩,
 ⟨some 10, .bin .add none (.slot 9) (.lit (.int .i64 1)), none⟩,
 ⟨some 3, .mov (.slot 10), none⟩] [0, 3] false)))
def ic26 : IC :=
 (.seq
 (.reg [
 ⟨some 2, .mov (.lit (.bool false)), none⟩] [0] false)
 (.seq
 (.seq
 (.reg [
 ⟨some 3, .mov (.lit (.int .i64 0)), none⟩] [0, 3] false)
 (.block 0
 (.loop ic26l0)))
 (.seq
 (.reg [
 ⟨some 2, .mov (.lit (.bool true)), none⟩] [2] false)
 .ret)))
def ifn26 : IFn := ⟨52, [.inl 2], ic26⟩
/-- vendue/session.at -/
def ic27 : IC :=
 (.seq
 (.reg [
 ⟨some 4, .mov (.lit (.int .i64 0)), none⟩,
 ⟨some 5, .mov (.lit (.bool false)), none⟩] [0, 1] false)
 (.seq
 (.reg [
 ⟨some 6, .mov (.slot 0), none⟩,
 ⟨some 7, .mov (.slot 1), none⟩,
 ⟨some 8, .call (.lit (.func (.func 43) [] [])) [(.slot 6), (.slot 7), (.lit (.func (.func 44) [] []))], none⟩,
 ⟨some 9, .extract (.slot 8) 0, none⟩,
 ⟨some 10, .extract (.slot 8) 1, none⟩,
 ⟨some 4, .mov (.slot 9), none⟩,
 ⟨some 5, .mov (.slot 10), none⟩] [4, 5] false)
 .ret))
def ifn27 : IFn := ⟨11, [.inl 4, .inl 5], ic27⟩
/-- slices.Concat[[]vendue/api.Seen,vendue/api.Seen] -/
def ic28l1 : IC :=
 (.seq
 (.reg [
 ⟨some 28, .bin .lss none (.slot 27) (.slot 26), none⟩] [6, 25, 26, 27, 28] false)
 (.seq
 (.cond (.slot 28)
 .skip
 (.exit 2))
 (.seq
 (.block 3
 (.seq
 (.reg [
 ⟨some 29, .iaddr (.slice 1) (.slot 25) (.slot 27), none⟩,
 ⟨some 30, .load 1 false (.slot 29), none⟩,
 ⟨some 8, .mov (.slot 30), none⟩] [6, 8, 25, 26, 27] false)
 (.reg [
 ⟨some 31, .mov (.slot 6), none⟩,
 ⟨some 32, .mov (.slot 8), none⟩,
 ⟨some 33, .append 3 32 (.slot 31) (.slot 32), none⟩,
 ⟨some 6, .mov (.slot 33), none⟩] [6, 25, 26, 27] false)))
 (.reg [
 ⟨some 34, .bin .add none (.slot 27) (.lit (.int .i64 1)), none⟩,
 ⟨some 27, .mov (.slot 34), none⟩] [6, 25, 26, 27] false))))
def ic28l0 : IC :=
 (.seq
 (.reg [
 ⟨some 12, .bin .lss none (.slot 11) (.slot 10), none⟩] [0, 3, 9, 10, 11, 12] false)
 (.seq
 (.cond (.slot 12)
 .skip
 (.exit 0))
 (.seq
 (.block 1
 (.seq
 (.reg [
 ⟨some 13, .iaddr (.slice 1) (.slot 9) (.slot 11), none⟩,
 ⟨some 14, .load 1 false (.slot 13), none⟩,
 ⟨some 5, .mov (.slot 14), none⟩] [0, 3, 5, 9, 10, 11] false)
 (.seq
 (.reg [
 ⟨some 15, .mov (.slot 3), none⟩,
 ⟨some 16, .mov (.slot 5), none⟩,
 ⟨some 17, .len (.slice 3) (.slot 16), none⟩,
 ⟨some 18, .bin .add none (.slot 15) (.slot 17), none⟩,
 ⟨some 3, .mov (.slot 18), none⟩] [0, 3, 9, 10, 11] false)
 (.seq
 (.reg [
 ⟨some 19, .mov (.slot 3), none⟩,
 ⟨some 20, .bin .lss none (.slot 19) (.lit (.int .i64 0)), none⟩] [0, 3, 9, 10, 11, 20] false)
 (.cond (.slot 20)
 (.reg [
 ⟨some 21, .mkIface 9 (.lit (.str (bs [108, 101, 110, 32, 111, 117, 116, 32, 111, 102, 32, 114, 97, 110, 103, 101]))), none⟩,
 ⟨none, .bad, none⟩] [0, 3, 9, 10, 11] false)
 .skip)))))
 (.reg [
 ⟨some 22, .bin .add none (.slot 11) (.lit (.int .i64 1)), none⟩,
 ⟨some 11, .mov (.slot 22), none⟩] [0, 3, 9, 10, 11] false))))
def ic28 : IC :=
 (.seq
 (.reg [
 ⟨some 2, .mov (.lit (.slice true 0 [] .full)), none⟩] [0] false)
 (.seq
 (.reg [
 ⟨some 3, .mov (.lit (.int .i64 0)), none⟩] [0, 3] false)
 (.seq
 (.seq
 (.reg [
 ⟨some 9, .mov (.slot 0), none⟩,
 ⟨some 10, .len (.slice 1) (.slot 9), none⟩,
 ⟨some 11, .mov (.lit (.int .i64 0)), none⟩] [0, 3, 9, 10, 11] false)
 (.block 0
 (.loop ic28l0)))
 (.seq
 (.reg [
 ⟨some 23, .mov (.slot 3), none⟩,
 ⟨some 24, .call (.lit (.func (.func 46) [] [])) [(.lit (.slice true 0 [] .full)), (.slot 23)], none⟩,
 ⟨some 6, .mov (.slot 24), none⟩] [0, 6] false)
 (.seq
 (.seq
 (.reg [
 ⟨some 25, .mov (.slot 0), none⟩,
 ⟨some 26, .len (.slice 1) (.slot 25), none⟩,
 ⟨some 27, .mov (.lit (.int .i64 0)), none⟩] [6, 25, 26, 27] false)
 (.block 2
 (.loop ic28l1)))
 (.seq
 (.reg [
 ⟨some 35, .mov (.slot 6), none⟩,
 ⟨some 2, .mov (.slot 35), none⟩] [2] false)
 .ret))))))
def ifn28 : IFn := ⟨36, [.inl 2], ic28⟩
/-- vendue/session.Right$1 -/
def ic29 : IC :=
 (.seq
 (.reg [
 ⟨some 2, .box (.slot 0), none⟩,
 ⟨some 3, .mov (.lit (.bool false)), none⟩] [1, 2] false)
 (.seq
 (.reg [
 ⟨some 5, .faddr 0 (.slot 2), none⟩,
 ⟨some 6, .load 1 false (.slot 5), none⟩,
 ⟨some 7, .load 1 false (.slot 1), none⟩,
 ⟨some 8, .bin .leq none (.slot 6) (.slot 7), none⟩,
 ⟨some 4, .mov (.slot 8), none⟩] [1, 2, 4] false)
 (.seq
 (.reg [
 ⟨some 9, .faddr 0 (.slot 2), none⟩,
 ⟨some 10, .load 1 false (.slot 9), none⟩,
 ⟨none, .store 1 (.slot 1) (.slot 10), none⟩] [2, 4] false)
 (.seq
 (.reg [
 ⟨some 11, .mov (.slot 4), none⟩,
 ⟨some 12, .mov (.slot 11), none⟩,
 ⟨some 13, .faddr 0 (.slot 2), (some (12, false))⟩,
 ⟨some 14, .load 1 false (.slot 13), (some (12, false))⟩,
 ⟨some 15, .faddr 1 (.slot 2), (some (12, false))⟩,
 ⟨some 16, .load 1 false (.slot 15), (some (12, false))⟩,
 ⟨some 17, .build [(.int .i64 0), (.int .u64 0), (.str ⟨#[]⟩)] [(0, 1, (.slot 14)), (1, 1, (.slot 16))], (some (12, false))⟩,
 ⟨some 18, .call (.lit (.func (.func 23) [] [])) [(.slot 17)], (some (12, false))⟩,
 ⟨some 19, .un .not (.slot 18), (some (12, false))⟩,
 ⟨some 20, .pick (.slot 12) (.lit (.bool true)) (.slot 19), none⟩,
 ⟨some 21, .mov (.slot 20), none⟩,
 ⟨some 22, .faddr 2 (.slot 2), (some (21, false))⟩,
 ⟨some 23, .load 1 false (.slot 22), (some (21, false))⟩,
 ⟨some 24, .len .str (.slot 23), (some (21, false))⟩,
 ⟨some 25, .bin .gtr none (.slot 24) (.lit (.int .i64 40)), (some (21, false))⟩,
 ⟨some 26, .pick (.slot 21) (.lit (.bool true)) (.slot 25), none⟩,
 ⟨some 3, .mov (.slot 26), none⟩] [3] true)
 .ret))))
def ifn29 : IFn := ⟨27, [.inl 3], ic29⟩
/-- slices.ContainsFunc[[]vendue/api.Seen,vendue/api.Seen] -/
def ic30 : IC :=
 (.seq
 (.reg [
 ⟨some 4, .mov (.lit (.bool false)), none⟩] [0, 1] false)
 (.seq
 (.reg [
 ⟨some 5, .mov (.slot 0), none⟩,
 ⟨some 6, .mov (.slot 1), none⟩,
 ⟨some 7, .call (.lit (.func (.func 47) [] [])) [(.slot 5), (.slot 6)], none⟩,
 ⟨some 8, .bin .geq none (.slot 7) (.lit (.int .i64 0)), none⟩,
 ⟨some 4, .mov (.slot 8), none⟩] [4] false)
 .ret))
def ifn30 : IFn := ⟨9, [.inl 4], ic30⟩
/-- vendue/vendueref02.Num -/
def ic31l1 : IC :=
 (.seq
 (.seq
 (.reg [
 ⟨some 18, .mov (.slot 5), none⟩,
 ⟨some 19, .mov (.slot 3), none⟩,
 ⟨some 20, .bin .lss none (.slot 18) (.slot 19), none⟩] [0, 3, 4, 5, 20] false)
 (.cond (.slot 20)
 .skip
 (.exit 2)))
 (.seq
 (.block 3
 (.seq
 (.reg [
 ⟨some 23, .mov (.slot 0), none⟩,
 ⟨some 24, .bin .rem none (.slot 23) (.lit (.int .u64 256)), none⟩,
 ⟨some 25, .conv (.int .u8) (.slot 24), none⟩,
 ⟨some 26, .bslice 1 (.int .u8 0) 1 [(0, (.slot 25))], none⟩,
 ⟨some 27, .conv .ofBytes (.slot 26), none⟩,
 ⟨some 28, .mov (.slot 4), none⟩,
 ⟨some 29, .bin .add none (.slot 27) (.slot 28), none⟩,
 ⟨some 4, .mov (.slot 29), none⟩] [0, 3, 4, 5] false)
 (.reg [
 ⟨some 30, .mov (.slot 0), none⟩,
 ⟨some 31, .bin .quo none (.slot 30) (.lit (.int .u64 256)), none⟩,
 ⟨some 0, .mov (.slot 31), none⟩] [0, 3, 4, 5] false)))
 (.reg [
 ⟨some 21, .mov (.slot 5), none⟩,
 ⟨some 22, .bin .add none (.slot 21) (.lit (.int .i64 1)), none⟩,
 ⟨some 5, .mov (.slot 22), none⟩] [0, 3, 4, 5] false)))
def ic31l0 : IC :=
 (.seq
 (.seq
 (.reg [
 ⟨some 6, .mov (.slot 3), none⟩,
 ⟨some 7, .bin .lss none (.slot 6) (.lit (.int .i64 8)), none⟩,
 ⟨some 8, .mov (.slot 7), none⟩,
 ⟨some 9, .mov (.slot 0), (some (8, true))⟩,
 ⟨some 10, .mov (.slot 3), (some (8, true))⟩,
 ⟨some 11, .call (.lit (.func (.func 48) [] [])) [(.slot 10)], (some (8, true))⟩,
 ⟨some 12, .conv (.int .u64) (.slot 11), (some (8, true))⟩,
 ⟨some 13, .bin .shr none (.slot 9) (.slot 12), (some (8, true))⟩,
 ⟨some 14, .bin .neq (some .int) (.slot 13) (.lit (.int .u64 0)), (some (8, true))⟩,
 ⟨some 15, .pick (.slot 8) (.slot 14) (.lit (.bool false)), none⟩] [0, 3, 15] false)
 (.cond (.slot 15)
 .skip
 (.exit 0)))
 (.block 1
 (.reg [
 ⟨some 16, .mov (.slot 3), none⟩,
 ⟨some 17, .bin .add none (.slot 16) (.lit (.int .i64 1)), none⟩,
 ⟨some 3, .mov (.slot 17), none⟩] [0, 3] false)))
def ic31 : IC :=
 (.seq
 (.reg [
 ⟨some 2, .mov (.lit (.str (bs []))), none⟩] [0] false)
 (.seq
 (.reg [
 ⟨some 3, .mov (.lit (.int .i64 0)), none⟩] [0, 3] false)
 (.seq
 (.block 0
 (.loop ic31l0))
 (.seq
 (.reg [
 ⟨some 4, .mov (.lit (.str (bs []))), none⟩] [0, 3, 4] false)
 (.seq
 (.seq
 (.reg [
 ⟨some 5, .mov (.lit (.int .i64 0)), none⟩] [0, 3, 4, 5] false)
 (.block 2
 (.loop ic31l1)))
 (.seq
 (.reg [
 ⟨some 32, .mov (.slot 3), none⟩,
 ⟨some 33, .call (.lit (.func (.func 49) [] [])) [(.slot 32)], none⟩,
 ⟨some 34, .mov (.slot 0), none⟩,
 ⟨some 35, .conv (.int .u8) (.slot 34), none⟩,
 ⟨some 36, .bin .or none (.slot 33) (.slot 35), none⟩,
 ⟨some 37, .bslice 1 (.int .u8 0) 1 [(0, (.slot 36))], none⟩,
 ⟨some 38, .conv .ofBytes (.slot 37), none⟩,
 ⟨some 39, .mov (.slot 4), none⟩,
 ⟨some 40, .bin .add none (.slot 38) (.slot 39), none⟩,
 ⟨some 2, .mov (.slot 40), none⟩] [2] false)
 .ret))))))
def ifn31 : IFn := ⟨41, [.inl 2], ic31⟩
/-- vendue/vendueref02.Text -/
def ic32 : IC :=
 (.seq
 (.reg [
 ⟨some 2, .mov (.lit (.str (bs []))), none⟩] [0] false)
 (.seq
 (.reg [
 ⟨some 3, .mov (.slot 0), none⟩,
 ⟨some 4, .len .str (.slot 3), none⟩,
 ⟨some 5, .conv (.int .u64) (.slot 4), none⟩,
 ⟨some 6, .call (.lit (.func (.func 31) [] [])) [(.slot 5)], none⟩,
 ⟨some 7, .mov (.slot 0), none⟩,
 ⟨some 8, .bin .add none (.slot 6) (.slot 7), none⟩,
 ⟨some 2, .mov (.slot 8), none⟩] [2] false)
 .ret))
def ifn32 : IFn := ⟨9, [.inl 2], ic32⟩
/-- vendue/codec.Read -/
def ic33 : IC :=
 (.seq
 (.reg [
 ⟨some 2, .mov (.lit .nilp), none⟩] [0] false)
 (.seq
 (.reg [
 ⟨some 3, .mov (.slot 0), none⟩,
 ⟨some 4, .build [(.str ⟨#[]⟩), (.bool false)] [(0, 1, (.slot 3))], none⟩,
 ⟨some 5, .box (.slot 4), none⟩,
 ⟨some 2, .mov (.slot 5), none⟩] [2] true)
 .ret))
def ifn33 : IFn := ⟨6, [.inl 2], ic33⟩
/-- (*vendue/codec.Reader).Num -/
def ic34l0 : IC :=
 (.seq
 (.reg [
 ⟨some 47, .bin .lss none (.slot 46) (.slot 45), none⟩] [0, 1, 5, 6, 45, 46, 47] false)
 (.seq
 (.cond (.slot 47)
 .skip
 (.exit 0))
 (.seq
 (.block 1
 (.seq
 (.reg [
 ⟨some 48, .mov (.slot 46), none⟩,
 ⟨some 7, .mov (.slot 48), none⟩] [0, 1, 5, 6, 7, 45, 46] false)
 (.reg [
 ⟨some 49, .mov (.slot 6), none⟩,
 ⟨some 50, .bin .shl none (.slot 49) (.lit (.int .u64 8)), none⟩,
 ⟨some 51, .mov (.slot 0), none⟩,
 ⟨some 52, .nilck (.slot 51), none⟩,
 ⟨some 53, .faddr 0 (.slot 52), none⟩,
 ⟨some 54, .load 1 false (.slot 53), none⟩,
 ⟨some 55, .mov (.slot 7), none⟩,
 ⟨some 56, .bin .add none (.slot 55) (.lit (.int .i64 1)), none⟩,
 ⟨some 57, .idx .str (.slot 54) (.slot 56), none⟩,
 ⟨some 58, .conv (.int .u64) (.slot 57), none⟩,
 ⟨some 59, .bin .or none (.slot 50) (.slot 58), none⟩,
 ⟨some 6, .mov (.slot 59), none⟩] [0, 1, 5, 6, 45, 46] false)))
 (.reg [
 ⟨some 60, .bin .add none (.slot 46) (.lit (.int .i64 1)), none⟩,
 ⟨some 46, .mov (.slot 60), none⟩] [0, 1, 5, 6, 45, 46] false))))
def ic34 : IC :=
 (.seq
 (.reg [
 ⟨some 4, .mov (.lit (.int .u64 0)), none⟩] [0, 1] false)
 (.seq
 (.seq
 (.reg [
 ⟨some 8, .mov (.slot 0), none⟩,
 ⟨some 9, .call (.lit (.func (.func 50) [] [])) [(.slot 8)], none⟩,
 ⟨some 10, .un .not (.slot 9), none⟩,
 ⟨some 11, .mov (.slot 10), none⟩,
 ⟨some 12, .mov (.slot 0), (some (11, false))⟩,
 ⟨some 13, .nilck (.slot 12), (some (11, false))⟩,
 ⟨some 14, .faddr 0 (.slot 13), (some (11, false))⟩,
 ⟨some 15, .load 1 false (.slot 14), (some (11, false))⟩,
 ⟨some 16, .bin .eql (some .str) (.slot 15) (.lit (.str (bs []))), (some (11, false))⟩,
 ⟨some 17, .pick (.slot 11) (.lit (.bool true)) (.slot 16), none⟩] [0, 1, 17] false)
 (.cond (.slot 17)
 (.seq
 (.reg [
 ⟨some 18, .mov (.slot 0), none⟩,
 ⟨some 19, .call (.lit (.func (.func 51) [] [])) [(.slot 18)], none⟩] [] false)
 (.seq
 (.reg [
 ⟨some 4, .mov (.lit (.int .u64 0)), none⟩] [4] false)
 .ret))
 .skip))
 (.seq
 (.reg [
 ⟨some 20, .mov (.slot 0), none⟩,
 ⟨some 21, .nilck (.slot 20), none⟩,
 ⟨some 22, .faddr 0 (.slot 21), none⟩,
 ⟨some 23, .load 1 false (.slot 22), none⟩,
 ⟨some 24, .idx .str (.slot 23) (.lit (.int .i64 0)), none⟩,
 ⟨some 25, .un .xor (.slot 24), none⟩,
 ⟨some 26, .call (.lit (.func (.func 52) [] [])) [(.slot 25)], none⟩,
 ⟨some 5, .mov (.slot 26), none⟩] [0, 1, 5] false)
 (.seq
 (.seq
 (.reg [
 ⟨some 27, .mov (.slot 0), none⟩,
 ⟨some 28, .nilck (.slot 27), none⟩,
 ⟨some 29, .faddr 0 (.slot 28), none⟩,
 ⟨some 30, .load 1 false (.slot 29), none⟩,
 ⟨some 31, .len .str (.slot 30), none⟩,
 ⟨some 32, .mov (.slot 5), none⟩,
 ⟨some 33, .bin .leq none (.slot 31) (.slot 32), none⟩] [0, 1, 5, 33] false)
 (.cond (.slot 33)
 (.seq
 (.reg [
 ⟨some 34, .mov (.slot 0), none⟩,
 ⟨some 35, .call (.lit (.func (.func 51) [] [])) [(.slot 34)], none⟩] [] false)
 (.seq
 (.reg [
 ⟨some 4, .mov (.lit (.int .u64 0)), none⟩] [4] false)
 .ret))
 .skip))
 (.seq
 (.regd [] [
 (⟨some 36, .mov (.slot 0), none⟩, none),
 (⟨some 37, .nilck (.slot 36), none⟩, none),
 (⟨some 38, .faddr 0 (.slot 37), none⟩, none),
 (⟨some 39, .load 1 false (.slot 38), none⟩, none),
 (⟨some 40, .idx .str (.slot 39) (.lit (.int .i64 0)), none⟩, none),
 (⟨some 41, .mov (.slot 5), none⟩, none),
 (⟨some 42, .pcall (.lit (.func (.func 53) [] [])) [(.slot 41)], none⟩, none),
 (⟨some 43, .bin .andNot none (.slot 40) (.slot 42), none⟩, none),
 (⟨some 44, .conv (.int .u64) (.slot 43), none⟩, none),
 (⟨some 6, .mov (.slot 44), none⟩, none)] [] [0, 1, 5, 6] false)
 (.seq
 (.seq
 (.reg [
 ⟨some 45, .mov (.slot 5), none⟩,
 ⟨some 46, .mov (.lit (.int .i64 0)), none⟩] [0, 1, 5, 6, 45, 46] false)
 (.block 0
 (.loop ic34l0)))
 (.seq
 (.seq
 (.reg [
 ⟨some 61, .mov (.slot 6), none⟩,
 ⟨some 62, .call (.lit (.func (.func 54) [] [])) [(.slot 61)], none⟩,
 ⟨some 63, .mov (.slot 5), none⟩,
 ⟨some 64, .bin .neq (some .int) (.slot 62) (.slot 63), none⟩,
 ⟨some 65, .mov (.slot 64), none⟩,
 ⟨some 66, .mov (.slot 6), (some (65, false))⟩,
 ⟨some 67, .mov (.slot 1), (some (65, false))⟩,
 ⟨some 68, .bin .gtr none (.slot 66) (.slot 67), (some (65, false))⟩,
 ⟨some 69, .pick (.slot 65) (.lit (.bool true)) (.slot 68), none⟩] [0, 5, 6, 69] false)
 (.cond (.slot 69)
 (.seq
 (.reg [
 ⟨some 70, .mov (.slot 0), none⟩,
 ⟨some 71, .call (.lit (.func (.func 51) [] [])) [(.slot 70)], none⟩] [] false)
 (.seq
 (.reg [
 ⟨some 4, .mov (.lit (.int .u64 0)), none⟩] [4] false)
 .ret))
 .skip))
 (.seq
 (.reg [
 ⟨some 72, .mov (.slot 0), none⟩,
 ⟨some 73, .mov (.slot 0), none⟩,
 ⟨some 74, .nilck (.slot 73), none⟩,
 ⟨some 75, .faddr 0 (.slot 74), none⟩,
 ⟨some 76, .load 1 false (.slot 75), none⟩,
 ⟨some 77, .mov (.slot 5), none⟩,
 ⟨some 78, .bin .add none (.slot 77) (.lit (.int .i64 1)), none⟩,
 ⟨some 79, .sl .str (.slot 76) (some (.slot 78)) none none, none⟩,
 ⟨some 80, .nilck (.slot 72), none⟩,
 ⟨some 81, .faddr 0 (.slot 80), none⟩,
 ⟨none, .store 1 (.slot 81) (.slot 79), none⟩] [6] false)
 (.seq
 (.reg [
 ⟨some 82, .mov (.slot 6), none⟩,
 ⟨some 4, .mov (.slot 82), none⟩] [4] false)
 .ret)))))))))
def ifn34 : IFn := ⟨83, [.inl 4], ic34⟩
/-- (*vendue/codec.Reader).Text -/
def ic35 : IC :=
 (.seq
 (.reg [
 ⟨some 4, .mov (.lit (.str (bs []))), none⟩] [0, 1] false)
 (.seq
 (.seq
 (.reg [
 ⟨some 7, .mov (.slot 1), none⟩,
 ⟨some 8, .bin .lss none (.slot 7) (.lit (.int .i64 0)), none⟩] [0, 1, 8] false)
 (.cond (.slot 8)
 (.reg [
 ⟨some 9, .mov (.slot 0), none⟩,
 ⟨some 10, .call (.lit (.func (.func 51) [] [])) [(.slot 9)], none⟩] [0, 1] false)
 .skip))
 (.seq
 (.reg [
 ⟨some 11, .mov (.slot 0), none⟩,
 ⟨some 12, .mov (.slot 1), none⟩,
 ⟨some 13, .minmax true [(.slot 12), (.lit (.int .i64 0))], none⟩,
 ⟨some 14, .conv (.int .u64) (.slot 13), none⟩,
 ⟨some 15, .call (.lit (.func (.func 34) [] [])) [(.slot 11), (.slot 14)], none⟩,
 ⟨some 5, .mov (.slot 15), none⟩] [0, 5] false)
 (.seq
 (.seq
 (.reg [
 ⟨some 16, .mov (.slot 0), none⟩,
 ⟨some 17, .call (.lit (.func (.func 50) [] [])) [(.slot 16)], none⟩,
 ⟨some 18, .un .not (.slot 17), none⟩,
 ⟨some 19, .mov (.slot 18), none⟩,
 ⟨some 20, .mov (.slot 5), (some (19, false))⟩,
 ⟨some 21, .mov (.slot 0), (some (19, false))⟩,
 ⟨some 22, .nilck (.slot 21), (some (19, false))⟩,
 ⟨some 23, .faddr 0 (.slot 22), (some (19, false))⟩,
 ⟨some 24, .load 1 false (.slot 23), (some (19, false))⟩,
 ⟨some 25, .len .str (.slot 24), (some (19, false))⟩,
 ⟨some 26, .conv (.int .u64) (.slot 25), (some (19, false))⟩,
 ⟨some 27, .bin .gtr none (.slot 20) (.slot 26), (some (19, false))⟩,
 ⟨some 28, .pick (.slot 19) (.lit (.bool true)) (.slot 27), none⟩] [0, 5, 28] false)
 (.cond (.slot 28)
 (.seq
 (.reg [
 ⟨some 29, .mov (.slot 0), none⟩,
 ⟨some 30, .call (.lit (.func (.func 51) [] [])) [(.slot 29)], none⟩] [] false)
 (.seq
 (.reg [
 ⟨some 4, .mov (.lit (.str (bs []))), none⟩] [4] false)
 .ret))
 .skip))
 (.seq
 (.reg [
 ⟨some 31, .mov (.slot 0), none⟩,
 ⟨some 32, .nilck (.slot 31), none⟩,
 ⟨some 33, .faddr 0 (.slot 32), none⟩,
 ⟨some 34, .load 1 false (.slot 33), none⟩,
 ⟨some 35, .mov (.slot 5), none⟩,
 ⟨some 36, .sl .str (.slot 34) none (some (.slot 35)) none, none⟩,
 ⟨some 6, .mov (.slot 36), none⟩] [0, 5, 6] false)
 (.seq
 (.reg [
 ⟨some 37, .mov (.slot 0), none⟩,
 ⟨some 38, .mov (.slot 0), none⟩,
 ⟨some 39, .nilck (.slot 38), none⟩,
 ⟨some 40, .faddr 0 (.slot 39), none⟩,
 ⟨some 41, .load 1 false (.slot 40), none⟩,
 ⟨some 42, .mov (.slot 5), none⟩,
 ⟨some 43, .sl .str (.slot 41) (some (.slot 42)) none none, none⟩,
 ⟨some 44, .nilck (.slot 37), none⟩,
 ⟨some 45, .faddr 0 (.slot 44), none⟩,
 ⟨none, .store 1 (.slot 45) (.slot 43), none⟩] [6] false)
 (.seq
 (.reg [
 ⟨some 46, .mov (.slot 6), none⟩,
 ⟨some 4, .mov (.slot 46), none⟩] [4] false)
 .ret)))))))
def ifn35 : IFn := ⟨47, [.inl 4], ic35⟩
/-- (*vendue/codec.Reader).End -/
def ic36 : IC :=
 (.seq
 (.reg [
 ⟨some 2, .mov (.lit (.bool false)), none⟩] [0] false)
 (.seq
 (.reg [
 ⟨some 3, .mov (.slot 0), none⟩,
 ⟨some 4, .call (.lit (.func (.func 50) [] [])) [(.slot 3)], none⟩,
 ⟨some 5, .mov (.slot 4), none⟩,
 ⟨some 6, .mov (.slot 0), (some (5, true))⟩,
 ⟨some 7, .nilck (.slot 6), (some (5, true))⟩,
 ⟨some 8, .faddr 0 (.slot 7), (some (5, true))⟩,
 ⟨some 9, .load 1 false (.slot 8), (some (5, true))⟩,
 ⟨some 10, .bin .eql (some .str) (.slot 9) (.lit (.str (bs []))), (some (5, true))⟩,
 ⟨some 11, .pick (.slot 5) (.slot 10) (.lit (.bool false)), none⟩,
 ⟨some 2, .mov (.slot 11), none⟩] [2] false)
 .ret))
def ifn36 : IFn := ⟨12, [.inl 2], ic36⟩
/-- (*vendue/vendueref02.Reader).Num -/
def ic37l1 : IC :=
 (.seq
 (.seq
 (.reg [
 ⟨some 58, .mov (.slot 7), none⟩,
 ⟨some 59, .mov (.slot 5), none⟩,
 ⟨some 60, .bin .lss none (.slot 58) (.slot 59), none⟩] [0, 1, 5, 6, 7, 60] false)
 (.cond (.slot 60)
 .skip
 (.exit 2)))
 (.seq
 (.block 3
 (.reg [
 ⟨some 63, .mov (.slot 6), none⟩,
 ⟨some 64, .bin .mul none (.slot 63) (.lit (.int .u64 256)), none⟩,
 ⟨some 65, .mov (.slot 0), none⟩,
 ⟨some 66, .nilck (.slot 65), none⟩,
 ⟨some 67, .faddr 0 (.slot 66), none⟩,
 ⟨some 68, .load 1 false (.slot 67), none⟩,
 ⟨some 69, .mov (.slot 7), none⟩,
 ⟨some 70, .bin .add none (.lit (.int .i64 1)) (.slot 69), none⟩,
 ⟨some 71, .idx .str (.slot 68) (.slot 70), none⟩,
 ⟨some 72, .conv (.int .u64) (.slot 71), none⟩,
 ⟨some 73, .bin .add none (.slot 64) (.slot 72), none⟩,
 ⟨some 6, .mov (.slot 73), none⟩] [0, 1, 5, 6, 7] false))
 (.reg [
 ⟨some 61, .mov (.slot 7), none⟩,
 ⟨some 62, .bin .add none (.slot 61) (.lit (.int .i64 1)), none⟩,
 ⟨some 7, .mov (.slot 62), none⟩] [0, 1, 5, 6, 7] false)))
def ic37l0 : IC :=
 (.seq
 (.seq
 (.reg [
 ⟨some 22, .mov (.slot 5), none⟩,
 ⟨some 23, .bin .lss none (.slot 22) (.lit (.int .i64 8)), none⟩,
 ⟨some 24, .mov (.slot 23), none⟩,
 ⟨some 25, .mov (.slot 0), (some (24, true))⟩,
 ⟨some 26, .nilck (.slot 25), (some (24, true))⟩,
 ⟨some 27, .faddr 0 (.slot 26), (some (24, true))⟩,
 ⟨some 28, .load 1 false (.slot 27), (some (24, true))⟩,
 ⟨some 29, .idx .str (.slot 28) (.lit (.int .i64 0)), (some (24, true))⟩,
 ⟨some 30, .mov (.slot 5), (some (24, true))⟩,
 ⟨some 31, .conv (.int .u64) (.slot 30), (some (24, true))⟩,
 ⟨some 32, .bin .shr none (.lit (.int .u8 128)) (.slot 31), (some (24, true))⟩,
 ⟨some 33, .bin .and none (.slot 29) (.slot 32), (some (24, true))⟩,
 ⟨some 34, .bin .neq (some .int) (.slot 33) (.lit (.int .u8 0)), (some (24, true))⟩,
 ⟨some 35, .pick (.slot 24) (.slot 34) (.lit (.bool false)), none⟩] [0, 1, 5, 35] false)
 (.cond (.slot 35)
 .skip
 (.exit 0)))
 (.block 1
 (.reg [
 ⟨some 36, .mov (.slot 5), none⟩,
 ⟨some 37, .bin .add none (.slot 36) (.lit (.int .i64 1)), none⟩,
 ⟨some 5, .mov (.slot 37), none⟩] [0, 1, 5] false)))
def ic37 : IC :=
 (.seq
 (.reg [
 ⟨some 4, .mov (.lit (.int .u64 0)), none⟩] [0, 1] false)
 (.seq
 (.seq
 (.reg [
 ⟨some 8, .mov (.slot 0), none⟩,
 ⟨some 9, .nilck (.slot 8), none⟩,
 ⟨some 10, .faddr 1 (.slot 9), none⟩,
 ⟨some 11, .load 1 false (.slot 10), none⟩,
 ⟨some 12, .mov (.slot 11), none⟩,
 ⟨some 13, .mov (.slot 0), (some (12, false))⟩,
 ⟨some 14, .nilck (.slot 13), (some (12, false))⟩,
 ⟨some 15, .faddr 0 (.slot 14), (some (12, false))⟩,
 ⟨some 16, .load 1 false (.slot 15), (some (12, false))⟩,
 ⟨some 17, .bin .eql (some .str) (.slot 16) (.lit (.str (bs []))), (some (12, false))⟩,
 ⟨some 18, .pick (.slot 12) (.lit (.bool true)) (.slot 17), none⟩] [0, 1, 18] false)
 (.cond (.slot 18)
 (.seq
 (.reg [
 ⟨some 19, .mov (.slot 0), none⟩,
 ⟨some 20, .nilck (.slot 19), none⟩,
 ⟨some 21, .faddr 1 (.slot 20), none⟩,
 ⟨none, .store 1 (.slot 21) (.lit (.bool true)), none⟩] [] false)
 (.seq
 (.reg [
 ⟨some 4, .mov (.lit (.int .u64 0)), none⟩] [4] false)
 .ret))
 .skip))
 (.seq
 (.reg [
 ⟨some 5, .mov (.lit (.int .i64 0)), none⟩] [0, 1, 5] false)
 (.seq
 (.block 0
 (.loop ic37l0))
 (.seq
 (.seq
 (.reg [
 ⟨some 38, .mov (.slot 0), none⟩,
 ⟨some 39, .nilck (.slot 38), none⟩,
 ⟨some 40, .faddr 0 (.slot 39), none⟩,
 ⟨some 41, .load 1 false (.slot 40), none⟩,
 ⟨some 42, .len .str (.slot 41), none⟩,
 ⟨some 43, .mov (.slot 5), none⟩,
 ⟨some 44, .bin .add none (.lit (.int .i64 1)) (.slot 43), none⟩,
 ⟨some 45, .bin .lss none (.slot 42) (.slot 44), none⟩] [0, 1, 5, 45] false)
 (.cond (.slot 45)
 (.seq
 (.reg [
 ⟨some 46, .mov (.slot 0), none⟩,
 ⟨some 47, .nilck (.slot 46), none⟩,
 ⟨some 48, .faddr 1 (.slot 47), none⟩,
 ⟨none, .store 1 (.slot 48) (.lit (.bool true)), none⟩] [] false)
 (.seq
 (.reg [
 ⟨some 4, .mov (.lit (.int .u64 0)), none⟩] [4] false)
 .ret))
 .skip))
 (.seq
 (.regd [] [
 (⟨some 49, .mov (.slot 0), none⟩, none),
 (⟨some 50, .nilck (.slot 49), none⟩, none),
 (⟨some 51, .faddr 0 (.slot 50), none⟩, none),
 (⟨some 52, .load 1 false (.slot 51), none⟩, none),
 (⟨some 53, .idx .str (.slot 52) (.lit (.int .i64 0)), none⟩, none),
 (⟨some 54, .mov (.slot 5), none⟩, none),
 (⟨some 55, .pcall (.lit (.func (.func 49) [] [])) [(.slot 54)], none⟩, none),
 (⟨some 56, .bin .andNot none (.slot 53) (.slot 55), none⟩, none),
 (⟨some 57, .conv (.int .u64) (.slot 56), none⟩, none),
 (⟨some 6, .mov (.slot 57), none⟩, none)] [] [0, 1, 5, 6] false)
 (.seq
 (.seq
 (.reg [
 ⟨some 7, .mov (.lit (.int .i64 0)), none⟩] [0, 1, 5, 6, 7] false)
 (.block 2
 (.loop ic37l1)))
 (.seq
 (.seq
 (.regd [] [
 (⟨some 74, .mov (.slot 6), none⟩, none),
 (⟨some 75, .pcall (.lit (.func (.func 31) [] [])) [(.slot 74)], none⟩, none),
 (⟨some 76, .mov (.slot 0), none⟩, none),
 (⟨some 77, .nilck (.slot 76), none⟩, none),
 (⟨some 78, .faddr 0 (.slot 77), none⟩, none),
 (⟨some 79, .load 1 false (.slot 78), none⟩, none),
 (⟨some 80, .mov (.slot 5), none⟩, none),
 (⟨some 81, .bin .add none (.lit (.int .i64 1)) (.slot 80), none⟩, none),
 (⟨some 82, .sl .str (.slot 79) none (some (.slot 81)) none, none⟩, none),
 (⟨some 83, .bin .neq (some .str) (.slot 75) (.slot 82), none⟩, none),
 (⟨some 84, .mov (.slot 83), none⟩, none),
 (⟨some 85, .mov (.slot 6), (some (84, false))⟩, none),
 (⟨some 86, .mov (.slot 1), (some (84, false))⟩, none),
 (⟨some 87, .bin .gtr none (.slot 85) (.slot 86), (some (84, false))⟩, none),
 (⟨some 88, .pick (.slot 84) (.lit (.bool true)) (.slot 87), none⟩, none)] [] [0, 5, 6, 88] false)
 (.cond (.slot 88)
 (.seq
 (.reg [
 ⟨some 89, .mov (.slot 0), none⟩,
 ⟨some 90, .nilck (.slot 89), none⟩,
 ⟨some 91, .faddr 1 (.slot 90), none⟩,
 ⟨none, .store 1 (.slot 91) (.lit (.bool true)), none⟩] [] false)
 (.seq
 (.reg [
 ⟨some 4, .mov (.lit (.int .u64 0)), none⟩] [4] false)
 .ret))
 .skip))
 (.seq
 (.reg [
 ⟨some 92, .mov (.slot 0), none⟩,
 ⟨some 93, .mov (.slot 0), none⟩,
 ⟨some 94, .nilck (.slot 93), none⟩,
 ⟨some 95, .faddr 0 (.slot 94), none⟩,
 ⟨some 96, .load 1 false (.slot 95), none⟩,
 ⟨some 97, .mov (.slot 5), none⟩,
 ⟨some 98, .bin .add none (.lit (.int .i64 1)) (.slot 97), none⟩,
 ⟨some 99, .sl .str (.slot 96) (some (.slot 98)) none none, none⟩,
 ⟨some 100, .nilck (.slot 92), none⟩,
 ⟨some 101, .faddr 0 (.slot 100), none⟩,
 ⟨none, .store 1 (.slot 101) (.slot 99), none⟩] [6] false)
 (.seq
 (.reg [
 ⟨some 102, .mov (.slot 6), none⟩,
 ⟨some 4, .mov (.slot 102), none⟩] [4] false)
 .ret))))))))))
def ifn37 : IFn := ⟨103, [.inl 4], ic37⟩
/-- (*vendue/vendueref02.Reader).Text -/
def ic38 : IC :=
 (.seq
 (.reg [
 ⟨some 4, .mov (.lit (.str (bs []))), none⟩] [0, 1] false)
 (.seq
 (.seq
 (.reg [
 ⟨some 7, .mov (.slot 1), none⟩,
 ⟨some 8, .bin .lss none (.slot 7) (.lit (.int .i64 0)), none⟩] [0, 1, 8] false)
 (.cond (.slot 8)
 (.seq
 (.reg [
 ⟨some 9, .mov (.slot 0), none⟩,
 ⟨some 10, .nilck (.slot 9), none⟩,
 ⟨some 11, .faddr 1 (.slot 10), none⟩,
 ⟨none, .store 1 (.slot 11) (.lit (.bool true)), none⟩] [] false)
 (.seq
 (.reg [
 ⟨some 4, .mov (.lit (.str (bs []))), none⟩] [4] false)
 .ret))
 .skip))
 (.seq
 (.reg [
 ⟨some 12, .mov (.slot 0), none⟩,
 ⟨some 13, .mov (.slot 1), none⟩,
 ⟨some 14, .conv (.int .u64) (.slot 13), none⟩,
 ⟨some 15, .call (.lit (.func (.func 37) [] [])) [(.slot 12), (.slot 14)], none⟩,
 ⟨some 5, .mov (.slot 15), none⟩] [0, 5] false)
 (.seq
 (.seq
 (.reg [
 ⟨some 16, .mov (.slot 0), none⟩,
 ⟨some 17, .nilck (.slot 16), none⟩,
 ⟨some 18, .faddr 1 (.slot 17), none⟩,
 ⟨some 19, .load 1 false (.slot 18), none⟩,
 ⟨some 20, .mov (.slot 19), none⟩,
 ⟨some 21, .mov (.slot 5), (some (20, false))⟩,
 ⟨some 22, .mov (.slot 0), (some (20, false))⟩,
 ⟨some 23, .nilck (.slot 22), (some (20, false))⟩,
 ⟨some 24, .faddr 0 (.slot 23), (some (20, false))⟩,
 ⟨some 25, .load 1 false (.slot 24), (some (20, false))⟩,
 ⟨some 26, .len .str (.slot 25), (some (20, false))⟩,
 ⟨some 27, .conv (.int .u64) (.slot 26), (some (20, false))⟩,
 ⟨some 28, .bin .gtr none (.slot 21) (.slot 27), (some (20, false))⟩,
 ⟨some 29, .pick (.slot 20) (.lit (.bool true)) (.slot 28), none⟩] [0, 5, 29] false)
 (.cond (.slot 29)
 (.seq
 (.reg [
 ⟨some 30, .mov (.slot 0), none⟩,
 ⟨some 31, .nilck (.slot 30), none⟩,
 ⟨some 32, .faddr 1 (.slot 31), none⟩,
 ⟨none, .store 1 (.slot 32) (.lit (.bool true)), none⟩] [] false)
 (.seq
 (.reg [
 ⟨some 4, .mov (.lit (.str (bs []))), none⟩] [4] false)
 .ret))
 .skip))
 (.seq
 (.reg [
 ⟨some 33, .mov (.slot 0), none⟩,
 ⟨some 34, .nilck (.slot 33), none⟩,
 ⟨some 35, .faddr 0 (.slot 34), none⟩,
 ⟨some 36, .load 1 false (.slot 35), none⟩,
 ⟨some 37, .mov (.slot 5), none⟩,
 ⟨some 38, .sl .str (.slot 36) none (some (.slot 37)) none, none⟩,
 ⟨some 6, .mov (.slot 38), none⟩] [0, 5, 6] false)
 (.seq
 (.reg [
 ⟨some 39, .mov (.slot 0), none⟩,
 ⟨some 40, .mov (.slot 0), none⟩,
 ⟨some 41, .nilck (.slot 40), none⟩,
 ⟨some 42, .faddr 0 (.slot 41), none⟩,
 ⟨some 43, .load 1 false (.slot 42), none⟩,
 ⟨some 44, .mov (.slot 5), none⟩,
 ⟨some 45, .sl .str (.slot 43) (some (.slot 44)) none none, none⟩,
 ⟨some 46, .nilck (.slot 39), none⟩,
 ⟨some 47, .faddr 0 (.slot 46), none⟩,
 ⟨none, .store 1 (.slot 47) (.slot 45), none⟩] [6] false)
 (.seq
 (.reg [
 ⟨some 48, .mov (.slot 6), none⟩,
 ⟨some 4, .mov (.slot 48), none⟩] [4] false)
 .ret)))))))
def ifn38 : IFn := ⟨49, [.inl 4], ic38⟩
/-- (*vendue/vendueref02.Reader).End -/
def ic39 : IC :=
 (.seq
 (.reg [
 ⟨some 2, .mov (.lit (.bool false)), none⟩] [0] false)
 (.seq
 (.reg [
 ⟨some 3, .mov (.slot 0), none⟩,
 ⟨some 4, .nilck (.slot 3), none⟩,
 ⟨some 5, .faddr 1 (.slot 4), none⟩,
 ⟨some 6, .load 1 false (.slot 5), none⟩,
 ⟨some 7, .un .not (.slot 6), none⟩,
 ⟨some 8, .mov (.slot 7), none⟩,
 ⟨some 9, .mov (.slot 0), (some (8, true))⟩,
 ⟨some 10, .nilck (.slot 9), (some (8, true))⟩,
 ⟨some 11, .faddr 0 (.slot 10), (some (8, true))⟩,
 ⟨some 12, .load 1 false (.slot 11), (some (8, true))⟩,
 ⟨some 13, .bin .eql (some .str) (.slot 12) (.lit (.str (bs []))), (some (8, true))⟩,
 ⟨some 14, .pick (.slot 8) (.slot 13) (.lit (.bool false)), none⟩,
 ⟨some 2, .mov (.slot 14), none⟩] [2] false)
 .ret))
def ifn39 : IFn := ⟨15, [.inl 2], ic39⟩
/-- vendue/codec.Join -/
def ic40 : IC :=
 (.seq
 (.reg [
 ⟨some 2, .mov (.lit (.str (bs []))), none⟩] [0] false)
 (.seq
 (.reg [
 ⟨some 3, .mov (.slot 0), none⟩,
 ⟨some 4, .call (.lit (.func (.func 55) [] [])) [(.slot 3), (.lit (.str (bs [])))], none⟩,
 ⟨some 2, .mov (.slot 4), none⟩] [2] false)
 .ret))
def ifn40 : IFn := ⟨5, [.inl 2], ic40⟩
/-- vendue/codec.Num -/
def ic41l0 : IC :=
 (.seq
 (.reg [
 ⟨some 13, .bin .lss none (.slot 12) (.slot 11), none⟩] [0, 3, 4, 11, 12, 13] false)
 (.seq
 (.cond (.slot 13)
 .skip
 (.exit 0))
 (.seq
 (.block 1
 (.seq
 (.reg [
 ⟨some 14, .mov (.slot 12), none⟩,
 ⟨some 5, .mov (.slot 14), none⟩] [0, 3, 4, 5, 11, 12] false)
 (.reg [
 ⟨some 15, .mov (.slot 4), none⟩,
 ⟨some 16, .mov (.slot 3), none⟩,
 ⟨some 17, .mov (.slot 5), none⟩,
 ⟨some 18, .bin .sub none (.slot 16) (.slot 17), none⟩,
 ⟨some 19, .mov (.slot 0), none⟩,
 ⟨some 20, .mov (.slot 5), none⟩,
 ⟨some 21, .bin .mul none (.lit (.int .i64 8)) (.slot 20), none⟩,
 ⟨some 22, .bin .shr none (.slot 19) (.slot 21), none⟩,
 ⟨some 23, .conv (.int .u8) (.slot 22), none⟩,
 ⟨some 24, .iaddr (.slice 1) (.slot 15) (.slot 18), none⟩,
 ⟨none, .store 1 (.slot 24) (.slot 23), none⟩] [0, 3, 4, 11, 12] false)))
 (.reg [
 ⟨some 25, .bin .add none (.slot 12) (.lit (.int .i64 1)), none⟩,
 ⟨some 12, .mov (.slot 25), none⟩] [0, 3, 4, 11, 12] false))))
def ic41 : IC :=
 (.seq
 (.reg [
 ⟨some 2, .mov (.lit (.str (bs []))), none⟩] [0] false)
 (.seq
 (.reg [
 ⟨some 6, .mov (.slot 0), none⟩,
 ⟨some 7, .call (.lit (.func (.func 54) [] [])) [(.slot 6)], none⟩,
 ⟨some 3, .mov (.slot 7), none⟩] [0, 3] false)
 (.seq
 (.reg [
 ⟨some 8, .mov (.slot 3), none⟩,
 ⟨some 9, .bin .add none (.slot 8) (.lit (.int .i64 1)), none⟩,
 ⟨some 10, .mkSlice (.int .u8 0) 1 (.slot 9) (.slot 9), none⟩,
 ⟨some 4, .mov (.slot 10), none⟩] [0, 3, 4] true)
 (.seq
 (.seq
 (.reg [
 ⟨some 11, .mov (.slot 3), none⟩,
 ⟨some 12, .mov (.lit (.int .i64 0)), none⟩] [0, 3, 4, 11, 12] false)
 (.block 0
 (.loop ic41l0)))
 (.seq
 (.reg [
 ⟨some 26, .mov (.slot 4), none⟩,
 ⟨some 27, .mov (.slot 3), none⟩,
 ⟨some 28, .call (.lit (.func (.func 53) [] [])) [(.slot 27)], none⟩,
 ⟨some 29, .iaddr (.slice 1) (.slot 26) (.lit (.int .i64 0)), none⟩,
 ⟨none, .store 1 (.slot 29) (.slot 28), none⟩] [0, 3, 4] false)
 (.seq
 (.seq
 (.reg [
 ⟨some 30, .mov (.slot 3), none⟩,
 ⟨some 31, .bin .lss none (.slot 30) (.lit (.int .i64 8)), none⟩] [0, 3, 4, 31] false)
 (.cond (.slot 31)
 (.regd [] [
 (⟨some 32, .mov (.slot 4), none⟩, none),
 (⟨some 33, .iaddr (.slice 1) (.slot 32) (.lit (.int .i64 0)), none⟩, none),
 (⟨some 34, .load 1 false (.slot 33), none⟩, none),
 (⟨some 35, .mov (.slot 0), none⟩, none),
 (⟨some 36, .mov (.slot 3), none⟩, none),
 (⟨some 37, .bin .mul none (.lit (.int .i64 8)) (.slot 36), none⟩, none),
 (⟨some 38, .bin .shr none (.slot 35) (.slot 37), none⟩, none),
 (⟨some 39, .conv (.int .u8) (.slot 38), none⟩, none),
 (⟨some 40, .bin .or none (.slot 34) (.slot 39), none⟩, none),
 (⟨some 41, .iaddr (.slice 1) (.slot 32) (.lit (.int .i64 0)), none⟩, none),
 (⟨none, .store 1 (.slot 41) (.slot 40), none⟩, none)] [] [4] false)
 .skip))
 (.seq
 (.reg [
 ⟨some 42, .mov (.slot 4), none⟩,
 ⟨some 43, .conv .ofBytes (.slot 42), none⟩,
 ⟨some 2, .mov (.slot 43), none⟩] [2] false)
 .ret)))))))
def ifn41 : IFn := ⟨44, [.inl 2], ic41⟩
/-- vendue/codec.Text -/
def ic42 : IC :=
 (.seq
 (.reg [
 ⟨some 2, .mov (.lit (.str (bs []))), none⟩] [0] false)
 (.seq
 (.reg [
 ⟨some 3, .mov (.slot 0), none⟩,
 ⟨some 4, .len .str (.slot 3), none⟩,
 ⟨some 5, .conv (.int .u64) (.slot 4), none⟩,
 ⟨some 6, .call (.lit (.func (.func 41) [] [])) [(.slot 5)], none⟩,
 ⟨some 7, .mov (.slot 0), none⟩,
 ⟨some 8, .bin .add none (.slot 6) (.slot 7), none⟩,
 ⟨some 2, .mov (.slot 8), none⟩] [2] false)
 .ret))
def ifn42 : IFn := ⟨9, [.inl 2], ic42⟩
/-- slices.BinarySearchFunc[[]vendue/api.Seen,vendue/api.Seen,int] -/
def ic43l0 : IC :=
 (.seq
 (.seq
 (.reg [
 ⟨some 15, .mov (.slot 9), none⟩,
 ⟨some 16, .mov (.slot 10), none⟩,
 ⟨some 17, .bin .lss none (.slot 15) (.slot 16), none⟩] [0, 1, 2, 8, 9, 10, 17] false)
 (.cond (.slot 17)
 .skip
 (.exit 0)))
 (.block 1
 (.seq
 (.reg [
 ⟨some 18, .mov (.slot 9), none⟩,
 ⟨some 19, .mov (.slot 10), none⟩,
 ⟨some 20, .bin .add none (.slot 18) (.slot 19), none⟩,
 ⟨some 21, .conv (.int .u64) (.slot 20), none⟩,
 ⟨some 22, .bin .shr none (.slot 21) (.lit (.int .u64 1)), none⟩,
 ⟨some 23, .conv (.int .i64) (.slot 22), none⟩,
 ⟨some 11, .mov (.slot 23), none⟩] [0, 1, 2, 8, 9, 10, 11] false)
 (.seq
 (.reg [
 ⟨some 24, .mov (.slot 2), none⟩,
 ⟨some 25, .mov (.slot 0), none⟩,
 ⟨some 26, .mov (.slot 11), none⟩,
 ⟨some 27, .iaddr (.slice 3) (.slot 25) (.slot 26), none⟩,
 ⟨some 28, .load 3 true (.slot 27), none⟩,
 ⟨some 29, .mov (.slot 1), none⟩,
 ⟨some 30, .call (.slot 24) [(.slot 28), (.slot 29)], none⟩,
 ⟨some 31, .bin .lss none (.slot 30) (.lit (.int .i64 0)), none⟩] [0, 1, 2, 8, 9, 10, 11, 31] false)
 (.cond (.slot 31)
 (.reg [
 ⟨some 32, .mov (.slot 11), none⟩,
 ⟨some 33, .bin .add none (.slot 32) (.lit (.int .i64 1)), none⟩,
 ⟨some 9, .mov (.slot 33), none⟩] [0, 1, 2, 8, 9, 10] false)
 (.reg [
 ⟨some 34, .mov (.slot 11), none⟩,
 ⟨some 10, .mov (.slot 34), none⟩] [0, 1, 2, 8, 9, 10] false))))))
def ic43 : IC :=
 (.seq
 (.reg [
 ⟨some 6, .mov (.lit (.int .i64 0)), none⟩,
 ⟨some 7, .mov (.lit (.bool false)), none⟩] [0, 1, 2] false)
 (.seq
 (.reg [
 ⟨some 12, .mov (.slot 0), none⟩,
 ⟨some 13, .len (.slice 3) (.slot 12), none⟩,
 ⟨some 8, .mov (.slot 13), none⟩] [0, 1, 2, 8] false)
 (.seq
 (.reg [
 ⟨some 14, .mov (.slot 8), none⟩,
 ⟨some 9, .mov (.lit (.int .i64 0)), none⟩,
 ⟨some 10, .mov (.slot 14), none⟩] [0, 1, 2, 8, 9, 10] false)
 (.seq
 (.block 0
 (.loop ic43l0))
 (.seq
 (.reg [
 ⟨some 35, .mov (.slot 9), none⟩,
 ⟨some 36, .mov (.slot 9), none⟩,
 ⟨some 37, .mov (.slot 8), none⟩,
 ⟨some 38, .bin .lss none (.slot 36) (.slot 37), none⟩,
 ⟨some 39, .mov (.slot 38), none⟩,
 ⟨some 40, .mov (.slot 2), (some (39, true))⟩,
 ⟨some 41, .mov (.slot 0), (some (39, true))⟩,
 ⟨some 42, .mov (.slot 9), (some (39, true))⟩,
 ⟨some 43, .iaddr (.slice 3) (.slot 41) (.slot 42), (some (39, true))⟩,
 ⟨some 44, .load 3 true (.slot 43), (some (39, true))⟩,
 ⟨some 45, .mov (.slot 1), (some (39, true))⟩,
 ⟨some 46, .call (.slot 40) [(.slot 44), (.slot 45)], (some (39, true))⟩,
 ⟨some 47, .bin .eql (some .int) (.slot 46) (.lit (.int .i64 0)), (some (39, true))⟩,
 ⟨some 48, .pick (.slot 39) (.slot 47) (.lit (.bool false)), none⟩,
 ⟨some 6, .mov (.slot 35), none⟩,
 ⟨some 7, .mov (.slot 48), none⟩] [6, 7] false)
 .ret)))))
def ifn43 : IFn := ⟨49, [.inl 6, .inl 7], ic43⟩
/-- vendue/session.at$1 -/
def ic44 : IC :=
 (.seq
 (.reg [
 ⟨some 2, .box (.slot 0), none⟩,
 ⟨some 4, .mov (.lit (.int .i64 0)), none⟩] [1, 2] false)
 (.seq
 (.reg [
 ⟨some 5, .faddr 0 (.slot 2), none⟩,
 ⟨some 6, .load 1 false (.slot 5), none⟩,
 ⟨some 7, .mov (.slot 1), none⟩,
 ⟨some 8, .call (.lit (.func (.func 45) [] [])) [(.slot 6), (.slot 7)], none⟩,
 ⟨some 4, .mov (.slot 8), none⟩] [4] true)
 .ret))
def ifn44 : IFn := ⟨9, [.inl 4], ic44⟩
/-- cmp.Compare[int] -/
def ic45 : IC :=
 (.seq
 (.reg [
 ⟨some 4, .mov (.lit (.int .i64 0)), none⟩] [0, 1] false)
 (.seq
 (.reg [
 ⟨some 7, .mov (.slot 0), none⟩,
 ⟨some 8, .call (.lit (.func (.func 56) [] [])) [(.slot 7)], none⟩,
 ⟨some 5, .mov (.slot 8), none⟩] [0, 1, 5] false)
 (.seq
 (.reg [
 ⟨some 9, .mov (.slot 1), none⟩,
 ⟨some 10, .call (.lit (.func (.func 56) [] [])) [(.slot 9)], none⟩,
 ⟨some 6, .mov (.slot 10), none⟩] [0, 1, 5, 6] false)
 (.seq
 (.seq
 (.reg [
 ⟨some 11, .mov (.slot 5), none⟩] [0, 1, 6, 11] false)
 (.cond (.slot 11)
 (.seq
 (.seq
 (.reg [
 ⟨some 12, .mov (.slot 6), none⟩] [12] false)
 (.cond (.slot 12)
 (.seq
 (.reg [
 ⟨some 4, .mov (.lit (.int .i64 0)), none⟩] [4] false)
 .ret)
 .skip))
 (.seq
 (.reg [
 ⟨some 4, .mov (.lit (.int .i64 (-1))), none⟩] [4] false)
 .ret))
 .skip))
 (.seq
 (.seq
 (.reg [
 ⟨some 13, .mov (.slot 6), none⟩] [0, 1, 13] false)
 (.cond (.slot 13)
 (.seq
 (.reg [
 ⟨some 4, .mov (.lit (.int .i64 1)), none⟩] [4] false)
 .ret)
 .skip))
 (.seq
 (.seq
 (.reg [
 ⟨some 14, .mov (.slot 0), none⟩,
 ⟨some 15, .mov (.slot 1), none⟩,
 ⟨some 16, .bin .lss none (.slot 14) (.slot 15), none⟩] [0, 1, 16] false)
 (.cond (.slot 16)
 (.seq
 (.reg [
 ⟨some 4, .mov (.lit (.int .i64 (-1))), none⟩] [4] false)
 .ret)
 .skip))
 (.seq
 (.seq
 (.reg [
 ⟨some 17, .mov (.slot 0), none⟩,
 ⟨some 18, .mov (.slot 1), none⟩,
 ⟨some 19, .bin .gtr none (.slot 17) (.slot 18), none⟩] [19] false)
 (.cond (.slot 19)
 (.seq
 (.reg [
 ⟨some 4, .mov (.lit (.int .i64 1)), none⟩] [4] false)
 .ret)
 .skip))
 (.seq
 (.reg [
 ⟨some 4, .mov (.lit (.int .i64 0)), none⟩] [4] false)
 .ret))))))))
def ifn45 : IFn := ⟨20, [.inl 4], ic45⟩
/-- slices.IndexFunc[[]vendue/api.Seen,vendue/api.Seen] -/
def ic47l0 : IC :=
 (.seq
 (.reg [
 ⟨some 9, .bin .lss none (.slot 8) (.slot 7), none⟩] [0, 1, 7, 8, 9] false)
 (.seq
 (.cond (.slot 9)
 .skip
 (.exit 0))
 (.seq
 (.block 1
 (.seq
 (.reg [
 ⟨some 10, .mov (.slot 8), none⟩,
 ⟨some 5, .mov (.slot 10), none⟩] [0, 1, 5, 7, 8] false)
 (.seq
 (.reg [
 ⟨some 11, .mov (.slot 1), none⟩,
 ⟨some 12, .mov (.slot 0), none⟩,
 ⟨some 13, .mov (.slot 5), none⟩,
 ⟨some 14, .iaddr (.slice 3) (.slot 12) (.slot 13), none⟩,
 ⟨some 15, .load 3 true (.slot 14), none⟩,
 ⟨some 16, .call (.slot 11) [(.slot 15)], none⟩] [0, 1, 5, 7, 8, 16] false)
 (.cond (.slot 16)
 (.seq
 (.reg [
 ⟨some 17, .mov (.slot 5), none⟩,
 ⟨some 4, .mov (.slot 17), none⟩] [4] false)
 .ret)
 .skip))))
 (.reg [
 ⟨some 18, .bin .add none (.slot 8) (.lit (.int .i64 1)), none⟩,
 ⟨some 8, .mov (.slot 18), none⟩] [0, 1, 7, 8] false))))
def ic47 : IC :=
 (.seq
 (.reg [
 ⟨some 4, .mov (.lit (.int .i64 0)), none⟩] [0, 1] false)
 (.seq
 (.seq
 (.reg [
 ⟨some 6, .mov (.slot 0), none⟩,
 ⟨some 7, .len (.slice 3) (.slot 6), none⟩,
 ⟨some 8, .mov (.lit (.int .i64 0)), none⟩] [0, 1, 7, 8] false)
 (.block 0
 (.loop ic47l0)))
 (.seq
 (.reg [
 ⟨some 4, .mov (.lit (.int .i64 (-1))), none⟩] [4] false)
 .ret)))
def ifn47 : IFn := ⟨19, [.inl 4], ic47⟩
/-- vendue/vendueref02.bits -/
def ic48 : IC :=
 (.seq
 (.reg [
 ⟨some 2, .mov (.lit (.int .i64 0)), none⟩] [0] false)
 (.seq
 (.seq
 (.reg [
 ⟨some 3, .mov (.slot 0), none⟩,
 ⟨some 4, .bin .eql (some .int) (.slot 3) (.lit (.int .i64 8)), none⟩] [0, 4] false)
 (.cond (.slot 4)
 (.seq
 (.reg [
 ⟨some 2, .mov (.lit (.int .i64 64)), none⟩] [2] false)
 .ret)
 .skip))
 (.seq
 (.reg [
 ⟨some 5, .mov (.slot 0), none⟩,
 ⟨some 6, .bin .mul none (.lit (.int .i64 7)) (.slot 5), none⟩,
 ⟨some 7, .bin .add none (.lit (.int .i64 7)) (.slot 6), none⟩,
 ⟨some 2, .mov (.slot 7), none⟩] [2] false)
 .ret)))
def ifn48 : IFn := ⟨8, [.inl 2], ic48⟩
/-- vendue/vendueref02.ones -/
def ic49l0 : IC :=
 (.seq
 (.seq
 (.reg [
 ⟨some 5, .mov (.slot 4), none⟩,
 ⟨some 6, .mov (.slot 0), none⟩,
 ⟨some 7, .bin .lss none (.slot 5) (.slot 6), none⟩] [0, 3, 4, 7] false)
 (.cond (.slot 7)
 .skip
 (.exit 0)))
 (.seq
 (.block 1
 (.reg [
 ⟨some 10, .mov (.slot 3), none⟩,
 ⟨some 11, .bin .quo none (.slot 10) (.lit (.int .i64 2)), none⟩,
 ⟨some 12, .bin .add none (.slot 11) (.lit (.int .i64 128)), none⟩,
 ⟨some 3, .mov (.slot 12), none⟩] [0, 3, 4] false))
 (.reg [
 ⟨some 8, .mov (.slot 4), none⟩,
 ⟨some 9, .bin .add none (.slot 8) (.lit (.int .i64 1)), none⟩,
 ⟨some 4, .mov (.slot 9), none⟩] [0, 3, 4] false)))
def ic49 : IC :=
 (.seq
 (.reg [
 ⟨some 2, .mov (.lit (.int .u8 0)), none⟩] [0] false)
 (.seq
 (.reg [
 ⟨some 3, .mov (.lit (.int .i64 0)), none⟩] [0, 3] false)
 (.seq
 (.seq
 (.reg [
 ⟨some 4, .mov (.lit (.int .i64 0)), none⟩] [0, 3, 4] false)
 (.block 0
 (.loop ic49l0)))
 (.seq
 (.reg [
 ⟨some 13, .mov (.slot 3), none⟩,
 ⟨some 14, .conv (.int .u8) (.slot 13), none⟩,
 ⟨some 2, .mov (.slot 14), none⟩] [2] false)
 .ret))))
def ifn49 : IFn := ⟨15, [.inl 2], ic49⟩
/-- (*vendue/codec.Reader).Good -/
def ic50 : IC :=
 (.seq
 (.reg [
 ⟨some 2, .mov (.lit (.bool false)), none⟩] [0] false)
 (.seq
 (.reg [
 ⟨some 3, .mov (.slot 0), none⟩,
 ⟨some 4, .bin .neq (some .ptr) (.slot 3) (.lit .nilp), none⟩,
 ⟨some 5, .mov (.slot 4), none⟩,
 ⟨some 6, .mov (.slot 0), (some (5, true))⟩,
 ⟨some 7, .nilck (.slot 6), (some (5, true))⟩,
 ⟨some 8, .faddr 1 (.slot 7), (some (5, true))⟩,
 ⟨some 9, .load 1 false (.slot 8), (some (5, true))⟩,
 ⟨some 10, .un .not (.slot 9), (some (5, true))⟩,
 ⟨some 11, .pick (.slot 5) (.slot 10) (.lit (.bool false)), none⟩,
 ⟨some 2, .mov (.slot 11), none⟩] [2] false)
 .ret))
def ifn50 : IFn := ⟨12, [.inl 2], ic50⟩
/-- (*vendue/codec.Reader).Fail -/
def ic51 : IC :=
 (.seq
 (.reg [
 ⟨some 2, .mov (.slot 0), none⟩,
 ⟨some 3, .bin .neq (some .ptr) (.slot 2) (.lit .nilp), none⟩] [0, 3] false)
 (.cond (.slot 3)
 (.reg [
 ⟨some 4, .mov (.slot 0), none⟩,
 ⟨some 5, .nilck (.slot 4), none⟩,
 ⟨some 6, .faddr 1 (.slot 5), none⟩,
 ⟨none, .store 1 (.slot 6) (.lit (.bool true)), none⟩] [] false)
 .skip))
def ifn51 : IFn := ⟨7, [], ic51⟩
/-- vendue/codec.ones -/
def ic53 : IC :=
 (.seq
 (.reg [
 ⟨some 2, .mov (.lit (.int .u8 0)), none⟩] [0] false)
 (.seq
 (.reg [
 ⟨some 3, .mov (.slot 0), none⟩,
 ⟨some 4, .bin .shr none (.lit (.int .u8 255)) (.slot 3), none⟩,
 ⟨some 5, .un .xor (.slot 4), none⟩,
 ⟨some 2, .mov (.slot 5), none⟩] [2] false)
 .ret))
def ifn53 : IFn := ⟨6, [.inl 2], ic53⟩
/-- vendue/codec.more -/
def ic54 : IC :=
 (.seq
 (.reg [
 ⟨some 2, .mov (.lit (.int .i64 0)), none⟩] [0] false)
 (.seq
 (.reg [
 ⟨some 4, .mov (.slot 0), none⟩,
 ⟨some 5, .call (.lit (.func (.func 58) [] [])) [(.slot 4)], none⟩,
 ⟨some 6, .bin .sub none (.slot 5) (.lit (.int .i64 1)), none⟩,
 ⟨some 7, .minmax true [(.slot 6), (.lit (.int .i64 0))], none⟩,
 ⟨some 8, .bin .quo none (.slot 7) (.lit (.int .i64 7)), none⟩,
 ⟨some 3, .mov (.slot 8), none⟩] [3] false)
 (.seq
 (.reg [
 ⟨some 9, .mov (.slot 3), none⟩,
 ⟨some 10, .minmax false [(.slot 9), (.lit (.int .i64 8))], none⟩,
 ⟨some 2, .mov (.slot 10), none⟩] [2] false)
 .ret)))
def ifn54 : IFn := ⟨11, [.inl 2], ic54⟩
/-- cmp.isNaN[int] -/
def ic56 : IC :=
 (.seq
 (.reg [
 ⟨some 2, .mov (.lit (.bool false)), none⟩] [0] false)
 (.seq
 (.reg [
 ⟨some 3, .mov (.slot 0), none⟩,
 ⟨some 4, .mov (.slot 0), none⟩,
 ⟨some 5, .bin .neq (some .int) (.slot 3) (.slot 4), none⟩,
 ⟨some 2, .mov (.slot 5), none⟩] [2] false)
 .ret))
def ifn56 : IFn := ⟨6, [.inl 2], ic56⟩
/-- math/bits.Len8 -/
def ic57 : IC :=
 (.seq
 (.reg [
 ⟨some 2, .mov (.lit (.int .i64 0)), none⟩] [0] false)
 (.seq
 (.reg [
 ⟨some 3, .mov (.slot 0), none⟩,
 ⟨some 4, .idx .str (.lit (.str (bs [0, 1, 2, 2, 3, 3, 3, 3, 4, 4, 4, 4, 4, 4, 4, 4, 5, 5, 5, 5, 5, 5, 5, 5, 5, 5, 5, 5, 5, 5, 5, 5, 6, 6, 6, 6, 6, 6, 6, 6, 6, 6, 6, 6, 6, 6, 6, 6, 6, 6, 6, 6, 6, 6, 6, 6, 6, 6, 6, 6, 6, 6, 6, 6, 7, 7, 7, 7, 7, 7, 7, 7, 7, 7, 7, 7, 7, 7, 7, 7, 7, 7, 7, 7, 7, 7, 7, 7, 7, 7, 7, 7, 7, 7, 7, 7, 7, 7, 7, 7, 7, 7, 7, 7, 7, 7, 7, 7, 7, 7, 7, 7, 7, 7, 7, 7, 7, 7, 7, 7, 7, 7, 7, 7, 7, 7, 7, 7, 8, 8, 8, 8, 8, 8, 8, 8, 8, 8, 8, 8, 8, 8, 8, 8, 8, 8, 8, 8, 8, 8, 8, 8, 8, 8, 8, 8, 8, 8, 8, 8, 8, 8, 8, 8, 8, 8, 8, 8, 8, 8, 8, 8, 8, 8, 8, 8, 8, 8, 8, 8, 8, 8, 8, 8, 8, 8, 8, 8, 8, 8, 8, 8, 8, 8, 8, 8, 8, 8, 8, 8, 8, 8, 8, 8, 8, 8, 8, 8, 8, 8, 8, 8, 8, 8, 8, 8, 8, 8, 8, 8, 8, 8, 8, 8, 8, 8, 8, 8, 8, 8, 8, 8, 8, 8, 8, 8, 8, 8, 8, 8, 8, 8, 8, 8, 8, 8, 8, 8, 8, 8, 8, 8, 8, 8, 8, 8]))) (.slot 3), none⟩,
 ⟨some 5, .conv (.int .i64) (.slot 4), none⟩,
 ⟨some 2, .mov (.slot 5), none⟩] [2] false)
 .ret))
def ifn57 : IFn := ⟨6, [.inl 2], ic57⟩
/-- (*strings.Builder).Grow -/
def ic59 : IC :=
 (.seq
 (.reg [
 ⟨some 4, .mov (.slot 0), none⟩,
 ⟨some 5, .call (.lit (.func (.func 62) [] [])) [(.slot 4)], none⟩] [0, 1] false)
 (.seq
 (.seq
 (.reg [
 ⟨some 6, .mov (.slot 1), none⟩,
 ⟨some 7, .bin .lss none (.slot 6) (.lit (.int .i64 0)), none⟩] [0, 1, 7] false)
 (.cond (.slot 7)
 (.reg [
 ⟨some 8, .mkIface 9 (.lit (.str (bs [115, 116, 114, 105, 110, 103, 115, 46, 66, 117, 105, 108, 100, 101, 114, 46, 71, 114, 111, 119, 58, 32, 110, 101, 103, 97, 116, 105, 118, 101, 32, 99, 111, 117, 110, 116]))), none⟩,
 ⟨none, .bad, none⟩] [0, 1] false)
 .skip))
 (.seq
 (.regd [] [
 (⟨some 9, .mov (.slot 0), none⟩, none),
 (⟨some 10, .nilck (.slot 9), none⟩, none),
 (⟨some 11, .faddr 1 (.slot 10), none⟩, none),
 (⟨some 12, .load 1 false (.slot 11), none⟩, none),
 (⟨some 13, .cap (.slot 12), none⟩, none),
 (⟨some 14, .mov (.slot 0), none⟩, none),
 (⟨some 15, .nilck (.slot 14), none⟩, none),
 (⟨some 16, .faddr 1 (.slot 15), none⟩, none),
 (⟨some 17, .load 1 false (.slot 16), none⟩, none),
 (⟨some 18, .len (.slice 1) (.slot 17), none⟩, none),
 (⟨some 19, .bin .sub none (.slot 13) (.slot 18), none⟩, none),
 (⟨some 20, .mov (.slot 1), none⟩, none),
 (⟨some 21, .bin .lss none (.slot 19) (.slot 20), none⟩, none)] [] [0, 1, 21] false)
 (.cond (.slot 21)
 (.reg [
 ⟨some 22, .mov (.slot 0), none⟩,
 ⟨some 23, .mov (.slot 1), none⟩,
 ⟨some 24, .call (.lit (.func (.func 63) [] [])) [(.slot 22), (.slot 23)], none⟩] [] false)
 .skip))))
def ifn59 : IFn := ⟨25, [], ic59⟩
/-- (*strings.Builder).WriteString -/
def ic60 : IC :=
 (.seq
 (.reg [
 ⟨some 4, .mov (.lit (.int .i64 0)), none⟩,
 ⟨some 5, .mov (.lit .nili), none⟩] [0, 1] false)
 (.seq
 (.reg [
 ⟨some 6, .mov (.slot 0), none⟩,
 ⟨some 7, .call (.lit (.func (.func 62) [] [])) [(.slot 6)], none⟩] [0, 1] false)
 (.seq
 (.reg [
 ⟨some 8, .mov (.slot 0), none⟩,
 ⟨some 9, .mov (.slot 0), none⟩,
 ⟨some 10, .nilck (.slot 9), none⟩,
 ⟨some 11, .faddr 1 (.slot 10), none⟩,
 ⟨some 12, .load 1 false (.slot 11), none⟩,
 ⟨some 13, .mov (.slot 1), none⟩,
 ⟨some 14, .append 1 1 (.slot 12) (.slot 13), none⟩,
 ⟨some 15, .nilck (.slot 8), none⟩,
 ⟨some 16, .faddr 1 (.slot 15), none⟩,
 ⟨none, .store 1 (.slot 16) (.slot 14), none⟩] [1] false)
 (.seq
 (.reg [
 ⟨some 17, .mov (.slot 1), none⟩,
 ⟨some 18, .len .str (.slot 17), none⟩,
 ⟨some 4, .mov (.slot 18), none⟩,
 ⟨some 5, .mov (.lit .nili), none⟩] [4, 5] false)
 .ret))))
def ifn60 : IFn := ⟨19, [.inl 4, .inl 5], ic60⟩
def fnOf : Nat → Option IFn
  | 3 => some ifn3
  | 4 => some ifn4
  | 5 => some ifn5
  | 6 => some ifn6
  | 7 => some ifn7
  | 8 => some ifn8
  | 9 => some ifn9
  | 10 => some ifn10
  | 11 => some ifn11
  | 12 => some ifn12
  | 13 => some ifn13
  | 14 => some ifn14
  | 15 => some ifn15
  | 16 => some ifn16
  | 17 => some ifn17
  | 18 => some ifn18
  | 19 => some ifn19
  | 20 => some ifn20
  | 21 => some ifn21
  | 22 => some ifn22
  | 23 => some ifn23
  | 24 => some ifn24
  | 25 => some ifn25
  | 26 => some ifn26
  | 27 => some ifn27
  | 28 => some ifn28
  | 29 => some ifn29
  | 30 => some ifn30
  | 31 => some ifn31
  | 32 => some ifn32
  | 33 => some ifn33
  | 34 => some ifn34
  | 35 => some ifn35
  | 36 => some ifn36
  | 37 => some ifn37
  | 38 => some ifn38
  | 39 => some ifn39
  | 40 => some ifn40
  | 41 => some ifn41
  | 42 => some ifn42
  | 43 => some ifn43
  | 44 => some ifn44
  | 45 => some ifn45
  | 47 => some ifn47
  | 48 => some ifn48
  | 49 => some ifn49
  | 50 => some ifn50
  | 51 => some ifn51
  | 53 => some ifn53
  | 54 => some ifn54
  | 56 => some ifn56
  | 57 => some ifn57
  | 59 => some ifn59
  | 60 => some ifn60
  | _ => none
def modeTab : Nat → CMode
  | 29 => .heap
  | 30 => .heap
  | 34 => .heap
  | 35 => .heap
  | 36 => .heap
  | 37 => .heap
  | 38 => .heap
  | 39 => .heap
  | 46 => .heap
  | 47 => .heap
  | 50 => .heap
  | 51 => .heap
  | 59 => .heap
  | 60 => .heap
  | 61 => .heap
  | 62 => .heap
  | 63 => .heap
  | 78 => .heap
  | 82 => .heap
  | _ => .pure
def primOf : Nat → Option (List AV → AH → Option (AV × AH))
  | 46 => some (growP 3 32)
  | 52 => some (intP .u8 .i64 255 fun x => 8 - (Lib.bitLen x.toNat : Int))
  | 55 => some joinP
  | 58 => some (intP .u64 .i64 18446744073709551615 fun x => (Lib.bitLen x.toNat : Int))
  | _ => none
def cfg : Cfg := ⟨fnOf, modeTab, primOf⟩
theorem pr_46 : cfg.prim 46 = some (growP 3 32) := rfl
theorem pr_52 : cfg.prim 52 = some (intP .u8 .i64 255 fun x => 8 - (Lib.bitLen x.toNat : Int)) := rfl
theorem pr_55 : cfg.prim 55 = some joinP := rfl
theorem pr_58 : cfg.prim 58 = some (intP .u64 .i64 18446744073709551615 fun x => (Lib.bitLen x.toNat : Int)) := rfl
theorem cf_3 (args : List AV) (h : AH) (hn : args.length ≤ 160) : call cfg 3 args h = leaveK [.inl 6] (run cfg h.blocks.length ic3 ⟨ofList (argList args 0), h⟩) := call_fn (C := cfg) (show cfg.fn 3 = some ifn3 from rfl) rfl args h hn
theorem cf_4 (args : List AV) (h : AH) (hn : args.length ≤ 151) : call cfg 4 args h = leaveK [.inl 2] (run cfg h.blocks.length ic4 ⟨ofList (argList args 0), h⟩) := call_fn (C := cfg) (show cfg.fn 4 = some ifn4 from rfl) rfl args h hn
theorem cf_5 (args : List AV) (h : AH) (hn : args.length ≤ 80) : call cfg 5 args h = leaveK [.inl 2] (run cfg h.blocks.length ic5 ⟨ofList (argList args 0), h⟩) := call_fn (C := cfg) (show cfg.fn 5 = some ifn5 from rfl) rfl args h hn
theorem cf_6 (args : List AV) (h : AH) (hn : args.length ≤ 96) : call cfg 6 args h = leaveK [.inl 6] (run cfg h.blocks.length ic6 ⟨ofList (argList args 0), h⟩) := call_fn (C := cfg) (show cfg.fn 6 = some ifn6 from rfl) rfl args h hn
theorem cf_7 (args : List AV) (h : AH) (hn : args.length ≤ 107) : call cfg 7 args h = leaveK [.inl 6] (run cfg h.blocks.length ic7 ⟨ofList (argList args 0), h⟩) := call_fn (C := cfg) (show cfg.fn 7 = some ifn7 from rfl) rfl args h hn
theorem cf_8 (args : List AV) (h : AH) (hn : args.length ≤ 69) : call cfg 8 args h = leaveK [.inl 4] (run cfg h.blocks.length ic8 ⟨ofList (argList args 0), h⟩) := call_fn (C := cfg) (show cfg.fn 8 = some ifn8 from rfl) rfl args h hn
theorem cf_9 (args : List AV) (h : AH) (hn : args.length ≤ 23) : call cfg 9 args h = leaveK [.inl 0] (run cfg h.blocks.length ic9 ⟨ofList (argList args 0), h⟩) := call_fn (C := cfg) (show cfg.fn 9 = some ifn9 from rfl) rfl args h hn
theorem cf_10 (args : List AV) (h : AH) (hn : args.length ≤ 33) : call cfg 10 args h = leaveK [.inl 2] (run cfg h.blocks.length ic10 ⟨ofList (argList args 0), h⟩) := call_fn (C := cfg) (show cfg.fn 10 = some ifn10 from rfl) rfl args h hn
theorem cf_11 (args : List AV) (h : AH) (hn : args.length ≤ 13) : call cfg 11 args h = leaveK [.inl 4] (run cfg h.blocks.length ic11 ⟨ofList (argList args 0), h⟩) := call_fn (C := cfg) (show cfg.fn 11 = some ifn11 from rfl) rfl args h hn
theorem cf_12 (args : List AV) (h : AH) (hn : args.length ≤ 50) : call cfg 12 args h = leaveK [.inl 4, .inl 5] (run cfg h.blocks.length ic12 ⟨ofList (argList args 0), h⟩) := call_fn (C := cfg) (show cfg.fn 12 = some ifn12 from rfl) rfl args h hn
theorem cf_13 (args : List AV) (h : AH) (hn : args.length ≤ 66) : call cfg 13 args h = leaveK [.inl 4, .inl 5] (run cfg h.blocks.length ic13 ⟨ofList (argList args 0), h⟩) := call_fn (C := cfg) (show cfg.fn 13 = some ifn13 from rfl) rfl args h hn
theorem cf_14 (args : List AV) (h : AH) (hn : args.length ≤ 26) : call cfg 14 args h = leaveK [.inl 4] (run cfg h.blocks.length ic14 ⟨ofList (argList args 0), h⟩) := call_fn (C := cfg) (show cfg.fn 14 = some ifn14 from rfl) rfl args h hn
theorem cf_15 (args : List AV) (h : AH) (hn : args.length ≤ 53) : call cfg 15 args h = leaveK [.inl 6] (run cfg h.blocks.length ic15 ⟨ofList (argList args 0), h⟩) := call_fn (C := cfg) (show cfg.fn 15 = some ifn15 from rfl) rfl args h hn
theorem cf_16 (args : List AV) (h : AH) (hn : args.length ≤ 77) : call cfg 16 args h = leaveK [.inl 6] (run cfg h.blocks.length ic16 ⟨ofList (argList args 0), h⟩) := call_fn (C := cfg) (show cfg.fn 16 = some ifn16 from rfl) rfl args h hn
theorem cf_17 (args : List AV) (h : AH) (hn : args.length ≤ 25) : call cfg 17 args h = leaveK [.inl 4] (run cfg h.blocks.length ic17 ⟨ofList (argList args 0), h⟩) := call_fn (C := cfg) (show cfg.fn 17 = some ifn17 from rfl) rfl args h hn
theorem cf_18 (args : List AV) (h : AH) (hn : args.length ≤ 30) : call cfg 18 args h = leaveK [.inl 4] (run cfg h.blocks.length ic18 ⟨ofList (argList args 0), h⟩) := call_fn (C := cfg) (show cfg.fn 18 = some ifn18 from rfl) rfl args h hn
theorem cf_19 (args : List AV) (h : AH) (hn : args.length ≤ 10) : call cfg 19 args h = leaveK [.inl 2] (run cfg h.blocks.length ic19 ⟨ofList (argList args 0), h⟩) := call_fn (C := cfg) (show cfg.fn 19 = some ifn19 from rfl) rfl args h hn
theorem cf_20 (args : List AV) (h : AH) (hn : args.length ≤ 20) : call cfg 20 args h = leaveK [.inl 2] (run cfg h.blocks.length ic20 ⟨ofList (argList args 0), h⟩) := call_fn (C := cfg) (show cfg.fn 20 = some ifn20 from rfl) rfl args h hn
theorem cf_21 (args : List AV) (h : AH) (hn : args.length ≤ 28) : call cfg 21 args h = leaveK [.inr (2, 3, true), .inl 3] (run cfg h.blocks.length ic21 ⟨ofList (argList args 0), h⟩) := call_fn (C := cfg) (show cfg.fn 21 = some ifn21 from rfl) rfl args h hn
theorem cf_22 (args : List AV) (h : AH) (hn : args.length ≤ 31) : call cfg 22 args h = leaveK [.inr (2, 3, true), .inl 3] (run cfg h.blocks.length ic22 ⟨ofList (argList args 0), h⟩) := call_fn (C := cfg) (show cfg.fn 22 = some ifn22 from rfl) rfl args h hn
theorem cf_23 (args : List AV) (h : AH) (hn : args.length ≤ 27) : call cfg 23 args h = leaveK [.inl 2] (run cfg h.blocks.length ic23 ⟨ofList (argList args 0), h⟩) := call_fn (C := cfg) (show cfg.fn 23 = some ifn23 from rfl) rfl args h hn
theorem cf_24 (args : List AV) (h : AH) (hn : args.length ≤ 27) : call cfg 24 args h = leaveK [.inl 2] (run cfg h.blocks.length ic24 ⟨ofList (argList args 0), h⟩) := call_fn (C := cfg) (show cfg.fn 24 = some ifn24 from rfl) rfl args h hn
theorem cf_25 (args : List AV) (h : AH) (hn : args.length ≤ 18) : call cfg 25 args h = leaveK [.inl 2] (run cfg h.blocks.length ic25 ⟨ofList (argList args 0), h⟩) := call_fn (C := cfg) (show cfg.fn 25 = some ifn25 from rfl) rfl args h hn
theorem cf_26 (args : List AV) (h : AH) (hn : args.length ≤ 52) : call cfg 26 args h = leaveK [.inl 2] (run cfg h.blocks.length ic26 ⟨ofList (argList args 0), h⟩) := call_fn (C := cfg) (show cfg.fn 26 = some ifn26 from rfl) rfl args h hn
theorem cf_27 (args : List AV) (h : AH) (hn : args.length ≤ 11) : call cfg 27 args h = leaveK [.inl 4, .inl 5] (run cfg h.blocks.length ic27 ⟨ofList (argList args 0), h⟩) := call_fn (C := cfg) (show cfg.fn 27 = some ifn27 from rfl) rfl args h hn
theorem cf_28 (args : List AV) (h : AH) (hn : args.length ≤ 36) : call cfg 28 args h = leaveK [.inl 2] (run cfg h.blocks.length ic28 ⟨ofList (argList args 0), h⟩) := call_fn (C := cfg) (show cfg.fn 28 = some ifn28 from rfl) rfl args h hn
theorem cf_29 (args : List AV) (h : AH) (hn : args.length ≤ 27) : call cfg 29 args h = leaveK [.inl 3] (run cfg h.blocks.length ic29 ⟨ofList (argList args 0), h⟩) := call_fn (C := cfg) (show cfg.fn 29 = some ifn29 from rfl) rfl args h hn
theorem cf_30 (args : List AV) (h : AH) (hn : args.length ≤ 9) : call cfg 30 args h = leaveK [.inl 4] (run cfg h.blocks.length ic30 ⟨ofList (argList args 0), h⟩) := call_fn (C := cfg) (show cfg.fn 30 = some ifn30 from rfl) rfl args h hn
theorem cf_31 (args : List AV) (h : AH) (hn : args.length ≤ 41) : call cfg 31 args h = leaveK [.inl 2] (run cfg h.blocks.length ic31 ⟨ofList (argList args 0), h⟩) := call_fn (C := cfg) (show cfg.fn 31 = some ifn31 from rfl) rfl args h hn
theorem cf_32 (args : List AV) (h : AH) (hn : args.length ≤ 9) : call cfg 32 args h = leaveK [.inl 2] (run cfg h.blocks.length ic32 ⟨ofList (argList args 0), h⟩) := call_fn (C := cfg) (show cfg.fn 32 = some ifn32 from rfl) rfl args h hn
theorem cf_33 (args : List AV) (h : AH) (hn : args.length ≤ 6) : call cfg 33 args h = leaveK [.inl 2] (run cfg h.blocks.length ic33 ⟨ofList (argList args 0), h⟩) := call_fn (C := cfg) (show cfg.fn 33 = some ifn33 from rfl) rfl args h hn
theorem cf_34 (args : List AV) (h : AH) (hn : args.length ≤ 83) : call cfg 34 args h = leaveK [.inl 4] (run cfg h.blocks.length ic34 ⟨ofList (argList args 0), h⟩) := call_fn (C := cfg) (show cfg.fn 34 = some ifn34 from rfl) rfl args h hn
theorem cf_35 (args : List AV) (h : AH) (hn : args.length ≤ 47) : call cfg 35 args h = leaveK [.inl 4] (run cfg h.blocks.length ic35 ⟨ofList (argList args 0), h⟩) := call_fn (C := cfg) (show cfg.fn 35 = some ifn35 from rfl) rfl args h hn
theorem cf_36 (args : List AV) (h : AH) (hn : args.length ≤ 12) : call cfg 36 args h = leaveK [.inl 2] (run cfg h.blocks.length ic36 ⟨ofList (argList args 0), h⟩) := call_fn (C := cfg) (show cfg.fn 36 = some ifn36 from rfl) rfl args h hn
theorem cf_37 (args : List AV) (h : AH) (hn : args.length ≤ 103) : call cfg 37 args h = leaveK [.inl 4] (run cfg h.blocks.length ic37 ⟨ofList (argList args 0), h⟩) := call_fn (C := cfg) (show cfg.fn 37 = some ifn37 from rfl) rfl args h hn
theorem cf_38 (args : List AV) (h : AH) (hn : args.length ≤ 49) : call cfg 38 args h = leaveK [.inl 4] (run cfg h.blocks.length ic38 ⟨ofList (argList args 0), h⟩) := call_fn (C := cfg) (show cfg.fn 38 = some ifn38 from rfl) rfl args h hn
theorem cf_39 (args : List AV) (h : AH) (hn : args.length ≤ 15) : call cfg 39 args h = leaveK [.inl 2] (run cfg h.blocks.length ic39 ⟨ofList (argList args 0), h⟩) := call_fn (C := cfg) (show cfg.fn 39 = some ifn39 from rfl) rfl args h hn
theorem cf_40 (args : List AV) (h : AH) (hn : args.length ≤ 5) : call cfg 40 args h = leaveK [.inl 2] (run cfg h.blocks.length ic40 ⟨ofList (argList args 0), h⟩) := call_fn (C := cfg) (show cfg.fn 40 = some ifn40 from rfl) rfl args h hn
theorem cf_41 (args : List AV) (h : AH) (hn : args.length ≤ 44) : call cfg 41 args h = leaveK [.inl 2] (run cfg h.blocks.length ic41 ⟨ofList (argList args 0), h⟩) := call_fn (C := cfg) (show cfg.fn 41 = some ifn41 from rfl) rfl args h hn
theorem cf_42 (args : List AV) (h : AH) (hn : args.length ≤ 9) : call cfg 42 args h = leaveK [.inl 2] (run cfg h.blocks.length ic42 ⟨ofList (argList args 0), h⟩) := call_fn (C := cfg) (show cfg.fn 42 = some ifn42 from rfl) rfl args h hn
theorem cf_43 (args : List AV) (h : AH) (hn : args.length ≤ 49) : call cfg 43 args h = leaveK [.inl 6, .inl 7] (run cfg h.blocks.length ic43 ⟨ofList (argList args 0), h⟩) := call_fn (C := cfg) (show cfg.fn 43 = some ifn43 from rfl) rfl args h hn
theorem cf_44 (args : List AV) (h : AH) (hn : args.length ≤ 9) : call cfg 44 args h = leaveK [.inl 4] (run cfg h.blocks.length ic44 ⟨ofList (argList args 0), h⟩) := call_fn (C := cfg) (show cfg.fn 44 = some ifn44 from rfl) rfl args h hn
theorem cf_45 (args : List AV) (h : AH) (hn : args.length ≤ 20) : call cfg 45 args h = leaveK [.inl 4] (run cfg h.blocks.length ic45 ⟨ofList (argList args 0), h⟩) := call_fn (C := cfg) (show cfg.fn 45 = some ifn45 from rfl) rfl args h hn
theorem cf_47 (args : List AV) (h : AH) (hn : args.length ≤ 19) : call cfg 47 args h = leaveK [.inl 4] (run cfg h.blocks.length ic47 ⟨ofList (argList args 0), h⟩) := call_fn (C := cfg) (show cfg.fn 47 = some ifn47 from rfl) rfl args h hn
theorem cf_48 (args : List AV) (h : AH) (hn : args.length ≤ 8) : call cfg 48 args h = leaveK [.inl 2] (run cfg h.blocks.length ic48 ⟨ofList (argList args 0), h⟩) := call_fn (C := cfg) (show cfg.fn 48 = some ifn48 from rfl) rfl args h hn
theorem cf_49 (args : List AV) (h : AH) (hn : args.length ≤ 15) : call cfg 49 args h = leaveK [.inl 2] (run cfg h.blocks.length ic49 ⟨ofList (argList args 0), h⟩) := call_fn (C := cfg) (show cfg.fn 49 = some ifn49 from rfl) rfl args h hn
theorem cf_50 (args : List AV) (h : AH) (hn : args.length ≤ 12) : call cfg 50 args h = leaveK [.inl 2] (run cfg h.blocks.length ic50 ⟨ofList (argList args 0), h⟩) := call_fn (C := cfg) (show cfg.fn 50 = some ifn50 from rfl) rfl args h hn
theorem cf_51 (args : List AV) (h : AH) (hn : args.length ≤ 7) : call cfg 51 args h = leaveK [] (run cfg h.blocks.length ic51 ⟨ofList (argList args 0), h⟩) := call_fn (C := cfg) (show cfg.fn 51 = some ifn51 from rfl) rfl args h hn
theorem cf_53 (args : List AV) (h : AH) (hn : args.length ≤ 6) : call cfg 53 args h = leaveK [.inl 2] (run cfg h.blocks.length ic53 ⟨ofList (argList args 0), h⟩) := call_fn (C := cfg) (show cfg.fn 53 = some ifn53 from rfl) rfl args h hn
theorem cf_54 (args : List AV) (h : AH) (hn : args.length ≤ 11) : call cfg 54 args h = leaveK [.inl 2] (run cfg h.blocks.length ic54 ⟨ofList (argList args 0), h⟩) := call_fn (C := cfg) (show cfg.fn 54 = some ifn54 from rfl) rfl args h hn
theorem cf_56 (args : List AV) (h : AH) (hn : args.length ≤ 6) : call cfg 56 args h = leaveK [.inl 2] (run cfg h.blocks.length ic56 ⟨ofList (argList args 0), h⟩) := call_fn (C := cfg) (show cfg.fn 56 = some ifn56 from rfl) rfl args h hn
theorem cf_57 (args : List AV) (h : AH) (hn : args.length ≤ 6) : call cfg 57 args h = leaveK [.inl 2] (run cfg h.blocks.length ic57 ⟨ofList (argList args 0), h⟩) := call_fn (C := cfg) (show cfg.fn 57 = some ifn57 from rfl) rfl args h hn
theorem cf_59 (args : List AV) (h : AH) (hn : args.length ≤ 25) : call cfg 59 args h = leaveK [] (run cfg h.blocks.length ic59 ⟨ofList (argList args 0), h⟩) := call_fn (C := cfg) (show cfg.fn 59 = some ifn59 from rfl) rfl args h hn
theorem cf_60 (args : List AV) (h : AH) (hn : args.length ≤ 19) : call cfg 60 args h = leaveK [.inl 4, .inl 5] (run cfg h.blocks.length ic60 ⟨ofList (argList args 0), h⟩) := call_fn (C := cfg) (show cfg.fn 60 = some ifn60 from rfl) rfl args h hn
@[go_sem] theorem mode_3 : cfg.mode 3 = .pure := rfl
@[go_sem] theorem mode_4 : cfg.mode 4 = .pure := rfl
@[go_sem] theorem mode_5 : cfg.mode 5 = .pure := rfl
@[go_sem] theorem mode_6 : cfg.mode 6 = .pure := rfl
@[go_sem] theorem mode_7 : cfg.mode 7 = .pure := rfl
@[go_sem] theorem mode_8 : cfg.mode 8 = .pure := rfl
@[go_sem] theorem mode_9 : cfg.mode 9 = .pure := rfl
@[go_sem] theorem mode_10 : cfg.mode 10 = .pure := rfl
@[go_sem] theorem mode_11 : cfg.mode 11 = .pure := rfl
@[go_sem] theorem mode_12 : cfg.mode 12 = .pure := rfl
@[go_sem] theorem mode_13 : cfg.mode 13 = .pure := rfl
@[go_sem] theorem mode_14 : cfg.mode 14 = .pure := rfl
@[go_sem] theorem mode_15 : cfg.mode 15 = .pure := rfl
@[go_sem] theorem mode_16 : cfg.mode 16 = .pure := rfl
@[go_sem] theorem mode_17 : cfg.mode 17 = .pure := rfl
@[go_sem] theorem mode_18 : cfg.mode 18 = .pure := rfl
@[go_sem] theorem mode_19 : cfg.mode 19 = .pure := rfl
@[go_sem] theorem mode_20 : cfg.mode 20 = .pure := rfl
@[go_sem] theorem mode_21 : cfg.mode 21 = .pure := rfl
@[go_sem] theorem mode_22 : cfg.mode 22 = .pure := rfl
@[go_sem] theorem mode_23 : cfg.mode 23 = .pure := rfl
@[go_sem] theorem mode_24 : cfg.mode 24 = .pure := rfl
@[go_sem] theorem mode_25 : cfg.mode 25 = .pure := rfl
@[go_sem] theorem mode_26 : cfg.mode 26 = .pure := rfl
@[go_sem] theorem mode_27 : cfg.mode 27 = .pure := rfl
@[go_sem] theorem mode_28 : cfg.mode 28 = .pure := rfl
@[go_sem] theorem mode_29 : cfg.mode 29 = .heap := rfl
@[go_sem] theorem mode_30 : cfg.mode 30 = .heap := rfl
@[go_sem] theorem mode_31 : cfg.mode 31 = .pure := rfl
@[go_sem] theorem mode_32 : cfg.mode 32 = .pure := rfl
@[go_sem] theorem mode_33 : cfg.mode 33 = .pure := rfl
@[go_sem] theorem mode_34 : cfg.mode 34 = .heap := rfl
@[go_sem] theorem mode_35 : cfg.mode 35 = .heap := rfl
@[go_sem] theorem mode_36 : cfg.mode 36 = .heap := rfl
@[go_sem] theorem mode_37 : cfg.mode 37 = .heap := rfl
@[go_sem] theorem mode_38 : cfg.mode 38 = .heap := rfl
@[go_sem] theorem mode_39 : cfg.mode 39 = .heap := rfl
@[go_sem] theorem mode_40 : cfg.mode 40 = .pure := rfl
@[go_sem] theorem mode_41 : cfg.mode 41 = .pure := rfl
@[go_sem] theorem mode_42 : cfg.mode 42 = .pure := rfl
@[go_sem] theorem mode_43 : cfg.mode 43 = .pure := rfl
@[go_sem] theorem mode_44 : cfg.mode 44 = .pure := rfl
@[go_sem] theorem mode_45 : cfg.mode 45 = .pure := rfl
@[go_sem] theorem mode_46 : cfg.mode 46 = .heap := rfl
@[go_sem] theorem mode_47 : cfg.mode 47 = .heap := rfl
@[go_sem] theorem mode_48 : cfg.mode 48 = .pure := rfl
@[go_sem] theorem mode_49 : cfg.mode 49 = .pure := rfl
@[go_sem] theorem mode_50 : cfg.mode 50 = .heap := rfl
@[go_sem] theorem mode_51 : cfg.mode 51 = .heap := rfl
@[go_sem] theorem mode_52 : cfg.mode 52 = .pure := rfl
@[go_sem] theorem mode_53 : cfg.mode 53 = .pure := rfl
@[go_sem] theorem mode_54 : cfg.mode 54 = .pure := rfl
@[go_sem] theorem mode_55 : cfg.mode 55 = .pure := rfl
@[go_sem] theorem mode_56 : cfg.mode 56 = .pure := rfl
@[go_sem] theorem mode_57 : cfg.mode 57 = .pure := rfl
@[go_sem] theorem mode_58 : cfg.mode 58 = .pure := rfl
@[go_sem] theorem mode_59 : cfg.mode 59 = .heap := rfl
@[go_sem] theorem mode_60 : cfg.mode 60 = .heap := rfl
@[go_sem] theorem mode_61 : cfg.mode 61 = .heap := rfl
@[go_sem] theorem mode_62 : cfg.mode 62 = .heap := rfl
@[go_sem] theorem mode_63 : cfg.mode 63 = .heap := rfl
@[go_sem] theorem mode_64 : cfg.mode 64 = .pure := rfl
@[go_sem] theorem mode_65 : cfg.mode 65 = .pure := rfl
@[go_sem] theorem mode_78 : cfg.mode 78 = .heap := rfl
@[go_sem] theorem mode_81 : cfg.mode 81 = .pure := rfl
@[go_sem] theorem mode_82 : cfg.mode 82 = .heap := rfl
@[go_sem] theorem mode_83 : cfg.mode 83 = .pure := rfl
@[go_sem] theorem ac_3 (l : List AV) (h : AH) : aCall cfg (call cfg) 3 l h = if refsAll 0 0 (stripAll (freezeAll h l).1) then pureK (freezeAll h l).2 (call cfg 3 (stripAll (freezeAll h l).1) AH.empty) else none := aCall_pure cfg 3 mode_3 l h
@[go_sem] theorem acp_3 (l : List AV) (h : AH) : aCallP cfg (call cfg) 3 l h = if refsAll 0 0 (stripAll l) then pureK h (call cfg 3 (stripAll l) AH.empty) else none := aCallP_pure mode_3 l h
@[go_sem] theorem ac_4 (l : List AV) (h : AH) : aCall cfg (call cfg) 4 l h = if refsAll 0 0 (stripAll (freezeAll h l).1) then pureK (freezeAll h l).2 (call cfg 4 (stripAll (freezeAll h l).1) AH.empty) else none := aCall_pure cfg 4 mode_4 l h
@[go_sem] theorem acp_4 (l : List AV) (h : AH) : aCallP cfg (call cfg) 4 l h = if refsAll 0 0 (stripAll l) then pureK h (call cfg 4 (stripAll l) AH.empty) else none := aCallP_pure mode_4 l h
@[go_sem] theorem ac_5 (l : List AV) (h : AH) : aCall cfg (call cfg) 5 l h = if refsAll 0 0 (stripAll (freezeAll h l).1) then pureK (freezeAll h l).2 (call cfg 5 (stripAll (freezeAll h l).1) AH.empty) else none := aCall_pure cfg 5 mode_5 l h
@[go_sem] theorem acp_5 (l : List AV) (h : AH) : aCallP cfg (call cfg) 5 l h = if refsAll 0 0 (stripAll l) then pureK h (call cfg 5 (stripAll l) AH.empty) else none := aCallP_pure mode_5 l h
@[go_sem] theorem ac_6 (l : List AV) (h : AH) : aCall cfg (call cfg) 6 l h = if refsAll 0 0 (stripAll (freezeAll h l).1) then pureK (freezeAll h l).2 (call cfg 6 (stripAll (freezeAll h l).1) AH.empty) else none := aCall_pure cfg 6 mode_6 l h
@[go_sem] theorem acp_6 (l : List AV) (h : AH) : aCallP cfg (call cfg) 6 l h = if refsAll 0 0 (stripAll l) then pureK h (call cfg 6 (stripAll l) AH.empty) else none := aCallP_pure mode_6 l h
@[go_sem] theorem ac_7 (l : List AV) (h : AH) : aCall cfg (call cfg) 7 l h = if refsAll 0 0 (stripAll (freezeAll h l).1) then pureK (freezeAll h l).2 (call cfg 7 (stripAll (freezeAll h l).1) AH.empty) else none := aCall_pure cfg 7 mode_7 l h
@[go_sem] theorem acp_7 (l : List AV) (h : AH) : aCallP cfg (call cfg) 7 l h = if refsAll 0 0 (stripAll l) then pureK h (call cfg 7 (stripAll l) AH.empty) else none := aCallP_pure mode_7 l h
@[go_sem] theorem ac_8 (l : List AV) (h : AH) : aCall cfg (call cfg) 8 l h = if refsAll 0 0 (stripAll (freezeAll h l).1) then pureK (freezeAll h l).2 (call cfg 8 (stripAll (freezeAll h l).1) AH.empty) else none := aCall_pure cfg 8 mode_8 l h
@[go_sem] theorem acp_8 (l : List AV) (h : AH) : aCallP cfg (call cfg) 8 l h = if refsAll 0 0 (stripAll l) then pureK h (call cfg 8 (stripAll l) AH.empty) else none := aCallP_pure mode_8 l h
@[go_sem] theorem ac_9 (l : List AV) (h : AH) : aCall cfg (call cfg) 9 l h = if refsAll 0 0 (stripAll (freezeAll h l).1) then pureK (freezeAll h l).2 (call cfg 9 (stripAll (freezeAll h l).1) AH.empty) else none := aCall_pure cfg 9 mode_9 l h
@[go_sem] theorem acp_9 (l : List AV) (h : AH) : aCallP cfg (call cfg) 9 l h = if refsAll 0 0 (stripAll l) then pureK h (call cfg 9 (stripAll l) AH.empty) else none := aCallP_pure mode_9 l h
@[go_sem] theorem ac_10 (l : List AV) (h : AH) : aCall cfg (call cfg) 10 l h = if refsAll 0 0 (stripAll (freezeAll h l).1) then pureK (freezeAll h l).2 (call cfg 10 (stripAll (freezeAll h l).1) AH.empty) else none := aCall_pure cfg 10 mode_10 l h
@[go_sem] theorem acp_10 (l : List AV) (h : AH) : aCallP cfg (call cfg) 10 l h = if refsAll 0 0 (stripAll l) then pureK h (call cfg 10 (stripAll l) AH.empty) else none := aCallP_pure mode_10 l h
@[go_sem] theorem ac_11 (l : List AV) (h : AH) : aCall cfg (call cfg) 11 l h = if refsAll 0 0 (stripAll (freezeAll h l).1) then pureK (freezeAll h l).2 (call cfg 11 (stripAll (freezeAll h l).1) AH.empty) else none := aCall_pure cfg 11 mode_11 l h
@[go_sem] theorem acp_11 (l : List AV) (h : AH) : aCallP cfg (call cfg) 11 l h = if refsAll 0 0 (stripAll l) then pureK h (call cfg 11 (stripAll l) AH.empty) else none := aCallP_pure mode_11 l h
@[go_sem] theorem ac_12 (l : List AV) (h : AH) : aCall cfg (call cfg) 12 l h = if refsAll 0 0 (stripAll (freezeAll h l).1) then pureK (freezeAll h l).2 (call cfg 12 (stripAll (freezeAll h l).1) AH.empty) else none := aCall_pure cfg 12 mode_12 l h
@[go_sem] theorem acp_12 (l : List AV) (h : AH) : aCallP cfg (call cfg) 12 l h = if refsAll 0 0 (stripAll l) then pureK h (call cfg 12 (stripAll l) AH.empty) else none := aCallP_pure mode_12 l h
@[go_sem] theorem ac_13 (l : List AV) (h : AH) : aCall cfg (call cfg) 13 l h = if refsAll 0 0 (stripAll (freezeAll h l).1) then pureK (freezeAll h l).2 (call cfg 13 (stripAll (freezeAll h l).1) AH.empty) else none := aCall_pure cfg 13 mode_13 l h
@[go_sem] theorem acp_13 (l : List AV) (h : AH) : aCallP cfg (call cfg) 13 l h = if refsAll 0 0 (stripAll l) then pureK h (call cfg 13 (stripAll l) AH.empty) else none := aCallP_pure mode_13 l h
@[go_sem] theorem ac_14 (l : List AV) (h : AH) : aCall cfg (call cfg) 14 l h = if refsAll 0 0 (stripAll (freezeAll h l).1) then pureK (freezeAll h l).2 (call cfg 14 (stripAll (freezeAll h l).1) AH.empty) else none := aCall_pure cfg 14 mode_14 l h
@[go_sem] theorem acp_14 (l : List AV) (h : AH) : aCallP cfg (call cfg) 14 l h = if refsAll 0 0 (stripAll l) then pureK h (call cfg 14 (stripAll l) AH.empty) else none := aCallP_pure mode_14 l h
@[go_sem] theorem ac_15 (l : List AV) (h : AH) : aCall cfg (call cfg) 15 l h = if refsAll 0 0 (stripAll (freezeAll h l).1) then pureK (freezeAll h l).2 (call cfg 15 (stripAll (freezeAll h l).1) AH.empty) else none := aCall_pure cfg 15 mode_15 l h
@[go_sem] theorem acp_15 (l : List AV) (h : AH) : aCallP cfg (call cfg) 15 l h = if refsAll 0 0 (stripAll l) then pureK h (call cfg 15 (stripAll l) AH.empty) else none := aCallP_pure mode_15 l h
@[go_sem] theorem ac_16 (l : List AV) (h : AH) : aCall cfg (call cfg) 16 l h = if refsAll 0 0 (stripAll (freezeAll h l).1) then pureK (freezeAll h l).2 (call cfg 16 (stripAll (freezeAll h l).1) AH.empty) else none := aCall_pure cfg 16 mode_16 l h
@[go_sem] theorem acp_16 (l : List AV) (h : AH) : aCallP cfg (call cfg) 16 l h = if refsAll 0 0 (stripAll l) then pureK h (call cfg 16 (stripAll l) AH.empty) else none := aCallP_pure mode_16 l h
@[go_sem] theorem ac_17 (l : List AV) (h : AH) : aCall cfg (call cfg) 17 l h = if refsAll 0 0 (stripAll (freezeAll h l).1) then pureK (freezeAll h l).2 (call cfg 17 (stripAll (freezeAll h l).1) AH.empty) else none := aCall_pure cfg 17 mode_17 l h
@[go_sem] theorem acp_17 (l : List AV) (h : AH) : aCallP cfg (call cfg) 17 l h = if refsAll 0 0 (stripAll l) then pureK h (call cfg 17 (stripAll l) AH.empty) else none := aCallP_pure mode_17 l h
@[go_sem] theorem ac_18 (l : List AV) (h : AH) : aCall cfg (call cfg) 18 l h = if refsAll 0 0 (stripAll (freezeAll h l).1) then pureK (freezeAll h l).2 (call cfg 18 (stripAll (freezeAll h l).1) AH.empty) else none := aCall_pure cfg 18 mode_18 l h
@[go_sem] theorem acp_18 (l : List AV) (h : AH) : aCallP cfg (call cfg) 18 l h = if refsAll 0 0 (stripAll l) then pureK h (call cfg 18 (stripAll l) AH.empty) else none := aCallP_pure mode_18 l h
@[go_sem] theorem ac_19 (l : List AV) (h : AH) : aCall cfg (call cfg) 19 l h = if refsAll 0 0 (stripAll (freezeAll h l).1) then pureK (freezeAll h l).2 (call cfg 19 (stripAll (freezeAll h l).1) AH.empty) else none := aCall_pure cfg 19 mode_19 l h
@[go_sem] theorem acp_19 (l : List AV) (h : AH) : aCallP cfg (call cfg) 19 l h = if refsAll 0 0 (stripAll l) then pureK h (call cfg 19 (stripAll l) AH.empty) else none := aCallP_pure mode_19 l h
@[go_sem] theorem ac_20 (l : List AV) (h : AH) : aCall cfg (call cfg) 20 l h = if refsAll 0 0 (stripAll (freezeAll h l).1) then pureK (freezeAll h l).2 (call cfg 20 (stripAll (freezeAll h l).1) AH.empty) else none := aCall_pure cfg 20 mode_20 l h
@[go_sem] theorem acp_20 (l : List AV) (h : AH) : aCallP cfg (call cfg) 20 l h = if refsAll 0 0 (stripAll l) then pureK h (call cfg 20 (stripAll l) AH.empty) else none := aCallP_pure mode_20 l h
@[go_sem] theorem ac_21 (l : List AV) (h : AH) : aCall cfg (call cfg) 21 l h = if refsAll 0 0 (stripAll (freezeAll h l).1) then pureK (freezeAll h l).2 (call cfg 21 (stripAll (freezeAll h l).1) AH.empty) else none := aCall_pure cfg 21 mode_21 l h
@[go_sem] theorem acp_21 (l : List AV) (h : AH) : aCallP cfg (call cfg) 21 l h = if refsAll 0 0 (stripAll l) then pureK h (call cfg 21 (stripAll l) AH.empty) else none := aCallP_pure mode_21 l h
@[go_sem] theorem ac_22 (l : List AV) (h : AH) : aCall cfg (call cfg) 22 l h = if refsAll 0 0 (stripAll (freezeAll h l).1) then pureK (freezeAll h l).2 (call cfg 22 (stripAll (freezeAll h l).1) AH.empty) else none := aCall_pure cfg 22 mode_22 l h
@[go_sem] theorem acp_22 (l : List AV) (h : AH) : aCallP cfg (call cfg) 22 l h = if refsAll 0 0 (stripAll l) then pureK h (call cfg 22 (stripAll l) AH.empty) else none := aCallP_pure mode_22 l h
@[go_sem] theorem ac_23 (l : List AV) (h : AH) : aCall cfg (call cfg) 23 l h = if refsAll 0 0 (stripAll (freezeAll h l).1) then pureK (freezeAll h l).2 (call cfg 23 (stripAll (freezeAll h l).1) AH.empty) else none := aCall_pure cfg 23 mode_23 l h
@[go_sem] theorem acp_23 (l : List AV) (h : AH) : aCallP cfg (call cfg) 23 l h = if refsAll 0 0 (stripAll l) then pureK h (call cfg 23 (stripAll l) AH.empty) else none := aCallP_pure mode_23 l h
@[go_sem] theorem ac_24 (l : List AV) (h : AH) : aCall cfg (call cfg) 24 l h = if refsAll 0 0 (stripAll (freezeAll h l).1) then pureK (freezeAll h l).2 (call cfg 24 (stripAll (freezeAll h l).1) AH.empty) else none := aCall_pure cfg 24 mode_24 l h
@[go_sem] theorem acp_24 (l : List AV) (h : AH) : aCallP cfg (call cfg) 24 l h = if refsAll 0 0 (stripAll l) then pureK h (call cfg 24 (stripAll l) AH.empty) else none := aCallP_pure mode_24 l h
@[go_sem] theorem ac_25 (l : List AV) (h : AH) : aCall cfg (call cfg) 25 l h = if refsAll 0 0 (stripAll (freezeAll h l).1) then pureK (freezeAll h l).2 (call cfg 25 (stripAll (freezeAll h l).1) AH.empty) else none := aCall_pure cfg 25 mode_25 l h
@[go_sem] theorem acp_25 (l : List AV) (h : AH) : aCallP cfg (call cfg) 25 l h = if refsAll 0 0 (stripAll l) then pureK h (call cfg 25 (stripAll l) AH.empty) else none := aCallP_pure mode_25 l h
@[go_sem] theorem ac_26 (l : List AV) (h : AH) : aCall cfg (call cfg) 26 l h = if refsAll 0 0 (stripAll (freezeAll h l).1) then pureK (freezeAll h l).2 (call cfg 26 (stripAll (freezeAll h l).1) AH.empty) else none := aCall_pure cfg 26 mode_26 l h
@[go_sem] theorem acp_26 (l : List AV) (h : AH) : aCallP cfg (call cfg) 26 l h = if refsAll 0 0 (stripAll l) then pureK h (call cfg 26 (stripAll l) AH.empty) else none := aCallP_pure mode_26 l h
@[go_sem] theorem ac_27 (l : List AV) (h : AH) : aCall cfg (call cfg) 27 l h = if refsAll 0 0 (stripAll (freezeAll h l).1) then pureK (freezeAll h l).2 (call cfg 27 (stripAll (freezeAll h l).1) AH.empty) else none := aCall_pure cfg 27 mode_27 l h
@[go_sem] theorem acp_27 (l : List AV) (h : AH) : aCallP cfg (call cfg) 27 l h = if refsAll 0 0 (stripAll l) then pureK h (call cfg 27 (stripAll l) AH.empty) else none := aCallP_pure mode_27 l h
@[go_sem] theorem ac_28 (l : List AV) (h : AH) : aCall cfg (call cfg) 28 l h = if refsAll 0 0 (stripAll (freezeAll h l).1) then pureK (freezeAll h l).2 (call cfg 28 (stripAll (freezeAll h l).1) AH.empty) else none := aCall_pure cfg 28 mode_28 l h
@[go_sem] theorem acp_28 (l : List AV) (h : AH) : aCallP cfg (call cfg) 28 l h = if refsAll 0 0 (stripAll l) then pureK h (call cfg 28 (stripAll l) AH.empty) else none := aCallP_pure mode_28 l h
@[go_sem] theorem ac_29 (l : List AV) (h : AH) : aCall cfg (call cfg) 29 l h = call cfg 29 l h := aCall_heap cfg 29 mode_29 l h
@[go_sem] theorem ac_30 (l : List AV) (h : AH) : aCall cfg (call cfg) 30 l h = call cfg 30 l h := aCall_heap cfg 30 mode_30 l h
@[go_sem] theorem ac_31 (l : List AV) (h : AH) : aCall cfg (call cfg) 31 l h = if refsAll 0 0 (stripAll (freezeAll h l).1) then pureK (freezeAll h l).2 (call cfg 31 (stripAll (freezeAll h l).1) AH.empty) else none := aCall_pure cfg 31 mode_31 l h
@[go_sem] theorem acp_31 (l : List AV) (h : AH) : aCallP cfg (call cfg) 31 l h = if refsAll 0 0 (stripAll l) then pureK h (call cfg 31 (stripAll l) AH.empty) else none := aCallP_pure mode_31 l h
@[go_sem] theorem ac_32 (l : List AV) (h : AH) : aCall cfg (call cfg) 32 l h = if refsAll 0 0 (stripAll (freezeAll h l).1) then pureK (freezeAll h l).2 (call cfg 32 (stripAll (freezeAll h l).1) AH.empty) else none := aCall_pure cfg 32 mode_32 l h
@[go_sem] theorem acp_32 (l : List AV) (h : AH) : aCallP cfg (call cfg) 32 l h = if refsAll 0 0 (stripAll l) then pureK h (call cfg 32 (stripAll l) AH.empty) else none := aCallP_pure mode_32 l h
@[go_sem] theorem ac_33 (l : List AV) (h : AH) : aCall cfg (call cfg) 33 l h = if refsAll 0 0 (stripAll (freezeAll h l).1) then pureK (freezeAll h l).2 (call cfg 33 (stripAll (freezeAll h l).1) AH.empty) else none := aCall_pure cfg 33 mode_33 l h
@[go_sem] theorem acp_33 (l : List AV) (h : AH) : aCallP cfg (call cfg) 33 l h = if refsAll 0 0 (stripAll l) then pureK h (call cfg 33 (stripAll l) AH.empty) else none := aCallP_pure mode_33 l h
@[go_sem] theorem ac_34 (l : List AV) (h : AH) : aCall cfg (call cfg) 34 l h = call cfg 34 l h := aCall_heap cfg 34 mode_34 l h
@[go_sem] theorem ac_35 (l : List AV) (h : AH) : aCall cfg (call cfg) 35 l h = call cfg 35 l h := aCall_heap cfg 35 mode_35 l h
@[go_sem] theorem ac_36 (l : List AV) (h : AH) : aCall cfg (call cfg) 36 l h = call cfg 36 l h := aCall_heap cfg 36 mode_36 l h
@[go_sem] theorem ac_37 (l : List AV) (h : AH) : aCall cfg (call cfg) 37 l h = call cfg 37 l h := aCall_heap cfg 37 mode_37 l h
@[go_sem] theorem ac_38 (l : List AV) (h : AH) : aCall cfg (call cfg) 38 l h = call cfg 38 l h := aCall_heap cfg 38 mode_38 l h
@[go_sem] theorem ac_39 (l : List AV) (h : AH) : aCall cfg (call cfg) 39 l h = call cfg 39 l h := aCall_heap cfg 39 mode_39 l h
@[go_sem] theorem ac_40 (l : List AV) (h : AH) : aCall cfg (call cfg) 40 l h = if refsAll 0 0 (stripAll (freezeAll h l).1) then pureK (freezeAll h l).2 (call cfg 40 (stripAll (freezeAll h l).1) AH.empty) else none := aCall_pure cfg 40 mode_40 l h
@[go_sem] theorem acp_40 (l : List AV) (h : AH) : aCallP cfg (call cfg) 40 l h = if refsAll 0 0 (stripAll l) then pureK h (call cfg 40 (stripAll l) AH.empty) else none := aCallP_pure mode_40 l h
@[go_sem] theorem ac_41 (l : List AV) (h : AH) : aCall cfg (call cfg) 41 l h = if refsAll 0 0 (stripAll (freezeAll h l).1) then pureK (freezeAll h l).2 (call cfg 41 (stripAll (freezeAll h l).1) AH.empty) else none := aCall_pure cfg 41 mode_41 l h
@[go_sem] theorem acp_41 (l : List AV) (h : AH) : aCallP cfg (call cfg) 41 l h = if refsAll 0 0 (stripAll l) then pureK h (call cfg 41 (stripAll l) AH.empty) else none := aCallP_pure mode_41 l h
@[go_sem] theorem ac_42 (l : List AV) (h : AH) : aCall cfg (call cfg) 42 l h = if refsAll 0 0 (stripAll (freezeAll h l).1) then pureK (freezeAll h l).2 (call cfg 42 (stripAll (freezeAll h l).1) AH.empty) else none := aCall_pure cfg 42 mode_42 l h
@[go_sem] theorem acp_42 (l : List AV) (h : AH) : aCallP cfg (call cfg) 42 l h = if refsAll 0 0 (stripAll l) then pureK h (call cfg 42 (stripAll l) AH.empty) else none := aCallP_pure mode_42 l h
@[go_sem] theorem ac_43 (l : List AV) (h : AH) : aCall cfg (call cfg) 43 l h = if refsAll 0 0 (stripAll (freezeAll h l).1) then pureK (freezeAll h l).2 (call cfg 43 (stripAll (freezeAll h l).1) AH.empty) else none := aCall_pure cfg 43 mode_43 l h
@[go_sem] theorem acp_43 (l : List AV) (h : AH) : aCallP cfg (call cfg) 43 l h = if refsAll 0 0 (stripAll l) then pureK h (call cfg 43 (stripAll l) AH.empty) else none := aCallP_pure mode_43 l h
@[go_sem] theorem ac_44 (l : List AV) (h : AH) : aCall cfg (call cfg) 44 l h = if refsAll 0 0 (stripAll (freezeAll h l).1) then pureK (freezeAll h l).2 (call cfg 44 (stripAll (freezeAll h l).1) AH.empty) else none := aCall_pure cfg 44 mode_44 l h
@[go_sem] theorem acp_44 (l : List AV) (h : AH) : aCallP cfg (call cfg) 44 l h = if refsAll 0 0 (stripAll l) then pureK h (call cfg 44 (stripAll l) AH.empty) else none := aCallP_pure mode_44 l h
@[go_sem] theorem ac_45 (l : List AV) (h : AH) : aCall cfg (call cfg) 45 l h = if refsAll 0 0 (stripAll (freezeAll h l).1) then pureK (freezeAll h l).2 (call cfg 45 (stripAll (freezeAll h l).1) AH.empty) else none := aCall_pure cfg 45 mode_45 l h
@[go_sem] theorem acp_45 (l : List AV) (h : AH) : aCallP cfg (call cfg) 45 l h = if refsAll 0 0 (stripAll l) then pureK h (call cfg 45 (stripAll l) AH.empty) else none := aCallP_pure mode_45 l h
@[go_sem] theorem ac_46 (l : List AV) (h : AH) : aCall cfg (call cfg) 46 l h = call cfg 46 l h := aCall_heap cfg 46 mode_46 l h
@[go_sem] theorem ac_47 (l : List AV) (h : AH) : aCall cfg (call cfg) 47 l h = call cfg 47 l h := aCall_heap cfg 47 mode_47 l h
@[go_sem] theorem ac_48 (l : List AV) (h : AH) : aCall cfg (call cfg) 48 l h = if refsAll 0 0 (stripAll (freezeAll h l).1) then pureK (freezeAll h l).2 (call cfg 48 (stripAll (freezeAll h l).1) AH.empty) else none := aCall_pure cfg 48 mode_48 l h
@[go_sem] theorem acp_48 (l : List AV) (h : AH) : aCallP cfg (call cfg) 48 l h = if refsAll 0 0 (stripAll l) then pureK h (call cfg 48 (stripAll l) AH.empty) else none := aCallP_pure mode_48 l h
@[go_sem] theorem ac_49 (l : List AV) (h : AH) : aCall cfg (call cfg) 49 l h = if refsAll 0 0 (stripAll (freezeAll h l).1) then pureK (freezeAll h l).2 (call cfg 49 (stripAll (freezeAll h l).1) AH.empty) else none := aCall_pure cfg 49 mode_49 l h
@[go_sem] theorem acp_49 (l : List AV) (h : AH) : aCallP cfg (call cfg) 49 l h = if refsAll 0 0 (stripAll l) then pureK h (call cfg 49 (stripAll l) AH.empty) else none := aCallP_pure mode_49 l h
@[go_sem] theorem ac_50 (l : List AV) (h : AH) : aCall cfg (call cfg) 50 l h = call cfg 50 l h := aCall_heap cfg 50 mode_50 l h
@[go_sem] theorem ac_51 (l : List AV) (h : AH) : aCall cfg (call cfg) 51 l h = call cfg 51 l h := aCall_heap cfg 51 mode_51 l h
@[go_sem] theorem ac_52 (l : List AV) (h : AH) : aCall cfg (call cfg) 52 l h = if refsAll 0 0 (stripAll (freezeAll h l).1) then pureK (freezeAll h l).2 (call cfg 52 (stripAll (freezeAll h l).1) AH.empty) else none := aCall_pure cfg 52 mode_52 l h
@[go_sem] theorem acp_52 (l : List AV) (h : AH) : aCallP cfg (call cfg) 52 l h = if refsAll 0 0 (stripAll l) then pureK h (call cfg 52 (stripAll l) AH.empty) else none := aCallP_pure mode_52 l h
@[go_sem] theorem ac_53 (l : List AV) (h : AH) : aCall cfg (call cfg) 53 l h = if refsAll 0 0 (stripAll (freezeAll h l).1) then pureK (freezeAll h l).2 (call cfg 53 (stripAll (freezeAll h l).1) AH.empty) else none := aCall_pure cfg 53 mode_53 l h
@[go_sem] theorem acp_53 (l : List AV) (h : AH) : aCallP cfg (call cfg) 53 l h = if refsAll 0 0 (stripAll l) then pureK h (call cfg 53 (stripAll l) AH.empty) else none := aCallP_pure mode_53 l h
@[go_sem] theorem ac_54 (l : List AV) (h : AH) : aCall cfg (call cfg) 54 l h = if refsAll 0 0 (stripAll (freezeAll h l).1) then pureK (freezeAll h l).2 (call cfg 54 (stripAll (freezeAll h l).1) AH.empty) else none := aCall_pure cfg 54 mode_54 l h
@[go_sem] theorem acp_54 (l : List AV) (h : AH) : aCallP cfg (call cfg) 54 l h = if refsAll 0 0 (stripAll l) then pureK h (call cfg 54 (stripAll l) AH.empty) else none := aCallP_pure mode_54 l h
@[go_sem] theorem ac_55 (l : List AV) (h : AH) : aCall cfg (call cfg) 55 l h = if refsAll 0 0 (stripAll (freezeAll h l).1) then pureK (freezeAll h l).2 (call cfg 55 (stripAll (freezeAll h l).1) AH.empty) else none := aCall_pure cfg 55 mode_55 l h
@[go_sem] theorem acp_55 (l : List AV) (h : AH) : aCallP cfg (call cfg) 55 l h = if refsAll 0 0 (stripAll l) then pureK h (call cfg 55 (stripAll l) AH.empty) else none := aCallP_pure mode_55 l h
@[go_sem] theorem ac_56 (l : List AV) (h : AH) : aCall cfg (call cfg) 56 l h = if refsAll 0 0 (stripAll (freezeAll h l).1) then pureK (freezeAll h l).2 (call cfg 56 (stripAll (freezeAll h l).1) AH.empty) else none := aCall_pure cfg 56 mode_56 l h
@[go_sem] theorem acp_56 (l : List AV) (h : AH) : aCallP cfg (call cfg) 56 l h = if refsAll 0 0 (stripAll l) then pureK h (call cfg 56 (stripAll l) AH.empty) else none := aCallP_pure mode_56 l h
@[go_sem] theorem ac_57 (l : List AV) (h : AH) : aCall cfg (call cfg) 57 l h = if refsAll 0 0 (stripAll (freezeAll h l).1) then pureK (freezeAll h l).2 (call cfg 57 (stripAll (freezeAll h l).1) AH.empty) else none := aCall_pure cfg 57 mode_57 l h
@[go_sem] theorem acp_57 (l : List AV) (h : AH) : aCallP cfg (call cfg) 57 l h = if refsAll 0 0 (stripAll l) then pureK h (call cfg 57 (stripAll l) AH.empty) else none := aCallP_pure mode_57 l h
@[go_sem] theorem ac_58 (l : List AV) (h : AH) : aCall cfg (call cfg) 58 l h = if refsAll 0 0 (stripAll (freezeAll h l).1) then pureK (freezeAll h l).2 (call cfg 58 (stripAll (freezeAll h l).1) AH.empty) else none := aCall_pure cfg 58 mode_58 l h
@[go_sem] theorem acp_58 (l : List AV) (h : AH) : aCallP cfg (call cfg) 58 l h = if refsAll 0 0 (stripAll l) then pureK h (call cfg 58 (stripAll l) AH.empty) else none := aCallP_pure mode_58 l h
@[go_sem] theorem ac_59 (l : List AV) (h : AH) : aCall cfg (call cfg) 59 l h = call cfg 59 l h := aCall_heap cfg 59 mode_59 l h
@[go_sem] theorem ac_60 (l : List AV) (h : AH) : aCall cfg (call cfg) 60 l h = call cfg 60 l h := aCall_heap cfg 60 mode_60 l h
@[go_sem] theorem ac_61 (l : List AV) (h : AH) : aCall cfg (call cfg) 61 l h = call cfg 61 l h := aCall_heap cfg 61 mode_61 l h
@[go_sem] theorem ac_62 (l : List AV) (h : AH) : aCall cfg (call cfg) 62 l h = call cfg 62 l h := aCall_heap cfg 62 mode_62 l h
@[go_sem] theorem ac_63 (l : List AV) (h : AH) : aCall cfg (call cfg) 63 l h = call cfg 63 l h := aCall_heap cfg 63 mode_63 l h
@[go_sem] theorem ac_64 (l : List AV) (h : AH) : aCall cfg (call cfg) 64 l h = if refsAll 0 0 (stripAll (freezeAll h l).1) then pureK (freezeAll h l).2 (call cfg 64 (stripAll (freezeAll h l).1) AH.empty) else none := aCall_pure cfg 64 mode_64 l h
@[go_sem] theorem acp_64 (l : List AV) (h : AH) : aCallP cfg (call cfg) 64 l h = if refsAll 0 0 (stripAll l) then pureK h (call cfg 64 (stripAll l) AH.empty) else none := aCallP_pure mode_64 l h
@[go_sem] theorem ac_65 (l : List AV) (h : AH) : aCall cfg (call cfg) 65 l h = if refsAll 0 0 (stripAll (freezeAll h l).1) then pureK (freezeAll h l).2 (call cfg 65 (stripAll (freezeAll h l).1) AH.empty) else none := aCall_pure cfg 65 mode_65 l h
@[go_sem] theorem acp_65 (l : List AV) (h : AH) : aCallP cfg (call cfg) 65 l h = if refsAll 0 0 (stripAll l) then pureK h (call cfg 65 (stripAll l) AH.empty) else none := aCallP_pure mode_65 l h
@[go_sem] theorem ac_78 (l : List AV) (h : AH) : aCall cfg (call cfg) 78 l h = call cfg 78 l h := aCall_heap cfg 78 mode_78 l h
@[go_sem] theorem ac_81 (l : List AV) (h : AH) : aCall cfg (call cfg) 81 l h = if refsAll 0 0 (stripAll (freezeAll h l).1) then pureK (freezeAll h l).2 (call cfg 81 (stripAll (freezeAll h l).1) AH.empty) else none := aCall_pure cfg 81 mode_81 l h
@[go_sem] theorem acp_81 (l : List AV) (h : AH) : aCallP cfg (call cfg) 81 l h = if refsAll 0 0 (stripAll l) then pureK h (call cfg 81 (stripAll l) AH.empty) else none := aCallP_pure mode_81 l h
@[go_sem] theorem ac_82 (l : List AV) (h : AH) : aCall cfg (call cfg) 82 l h = call cfg 82 l h := aCall_heap cfg 82 mode_82 l h
@[go_sem] theorem ac_83 (l : List AV) (h : AH) : aCall cfg (call cfg) 83 l h = if refsAll 0 0 (stripAll (freezeAll h l).1) then pureK (freezeAll h l).2 (call cfg 83 (stripAll (freezeAll h l).1) AH.empty) else none := aCall_pure cfg 83 mode_83 l h
@[go_sem] theorem acp_83 (l : List AV) (h : AH) : aCallP cfg (call cfg) 83 l h = if refsAll 0 0 (stripAll l) then pureK h (call cfg 83 (stripAll l) AH.empty) else none := aCallP_pure mode_83 l h
def tab : List (Nat × TI) := [
  (1, ⟨.func, 1, 8, [.nilf], false⟩),
  (2, ⟨.int .i64, 1, 8, [(.int .i64 0)], false⟩),
  (3, ⟨.int .i64, 1, 8, [(.int .i64 0)], false⟩),
  (4, ⟨.bool, 1, 1, [(.bool false)], false⟩),
  (5, ⟨.int .u8, 1, 1, [(.int .u8 0)], false⟩),
  (6, ⟨.int .u8, 1, 1, [(.int .u8 0)], false⟩),
  (7, ⟨.struct [(2, 0, false), (3, 1, false), (4, 2, false), (6, 3, false)], 4, 24, [(.int .i64 0), (.int .i64 0), (.bool false), (.int .u8 0)], false⟩),
  (8, ⟨.struct [(2, 0, false), (3, 1, false), (4, 2, false), (6, 3, false)], 4, 24, [(.int .i64 0), (.int .i64 0), (.bool false), (.int .u8 0)], false⟩),
  (9, ⟨.string, 1, 16, [(.str ⟨#[]⟩)], false⟩),
  (10, ⟨.string, 1, 16, [(.str ⟨#[]⟩)], false⟩),
  (11, ⟨.string, 1, 16, [(.str ⟨#[]⟩)], false⟩),
  (12, ⟨.int .u64, 1, 8, [(.int .u64 0)], false⟩),
  (13, ⟨.struct [(9, 0, false), (12, 1, false)], 2, 24, [(.str ⟨#[]⟩), (.int .u64 0)], false⟩),
  (14, ⟨.struct [(9, 0, false), (12, 1, false)], 2, 24, [(.str ⟨#[]⟩), (.int .u64 0)], false⟩),
  (15, ⟨.pointer 103, 1, 8, [.nilp], false⟩),
  (16, ⟨.pointer 106, 1, 8, [.nilp], false⟩),
  (17, ⟨.pointer 115, 1, 8, [.nilp], false⟩),
  (18, ⟨.struct [(17, 0, false)], 1, 8, [.nilp], false⟩),
  (19, ⟨.struct [(17, 0, false)], 1, 8, [.nilp], false⟩),
  (20, ⟨.iface, 1, 16, [.nili], false⟩),
  (21, ⟨.int .i32, 1, 4, [(.int .i32 0)], false⟩),
  (22, ⟨.slice 57, 1, 24, [(.slice true 0 [] .full)], false⟩),
  (23, ⟨.slice 28, 1, 24, [(.slice true 0 [] .full)], false⟩),
  (24, ⟨.func, 1, 8, [.nilf], false⟩),
  (25, ⟨.func, 1, 8, [.nilf], false⟩),
  (26, ⟨.int .u64, 1, 8, [(.int .u64 0)], false⟩),
  (27, ⟨.struct [(3, 0, false), (26, 1, false), (9, 2, false)], 3, 32, [(.int .i64 0), (.int .u64 0), (.str ⟨#[]⟩)], false⟩),
  (28, ⟨.struct [(3, 0, false), (26, 1, false), (9, 2, false)], 3, 32, [(.int .i64 0), (.int .u64 0), (.str ⟨#[]⟩)], true⟩),
  (29, ⟨.func, 1, 8, [.nilf], false⟩),
  (30, ⟨.int .i64, 1, 8, [(.int .i64 0)], false⟩),
  (32, ⟨.func, 1, 8, [.nilf], false⟩),
  (33, ⟨.func, 1, 8, [.nilf], false⟩),
  (34, ⟨.func, 1, 8, [.nilf], false⟩),
  (35, ⟨.func, 1, 8, [.nilf], false⟩),
  (36, ⟨.slice 5, 1, 24, [(.slice true 0 [] .full)], false⟩),
  (37, ⟨.func, 1, 8, [.nilf], false⟩),
  (38, ⟨.slice 43, 1, 24, [(.slice true 0 [] .full)], false⟩),
  (39, ⟨.array 17 3, 17, 136, [(.int .i64 0), (.int .i64 0), (.int .i64 0), (.int .i64 0), (.int .i64 0), (.int .i64 0), (.int .i64 0), (.int .i64 0), (.int .i64 0), (.int .i64 0), (.int .i64 0), (.int .i64 0), (.int .i64 0), (.int .i64 0), (.int .i64 0), (.int .i64 0), (.int .i64 0)], false⟩),
  (40, ⟨.array 4 39, 68, 544, [(.int .i64 0), (.int .i64 0), (.int .i64 0), (.int .i64 0), (.int .i64 0), (.int .i64 0), (.int .i64 0), (.int .i64 0), (.int .i64 0), (.int .i64 0), (.int .i64 0), (.int .i64 0), (.int .i64 0), (.int .i64 0), (.int .i64 0), (.int .i64 0), (.int .i64 0), (.int .i64 0), (.int .i64 0), (.int .i64 0), (.int .i64 0), (.int .i64 0), (.int .i64 0), (.int .i64 0), (.int .i64 0), (.int .i64 0), (.int .i64 0), (.int .i64 0), (.int .i64 0), (.int .i64 0), (.int .i64 0), (.int .i64 0), (.int .i64 0), (.int .i64 0), (.int .i64 0), (.int .i64 0), (.int .i64 0), (.int .i64 0), (.int .i64 0), (.int .i64 0), (.int .i64 0), (.int .i64 0), (.int .i64 0), (.int .i64 0), (.int .i64 0), (.int .i64 0), (.int .i64 0), (.int .i64 0), (.int .i64 0), (.int .i64 0), (.int .i64 0), (.int .i64 0), (.int .i64 0), (.int .i64 0), (.int .i64 0), (.int .i64 0), (.int .i64 0), (.int .i64 0), (.int .i64 0), (.int .i64 0), (.int .i64 0), (.int .i64 0), (.int .i64 0), (.int .i64 0), (.int .i64 0), (.int .i64 0), (.int .i64 0), (.int .i64 0)], false⟩),
  (41, ⟨.array 17 9, 17, 272, [(.str ⟨#[]⟩), (.str ⟨#[]⟩), (.str ⟨#[]⟩), (.str ⟨#[]⟩), (.str ⟨#[]⟩), (.str ⟨#[]⟩), (.str ⟨#[]⟩), (.str ⟨#[]⟩), (.str ⟨#[]⟩), (.str ⟨#[]⟩), (.str ⟨#[]⟩), (.str ⟨#[]⟩), (.str ⟨#[]⟩), (.str ⟨#[]⟩), (.str ⟨#[]⟩), (.str ⟨#[]⟩), (.str ⟨#[]⟩)], false⟩),
  (42, ⟨.array 4 41, 68, 1088, [(.str ⟨#[]⟩), (.str ⟨#[]⟩), (.str ⟨#[]⟩), (.str ⟨#[]⟩), (.str ⟨#[]⟩), (.str ⟨#[]⟩), (.str ⟨#[]⟩), (.str ⟨#[]⟩), (.str ⟨#[]⟩), (.str ⟨#[]⟩), (.str ⟨#[]⟩), (.str ⟨#[]⟩), (.str ⟨#[]⟩), (.str ⟨#[]⟩), (.str ⟨#[]⟩), (.str ⟨#[]⟩), (.str ⟨#[]⟩), (.str ⟨#[]⟩), (.str ⟨#[]⟩), (.str ⟨#[]⟩), (.str ⟨#[]⟩), (.str ⟨#[]⟩), (.str ⟨#[]⟩), (.str ⟨#[]⟩), (.str ⟨#[]⟩), (.str ⟨#[]⟩), (.str ⟨#[]⟩), (.str ⟨#[]⟩), (.str ⟨#[]⟩), (.str ⟨#[]⟩), (.str ⟨#[]⟩), (.str ⟨#[]⟩), (.str ⟨#[]⟩), (.str ⟨#[]⟩), (.str ⟨#[]⟩), (.str ⟨#[]⟩), (.str ⟨#[]⟩), (.str ⟨#[]⟩), (.str ⟨#[]⟩), (.str ⟨#[]⟩), (.str ⟨#[]⟩), (.str ⟨#[]⟩), (.str ⟨#[]⟩), (.str ⟨#[]⟩), (.str ⟨#[]⟩), (.str ⟨#[]⟩), (.str ⟨#[]⟩), (.str ⟨#[]⟩), (.str ⟨#[]⟩), (.str ⟨#[]⟩), (.str ⟨#[]⟩), (.str ⟨#[]⟩), (.str ⟨#[]⟩), (.str ⟨#[]⟩), (.str ⟨#[]⟩), (.str ⟨#[]⟩), (.str ⟨#[]⟩), (.str ⟨#[]⟩), (.str ⟨#[]⟩), (.str ⟨#[]⟩), (.str ⟨#[]⟩), (.str ⟨#[]⟩), (.str ⟨#[]⟩), (.str ⟨#[]⟩), (.str ⟨#[]⟩), (.str ⟨#[]⟩), (.str ⟨#[]⟩), (.str ⟨#[]⟩)], false⟩),
  (43, ⟨.array 2 3, 2, 16, [(.int .i64 0), (.int .i64 0)], false⟩),
  (44, ⟨.func, 1, 8, [.nilf], false⟩),
  (45, ⟨.func, 1, 8, [.nilf], false⟩),
  (46, ⟨.array 16 26, 16, 128, [(.int .u64 0), (.int .u64 0), (.int .u64 0), (.int .u64 0), (.int .u64 0), (.int .u64 0), (.int .u64 0), (.int .u64 0), (.int .u64 0), (.int .u64 0), (.int .u64 0), (.int .u64 0), (.int .u64 0), (.int .u64 0), (.int .u64 0), (.int .u64 0)], false⟩),
  (47, ⟨.func, 1, 8, [.nilf], false⟩),
  (48, ⟨.struct [(3, 0, false), (3, 1, false), (5, 2, false), (9, 3, false)], 4, 40, [(.int .i64 0), (.int .i64 0), (.int .u8 0), (.str ⟨#[]⟩)], false⟩),
  (49, ⟨.struct [(3, 0, false), (3, 1, false), (5, 2, false), (9, 3, false)], 4, 40, [(.int .i64 0), (.int .i64 0), (.int .u8 0), (.str ⟨#[]⟩)], false⟩),
  (50, ⟨.func, 1, 8, [.nilf], false⟩),
  (52, ⟨.func, 1, 8, [.nilf], false⟩),
  (53, ⟨.func, 1, 8, [.nilf], false⟩),
  (54, ⟨.func, 1, 8, [.nilf], false⟩),
  (55, ⟨.func, 1, 8, [.nilf], false⟩),
  (56, ⟨.struct [(3, 0, false), (26, 1, false), (9, 2, false)], 3, 32, [(.int .i64 0), (.int .u64 0), (.str ⟨#[]⟩)], false⟩),
  (57, ⟨.struct [(3, 0, false), (26, 1, false), (9, 2, false)], 3, 32, [(.int .i64 0), (.int .u64 0), (.str ⟨#[]⟩)], true⟩),
  (59, ⟨.func, 1, 8, [.nilf], false⟩),
  (60, ⟨.func, 1, 8, [.nilf], false⟩),
  (61, ⟨.func, 1, 8, [.nilf], false⟩),
  (62, ⟨.func, 1, 8, [.nilf], false⟩),
  (63, ⟨.func, 1, 8, [.nilf], false⟩),
  (64, ⟨.func, 1, 8, [.nilf], false⟩),
  (65, ⟨.pointer 83, 1, 8, [.nilp], false⟩),
  (66, ⟨.func, 1, 8, [.nilf], false⟩),
  (67, ⟨.func, 1, 8, [.nilf], false⟩),
  (68, ⟨.func, 1, 8, [.nilf], false⟩),
  (69, ⟨.pointer 71, 1, 8, [.nilp], false⟩),
  (70, ⟨.struct [(9, 0, false), (4, 1, false)], 2, 24, [(.str ⟨#[]⟩), (.bool false)], false⟩),
  (71, ⟨.struct [(9, 0, false), (4, 1, false)], 2, 24, [(.str ⟨#[]⟩), (.bool false)], false⟩),
  (72, ⟨.func, 1, 8, [.nilf], false⟩),
  (73, ⟨.func, 1, 8, [.nilf], false⟩),
  (74, ⟨.func, 1, 8, [.nilf], false⟩),
  (75, ⟨.func, 1, 8, [.nilf], false⟩),
  (76, ⟨.slice 22, 1, 24, [(.slice true 0 [] .full)], false⟩),
  (77, ⟨.func, 1, 8, [.nilf], false⟩),
  (78, ⟨.func, 1, 8, [.nilf], false⟩),
  (79, ⟨.int .u64, 1, 8, [(.int .u64 0)], false⟩),
  (80, ⟨.func, 1, 8, [.nilf], false⟩),
  (81, ⟨.func, 1, 8, [.nilf], false⟩),
  (82, ⟨.struct [(9, 0, false), (4, 1, false)], 2, 24, [(.str ⟨#[]⟩), (.bool false)], false⟩),
  (83, ⟨.struct [(9, 0, false), (4, 1, false)], 2, 24, [(.str ⟨#[]⟩), (.bool false)], false⟩),
  (84, ⟨.func, 1, 8, [.nilf], false⟩),
  (85, ⟨.func, 1, 8, [.nilf], false⟩),
  (86, ⟨.slice 9, 1, 24, [(.slice true 0 [] .full)], false⟩),
  (87, ⟨.func, 1, 8, [.nilf], false⟩),
  (88, ⟨.func, 1, 8, [.nilf], false⟩),
  (89, ⟨.pointer 91, 1, 8, [.nilp], false⟩),
  (90, ⟨.struct [(89, 0, false), (36, 1, false)], 2, 32, [.nilp, (.slice true 0 [] .full)], false⟩),
  (91, ⟨.struct [(89, 0, false), (36, 1, false)], 2, 32, [.nilp, (.slice true 0 [] .full)], false⟩),
  (92, ⟨.func, 1, 8, [.nilf], false⟩),
  (93, ⟨.iface, 1, 16, [.nili], false⟩),
  (94, ⟨.iface, 1, 16, [.nili], false⟩),
  (96, ⟨.func, 1, 8, [.nilf], false⟩),
  (97, ⟨.func, 1, 8, [.nilf], false⟩),
  (98, ⟨.pointer 5, 1, 8, [.nilp], false⟩),
  (100, ⟨.func, 1, 8, [.nilf], false⟩),
  (101, ⟨.func, 1, 8, [.nilf], false⟩),
  (102, ⟨.struct [(17, 0, false), (17, 1, false), (17, 2, false), (9, 3, false)], 4, 40, [.nilp, .nilp, .nilp, (.str ⟨#[]⟩)], false⟩),
  (103, ⟨.struct [(17, 0, false), (17, 1, false), (17, 2, false), (9, 3, false)], 4, 40, [.nilp, .nilp, .nilp, (.str ⟨#[]⟩)], false⟩),
  (104, ⟨.array 0 16, 0, 0, [], false⟩),
  (105, ⟨.struct [(104, 0, true)], 0, 0, [], false⟩),
  (106, ⟨.struct [(104, 0, true)], 0, 0, [], false⟩),
  (107, ⟨.func, 1, 8, [.nilf], false⟩),
  (108, ⟨.int .u32, 1, 4, [(.int .u32 0)], false⟩),
  (109, ⟨.int .u8, 1, 1, [(.int .u8 0)], false⟩),
  (110, ⟨.int .u8, 1, 1, [(.int .u8 0)], false⟩),
  (111, ⟨.func, 1, 8, [.nilf], false⟩),
  (112, ⟨.int .i32, 1, 4, [(.int .i32 0)], false⟩),
  (113, ⟨.int .i32, 1, 4, [(.int .i32 0)], false⟩),
  (114, ⟨.struct [(12, 0, false), (12, 1, false), (108, 2, false), (109, 3, false), (5, 4, false), (5, 5, false), (110, 6, false), (111, 7, false), (98, 8, false), (112, 9, false), (113, 10, false)], 11, 48, [(.int .u64 0), (.int .u64 0), (.int .u32 0), (.int .u8 0), (.int .u8 0), (.int .u8 0), (.int .u8 0), .nilf, .nilp, (.int .i32 0), (.int .i32 0)], false⟩),
  (115, ⟨.struct [(12, 0, false), (12, 1, false), (108, 2, false), (109, 3, false), (5, 4, false), (5, 5, false), (110, 6, false), (111, 7, false), (98, 8, false), (112, 9, false), (113, 10, false)], 11, 48, [(.int .u64 0), (.int .u64 0), (.int .u32 0), (.int .u8 0), (.int .u8 0), (.int .u8 0), (.int .u8 0), .nilf, .nilp, (.int .i32 0), (.int .i32 0)], false⟩)]
def tiOf (t : Nat) : TI := (lookT tab t).getD ⟨.other, 0, 0, [], false⟩
theorem ty_1 : lookT tab 1 = some ⟨.func, 1, 8, [.nilf], false⟩ := rfl
theorem ty_2 : lookT tab 2 = some ⟨.int .i64, 1, 8, [(.int .i64 0)], false⟩ := rfl
theorem ty_3 : lookT tab 3 = some ⟨.int .i64, 1, 8, [(.int .i64 0)], false⟩ := rfl
theorem ty_4 : lookT tab 4 = some ⟨.bool, 1, 1, [(.bool false)], false⟩ := rfl
theorem ty_5 : lookT tab 5 = some ⟨.int .u8, 1, 1, [(.int .u8 0)], false⟩ := rfl
theorem ty_6 : lookT tab 6 = some ⟨.int .u8, 1, 1, [(.int .u8 0)], false⟩ := rfl
theorem ty_7 : lookT tab 7 = some ⟨.struct [(2, 0, false), (3, 1, false), (4, 2, false), (6, 3, false)], 4, 24, [(.int .i64 0), (.int .i64 0), (.bool false), (.int .u8 0)], false⟩ := rfl
theorem ty_8 : lookT tab 8 = some ⟨.struct [(2, 0, false), (3, 1, false), (4, 2, false), (6, 3, false)], 4, 24, [(.int .i64 0), (.int .i64 0), (.bool false), (.int .u8 0)], false⟩ := rfl
theorem ty_9 : lookT tab 9 = some ⟨.string, 1, 16, [(.str ⟨#[]⟩)], false⟩ := rfl
theorem ty_10 : lookT tab 10 = some ⟨.string, 1, 16, [(.str ⟨#[]⟩)], false⟩ := rfl
theorem ty_11 : lookT tab 11 = some ⟨.string, 1, 16, [(.str ⟨#[]⟩)], false⟩ := rfl
theorem ty_12 : lookT tab 12 = some ⟨.int .u64, 1, 8, [(.int .u64 0)], false⟩ := rfl
theorem ty_13 : lookT tab 13 = some ⟨.struct [(9, 0, false), (12, 1, false)], 2, 24, [(.str ⟨#[]⟩), (.int .u64 0)], false⟩ := rfl
theorem ty_14 : lookT tab 14 = some ⟨.struct [(9, 0, false), (12, 1, false)], 2, 24, [(.str ⟨#[]⟩), (.int .u64 0)], false⟩ := rfl
theorem ty_15 : lookT tab 15 = some ⟨.pointer 103, 1, 8, [.nilp], false⟩ := rfl
theorem ty_16 : lookT tab 16 = some ⟨.pointer 106, 1, 8, [.nilp], false⟩ := rfl
theorem ty_17 : lookT tab 17 = some ⟨.pointer 115, 1, 8, [.nilp], false⟩ := rfl
theorem ty_18 : lookT tab 18 = some ⟨.struct [(17, 0, false)], 1, 8, [.nilp], false⟩ := rfl
theorem ty_19 : lookT tab 19 = some ⟨.struct [(17, 0, false)], 1, 8, [.nilp], false⟩ := rfl
theorem ty_20 : lookT tab 20 = some ⟨.iface, 1, 16, [.nili], false⟩ := rfl
theorem ty_21 : lookT tab 21 = some ⟨.int .i32, 1, 4, [(.int .i32 0)], false⟩ := rfl
theorem ty_22 : lookT tab 22 = some ⟨.slice 57, 1, 24, [(.slice true 0 [] .full)], false⟩ := rfl
theorem ty_23 : lookT tab 23 = some ⟨.slice 28, 1, 24, [(.slice true 0 [] .full)], false⟩ := rfl
theorem ty_24 : lookT tab 24 = some ⟨.func, 1, 8, [.nilf], false⟩ := rfl
theorem ty_25 : lookT tab 25 = some ⟨.func, 1, 8, [.nilf], false⟩ := rfl
theorem ty_26 : lookT tab 26 = some ⟨.int .u64, 1, 8, [(.int .u64 0)], false⟩ := rfl
theorem ty_27 : lookT tab 27 = some ⟨.struct [(3, 0, false), (26, 1, false), (9, 2, false)], 3, 32, [(.int .i64 0), (.int .u64 0), (.str ⟨#[]⟩)], false⟩ := rfl
theorem ty_28 : lookT tab 28 = some ⟨.struct [(3, 0, false), (26, 1, false), (9, 2, false)], 3, 32, [(.int .i64 0), (.int .u64 0), (.str ⟨#[]⟩)], true⟩ := rfl
theorem ty_29 : lookT tab 29 = some ⟨.func, 1, 8, [.nilf], false⟩ := rfl
theorem ty_30 : lookT tab 30 = some ⟨.int .i64, 1, 8, [(.int .i64 0)], false⟩ := rfl
theorem ty_32 : lookT tab 32 = some ⟨.func, 1, 8, [.nilf], false⟩ := rfl
theorem ty_33 : lookT tab 33 = some ⟨.func, 1, 8, [.nilf], false⟩ := rfl
theorem ty_34 : lookT tab 34 = some ⟨.func, 1, 8, [.nilf], false⟩ := rfl
theorem ty_35 : lookT tab 35 = some ⟨.func, 1, 8, [.nilf], false⟩ := rfl
theorem ty_36 : lookT tab 36 = some ⟨.slice 5, 1, 24, [(.slice true 0 [] .full)], false⟩ := rfl
theorem ty_37 : lookT tab 37 = some ⟨.func, 1, 8, [.nilf], false⟩ := rfl
theorem ty_38 : lookT tab 38 = some ⟨.slice 43, 1, 24, [(.slice true 0 [] .full)], false⟩ := rfl
theorem ty_39 : lookT tab 39 = some ⟨.array 17 3, 17, 136, [(.int .i64 0), (.int .i64 0), (.int .i64 0), (.int .i64 0), (.int .i64 0), (.int .i64 0), (.int .i64 0), (.int .i64 0), (.int .i64 0), (.int .i64 0), (.int .i64 0), (.int .i64 0), (.int .i64 0), (.int .i64 0), (.int .i64 0), (.int .i64 0), (.int .i64 0)], false⟩ := rfl
theorem ty_40 : lookT tab 40 = some ⟨.array 4 39, 68, 544, [(.int .i64 0), (.int .i64 0), (.int .i64 0), (.int .i64 0), (.int .i64 0), (.int .i64 0), (.int .i64 0), (.int .i64 0), (.int .i64 0), (.int .i64 0), (.int .i64 0), (.int .i64 0), (.int .i64 0), (.int .i64 0), (.int .i64 0), (.int .i64 0), (.int .i64 0), (.int .i64 0), (.int .i64 0), (.int .i64 0), (.int .i64 0), (.int .i64 0), (.int .i64 0), (.int .i64 0), (.int .i64 0), (.int .i64 0), (.int .i64 0), (.int .i64 0), (.int .i64 0), (.int .i64 0), (.int .i64 0), (.int .i64 0), (.int .i64 0), (.int .i64 0), (.int .i64 0), (.int .i64 0), (.int .i64 0), (.int .i64 0), (.int .i64 0), (.int .i64 0), (.int .i64 0), (.int .i64 0), (.int .i64 0), (.int .i64 0), (.int .i64 0), (.int .i64 0), (.int .i64 0), (.int .i64 0), (.int .i64 0), (.int .i64 0), (.int .i64 0), (.int .i64 0), (.int .i64 0), (.int .i64 0), (.int .i64 0), (.int .i64 0), (.int .i64 0), (.int .i64 0), (.int .i64 0), (.int .i64 0), (.int .i64 0), (.int .i64 0), (.int .i64 0), (.int .i64 0), (.int .i64 0), (.int .i64 0), (.int .i64 0), (.int .i64 0)], false⟩ := rfl
theorem ty_41 : lookT tab 41 = some ⟨.array 17 9, 17, 272, [(.str ⟨#[]⟩), (.str ⟨#[]⟩), (.str ⟨#[]⟩), (.str ⟨#[]⟩), (.str ⟨#[]⟩), (.str ⟨#[]⟩), (.str ⟨#[]⟩), (.str ⟨#[]⟩), (.str ⟨#[]⟩), (.str ⟨#[]⟩), (.str ⟨#[]⟩), (.str ⟨#[]⟩), (.str ⟨#[]⟩), (.str ⟨#[]⟩), (.str ⟨#[]⟩), (.str ⟨#[]⟩), (.str ⟨#[]⟩)], false⟩ := rfl
theorem ty_42 : lookT tab 42 = some ⟨.array 4 41, 68, 1088, [(.str ⟨#[]⟩), (.str ⟨#[]⟩), (.str ⟨#[]⟩), (.str ⟨#[]⟩), (.str ⟨#[]⟩), (.str ⟨#[]⟩), (.str ⟨#[]⟩), (.str ⟨#[]⟩), (.str ⟨#[]⟩), (.str ⟨#[]⟩), (.str ⟨#[]⟩), (.str ⟨#[]⟩), (.str ⟨#[]⟩), (.str ⟨#[]⟩), (.str ⟨#[]⟩), (.str ⟨#[]⟩), (.str ⟨#[]⟩), (.str ⟨#[]⟩), (.str ⟨#[]⟩), (.str ⟨#[]⟩), (.str ⟨#[]⟩), (.str ⟨#[]⟩), (.str ⟨#[]⟩), (.str ⟨#[]⟩), (.str ⟨#[]⟩), (.str ⟨#[]⟩), (.str ⟨#[]⟩), (.str ⟨#[]⟩), (.str ⟨#[]⟩), (.str ⟨#[]⟩), (.str ⟨#[]⟩), (.str ⟨#[]⟩), (.str ⟨#[]⟩), (.str ⟨#[]⟩), (.str ⟨#[]⟩), (.str ⟨#[]⟩), (.str ⟨#[]⟩), (.str ⟨#[]⟩), (.str ⟨#[]⟩), (.str ⟨#[]⟩), (.str ⟨#[]⟩), (.str ⟨#[]⟩), (.str ⟨#[]⟩), (.str ⟨#[]⟩), (.str ⟨#[]⟩), (.str ⟨#[]⟩), (.str ⟨#[]⟩), (.str ⟨#[]⟩), (.str ⟨#[]⟩), (.str ⟨#[]⟩), (.str ⟨#[]⟩), (.str ⟨#[]⟩), (.str ⟨#[]⟩), (.str ⟨#[]⟩), (.str ⟨#[]⟩), (.str ⟨#[]⟩), (.str ⟨#[]⟩), (.str ⟨#[]⟩), (.str ⟨#[]⟩), (.str ⟨#[]⟩), (.str ⟨#[]⟩), (.str ⟨#[]⟩), (.str ⟨#[]⟩), (.str ⟨#[]⟩), (.str ⟨#[]⟩), (.str ⟨#[]⟩), (.str ⟨#[]⟩), (.str ⟨#[]⟩)], false⟩ := rfl
theorem ty_43 : lookT tab 43 = some ⟨.array 2 3, 2, 16, [(.int .i64 0), (.int .i64 0)], false⟩ := rfl
theorem ty_44 : lookT tab 44 = some ⟨.func, 1, 8, [.nilf], false⟩ := rfl
theorem ty_45 : lookT tab 45 = some ⟨.func, 1, 8, [.nilf], false⟩ := rfl
theorem ty_46 : lookT tab 46 = some ⟨.array 16 26, 16, 128, [(.int .u64 0), (.int .u64 0), (.int .u64 0), (.int .u64 0), (.int .u64 0), (.int .u64 0), (.int .u64 0), (.int .u64 0), (.int .u64 0), (.int .u64 0), (.int .u64 0), (.int .u64 0), (.int .u64 0), (.int .u64 0), (.int .u64 0), (.int .u64 0)], false⟩ := rfl
theorem ty_47 : lookT tab 47 = some ⟨.func, 1, 8, [.nilf], false⟩ := rfl
theorem ty_48 : lookT tab 48 = some ⟨.struct [(3, 0, false), (3, 1, false), (5, 2, false), (9, 3, false)], 4, 40, [(.int .i64 0), (.int .i64 0), (.int .u8 0), (.str ⟨#[]⟩)], false⟩ := rfl
theorem ty_49 : lookT tab 49 = some ⟨.struct [(3, 0, false), (3, 1, false), (5, 2, false), (9, 3, false)], 4, 40, [(.int .i64 0), (.int .i64 0), (.int .u8 0), (.str ⟨#[]⟩)], false⟩ := rfl
theorem ty_50 : lookT tab 50 = some ⟨.func, 1, 8, [.nilf], false⟩ := rfl
theorem ty_52 : lookT tab 52 = some ⟨.func, 1, 8, [.nilf], false⟩ := rfl
theorem ty_53 : lookT tab 53 = some ⟨.func, 1, 8, [.nilf], false⟩ := rfl
theorem ty_54 : lookT tab 54 = some ⟨.func, 1, 8, [.nilf], false⟩ := rfl
theorem ty_55 : lookT tab 55 = some ⟨.func, 1, 8, [.nilf], false⟩ := rfl
theorem ty_56 : lookT tab 56 = some ⟨.struct [(3, 0, false), (26, 1, false), (9, 2, false)], 3, 32, [(.int .i64 0), (.int .u64 0), (.str ⟨#[]⟩)], false⟩ := rfl
theorem ty_57 : lookT tab 57 = some ⟨.struct [(3, 0, false), (26, 1, false), (9, 2, false)], 3, 32, [(.int .i64 0), (.int .u64 0), (.str ⟨#[]⟩)], true⟩ := rfl
theorem ty_59 : lookT tab 59 = some ⟨.func, 1, 8, [.nilf], false⟩ := rfl
theorem ty_60 : lookT tab 60 = some ⟨.func, 1, 8, [.nilf], false⟩ := rfl
theorem ty_61 : lookT tab 61 = some ⟨.func, 1, 8, [.nilf], false⟩ := rfl
theorem ty_62 : lookT tab 62 = some ⟨.func, 1, 8, [.nilf], false⟩ := rfl
theorem ty_63 : lookT tab 63 = some ⟨.func, 1, 8, [.nilf], false⟩ := rfl
theorem ty_64 : lookT tab 64 = some ⟨.func, 1, 8, [.nilf], false⟩ := rfl
theorem ty_65 : lookT tab 65 = some ⟨.pointer 83, 1, 8, [.nilp], false⟩ := rfl
theorem ty_66 : lookT tab 66 = some ⟨.func, 1, 8, [.nilf], false⟩ := rfl
theorem ty_67 : lookT tab 67 = some ⟨.func, 1, 8, [.nilf], false⟩ := rfl
theorem ty_68 : lookT tab 68 = some ⟨.func, 1, 8, [.nilf], false⟩ := rfl
theorem ty_69 : lookT tab 69 = some ⟨.pointer 71, 1, 8, [.nilp], false⟩ := rfl
theorem ty_70 : lookT tab 70 = some ⟨.struct [(9, 0, false), (4, 1, false)], 2, 24, [(.str ⟨#[]⟩), (.bool false)], false⟩ := rfl
theorem ty_71 : lookT tab 71 = some ⟨.struct [(9, 0, false), (4, 1, false)], 2, 24, [(.str ⟨#[]⟩), (.bool false)], false⟩ := rfl
theorem ty_72 : lookT tab 72 = some ⟨.func, 1, 8, [.nilf], false⟩ := rfl
theorem ty_73 : lookT tab 73 = some ⟨.func, 1, 8, [.nilf], false⟩ := rfl
theorem ty_74 : lookT tab 74 = some ⟨.func, 1, 8, [.nilf], false⟩ := rfl
theorem ty_75 : lookT tab 75 = some ⟨.func, 1, 8, [.nilf], false⟩ := rfl
theorem ty_76 : lookT tab 76 = some ⟨.slice 22, 1, 24, [(.slice true 0 [] .full)], false⟩ := rfl
theorem ty_77 : lookT tab 77 = some ⟨.func, 1, 8, [.nilf], false⟩ := rfl
theorem ty_78 : lookT tab 78 = some ⟨.func, 1, 8, [.nilf], false⟩ := rfl
theorem ty_79 : lookT tab 79 = some ⟨.int .u64, 1, 8, [(.int .u64 0)], false⟩ := rfl
theorem ty_80 : lookT tab 80 = some ⟨.func, 1, 8, [.nilf], false⟩ := rfl
theorem ty_81 : lookT tab 81 = some ⟨.func, 1, 8, [.nilf], false⟩ := rfl
theorem ty_82 : lookT tab 82 = some ⟨.struct [(9, 0, false), (4, 1, false)], 2, 24, [(.str ⟨#[]⟩), (.bool false)], false⟩ := rfl
theorem ty_83 : lookT tab 83 = some ⟨.struct [(9, 0, false), (4, 1, false)], 2, 24, [(.str ⟨#[]⟩), (.bool false)], false⟩ := rfl
theorem ty_84 : lookT tab 84 = some ⟨.func, 1, 8, [.nilf], false⟩ := rfl
theorem ty_85 : lookT tab 85 = some ⟨.func, 1, 8, [.nilf], false⟩ := rfl
theorem ty_86 : lookT tab 86 = some ⟨.slice 9, 1, 24, [(.slice true 0 [] .full)], false⟩ := rfl
theorem ty_87 : lookT tab 87 = some ⟨.func, 1, 8, [.nilf], false⟩ := rfl
theorem ty_88 : lookT tab 88 = some ⟨.func, 1, 8, [.nilf], false⟩ := rfl
theorem ty_89 : lookT tab 89 = some ⟨.pointer 91, 1, 8, [.nilp], false⟩ := rfl
theorem ty_90 : lookT tab 90 = some ⟨.struct [(89, 0, false), (36, 1, false)], 2, 32, [.nilp, (.slice true 0 [] .full)], false⟩ := rfl
theorem ty_91 : lookT tab 91 = some ⟨.struct [(89, 0, false), (36, 1, false)], 2, 32, [.nilp, (.slice true 0 [] .full)], false⟩ := rfl
theorem ty_92 : lookT tab 92 = some ⟨.func, 1, 8, [.nilf], false⟩ := rfl
theorem ty_93 : lookT tab 93 = some ⟨.iface, 1, 16, [.nili], false⟩ := rfl
theorem ty_94 : lookT tab 94 = some ⟨.iface, 1, 16, [.nili], false⟩ := rfl
theorem ty_96 : lookT tab 96 = some ⟨.func, 1, 8, [.nilf], false⟩ := rfl
theorem ty_97 : lookT tab 97 = some ⟨.func, 1, 8, [.nilf], false⟩ := rfl
theorem ty_98 : lookT tab 98 = some ⟨.pointer 5, 1, 8, [.nilp], false⟩ := rfl
theorem ty_100 : lookT tab 100 = some ⟨.func, 1, 8, [.nilf], false⟩ := rfl
theorem ty_101 : lookT tab 101 = some ⟨.func, 1, 8, [.nilf], false⟩ := rfl
theorem ty_102 : lookT tab 102 = some ⟨.struct [(17, 0, false), (17, 1, false), (17, 2, false), (9, 3, false)], 4, 40, [.nilp, .nilp, .nilp, (.str ⟨#[]⟩)], false⟩ := rfl
theorem ty_103 : lookT tab 103 = some ⟨.struct [(17, 0, false), (17, 1, false), (17, 2, false), (9, 3, false)], 4, 40, [.nilp, .nilp, .nilp, (.str ⟨#[]⟩)], false⟩ := rfl
theorem ty_104 : lookT tab 104 = some ⟨.array 0 16, 0, 0, [], false⟩ := rfl
theorem ty_105 : lookT tab 105 = some ⟨.struct [(104, 0, true)], 0, 0, [], false⟩ := rfl
theorem ty_106 : lookT tab 106 = some ⟨.struct [(104, 0, true)], 0, 0, [], false⟩ := rfl
theorem ty_107 : lookT tab 107 = some ⟨.func, 1, 8, [.nilf], false⟩ := rfl
theorem ty_108 : lookT tab 108 = some ⟨.int .u32, 1, 4, [(.int .u32 0)], false⟩ := rfl
theorem ty_109 : lookT tab 109 = some ⟨.int .u8, 1, 1, [(.int .u8 0)], false⟩ := rfl
theorem ty_110 : lookT tab 110 = some ⟨.int .u8, 1, 1, [(.int .u8 0)], false⟩ := rfl
theorem ty_111 : lookT tab 111 = some ⟨.func, 1, 8, [.nilf], false⟩ := rfl
theorem ty_112 : lookT tab 112 = some ⟨.int .i32, 1, 4, [(.int .i32 0)], false⟩ := rfl
theorem ty_113 : lookT tab 113 = some ⟨.int .i32, 1, 4, [(.int .i32 0)], false⟩ := rfl
theorem ty_114 : lookT tab 114 = some ⟨.struct [(12, 0, false), (12, 1, false), (108, 2, false), (109, 3, false), (5, 4, false), (5, 5, false), (110, 6, false), (111, 7, false), (98, 8, false), (112, 9, false), (113, 10, false)], 11, 48, [(.int .u64 0), (.int .u64 0), (.int .u32 0), (.int .u8 0), (.int .u8 0), (.int .u8 0), (.int .u8 0), .nilf, .nilp, (.int .i32 0), (.int .i32 0)], false⟩ := rfl
theorem ty_115 : lookT tab 115 = some ⟨.struct [(12, 0, false), (12, 1, false), (108, 2, false), (109, 3, false), (5, 4, false), (5, 5, false), (110, 6, false), (111, 7, false), (98, 8, false), (112, 9, false), (113, 10, false)], 11, 48, [(.int .u64 0), (.int .u64 0), (.int .u32 0), (.int .u8 0), (.int .u8 0), (.int .u8 0), (.int .u8 0), .nilf, .nilp, (.int .i32 0), (.int .i32 0)], false⟩ := rfl
end Go.Proofs.Ytdpkhkiecobkoaa.Abs
