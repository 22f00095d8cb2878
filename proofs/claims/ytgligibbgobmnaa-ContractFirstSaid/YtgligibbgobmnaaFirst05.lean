/-
  Functions of the program: their abstract code, what they compute (printed by a program of ours), and that they do so.
-/
import Derived.Test.YtgligibbgobmnaaFirst04
namespace Go.Proofs.Ytgligibbgobmnaa
open Go.RowKit
set_option linter.unusedVariables false
set_option linter.unusedSimpArgs false
set_option maxRecDepth 100000

def ri40_0 : List AItem := [⟨some 1, .box 7 (.t 0), none⟩,
  ⟨some 2, .mov (.c (.imm (.bool false))), none⟩]
def ri40_1 : List AItem := [⟨some 5, .fld 1 (.t 1), none⟩,
  ⟨some 6, .load false 1 (.t 5), none⟩,
  ⟨some 7, .len (.t 6), none⟩,
  ⟨some 8, .mov (.c (.imm (.int .i64 0))), none⟩]
def ri40_2 : List AItem := [⟨some 9, .bin .lss (.t 8) (.t 7), none⟩]
def ri40_3 : List AItem := [⟨some 10, .mov (.t 8), none⟩,
  ⟨some 3, .mov (.t 10), none⟩]
def ri40_4 : List AItem := [⟨some 11, .fld 0 (.t 1), none⟩,
  ⟨some 12, .load false 1 (.t 11), none⟩,
  ⟨some 13, .mov (.c (.imm (.int .i64 0))), none⟩]
def ri40_5 : List AItem := [⟨some 14, .bin .lss (.t 13) (.t 12), none⟩]
def ri40_6 : List AItem := [⟨some 15, .mov (.t 13), none⟩,
  ⟨some 4, .mov (.t 15), none⟩]
def ri40_7 : List AItem := [⟨some 16, .fld 1 (.t 1), none⟩,
  ⟨some 17, .load false 1 (.t 16), none⟩,
  ⟨some 18, .mov (.t 3), none⟩,
  ⟨some 19, .idx 1 (.t 17) (.t 18), none⟩,
  ⟨some 20, .load false 1 (.t 19), none⟩,
  ⟨some 21, .mov (.t 4), none⟩,
  ⟨some 22, .bin .eql (.t 20) (.t 21), none⟩]
def ri40_8 : List AItem := [⟨some 23, .bin .add (.t 13) (.c (.imm (.int .i64 1))), none⟩,
  ⟨some 13, .mov (.t 23), none⟩]
def ri40_9 : List AItem := [⟨some 2, .mov (.c (.imm (.bool false))), none⟩]
def ri40_10 : List AItem := [⟨some 24, .bin .add (.t 8) (.c (.imm (.int .i64 1))), none⟩,
  ⟨some 8, .mov (.t 24), none⟩]
def ri40_11 : List AItem := [⟨some 2, .mov (.c (.imm (.bool true))), none⟩]
def af40 : AFun := ⟨25, [.tmp 2], (
.seq (.region false [] ri40_0 (some [1])) (
.scope (.seq (.skip) (
.seq (.seq (.region false [] ri40_1 (some [1, 7, 8])) (
.block 0 (.loop (.seq (.region false [] ri40_2 (some [1, 7, 8, 9])) (
.seq (.cond (.t 9) (.skip) (.exit 0)) (
.seq (.block 1 (.seq (.region false [] ri40_3 (some [1, 3, 7, 8])) (
.seq (.seq (.region false [] ri40_4 (some [1, 3, 7, 8, 12, 13])) (
.block 2 (.loop (.seq (.region false [] ri40_5 (some [1, 3, 7, 8, 12, 13, 14])) (
.seq (.cond (.t 14) (.skip) (.exit 2)) (
.seq (.block 3 (.seq (.region false [] ri40_6 (some [1, 3, 4, 7, 8, 12, 13])) (
.seq (.region false [] ri40_7 (some [1, 3, 7, 8, 12, 13, 22])) (
.cond (.t 22) (.exit 1) (.skip))))) (
.region false [] ri40_8 (some [1, 3, 7, 8, 12, 13])))))))) (
.seq (.region false [] ri40_9 (some [2])) (
.ret))))) (
.region false [] ri40_10 (some [1, 7, 8])))))))) (
.seq (.region false [] ri40_11 (some [2])) (
.ret))))))⟩

def ri59_0 : List AItem := [⟨some 2, .mov (.c (.imm (.int .u64 0))), none⟩]
def ri59_1 : List AItem := [⟨some 3, .mov (.t 0), none⟩,
  ⟨some 4, .bin .lss (.t 3) (.c (.imm (.int .i64 0))), none⟩]
def ri59_2 : List AItem := [⟨some 5, .mov (.t 0), none⟩,
  ⟨some 6, .bin .add (.t 5) (.c (.imm (.int .i64 1))), none⟩,
  ⟨some 7, .neg (.t 6), none⟩,
  ⟨some 8, .conv .u64 (.t 7), none⟩,
  ⟨some 9, .bin .add (.t 8) (.c (.imm (.int .u64 1))), none⟩,
  ⟨some 2, .mov (.t 9), none⟩]
def ri59_3 : List AItem := [⟨some 10, .mov (.t 0), none⟩,
  ⟨some 11, .conv .u64 (.t 10), none⟩,
  ⟨some 2, .mov (.t 11), none⟩]
def af59 : AFun := ⟨12, [.tmp 2], (
.seq (.region false [] ri59_0 (some [0])) (
.seq (.seq (.region false [] ri59_1 (some [0, 4])) (
.cond (.t 4) (.seq (.region false [] ri59_2 (some [2])) (
.ret)) (.skip))) (
.seq (.region false [] ri59_3 (some [2])) (
.ret))))⟩

def ri58_0 : List AItem := [⟨some 2, .mov (.c (.imm (.int .u64 0))), none⟩]
def ri58_1 : List AItem := [⟨some 3, .mov (.c (.imm (.int .u64 0))), none⟩]
def ri58_2 : List AItem := [⟨some 6, .mov (.t 0), none⟩,
  ⟨some 7, .len (.t 6), none⟩,
  ⟨some 8, .mov (.c (.imm (.int .i64 0))), none⟩]
def ri58_3 : List AItem := [⟨some 9, .bin .lss (.t 8) (.t 7), none⟩]
def ri58_4 : List AItem := [⟨some 10, .idx 1 (.t 6) (.t 8), none⟩,
  ⟨some 11, .load false 1 (.t 10), none⟩,
  ⟨some 5, .mov (.t 11), none⟩]
def ri58_5 : List AItem := [⟨some 12, .mov (.t 5), none⟩,
  ⟨some 13, .bin .neq (.t 12) (.c (.imm (.int .u64 0))), none⟩]
def ri58_6 : List AItem := [⟨some 14, .mov (.t 5), none⟩,
  ⟨some 15, .mov (.t 3), none⟩,
  ⟨some 16, .mov (.t 5), none⟩,
  ⟨some 17, .bin .rem (.t 15) (.t 16), none⟩,
  ⟨some 3, .mov (.t 14), none⟩,
  ⟨some 5, .mov (.t 17), none⟩]
def ri58_7 : List AItem := [⟨some 18, .bin .add (.t 8) (.c (.imm (.int .i64 1))), none⟩,
  ⟨some 8, .mov (.t 18), none⟩]
def ri58_8 : List AItem := [⟨some 19, .mov (.t 3), none⟩,
  ⟨some 2, .mov (.t 19), none⟩]
def af58 : AFun := ⟨20, [.tmp 2], (
.seq (.region false [] ri58_0 (some [0])) (
.seq (.region false [] ri58_1 (some [0, 3])) (
.seq (.seq (.region false [] ri58_2 (some [3, 6, 7, 8])) (
.block 0 (.loop (.seq (.region false [] ri58_3 (some [3, 6, 7, 8, 9])) (
.seq (.cond (.t 9) (.skip) (.exit 0)) (
.seq (.block 1 (.seq (.region false [] ri58_4 (some [3, 5, 6, 7, 8])) (
.block 2 (.loop (.seq (.seq (.region false [] ri58_5 (some [3, 5, 6, 7, 8, 13])) (
.cond (.t 13) (.skip) (.exit 2))) (
.block 3 (.region true [0, 0, 0, 6, 3, 31] ri58_6 (some [3, 5, 6, 7, 8])))))))) (
.region false [] ri58_7 (some [3, 6, 7, 8])))))))) (
.seq (.region false [] ri58_8 (some [2])) (
.ret)))))⟩

def ri55_0 : List AItem := [⟨some 1, .box 2 (.t 0), none⟩,
  ⟨some 2, .mov (.c (.imm (.bool false))), none⟩]
def ri55_1 : List AItem := [⟨some 3, .fld 1 (.t 1), none⟩,
  ⟨some 4, .load false 1 (.t 3), none⟩,
  ⟨some 5, .bin .lss (.t 4) (.c (.imm (.int .i64 1))), none⟩,
  ⟨some 6, .mov (.t 5), none⟩,
  ⟨some 7, .fld 1 (.t 1), some (6, false)⟩,
  ⟨some 8, .load false 1 (.t 7), some (6, false)⟩,
  ⟨some 9, .bin .gtr (.t 8) (.c (.imm (.int .i64 1000000))), some (6, false)⟩,
  ⟨some 10, .pick (.t 6) (.c (.imm (.bool true))) (.t 9), none⟩,
  ⟨some 11, .mov (.t 10), none⟩,
  ⟨some 12, .fld 0 (.t 1), some (11, false)⟩,
  ⟨some 13, .load false 1 (.t 12), some (11, false)⟩,
  ⟨some 14, .bin .lss (.t 13) (.c (.imm (.int .i64 (-1000000000000)))), some (11, false)⟩,
  ⟨some 15, .pick (.t 11) (.c (.imm (.bool true))) (.t 14), none⟩,
  ⟨some 16, .mov (.t 15), none⟩,
  ⟨some 17, .fld 0 (.t 1), some (16, false)⟩,
  ⟨some 18, .load false 1 (.t 17), some (16, false)⟩,
  ⟨some 19, .bin .gtr (.t 18) (.c (.imm (.int .i64 1000000000000))), some (16, false)⟩,
  ⟨some 20, .pick (.t 16) (.c (.imm (.bool true))) (.t 19), none⟩]
def ri55_2 : List AItem := [⟨some 2, .mov (.c (.imm (.bool false))), none⟩]
def ri55_3 : List AItem := [⟨some 21, .fld 0 (.t 1), none⟩,
  ⟨some 22, .load false 1 (.t 21), none⟩,
  ⟨some 23, .call (.c (.func 59 [] [])) [.t 22], none⟩,
  ⟨some 24, .fld 1 (.t 1), none⟩,
  ⟨some 25, .load false 1 (.t 24), none⟩,
  ⟨some 26, .call (.c (.func 59 [] [])) [.t 25], none⟩,
  ⟨some 27, .bslice 1 [.imm (.int .u64 0)] 2 [(0, .t 23), (1, .t 26)], none⟩,
  ⟨some 28, .call (.c (.func 58 [] [])) [.t 27], none⟩,
  ⟨some 29, .bin .eql (.t 28) (.c (.imm (.int .u64 1))), none⟩,
  ⟨some 2, .mov (.t 29), none⟩]
def af55 : AFun := ⟨30, [.tmp 2], (
.seq (.region false [] ri55_0 (some [1])) (
.seq (.seq (.region false [] ri55_1 (some [1, 20])) (
.cond (.t 20) (.seq (.region false [] ri55_2 (some [2])) (
.ret)) (.skip))) (
.seq (.region true [0, 1, 3, 0, 8, 31, 63, 127, 255, 511] ri55_3 (some [2])) (
.ret))))⟩

def ri57_0 : List AItem := [⟨some 4, .mov (.c (.imm (.bool false))), none⟩]
def ri57_1 : List AItem := [⟨some 5, .mov (.t 1), none⟩,
  ⟨some 6, .bin .geq (.t 5) (.c (.imm (.int .i64 0))), none⟩,
  ⟨some 7, .mov (.t 6), none⟩,
  ⟨some 8, .mov (.t 1), some (7, true)⟩,
  ⟨some 9, .mov (.t 0), some (7, true)⟩,
  ⟨some 10, .len (.t 9), some (7, true)⟩,
  ⟨some 11, .bin .lss (.t 8) (.t 10), some (7, true)⟩,
  ⟨some 12, .pick (.t 7) (.t 11) (.c (.imm (.bool false))), none⟩,
  ⟨some 4, .mov (.t 12), none⟩]
def af57 : AFun := ⟨13, [.tmp 4], (
.seq (.region false [] ri57_0 (some [0, 1])) (
.seq (.region false [] ri57_1 (some [4])) (
.ret)))⟩

def ri54_0 : List AItem := [⟨some 4, .mov (.c (.imm (.bool false))), none⟩]
def ri54_1 : List AItem := [⟨some 8, .mov (.t 0), none⟩,
  ⟨some 9, .mov (.t 1), none⟩,
  ⟨some 10, .idx 5 (.t 8) (.t 9), none⟩,
  ⟨some 11, .load true 5 (.t 10), none⟩,
  ⟨some 5, .alloc 5 [[.imm (.str ⟨#[]⟩), .imm (.int .i64 0), .imm (.int .i64 0), .imm (.int .i64 0), .imm (.int .i64 0)]], none⟩,
  ⟨none, .store 5 (.t 5) (.t 11), none⟩]
def ri54_2 : List AItem := [⟨some 12, .mov (.t 1), none⟩,
  ⟨some 13, .bin .geq (.t 12) (.c (.imm (.int .i64 20))), none⟩,
  ⟨some 14, .mov (.t 13), none⟩,
  ⟨some 15, .fld 0 (.t 5), some (14, false)⟩,
  ⟨some 16, .load false 1 (.t 15), some (14, false)⟩,
  ⟨some 17, .bin .eql (.t 16) (.c (.imm (.str ⟨#[]⟩))), some (14, false)⟩,
  ⟨some 18, .pick (.t 14) (.c (.imm (.bool true))) (.t 17), none⟩]
def ri54_3 : List AItem := [⟨some 4, .mov (.c (.imm (.bool false))), none⟩]
def ri54_4 : List AItem := [⟨some 19, .mov (.t 0), none⟩,
  ⟨some 20, .mov (.t 1), none⟩,
  ⟨some 21, .slc 5 (.t 19) none (some (.t 20)), none⟩,
  ⟨some 22, .len (.t 21), none⟩,
  ⟨some 23, .mov (.c (.imm (.int .i64 0))), none⟩]
def ri54_5 : List AItem := [⟨some 24, .bin .lss (.t 23) (.t 22), none⟩]
def ri54_6 : List AItem := [⟨some 25, .idx 5 (.t 21) (.t 23), none⟩,
  ⟨some 26, .load true 5 (.t 25), none⟩,
  ⟨some 7, .alloc 5 [[.imm (.str ⟨#[]⟩), .imm (.int .i64 0), .imm (.int .i64 0), .imm (.int .i64 0), .imm (.int .i64 0)]], none⟩,
  ⟨none, .store 5 (.t 7) (.t 26), none⟩]
def ri54_7 : List AItem := [⟨some 27, .fld 0 (.t 7), none⟩,
  ⟨some 28, .load false 1 (.t 27), none⟩,
  ⟨some 29, .fld 0 (.t 5), none⟩,
  ⟨some 30, .load false 1 (.t 29), none⟩,
  ⟨some 31, .bin .eql (.t 28) (.t 30), none⟩]
def ri54_8 : List AItem := [⟨some 4, .mov (.c (.imm (.bool false))), none⟩]
def ri54_9 : List AItem := [⟨some 32, .bin .add (.t 23) (.c (.imm (.int .i64 1))), none⟩,
  ⟨some 23, .mov (.t 32), none⟩]
def ri54_10 : List AItem := [⟨some 33, .fld 1 (.t 5), none⟩,
  ⟨some 34, .load false 1 (.t 33), none⟩,
  ⟨some 35, .bin .neq (.t 34) (.c (.imm (.int .i64 1))), none⟩,
  ⟨some 36, .mov (.t 35), none⟩,
  ⟨some 37, .fld 1 (.t 5), some (36, true)⟩,
  ⟨some 38, .load false 1 (.t 37), some (36, true)⟩,
  ⟨some 39, .bin .neq (.t 38) (.c (.imm (.int .i64 2))), some (36, true)⟩,
  ⟨some 40, .pick (.t 36) (.t 39) (.c (.imm (.bool false))), none⟩,
  ⟨some 41, .mov (.t 40), none⟩,
  ⟨some 42, .fld 3 (.t 5), some (41, false)⟩,
  ⟨some 43, .load true 2 (.t 42), some (41, false)⟩,
  ⟨some 44, .call (.c (.func 55 [] [])) [.t 43], some (41, false)⟩,
  ⟨some 45, .not (.t 44), some (41, false)⟩,
  ⟨some 46, .pick (.t 41) (.c (.imm (.bool true))) (.t 45), none⟩,
  ⟨some 47, .mov (.t 46), none⟩,
  ⟨some 48, .fld 3 (.t 5), some (47, false)⟩,
  ⟨some 49, .fld 0 (.t 48), some (47, false)⟩,
  ⟨some 50, .load false 1 (.t 49), some (47, false)⟩,
  ⟨some 51, .bin .leq (.t 50) (.c (.imm (.int .i64 0))), some (47, false)⟩,
  ⟨some 52, .pick (.t 47) (.c (.imm (.bool true))) (.t 51), none⟩]
def ri54_11 : List AItem := [⟨some 4, .mov (.c (.imm (.bool false))), none⟩]
def ri54_12 : List AItem := [⟨some 53, .mov (.t 0), none⟩,
  ⟨some 54, .fld 2 (.t 5), none⟩,
  ⟨some 55, .load false 1 (.t 54), none⟩,
  ⟨some 56, .call (.c (.func 57 [] [])) [.t 53, .t 55], none⟩,
  ⟨some 57, .not (.t 56), none⟩,
  ⟨some 58, .mov (.t 57), none⟩,
  ⟨some 59, .mov (.t 0), some (58, false)⟩,
  ⟨some 60, .fld 2 (.t 5), some (58, false)⟩,
  ⟨some 61, .load false 1 (.t 60), some (58, false)⟩,
  ⟨some 62, .idx 5 (.t 59) (.t 61), some (58, false)⟩,
  ⟨some 63, .fld 1 (.t 62), some (58, false)⟩,
  ⟨some 64, .load false 1 (.t 63), some (58, false)⟩,
  ⟨some 65, .fld 1 (.t 5), some (58, false)⟩,
  ⟨some 66, .load false 1 (.t 65), some (58, false)⟩,
  ⟨some 67, .bin .neq (.t 64) (.t 66), some (58, false)⟩,
  ⟨some 68, .pick (.t 58) (.c (.imm (.bool true))) (.t 67), none⟩,
  ⟨some 69, .mov (.t 68), none⟩,
  ⟨some 70, .mov (.t 0), some (69, false)⟩,
  ⟨some 71, .fld 2 (.t 5), some (69, false)⟩,
  ⟨some 72, .load false 1 (.t 71), some (69, false)⟩,
  ⟨some 73, .idx 5 (.t 70) (.t 72), some (69, false)⟩,
  ⟨some 74, .fld 2 (.t 73), some (69, false)⟩,
  ⟨some 75, .load false 1 (.t 74), some (69, false)⟩,
  ⟨some 76, .fld 2 (.t 5), some (69, false)⟩,
  ⟨some 77, .load false 1 (.t 76), some (69, false)⟩,
  ⟨some 78, .bin .neq (.t 75) (.t 77), some (69, false)⟩,
  ⟨some 79, .pick (.t 69) (.c (.imm (.bool true))) (.t 78), none⟩]
def ri54_13 : List AItem := [⟨some 4, .mov (.c (.imm (.bool false))), none⟩]
def ri54_14 : List AItem := [⟨some 80, .fld 2 (.t 5), none⟩,
  ⟨some 81, .load false 1 (.t 80), none⟩,
  ⟨some 82, .mov (.t 1), none⟩,
  ⟨some 83, .bin .neq (.t 81) (.t 82), none⟩,
  ⟨some 84, .mov (.t 83), none⟩,
  ⟨some 85, .fld 3 (.t 5), some (84, false)⟩,
  ⟨some 86, .load true 2 (.t 85), some (84, false)⟩,
  ⟨some 87, .build [.imm (.int .i64 0), .imm (.int .i64 0)] [(0, 1, .c (.imm (.int .i64 1))), (1, 1, .c (.imm (.int .i64 1)))], some (84, false)⟩,
  ⟨some 88, .eqs false [0, 0] (.t 86) (.t 87), some (84, false)⟩,
  ⟨some 89, .pick (.t 84) (.c (.imm (.bool true))) (.t 88), none⟩,
  ⟨some 4, .mov (.t 89), none⟩]
def af54 : AFun := ⟨90, [.tmp 4], (
.seq (.region false [] ri54_0 (some [0, 1])) (
.seq (.region false [] ri54_1 (some [0, 1, 5])) (
.seq (.seq (.region false [] ri54_2 (some [0, 1, 5, 18])) (
.cond (.t 18) (.seq (.region false [] ri54_3 (some [4])) (
.ret)) (.skip))) (
.seq (.seq (.region false [] ri54_4 (some [0, 1, 5, 21, 22, 23])) (
.block 0 (.loop (.seq (.region false [] ri54_5 (some [0, 1, 5, 21, 22, 23, 24])) (
.seq (.cond (.t 24) (.skip) (.exit 0)) (
.seq (.block 1 (.seq (.region false [] ri54_6 (some [0, 1, 5, 7, 21, 22, 23])) (
.seq (.region false [] ri54_7 (some [0, 1, 5, 21, 22, 23, 31])) (
.cond (.t 31) (.seq (.region false [] ri54_8 (some [4])) (
.ret)) (.skip))))) (
.region false [] ri54_9 (some [0, 1, 5, 21, 22, 23])))))))) (
.seq (.seq (.region false [] ri54_10 (some [0, 1, 5, 52])) (
.cond (.t 52) (.seq (.region false [] ri54_11 (some [4])) (
.ret)) (.skip))) (
.seq (.seq (.region true [0, 0, 2, 7, 15, 31, 63, 63, 191, 511, 1023, 2047, 63, 4159, 16383, 32767, 65535, 131071, 131071, 393215, 1048575, 2097151, 4194303, 131071, 8519679, 33554431, 67108863] ri54_12 (some [1, 5, 79])) (
.cond (.t 79) (.seq (.region false [] ri54_13 (some [4])) (
.ret)) (.skip))) (
.seq (.region false [] ri54_14 (some [4])) (
.ret))))))))⟩

def ri41_0 : List AItem := [⟨some 2, .mov (.c (.imm (.int .i64 0))), none⟩,
  ⟨some 3, .mov (.c (.imm (.bool false))), none⟩]
def ri41_1 : List AItem := [⟨some 5, .mov (.t 0), none⟩,
  ⟨some 6, .len (.t 5), none⟩,
  ⟨some 7, .mov (.c (.imm (.int .i64 0))), none⟩]
def ri41_2 : List AItem := [⟨some 8, .bin .lss (.t 7) (.t 6), none⟩]
def ri41_3 : List AItem := [⟨some 9, .mov (.t 7), none⟩,
  ⟨some 4, .mov (.t 9), none⟩]
def ri41_4 : List AItem := [⟨some 10, .mov (.t 0), none⟩,
  ⟨some 11, .mov (.t 4), none⟩,
  ⟨some 12, .call (.c (.func 54 [] [])) [.t 10, .t 11], none⟩,
  ⟨some 13, .not (.t 12), none⟩]
def ri41_5 : List AItem := [⟨some 14, .mov (.t 4), none⟩,
  ⟨some 2, .mov (.t 14), none⟩,
  ⟨some 3, .mov (.c (.imm (.bool false))), none⟩]
def ri41_6 : List AItem := [⟨some 15, .bin .add (.t 7) (.c (.imm (.int .i64 1))), none⟩,
  ⟨some 7, .mov (.t 15), none⟩]
def ri41_7 : List AItem := [⟨some 2, .mov (.c (.imm (.int .i64 (-1)))), none⟩,
  ⟨some 3, .mov (.c (.imm (.bool true))), none⟩]
def af41 : AFun := ⟨16, [.tmp 2, .tmp 3], (
.seq (.region false [] ri41_0 (some [0])) (
.seq (.seq (.region false [] ri41_1 (some [0, 6, 7])) (
.block 0 (.loop (.seq (.region false [] ri41_2 (some [0, 6, 7, 8])) (
.seq (.cond (.t 8) (.skip) (.exit 0)) (
.seq (.block 1 (.seq (.region false [] ri41_3 (some [0, 4, 6, 7])) (
.seq (.region false [] ri41_4 (some [0, 4, 6, 7, 13])) (
.cond (.t 13) (.seq (.region false [] ri41_5 (some [2, 3])) (
.ret)) (.skip))))) (
.region false [] ri41_6 (some [0, 6, 7])))))))) (
.seq (.region false [] ri41_7 (some [2, 3])) (
.ret))))⟩

def ri47_0 : List AItem := [⟨some 2, .box 7 (.t 0), none⟩,
  ⟨some 4, .mov (.c (.imm (.bool false))), none⟩]
def ri47_1 : List AItem := [⟨some 5, .mov (.t 1), none⟩,
  ⟨some 6, .bin .geq (.t 5) (.c (.imm (.int .i64 0))), none⟩,
  ⟨some 7, .mov (.t 6), none⟩,
  ⟨some 8, .mov (.t 1), some (7, true)⟩,
  ⟨some 9, .fld 1 (.t 2), some (7, true)⟩,
  ⟨some 10, .load false 1 (.t 9), some (7, true)⟩,
  ⟨some 11, .len (.t 10), some (7, true)⟩,
  ⟨some 12, .bin .lss (.t 8) (.t 11), some (7, true)⟩,
  ⟨some 13, .pick (.t 7) (.t 12) (.c (.imm (.bool false))), none⟩,
  ⟨some 4, .mov (.t 13), none⟩]
def af47 : AFun := ⟨14, [.tmp 4], (
.seq (.region false [] ri47_0 (some [1, 2])) (
.seq (.region false [] ri47_1 (some [4])) (
.ret)))⟩

def ri45_0 : List AItem := [⟨some 0, .alloc 2 [[.imm (.int .i64 0), .imm (.int .i64 0)]], none⟩]
def ri45_1 : List AItem := [⟨some 1, .build [.imm (.int .i64 0), .imm (.int .i64 0)] [(0, 1, .c (.imm (.int .i64 0))), (1, 1, .c (.imm (.int .i64 1)))], none⟩,
  ⟨none, .store 2 (.t 0) (.t 1), none⟩]
def af45 : AFun := ⟨2, [.cell 0 true 2], (
.seq (.region false [] ri45_0 (some [0])) (
.seq (.region false [] ri45_1 (some [0])) (
.ret)))⟩

def ri46_0 : List AItem := [⟨some 1, .box 2 (.t 0), none⟩,
  ⟨some 2, .mov (.c (.imm (.bool false))), none⟩]
def ri46_1 : List AItem := [⟨some 3, .fld 0 (.t 1), none⟩,
  ⟨some 4, .load false 1 (.t 3), none⟩,
  ⟨some 5, .bin .gtr (.t 4) (.c (.imm (.int .i64 0))), none⟩,
  ⟨some 6, .mov (.t 5), none⟩,
  ⟨some 7, .load true 2 (.t 1), some (6, true)⟩,
  ⟨some 8, .call (.c (.func 55 [] [])) [.t 7], some (6, true)⟩,
  ⟨some 9, .pick (.t 6) (.t 8) (.c (.imm (.bool false))), none⟩,
  ⟨some 2, .mov (.t 9), none⟩]
def af46 : AFun := ⟨10, [.tmp 2], (
.seq (.region false [] ri46_0 (some [1])) (
.seq (.region false [] ri46_1 (some [2])) (
.ret)))⟩

def ri42_0 : List AItem := [⟨some 2, .box 7 (.t 0), none⟩,
  ⟨some 3, .box 7 (.t 1), none⟩,
  ⟨some 4, .mov (.c (.imm (.bool false))), none⟩]
def ri42_1 : List AItem := [⟨some 5, .load true 7 (.t 2), none⟩,
  ⟨some 6, .fld 1 (.t 3), none⟩,
  ⟨some 7, .load false 1 (.t 6), none⟩,
  ⟨some 8, .call (.c (.func 47 [] [])) [.t 5, .t 7], none⟩,
  ⟨some 9, .not (.t 8), none⟩]
def ri42_2 : List AItem := [⟨some 10, .fld 0 (.t 3), none⟩,
  ⟨some 11, .load false 1 (.t 10), none⟩,
  ⟨some 12, .bin .eql (.t 11) (.c (.imm (.int .i64 1))), none⟩,
  ⟨some 13, .mov (.t 12), none⟩,
  ⟨some 14, .fld 1 (.t 3), some (13, true)⟩,
  ⟨some 15, .load false 1 (.t 14), some (13, true)⟩,
  ⟨some 16, .bin .eql (.t 15) (.c (.imm (.int .i64 (-1)))), some (13, true)⟩,
  ⟨some 17, .pick (.t 13) (.t 16) (.c (.imm (.bool false))), none⟩,
  ⟨some 18, .mov (.t 17), none⟩,
  ⟨some 19, .fld 2 (.t 3), some (18, true)⟩,
  ⟨some 20, .load false 1 (.t 19), some (18, true)⟩,
  ⟨some 21, .bin .eql (.t 20) (.c (.imm (.int .i64 0))), some (18, true)⟩,
  ⟨some 22, .pick (.t 18) (.t 21) (.c (.imm (.bool false))), none⟩,
  ⟨some 23, .mov (.t 22), none⟩,
  ⟨some 24, .fld 3 (.t 3), some (23, true)⟩,
  ⟨some 25, .load false 1 (.t 24), some (23, true)⟩,
  ⟨some 26, .bin .eql (.t 25) (.c (.imm (.int .i64 (-1)))), some (23, true)⟩,
  ⟨some 27, .mov (.t 26), some (23, true)⟩,
  ⟨some 28, .load true 7 (.t 2), some (27, false)⟩,
  ⟨some 29, .fld 3 (.t 3), some (27, false)⟩,
  ⟨some 30, .load false 1 (.t 29), some (27, false)⟩,
  ⟨some 31, .call (.c (.func 47 [] [])) [.t 28, .t 30], some (27, false)⟩,
  ⟨some 32, .pick (.t 27) (.c (.imm (.bool true))) (.t 31), some (23, true)⟩,
  ⟨some 33, .pick (.t 23) (.t 32) (.c (.imm (.bool false))), none⟩,
  ⟨some 34, .mov (.t 33), none⟩,
  ⟨some 35, .fld 4 (.t 3), some (34, true)⟩,
  ⟨some 36, .load false 1 (.t 35), some (34, true)⟩,
  ⟨some 37, .bin .eql (.t 36) (.c (.imm (.int .i64 (-1)))), some (34, true)⟩,
  ⟨some 38, .pick (.t 34) (.t 37) (.c (.imm (.bool false))), none⟩,
  ⟨some 39, .mov (.t 38), none⟩,
  ⟨some 40, .fld 5 (.t 3), some (39, true)⟩,
  ⟨some 41, .load true 2 (.t 40), some (39, true)⟩,
  ⟨some 42, .call (.c (.func 45 [] [])) [], some (39, true)⟩,
  ⟨some 43, .eqs false [0, 0] (.t 41) (.t 42), some (39, true)⟩,
  ⟨some 44, .pick (.t 39) (.t 43) (.c (.imm (.bool false))), none⟩,
  ⟨some 4, .mov (.t 44), none⟩]
def ri42_3 : List AItem := [⟨some 45, .fld 0 (.t 3), none⟩,
  ⟨some 46, .load false 1 (.t 45), none⟩]
def ri42_4 : List AItem := [⟨some 48, .bin .eql (.t 46) (.c (.imm (.int .i64 1))), none⟩,
  ⟨some 47, .mov (.t 48), none⟩]
def ri42_5 : List AItem := [⟨some 49, .fld 2 (.t 3), none⟩,
  ⟨some 50, .load false 1 (.t 49), none⟩,
  ⟨some 51, .bin .neq (.t 50) (.c (.imm (.int .i64 0))), none⟩,
  ⟨some 52, .mov (.t 51), none⟩,
  ⟨some 53, .fld 3 (.t 3), some (52, false)⟩,
  ⟨some 54, .load false 1 (.t 53), some (52, false)⟩,
  ⟨some 55, .bin .neq (.t 54) (.c (.imm (.int .i64 (-1)))), some (52, false)⟩,
  ⟨some 56, .mov (.t 55), some (52, false)⟩,
  ⟨some 57, .load true 7 (.t 2), some (56, true)⟩,
  ⟨some 58, .fld 3 (.t 3), some (56, true)⟩,
  ⟨some 59, .load false 1 (.t 58), some (56, true)⟩,
  ⟨some 60, .call (.c (.func 47 [] [])) [.t 57, .t 59], some (56, true)⟩,
  ⟨some 61, .not (.t 60), some (56, true)⟩,
  ⟨some 62, .pick (.t 56) (.t 61) (.c (.imm (.bool false))), some (52, false)⟩,
  ⟨some 63, .pick (.t 52) (.c (.imm (.bool true))) (.t 62), none⟩]
def ri42_6 : List AItem := [⟨some 4, .mov (.c (.imm (.bool false))), none⟩]
def ri42_7 : List AItem := [⟨some 64, .fld 4 (.t 3), none⟩,
  ⟨some 65, .load false 1 (.t 64), none⟩,
  ⟨some 66, .bin .eql (.t 65) (.c (.imm (.int .i64 (-1)))), none⟩]
def ri42_8 : List AItem := [⟨some 67, .fld 5 (.t 3), none⟩,
  ⟨some 68, .load true 2 (.t 67), none⟩,
  ⟨some 69, .call (.c (.func 45 [] [])) [], none⟩,
  ⟨some 70, .eqs false [0, 0] (.t 68) (.t 69), none⟩,
  ⟨some 4, .mov (.t 70), none⟩]
def ri42_9 : List AItem := [⟨some 71, .fld 4 (.t 3), none⟩,
  ⟨some 72, .load false 1 (.t 71), none⟩,
  ⟨some 73, .bin .geq (.t 72) (.c (.imm (.int .i64 0))), none⟩,
  ⟨some 74, .mov (.t 73), none⟩,
  ⟨some 75, .fld 4 (.t 3), some (74, true)⟩,
  ⟨some 76, .load false 1 (.t 75), some (74, true)⟩,
  ⟨some 77, .fld 2 (.t 2), some (74, true)⟩,
  ⟨some 78, .load false 1 (.t 77), some (74, true)⟩,
  ⟨some 79, .len (.t 78), some (74, true)⟩,
  ⟨some 80, .bin .lss (.t 76) (.t 79), some (74, true)⟩,
  ⟨some 81, .pick (.t 74) (.t 80) (.c (.imm (.bool false))), none⟩,
  ⟨some 82, .mov (.t 81), none⟩,
  ⟨some 83, .fld 5 (.t 3), some (82, true)⟩,
  ⟨some 84, .load true 2 (.t 83), some (82, true)⟩,
  ⟨some 85, .call (.c (.func 46 [] [])) [.t 84], some (82, true)⟩,
  ⟨some 86, .pick (.t 82) (.t 85) (.c (.imm (.bool false))), none⟩,
  ⟨some 4, .mov (.t 86), none⟩]
def ri42_10 : List AItem := [⟨some 88, .bin .eql (.t 46) (.c (.imm (.int .i64 2))), none⟩,
  ⟨some 87, .mov (.t 88), none⟩]
def ri42_11 : List AItem := [⟨some 89, .bin .eql (.t 46) (.c (.imm (.int .i64 3))), none⟩,
  ⟨some 87, .mov (.t 89), none⟩]
def ri42_12 : List AItem := [⟨some 90, .load true 7 (.t 2), none⟩,
  ⟨some 91, .fld 2 (.t 3), none⟩,
  ⟨some 92, .load false 1 (.t 91), none⟩,
  ⟨some 93, .call (.c (.func 47 [] [])) [.t 90, .t 92], none⟩,
  ⟨some 94, .mov (.t 93), none⟩,
  ⟨some 95, .fld 3 (.t 3), some (94, true)⟩,
  ⟨some 96, .load false 1 (.t 95), some (94, true)⟩,
  ⟨some 97, .bin .geq (.t 96) (.c (.imm (.int .i64 0))), some (94, true)⟩,
  ⟨some 98, .pick (.t 94) (.t 97) (.c (.imm (.bool false))), none⟩,
  ⟨some 99, .mov (.t 98), none⟩,
  ⟨some 100, .fld 3 (.t 3), some (99, true)⟩,
  ⟨some 101, .load false 1 (.t 100), some (99, true)⟩,
  ⟨some 102, .fld 0 (.t 2), some (99, true)⟩,
  ⟨some 103, .load false 1 (.t 102), some (99, true)⟩,
  ⟨some 104, .bin .lss (.t 101) (.t 103), some (99, true)⟩,
  ⟨some 105, .pick (.t 99) (.t 104) (.c (.imm (.bool false))), none⟩,
  ⟨some 106, .mov (.t 105), none⟩,
  ⟨some 107, .fld 4 (.t 3), some (106, true)⟩,
  ⟨some 108, .load false 1 (.t 107), some (106, true)⟩,
  ⟨some 109, .bin .eql (.t 108) (.c (.imm (.int .i64 (-1)))), some (106, true)⟩,
  ⟨some 110, .pick (.t 106) (.t 109) (.c (.imm (.bool false))), none⟩,
  ⟨some 111, .mov (.t 110), none⟩,
  ⟨some 112, .fld 5 (.t 3), some (111, true)⟩,
  ⟨some 113, .load true 2 (.t 112), some (111, true)⟩,
  ⟨some 114, .call (.c (.func 45 [] [])) [], some (111, true)⟩,
  ⟨some 115, .eqs false [0, 0] (.t 113) (.t 114), some (111, true)⟩,
  ⟨some 116, .pick (.t 111) (.t 115) (.c (.imm (.bool false))), none⟩,
  ⟨some 4, .mov (.t 116), none⟩]
def ri42_13 : List AItem := [⟨some 4, .mov (.c (.imm (.bool false))), none⟩]
def af42 : AFun := ⟨117, [.tmp 4], (
.seq (.region false [] ri42_0 (some [2, 3])) (
.seq (.seq (.region false [] ri42_1 (some [2, 3, 9])) (
.cond (.t 9) (.seq (.region true [0, 1, 3, 7, 15, 31, 63, 127, 255, 511, 1023, 2047, 4095, 8191, 16383, 32767, 65535, 131071, 262143, 262143, 786431, 2097151, 4194303, 8388607, 16777215, 33554431, 67108863, 134217727, 268435455, 536870911, 1073741823, 2147483647, 1073741823, 8589934591, 17179869183, 34359738367] ri42_2 (some [4])) (
.ret)) (.skip))) (
.seq (.seq (.region false [] ri42_3 (some [2, 3, 46])) (
.block 0 (.seq (.region false [] ri42_4 (some [2, 3, 46, 47])) (
.cond (.t 47) (.seq (.seq (.region false [] ri42_5 (some [2, 3, 63])) (
.cond (.t 63) (.seq (.region false [] ri42_6 (some [4])) (
.ret)) (.skip))) (
.seq (.seq (.region false [] ri42_7 (some [2, 3, 66])) (
.cond (.t 66) (.seq (.region true [0, 1, 0, 7, 15] ri42_8 (some [4])) (
.ret)) (.skip))) (
.seq (.region false [] ri42_9 (some [4])) (
.ret)))) (.seq (.seq (.region false [] ri42_10 (some [2, 3, 46, 87])) (
.cond (.t 87) (.skip) (.region false [] ri42_11 (some [2, 3, 87])))) (
.cond (.t 87) (.seq (.region true [0, 0, 2, 7, 15, 31, 63, 127, 255, 511, 1023, 2047, 1023, 5119, 16383, 32767, 65535, 131071, 262143, 524287, 1048575, 2097151, 4194303, 8388607, 4194303, 33554431, 67108863, 134217727] ri42_12 (some [4])) (
.ret)) (.skip))))))) (
.seq (.region false [] ri42_13 (some [4])) (
.ret)))))⟩

def ri19_0 : List AItem := [⟨some 1, .box 7 (.t 0), none⟩,
  ⟨some 2, .mov (.c (.imm (.bool false))), none⟩]
def ri19_1 : List AItem := [⟨some 10, .fld 0 (.t 1), none⟩,
  ⟨some 11, .load false 1 (.t 10), none⟩,
  ⟨some 12, .bin .lss (.t 11) (.c (.imm (.int .i64 1))), none⟩,
  ⟨some 13, .mov (.t 12), none⟩,
  ⟨some 14, .fld 5 (.t 1), some (13, false)⟩,
  ⟨some 15, .load false 1 (.t 14), some (13, false)⟩,
  ⟨some 16, .bin .lss (.t 15) (.c (.imm (.int .i64 1))), some (13, false)⟩,
  ⟨some 17, .pick (.t 13) (.c (.imm (.bool true))) (.t 16), none⟩,
  ⟨some 18, .mov (.t 17), none⟩,
  ⟨some 19, .fld 1 (.t 1), some (18, false)⟩,
  ⟨some 20, .load false 1 (.t 19), some (18, false)⟩,
  ⟨some 21, .len (.t 20), some (18, false)⟩,
  ⟨some 22, .bin .eql (.t 21) (.c (.imm (.int .i64 0))), some (18, false)⟩,
  ⟨some 23, .pick (.t 18) (.c (.imm (.bool true))) (.t 22), none⟩,
  ⟨some 24, .mov (.t 23), none⟩,
  ⟨some 25, .load true 7 (.t 1), some (24, false)⟩,
  ⟨some 26, .call (.c (.func 40 [] [])) [.t 25], some (24, false)⟩,
  ⟨some 27, .not (.t 26), some (24, false)⟩,
  ⟨some 28, .pick (.t 24) (.c (.imm (.bool true))) (.t 27), none⟩]
def ri19_2 : List AItem := [⟨some 2, .mov (.c (.imm (.bool false))), none⟩]
def ri19_3 : List AItem := [⟨some 30, .fld 2 (.t 1), none⟩,
  ⟨some 31, .load false 1 (.t 30), none⟩,
  ⟨some 32, .call (.c (.func 41 [] [])) [.t 31], none⟩,
  ⟨some 29, .mov (.t 32), none⟩,
  ⟨some 33, .ext (.t 29) 0, none⟩,
  ⟨some 34, .ext (.t 29) 1, none⟩,
  ⟨some 3, .mov (.t 33), none⟩,
  ⟨some 4, .mov (.t 34), none⟩]
def ri19_4 : List AItem := [⟨some 35, .mov (.t 4), none⟩,
  ⟨some 36, .not (.t 35), none⟩]
def ri19_5 : List AItem := [⟨some 2, .mov (.c (.imm (.bool false))), none⟩]
def ri19_6 : List AItem := [⟨some 37, .fld 3 (.t 1), none⟩,
  ⟨some 38, .load false 1 (.t 37), none⟩,
  ⟨some 39, .len (.t 38), none⟩,
  ⟨some 40, .mov (.c (.imm (.int .i64 0))), none⟩]
def ri19_7 : List AItem := [⟨some 41, .bin .lss (.t 40) (.t 39), none⟩]
def ri19_8 : List AItem := [⟨some 42, .idx 7 (.t 38) (.t 40), none⟩,
  ⟨some 43, .load true 7 (.t 42), none⟩,
  ⟨some 6, .alloc 7 [[.imm (.int .i64 0), .imm (.int .i64 0), .imm (.int .i64 0), .imm (.int .i64 0), .imm (.int .i64 0), .imm (.int .i64 0), .imm (.int .i64 0)]], none⟩,
  ⟨none, .store 7 (.t 6) (.t 43), none⟩]
def ri19_9 : List AItem := [⟨some 44, .load true 7 (.t 1), none⟩,
  ⟨some 45, .load true 7 (.t 6), none⟩,
  ⟨some 46, .call (.c (.func 42 [] [])) [.t 44, .t 45], none⟩,
  ⟨some 47, .not (.t 46), none⟩]
def ri19_10 : List AItem := [⟨some 2, .mov (.c (.imm (.bool false))), none⟩]
def ri19_11 : List AItem := [⟨some 48, .bin .add (.t 40) (.c (.imm (.int .i64 1))), none⟩,
  ⟨some 40, .mov (.t 48), none⟩]
def ri19_12 : List AItem := [⟨some 7, .mov (.c (.imm (.int .i64 (-1)))), none⟩]
def ri19_13 : List AItem := [⟨some 49, .fld 6 (.t 1), none⟩,
  ⟨some 50, .load false 1 (.t 49), none⟩,
  ⟨some 51, .len (.t 50), none⟩,
  ⟨some 52, .mov (.c (.imm (.int .i64 0))), none⟩]
def ri19_14 : List AItem := [⟨some 53, .bin .lss (.t 52) (.t 51), none⟩]
def ri19_15 : List AItem := [⟨some 54, .idx 1 (.t 50) (.t 52), none⟩,
  ⟨some 55, .load false 1 (.t 54), none⟩,
  ⟨some 9, .mov (.t 55), none⟩]
def ri19_16 : List AItem := [⟨some 56, .mov (.t 9), none⟩,
  ⟨some 57, .mov (.t 7), none⟩,
  ⟨some 58, .bin .leq (.t 56) (.t 57), none⟩,
  ⟨some 59, .mov (.t 58), none⟩,
  ⟨some 60, .mov (.t 9), some (59, false)⟩,
  ⟨some 61, .fld 5 (.t 1), some (59, false)⟩,
  ⟨some 62, .load false 1 (.t 61), some (59, false)⟩,
  ⟨some 63, .bin .geq (.t 60) (.t 62), some (59, false)⟩,
  ⟨some 64, .pick (.t 59) (.c (.imm (.bool true))) (.t 63), none⟩]
def ri19_17 : List AItem := [⟨some 2, .mov (.c (.imm (.bool false))), none⟩]
def ri19_18 : List AItem := [⟨some 65, .mov (.t 9), none⟩,
  ⟨some 7, .mov (.t 65), none⟩]
def ri19_19 : List AItem := [⟨some 66, .bin .add (.t 52) (.c (.imm (.int .i64 1))), none⟩,
  ⟨some 52, .mov (.t 66), none⟩]
def ri19_20 : List AItem := [⟨some 2, .mov (.c (.imm (.bool true))), none⟩]
def af19 : AFun := ⟨67, [.tmp 2], (
.seq (.region false [] ri19_0 (some [1])) (
.seq (.seq (.region false [] ri19_1 (some [1, 28])) (
.cond (.t 28) (.seq (.region false [] ri19_2 (some [2])) (
.ret)) (.skip))) (
.seq (.seq (.region false [] ri19_3 (some [1, 4])) (
.seq (.region false [] ri19_4 (some [1, 36])) (
.cond (.t 36) (.seq (.region false [] ri19_5 (some [2])) (
.ret)) (.skip)))) (
.seq (.seq (.region false [] ri19_6 (some [1, 38, 39, 40])) (
.block 0 (.loop (.seq (.region false [] ri19_7 (some [1, 38, 39, 40, 41])) (
.seq (.cond (.t 41) (.skip) (.exit 0)) (
.seq (.block 1 (.seq (.region false [] ri19_8 (some [1, 6, 38, 39, 40])) (
.seq (.region false [] ri19_9 (some [1, 38, 39, 40, 47])) (
.cond (.t 47) (.seq (.region false [] ri19_10 (some [2])) (
.ret)) (.skip))))) (
.region false [] ri19_11 (some [1, 38, 39, 40])))))))) (
.seq (.region false [] ri19_12 (some [1, 7])) (
.seq (.seq (.region false [] ri19_13 (some [1, 7, 50, 51, 52])) (
.block 2 (.loop (.seq (.region false [] ri19_14 (some [1, 7, 50, 51, 52, 53])) (
.seq (.cond (.t 53) (.skip) (.exit 2)) (
.seq (.block 3 (.seq (.region false [] ri19_15 (some [1, 7, 9, 50, 51, 52])) (
.seq (.seq (.region false [] ri19_16 (some [1, 9, 50, 51, 52, 64])) (
.cond (.t 64) (.seq (.region false [] ri19_17 (some [2])) (
.ret)) (.skip))) (
.region false [] ri19_18 (some [1, 7, 50, 51, 52]))))) (
.region false [] ri19_19 (some [1, 7, 50, 51, 52])))))))) (
.seq (.region false [] ri19_20 (some [2])) (
.ret))))))))⟩

def ri44_0 : List AItem := [⟨some 2, .box 7 (.t 0), none⟩,
  ⟨some 4, .mov (.c (.imm (.bool false))), none⟩]
def ri44_1 : List AItem := [⟨some 5, .mov (.t 1), none⟩,
  ⟨some 6, .bin .geq (.t 5) (.c (.imm (.int .i64 0))), none⟩,
  ⟨some 7, .mov (.t 6), none⟩,
  ⟨some 8, .mov (.t 1), some (7, true)⟩,
  ⟨some 9, .fld 3 (.t 2), some (7, true)⟩,
  ⟨some 10, .load false 1 (.t 9), some (7, true)⟩,
  ⟨some 11, .len (.t 10), some (7, true)⟩,
  ⟨some 12, .bin .lss (.t 8) (.t 11), some (7, true)⟩,
  ⟨some 13, .pick (.t 7) (.t 12) (.c (.imm (.bool false))), none⟩,
  ⟨some 14, .mov (.t 13), none⟩,
  ⟨some 15, .fld 3 (.t 2), some (14, true)⟩,
  ⟨some 16, .load false 1 (.t 15), some (14, true)⟩,
  ⟨some 17, .mov (.t 1), some (14, true)⟩,
  ⟨some 18, .idx 7 (.t 16) (.t 17), some (14, true)⟩,
  ⟨some 19, .fld 0 (.t 18), some (14, true)⟩,
  ⟨some 20, .load false 1 (.t 19), some (14, true)⟩,
  ⟨some 21, .bin .eql (.t 20) (.c (.imm (.int .i64 1))), some (14, true)⟩,
  ⟨some 22, .pick (.t 14) (.t 21) (.c (.imm (.bool false))), none⟩,
  ⟨some 23, .mov (.t 22), none⟩,
  ⟨some 24, .fld 3 (.t 2), some (23, true)⟩,
  ⟨some 25, .load false 1 (.t 24), some (23, true)⟩,
  ⟨some 26, .mov (.t 1), some (23, true)⟩,
  ⟨some 27, .idx 7 (.t 25) (.t 26), some (23, true)⟩,
  ⟨some 28, .fld 1 (.t 27), some (23, true)⟩,
  ⟨some 29, .load false 1 (.t 28), some (23, true)⟩,
  ⟨some 30, .bin .eql (.t 29) (.c (.imm (.int .i64 (-1)))), some (23, true)⟩,
  ⟨some 31, .pick (.t 23) (.t 30) (.c (.imm (.bool false))), none⟩,
  ⟨some 4, .mov (.t 31), none⟩]
def af44 : AFun := ⟨32, [.tmp 4], (
.seq (.region false [] ri44_0 (some [1, 2])) (
.seq (.region false [] ri44_1 (some [4])) (
.ret)))⟩

def ri43_0 : List AItem := [⟨some 2, .box 7 (.t 0), none⟩,
  ⟨some 3, .box 16 (.t 1), none⟩,
  ⟨some 4, .mov (.c (.imm (.bool false))), none⟩]
def ri43_1 : List AItem := [⟨some 5, .fld 0 (.t 3), none⟩,
  ⟨some 6, .load false 1 (.t 5), none⟩,
  ⟨some 7, .bin .eql (.t 6) (.c (.imm (.int .i64 4))), none⟩]
def ri43_2 : List AItem := [⟨some 8, .fld 1 (.t 3), none⟩,
  ⟨some 9, .load false 1 (.t 8), none⟩,
  ⟨some 10, .bin .eql (.t 9) (.c (.imm (.int .i64 (-1)))), none⟩,
  ⟨some 11, .mov (.t 10), none⟩,
  ⟨some 12, .fld 3 (.t 3), some (11, true)⟩,
  ⟨some 13, .load false 1 (.t 12), some (11, true)⟩,
  ⟨some 14, .bin .eql (.t 13) (.c (.imm (.int .i64 1))), some (11, true)⟩,
  ⟨some 15, .pick (.t 11) (.t 14) (.c (.imm (.bool false))), none⟩,
  ⟨some 16, .mov (.t 15), none⟩,
  ⟨some 17, .fld 6 (.t 3), some (16, true)⟩,
  ⟨some 18, .load false 1 (.t 17), some (16, true)⟩,
  ⟨some 19, .bin .eql (.t 18) (.c (.imm (.int .i64 0))), some (16, true)⟩,
  ⟨some 20, .pick (.t 16) (.t 19) (.c (.imm (.bool false))), none⟩,
  ⟨some 21, .mov (.t 20), none⟩,
  ⟨some 22, .fld 8 (.t 3), some (21, true)⟩,
  ⟨some 23, .load false 1 (.t 22), some (21, true)⟩,
  ⟨some 24, .not (.t 23), some (21, true)⟩,
  ⟨some 25, .pick (.t 21) (.t 24) (.c (.imm (.bool false))), none⟩,
  ⟨some 4, .mov (.t 25), none⟩]
def ri43_3 : List AItem := [⟨some 26, .load true 7 (.t 2), none⟩,
  ⟨some 27, .fld 1 (.t 3), none⟩,
  ⟨some 28, .load false 1 (.t 27), none⟩,
  ⟨some 29, .call (.c (.func 47 [] [])) [.t 26, .t 28], none⟩,
  ⟨some 30, .not (.t 29), none⟩,
  ⟨some 31, .mov (.t 30), none⟩,
  ⟨some 32, .load true 7 (.t 2), some (31, false)⟩,
  ⟨some 33, .fld 2 (.t 3), some (31, false)⟩,
  ⟨some 34, .load false 1 (.t 33), some (31, false)⟩,
  ⟨some 35, .call (.c (.func 44 [] [])) [.t 32, .t 34], some (31, false)⟩,
  ⟨some 36, .pick (.t 31) (.c (.imm (.bool true))) (.t 35), none⟩]
def ri43_4 : List AItem := [⟨some 4, .mov (.c (.imm (.bool false))), none⟩]
def ri43_5 : List AItem := [⟨some 37, .fld 0 (.t 3), none⟩,
  ⟨some 38, .load false 1 (.t 37), none⟩]
def ri43_6 : List AItem := [⟨some 40, .bin .eql (.t 38) (.c (.imm (.int .i64 1))), none⟩,
  ⟨some 39, .mov (.t 40), none⟩]
def ri43_7 : List AItem := [⟨some 41, .fld 3 (.t 3), none⟩,
  ⟨some 42, .load false 1 (.t 41), none⟩,
  ⟨some 43, .bin .geq (.t 42) (.c (.imm (.int .i64 1))), none⟩,
  ⟨some 44, .mov (.t 43), none⟩,
  ⟨some 45, .fld 3 (.t 3), some (44, true)⟩,
  ⟨some 46, .load false 1 (.t 45), some (44, true)⟩,
  ⟨some 47, .bin .leq (.t 46) (.c (.imm (.int .i64 9))), some (44, true)⟩,
  ⟨some 48, .pick (.t 44) (.t 47) (.c (.imm (.bool false))), none⟩,
  ⟨some 49, .mov (.t 48), none⟩,
  ⟨some 50, .fld 6 (.t 3), some (49, true)⟩,
  ⟨some 51, .load false 1 (.t 50), some (49, true)⟩,
  ⟨some 52, .bin .geq (.t 51) (.c (.imm (.int .i64 0))), some (49, true)⟩,
  ⟨some 53, .pick (.t 49) (.t 52) (.c (.imm (.bool false))), none⟩,
  ⟨some 54, .mov (.t 53), none⟩,
  ⟨some 55, .fld 6 (.t 3), some (54, true)⟩,
  ⟨some 56, .load false 1 (.t 55), some (54, true)⟩,
  ⟨some 57, .bin .leq (.t 56) (.c (.imm (.int .i64 400))), some (54, true)⟩,
  ⟨some 58, .pick (.t 54) (.t 57) (.c (.imm (.bool false))), none⟩,
  ⟨some 4, .mov (.t 58), none⟩]
def ri43_8 : List AItem := [⟨some 60, .bin .eql (.t 38) (.c (.imm (.int .i64 2))), none⟩,
  ⟨some 59, .mov (.t 60), none⟩]
def ri43_9 : List AItem := [⟨some 61, .fld 3 (.t 3), none⟩,
  ⟨some 62, .load false 1 (.t 61), none⟩,
  ⟨some 63, .bin .eql (.t 62) (.c (.imm (.int .i64 1))), none⟩,
  ⟨some 64, .mov (.t 63), none⟩,
  ⟨some 65, .fld 6 (.t 3), some (64, true)⟩,
  ⟨some 66, .load false 1 (.t 65), some (64, true)⟩,
  ⟨some 67, .bin .eql (.t 66) (.c (.imm (.int .i64 0))), some (64, true)⟩,
  ⟨some 68, .pick (.t 64) (.t 67) (.c (.imm (.bool false))), none⟩,
  ⟨some 4, .mov (.t 68), none⟩]
def ri43_10 : List AItem := [⟨some 70, .bin .eql (.t 38) (.c (.imm (.int .i64 3))), none⟩,
  ⟨some 69, .mov (.t 70), none⟩]
def ri43_11 : List AItem := [⟨some 71, .fld 3 (.t 3), none⟩,
  ⟨some 72, .load false 1 (.t 71), none⟩,
  ⟨some 73, .bin .eql (.t 72) (.c (.imm (.int .i64 1))), none⟩,
  ⟨some 74, .mov (.t 73), none⟩,
  ⟨some 75, .fld 6 (.t 3), some (74, true)⟩,
  ⟨some 76, .load false 1 (.t 75), some (74, true)⟩,
  ⟨some 77, .bin .eql (.t 76) (.c (.imm (.int .i64 0))), some (74, true)⟩,
  ⟨some 78, .pick (.t 74) (.t 77) (.c (.imm (.bool false))), none⟩,
  ⟨some 79, .mov (.t 78), none⟩,
  ⟨some 80, .fld 8 (.t 3), some (79, true)⟩,
  ⟨some 81, .load false 1 (.t 80), some (79, true)⟩,
  ⟨some 82, .not (.t 81), some (79, true)⟩,
  ⟨some 83, .pick (.t 79) (.t 82) (.c (.imm (.bool false))), none⟩,
  ⟨some 4, .mov (.t 83), none⟩]
def ri43_12 : List AItem := [⟨some 4, .mov (.c (.imm (.bool false))), none⟩]
def af43 : AFun := ⟨84, [.tmp 4], (
.seq (.region false [] ri43_0 (some [2, 3])) (
.seq (.seq (.region false [] ri43_1 (some [2, 3, 7])) (
.cond (.t 7) (.seq (.region false [] ri43_2 (some [4])) (
.ret)) (.skip))) (
.seq (.seq (.region false [] ri43_3 (some [3, 36])) (
.cond (.t 36) (.seq (.region false [] ri43_4 (some [4])) (
.ret)) (.skip))) (
.seq (.seq (.region false [] ri43_5 (some [3, 38])) (
.block 0 (.seq (.region false [] ri43_6 (some [3, 38, 39])) (
.cond (.t 39) (.seq (.region false [] ri43_7 (some [4])) (
.ret)) (.seq (.region false [] ri43_8 (some [3, 38, 59])) (
.cond (.t 59) (.seq (.region false [] ri43_9 (some [4])) (
.ret)) (.seq (.region false [] ri43_10 (some [3, 69])) (
.cond (.t 69) (.seq (.region false [] ri43_11 (some [4])) (
.ret)) (.skip))))))))) (
.seq (.region false [] ri43_12 (some [4])) (
.ret))))))⟩

def ri20_0 : List AItem := [⟨some 2, .box 7 (.t 0), none⟩,
  ⟨some 4, .mov (.c (.imm (.bool false))), none⟩]
def ri20_1 : List AItem := [⟨some 8, .fld 4 (.t 2), none⟩,
  ⟨some 9, .load false 1 (.t 8), none⟩,
  ⟨some 10, .mov (.t 1), none⟩,
  ⟨some 11, .idx 16 (.t 9) (.t 10), none⟩,
  ⟨some 12, .load true 16 (.t 11), none⟩,
  ⟨some 5, .alloc 16 [[.imm (.int .i64 0), .imm (.int .i64 0), .imm (.int .i64 0), .imm (.int .i64 0), .nil, .imm (.int .i64 0), .imm (.int .i64 0), .imm (.bool false), .imm (.bool false), .imm (.int .i64 0), .imm (.int .i64 0), .imm (.int .i64 0), .imm (.int .i64 0), .imm (.int .i64 0), .imm (.int .i64 0), .imm (.bool false)]], none⟩,
  ⟨none, .store 16 (.t 5) (.t 12), none⟩]
def ri20_2 : List AItem := [⟨some 13, .fld 2 (.t 5), none⟩,
  ⟨some 14, .load false 1 (.t 13), none⟩,
  ⟨some 15, .bin .lss (.t 14) (.c (.imm (.int .i64 0))), none⟩,
  ⟨some 16, .mov (.t 15), none⟩,
  ⟨some 17, .fld 2 (.t 5), some (16, false)⟩,
  ⟨some 18, .load false 1 (.t 17), some (16, false)⟩,
  ⟨some 19, .fld 3 (.t 2), some (16, false)⟩,
  ⟨some 20, .load false 1 (.t 19), some (16, false)⟩,
  ⟨some 21, .len (.t 20), some (16, false)⟩,
  ⟨some 22, .bin .geq (.t 18) (.t 21), some (16, false)⟩,
  ⟨some 23, .pick (.t 16) (.c (.imm (.bool true))) (.t 22), none⟩,
  ⟨some 24, .mov (.t 23), none⟩,
  ⟨some 25, .fld 5 (.t 5), some (24, false)⟩,
  ⟨some 26, .load false 1 (.t 25), some (24, false)⟩,
  ⟨some 27, .bin .lss (.t 26) (.c (.imm (.int .i64 1))), some (24, false)⟩,
  ⟨some 28, .pick (.t 24) (.c (.imm (.bool true))) (.t 27), none⟩,
  ⟨some 29, .mov (.t 28), none⟩,
  ⟨some 30, .fld 5 (.t 5), some (29, false)⟩,
  ⟨some 31, .load false 1 (.t 30), some (29, false)⟩,
  ⟨some 32, .bin .gtr (.t 31) (.c (.imm (.int .i64 400))), some (29, false)⟩,
  ⟨some 33, .pick (.t 29) (.c (.imm (.bool true))) (.t 32), none⟩]
def ri20_3 : List AItem := [⟨some 4, .mov (.c (.imm (.bool false))), none⟩]
def ri20_4 : List AItem := [⟨some 34, .load true 7 (.t 2), none⟩,
  ⟨some 35, .load true 16 (.t 5), none⟩,
  ⟨some 36, .call (.c (.func 43 [] [])) [.t 34, .t 35], none⟩,
  ⟨some 37, .not (.t 36), none⟩,
  ⟨some 38, .mov (.t 37), none⟩,
  ⟨some 39, .fld 4 (.t 5), some (38, false)⟩,
  ⟨some 40, .load false 1 (.t 39), some (38, false)⟩,
  ⟨some 41, .len (.t 40), some (38, false)⟩,
  ⟨some 42, .bin .gtr (.t 41) (.c (.imm (.int .i64 8))), some (38, false)⟩,
  ⟨some 43, .pick (.t 38) (.c (.imm (.bool true))) (.t 42), none⟩]
def ri20_5 : List AItem := [⟨some 4, .mov (.c (.imm (.bool false))), none⟩]
def ri20_6 : List AItem := [⟨some 44, .fld 4 (.t 5), none⟩,
  ⟨some 45, .load false 1 (.t 44), none⟩,
  ⟨some 46, .len (.t 45), none⟩,
  ⟨some 47, .mov (.c (.imm (.int .i64 0))), none⟩]
def ri20_7 : List AItem := [⟨some 48, .bin .lss (.t 47) (.t 46), none⟩]
def ri20_8 : List AItem := [⟨some 49, .idx 2 (.t 45) (.t 47), none⟩,
  ⟨some 50, .load true 2 (.t 49), none⟩,
  ⟨some 7, .alloc 2 [[.imm (.int .i64 0), .imm (.int .i64 0)]], none⟩,
  ⟨none, .store 2 (.t 7) (.t 50), none⟩]
def ri20_9 : List AItem := [⟨some 51, .fld 0 (.t 7), none⟩,
  ⟨some 52, .load false 1 (.t 51), none⟩,
  ⟨some 53, .bin .lss (.t 52) (.c (.imm (.int .i64 0))), none⟩,
  ⟨some 54, .mov (.t 53), none⟩,
  ⟨some 55, .fld 0 (.t 7), some (54, false)⟩,
  ⟨some 56, .load false 1 (.t 55), some (54, false)⟩,
  ⟨some 57, .fld 4 (.t 2), some (54, false)⟩,
  ⟨some 58, .load false 1 (.t 57), some (54, false)⟩,
  ⟨some 59, .len (.t 58), some (54, false)⟩,
  ⟨some 60, .bin .geq (.t 56) (.t 59), some (54, false)⟩,
  ⟨some 61, .pick (.t 54) (.c (.imm (.bool true))) (.t 60), none⟩,
  ⟨some 62, .mov (.t 61), none⟩,
  ⟨some 63, .fld 0 (.t 7), some (62, false)⟩,
  ⟨some 64, .load false 1 (.t 63), some (62, false)⟩,
  ⟨some 65, .mov (.t 1), some (62, false)⟩,
  ⟨some 66, .bin .eql (.t 64) (.t 65), some (62, false)⟩,
  ⟨some 67, .pick (.t 62) (.c (.imm (.bool true))) (.t 66), none⟩,
  ⟨some 68, .mov (.t 67), none⟩,
  ⟨some 69, .fld 1 (.t 7), some (68, false)⟩,
  ⟨some 70, .load false 1 (.t 69), some (68, false)⟩,
  ⟨some 71, .bin .lss (.t 70) (.c (.imm (.int .i64 1))), some (68, false)⟩,
  ⟨some 72, .pick (.t 68) (.c (.imm (.bool true))) (.t 71), none⟩,
  ⟨some 73, .mov (.t 72), none⟩,
  ⟨some 74, .fld 1 (.t 7), some (73, false)⟩,
  ⟨some 75, .load false 1 (.t 74), some (73, false)⟩,
  ⟨some 76, .bin .gtr (.t 75) (.c (.imm (.int .i64 4))), some (73, false)⟩,
  ⟨some 77, .pick (.t 73) (.c (.imm (.bool true))) (.t 76), none⟩]
def ri20_10 : List AItem := [⟨some 4, .mov (.c (.imm (.bool false))), none⟩]
def ri20_11 : List AItem := [⟨some 78, .bin .add (.t 47) (.c (.imm (.int .i64 1))), none⟩,
  ⟨some 47, .mov (.t 78), none⟩]
def ri20_12 : List AItem := [⟨some 79, .fld 9 (.t 5), none⟩,
  ⟨some 80, .load false 1 (.t 79), none⟩,
  ⟨some 81, .bin .neq (.t 80) (.c (.imm (.int .i64 (-1)))), none⟩,
  ⟨some 82, .mov (.t 81), none⟩,
  ⟨some 83, .fld 10 (.t 5), some (82, false)⟩,
  ⟨some 84, .load false 1 (.t 83), some (82, false)⟩,
  ⟨some 85, .bin .neq (.t 84) (.c (.imm (.int .i64 (-1)))), some (82, false)⟩,
  ⟨some 86, .pick (.t 82) (.c (.imm (.bool true))) (.t 85), none⟩]
def ri20_13 : List AItem := [⟨some 87, .fld 9 (.t 5), none⟩,
  ⟨some 88, .load false 1 (.t 87), none⟩,
  ⟨some 89, .fld 10 (.t 5), none⟩,
  ⟨some 90, .load false 1 (.t 89), none⟩,
  ⟨some 91, .bin .eql (.t 88) (.t 90), none⟩,
  ⟨some 92, .mov (.t 91), none⟩,
  ⟨some 93, .load true 7 (.t 2), some (92, false)⟩,
  ⟨some 94, .fld 9 (.t 5), some (92, false)⟩,
  ⟨some 95, .load false 1 (.t 94), some (92, false)⟩,
  ⟨some 96, .call (.c (.func 44 [] [])) [.t 93, .t 95], some (92, false)⟩,
  ⟨some 97, .not (.t 96), some (92, false)⟩,
  ⟨some 98, .pick (.t 92) (.c (.imm (.bool true))) (.t 97), none⟩,
  ⟨some 99, .mov (.t 98), none⟩,
  ⟨some 100, .load true 7 (.t 2), some (99, false)⟩,
  ⟨some 101, .fld 10 (.t 5), some (99, false)⟩,
  ⟨some 102, .load false 1 (.t 101), some (99, false)⟩,
  ⟨some 103, .call (.c (.func 44 [] [])) [.t 100, .t 102], some (99, false)⟩,
  ⟨some 104, .not (.t 103), some (99, false)⟩,
  ⟨some 105, .pick (.t 99) (.c (.imm (.bool true))) (.t 104), none⟩]
def ri20_14 : List AItem := [⟨some 4, .mov (.c (.imm (.bool false))), none⟩]
def ri20_15 : List AItem := [⟨some 106, .fld 13 (.t 5), none⟩,
  ⟨some 107, .load false 1 (.t 106), none⟩,
  ⟨some 108, .bin .eql (.t 107) (.c (.imm (.int .i64 (-1)))), none⟩]
def ri20_16 : List AItem := [⟨some 109, .fld 11 (.t 5), none⟩,
  ⟨some 110, .load true 2 (.t 109), none⟩,
  ⟨some 111, .call (.c (.func 45 [] [])) [], none⟩,
  ⟨some 112, .eqs false [0, 0] (.t 110) (.t 111), none⟩,
  ⟨some 113, .mov (.t 112), none⟩,
  ⟨some 114, .fld 14 (.t 5), some (113, true)⟩,
  ⟨some 115, .load false 1 (.t 114), some (113, true)⟩,
  ⟨some 116, .bin .eql (.t 115) (.c (.imm (.int .i64 (-1)))), some (113, true)⟩,
  ⟨some 117, .pick (.t 113) (.t 116) (.c (.imm (.bool false))), none⟩,
  ⟨some 4, .mov (.t 117), none⟩]
def ri20_17 : List AItem := [⟨some 118, .fld 0 (.t 5), none⟩,
  ⟨some 119, .load false 1 (.t 118), none⟩,
  ⟨some 120, .bin .eql (.t 119) (.c (.imm (.int .i64 1))), none⟩,
  ⟨some 121, .mov (.t 120), none⟩,
  ⟨some 122, .fld 0 (.t 5), some (121, false)⟩,
  ⟨some 123, .load false 1 (.t 122), some (121, false)⟩,
  ⟨some 124, .bin .eql (.t 123) (.c (.imm (.int .i64 2))), some (121, false)⟩,
  ⟨some 125, .pick (.t 121) (.c (.imm (.bool true))) (.t 124), none⟩,
  ⟨some 126, .mov (.t 125), none⟩,
  ⟨some 127, .fld 13 (.t 5), some (126, true)⟩,
  ⟨some 128, .load false 1 (.t 127), some (126, true)⟩,
  ⟨some 129, .bin .geq (.t 128) (.c (.imm (.int .i64 0))), some (126, true)⟩,
  ⟨some 130, .pick (.t 126) (.t 129) (.c (.imm (.bool false))), none⟩,
  ⟨some 131, .mov (.t 130), none⟩,
  ⟨some 132, .fld 13 (.t 5), some (131, true)⟩,
  ⟨some 133, .load false 1 (.t 132), some (131, true)⟩,
  ⟨some 134, .fld 2 (.t 2), some (131, true)⟩,
  ⟨some 135, .load false 1 (.t 134), some (131, true)⟩,
  ⟨some 136, .len (.t 135), some (131, true)⟩,
  ⟨some 137, .bin .lss (.t 133) (.t 136), some (131, true)⟩,
  ⟨some 138, .pick (.t 131) (.t 137) (.c (.imm (.bool false))), none⟩,
  ⟨some 139, .mov (.t 138), none⟩,
  ⟨some 140, .fld 2 (.t 2), some (139, true)⟩,
  ⟨some 141, .load false 1 (.t 140), some (139, true)⟩,
  ⟨some 142, .fld 13 (.t 5), some (139, true)⟩,
  ⟨some 143, .load false 1 (.t 142), some (139, true)⟩,
  ⟨some 144, .idx 5 (.t 141) (.t 143), some (139, true)⟩,
  ⟨some 145, .fld 1 (.t 144), some (139, true)⟩,
  ⟨some 146, .load false 1 (.t 145), some (139, true)⟩,
  ⟨some 147, .bin .eql (.t 146) (.c (.imm (.int .i64 2))), some (139, true)⟩,
  ⟨some 148, .pick (.t 139) (.t 147) (.c (.imm (.bool false))), none⟩,
  ⟨some 149, .mov (.t 148), none⟩,
  ⟨some 150, .fld 11 (.t 5), some (149, true)⟩,
  ⟨some 151, .load true 2 (.t 150), some (149, true)⟩,
  ⟨some 152, .call (.c (.func 46 [] [])) [.t 151], some (149, true)⟩,
  ⟨some 153, .pick (.t 149) (.t 152) (.c (.imm (.bool false))), none⟩,
  ⟨some 154, .mov (.t 153), none⟩,
  ⟨some 155, .load true 7 (.t 2), some (154, true)⟩,
  ⟨some 156, .fld 14 (.t 5), some (154, true)⟩,
  ⟨some 157, .load false 1 (.t 156), some (154, true)⟩,
  ⟨some 158, .call (.c (.func 47 [] [])) [.t 155, .t 157], some (154, true)⟩,
  ⟨some 159, .pick (.t 154) (.t 158) (.c (.imm (.bool false))), none⟩,
  ⟨some 4, .mov (.t 159), none⟩]
def af20 : AFun := ⟨160, [.tmp 4], (
.seq (.region false [] ri20_0 (some [1, 2])) (
.seq (.region false [] ri20_1 (some [1, 2, 5])) (
.seq (.seq (.region false [] ri20_2 (some [1, 2, 5, 33])) (
.cond (.t 33) (.seq (.region false [] ri20_3 (some [4])) (
.ret)) (.skip))) (
.seq (.seq (.region false [] ri20_4 (some [1, 2, 5, 43])) (
.cond (.t 43) (.seq (.region false [] ri20_5 (some [4])) (
.ret)) (.skip))) (
.seq (.seq (.region false [] ri20_6 (some [1, 2, 5, 45, 46, 47])) (
.block 0 (.loop (.seq (.region false [] ri20_7 (some [1, 2, 5, 45, 46, 47, 48])) (
.seq (.cond (.t 48) (.skip) (.exit 0)) (
.seq (.block 1 (.seq (.region false [] ri20_8 (some [1, 2, 5, 7, 45, 46, 47])) (
.seq (.region false [] ri20_9 (some [1, 2, 5, 45, 46, 47, 77])) (
.cond (.t 77) (.seq (.region false [] ri20_10 (some [4])) (
.ret)) (.skip))))) (
.region false [] ri20_11 (some [1, 2, 5, 45, 46, 47])))))))) (
.seq (.seq (.region false [] ri20_12 (some [2, 5, 86])) (
.cond (.t 86) (.seq (.region false [] ri20_13 (some [2, 5, 105])) (
.cond (.t 105) (.seq (.region false [] ri20_14 (some [4])) (
.ret)) (.skip))) (.skip))) (
.seq (.seq (.region false [] ri20_15 (some [2, 5, 108])) (
.cond (.t 108) (.seq (.region true [0, 1, 0, 7, 15, 31, 63, 127, 255, 511] ri20_16 (some [4])) (
.ret)) (.skip))) (
.seq (.region false [] ri20_17 (some [4])) (
.ret)))))))))⟩

def ri8_0 : List AItem := [⟨some 1, .box 7 (.t 0), none⟩,
  ⟨some 2, .mov (.c (.imm (.int .i64 0))), none⟩,
  ⟨some 3, .mov (.c (.imm (.int .i64 0))), none⟩]
def ri8_1 : List AItem := [⟨some 5, .fld 0 (.t 1), none⟩,
  ⟨some 6, .load false 1 (.t 5), none⟩,
  ⟨some 7, .bin .gtr (.t 6) (.c (.imm (.int .i64 12))), none⟩,
  ⟨some 8, .mov (.t 7), none⟩,
  ⟨some 9, .fld 5 (.t 1), some (8, false)⟩,
  ⟨some 10, .load false 1 (.t 9), some (8, false)⟩,
  ⟨some 11, .bin .gtr (.t 10) (.c (.imm (.int .i64 2000))), some (8, false)⟩,
  ⟨some 12, .pick (.t 8) (.c (.imm (.bool true))) (.t 11), none⟩,
  ⟨some 13, .mov (.t 12), none⟩,
  ⟨some 14, .fld 1 (.t 1), some (13, false)⟩,
  ⟨some 15, .load false 1 (.t 14), some (13, false)⟩,
  ⟨some 16, .len (.t 15), some (13, false)⟩,
  ⟨some 17, .bin .gtr (.t 16) (.c (.imm (.int .i64 12))), some (13, false)⟩,
  ⟨some 18, .pick (.t 13) (.c (.imm (.bool true))) (.t 17), none⟩,
  ⟨some 19, .mov (.t 18), none⟩,
  ⟨some 20, .fld 2 (.t 1), some (19, false)⟩,
  ⟨some 21, .load false 1 (.t 20), some (19, false)⟩,
  ⟨some 22, .len (.t 21), some (19, false)⟩,
  ⟨some 23, .bin .gtr (.t 22) (.c (.imm (.int .i64 20))), some (19, false)⟩,
  ⟨some 24, .pick (.t 19) (.c (.imm (.bool true))) (.t 23), none⟩,
  ⟨some 25, .mov (.t 24), none⟩,
  ⟨some 26, .fld 3 (.t 1), some (25, false)⟩,
  ⟨some 27, .load false 1 (.t 26), some (25, false)⟩,
  ⟨some 28, .len (.t 27), some (25, false)⟩,
  ⟨some 29, .bin .gtr (.t 28) (.c (.imm (.int .i64 60))), some (25, false)⟩,
  ⟨some 30, .pick (.t 25) (.c (.imm (.bool true))) (.t 29), none⟩,
  ⟨some 31, .mov (.t 30), none⟩,
  ⟨some 32, .fld 4 (.t 1), some (31, false)⟩,
  ⟨some 33, .load false 1 (.t 32), some (31, false)⟩,
  ⟨some 34, .len (.t 33), some (31, false)⟩,
  ⟨some 35, .bin .gtr (.t 34) (.c (.imm (.int .i64 400))), some (31, false)⟩,
  ⟨some 36, .pick (.t 31) (.c (.imm (.bool true))) (.t 35), none⟩]
def ri8_2 : List AItem := [⟨some 2, .mov (.c (.imm (.int .i64 3))), none⟩,
  ⟨some 3, .mov (.c (.imm (.int .i64 (-1)))), none⟩]
def ri8_3 : List AItem := [⟨some 37, .load true 7 (.t 1), none⟩,
  ⟨some 38, .call (.c (.func 19 [] [])) [.t 37], none⟩,
  ⟨some 39, .not (.t 38), none⟩]
def ri8_4 : List AItem := [⟨some 2, .mov (.c (.imm (.int .i64 1))), none⟩,
  ⟨some 3, .mov (.c (.imm (.int .i64 (-1)))), none⟩]
def ri8_5 : List AItem := [⟨some 40, .fld 4 (.t 1), none⟩,
  ⟨some 41, .load false 1 (.t 40), none⟩,
  ⟨some 42, .len (.t 41), none⟩,
  ⟨some 43, .mov (.c (.imm (.int .i64 0))), none⟩]
def ri8_6 : List AItem := [⟨some 44, .bin .lss (.t 43) (.t 42), none⟩]
def ri8_7 : List AItem := [⟨some 45, .mov (.t 43), none⟩,
  ⟨some 4, .mov (.t 45), none⟩]
def ri8_8 : List AItem := [⟨some 46, .load true 7 (.t 1), none⟩,
  ⟨some 47, .mov (.t 4), none⟩,
  ⟨some 48, .call (.c (.func 20 [] [])) [.t 46, .t 47], none⟩,
  ⟨some 49, .not (.t 48), none⟩]
def ri8_9 : List AItem := [⟨some 50, .mov (.t 4), none⟩,
  ⟨some 2, .mov (.c (.imm (.int .i64 1))), none⟩,
  ⟨some 3, .mov (.t 50), none⟩]
def ri8_10 : List AItem := [⟨some 51, .bin .add (.t 43) (.c (.imm (.int .i64 1))), none⟩,
  ⟨some 43, .mov (.t 51), none⟩]
def ri8_11 : List AItem := [⟨some 2, .mov (.c (.imm (.int .i64 0))), none⟩,
  ⟨some 3, .mov (.c (.imm (.int .i64 (-1)))), none⟩]
def af8 : AFun := ⟨52, [.tmp 2, .tmp 3], (
.seq (.region false [] ri8_0 (some [1])) (
.seq (.seq (.region false [] ri8_1 (some [1, 36])) (
.cond (.t 36) (.seq (.region false [] ri8_2 (some [2, 3])) (
.ret)) (.skip))) (
.seq (.seq (.region false [] ri8_3 (some [1, 39])) (
.cond (.t 39) (.seq (.region false [] ri8_4 (some [2, 3])) (
.ret)) (.skip))) (
.seq (.seq (.region false [] ri8_5 (some [1, 42, 43])) (
.block 0 (.loop (.seq (.region false [] ri8_6 (some [1, 42, 43, 44])) (
.seq (.cond (.t 44) (.skip) (.exit 0)) (
.seq (.block 1 (.seq (.region false [] ri8_7 (some [1, 4, 42, 43])) (
.seq (.region false [] ri8_8 (some [1, 4, 42, 43, 49])) (
.cond (.t 49) (.seq (.region false [] ri8_9 (some [2, 3])) (
.ret)) (.skip))))) (
.region false [] ri8_10 (some [1, 42, 43])))))))) (
.seq (.region false [] ri8_11 (some [2, 3])) (
.ret))))))⟩

def ri7_0 : List AItem := [⟨some 2, .box 7 (.t 0), none⟩,
  ⟨some 4, .mov (.c (.imm (.bool false))), none⟩]
def ri7_1 : List AItem := [⟨some 7, .fld 1 (.t 2), none⟩,
  ⟨some 8, .load false 1 (.t 7), none⟩,
  ⟨some 9, .len (.t 8), none⟩,
  ⟨some 10, .bin .gtr (.t 9) (.c (.imm (.int .i64 13))), none⟩,
  ⟨some 11, .mov (.t 10), none⟩,
  ⟨some 12, .fld 2 (.t 2), some (11, false)⟩,
  ⟨some 13, .load false 1 (.t 12), some (11, false)⟩,
  ⟨some 14, .len (.t 13), some (11, false)⟩,
  ⟨some 15, .bin .gtr (.t 14) (.c (.imm (.int .i64 21))), some (11, false)⟩,
  ⟨some 16, .pick (.t 11) (.c (.imm (.bool true))) (.t 15), none⟩,
  ⟨some 17, .mov (.t 16), none⟩,
  ⟨some 18, .fld 3 (.t 2), some (17, false)⟩,
  ⟨some 19, .load false 1 (.t 18), some (17, false)⟩,
  ⟨some 20, .len (.t 19), some (17, false)⟩,
  ⟨some 21, .bin .gtr (.t 20) (.c (.imm (.int .i64 61))), some (17, false)⟩,
  ⟨some 22, .pick (.t 17) (.c (.imm (.bool true))) (.t 21), none⟩,
  ⟨some 23, .mov (.t 22), none⟩,
  ⟨some 24, .fld 4 (.t 2), some (23, false)⟩,
  ⟨some 25, .load false 1 (.t 24), some (23, false)⟩,
  ⟨some 26, .len (.t 25), some (23, false)⟩,
  ⟨some 27, .mov (.t 1), some (23, false)⟩,
  ⟨some 28, .bin .gtr (.t 26) (.t 27), some (23, false)⟩,
  ⟨some 29, .pick (.t 23) (.c (.imm (.bool true))) (.t 28), none⟩,
  ⟨some 30, .mov (.t 29), none⟩,
  ⟨some 31, .fld 6 (.t 2), some (30, false)⟩,
  ⟨some 32, .load false 1 (.t 31), some (30, false)⟩,
  ⟨some 33, .len (.t 32), some (30, false)⟩,
  ⟨some 34, .bin .gtr (.t 33) (.c (.imm (.int .i64 100))), some (30, false)⟩,
  ⟨some 35, .pick (.t 30) (.c (.imm (.bool true))) (.t 34), none⟩]
def ri7_2 : List AItem := [⟨some 4, .mov (.c (.imm (.bool false))), none⟩]
def ri7_3 : List AItem := [⟨some 5, .mov (.c (.imm (.int .i64 0))), none⟩]
def ri7_4 : List AItem := [⟨some 36, .mov (.t 5), none⟩,
  ⟨some 37, .fld 2 (.t 2), none⟩,
  ⟨some 38, .load false 1 (.t 37), none⟩,
  ⟨some 39, .len (.t 38), none⟩,
  ⟨some 40, .bin .lss (.t 36) (.t 39), none⟩]
def ri7_5 : List AItem := [⟨some 43, .fld 2 (.t 2), none⟩,
  ⟨some 44, .load false 1 (.t 43), none⟩,
  ⟨some 45, .mov (.t 5), none⟩,
  ⟨some 46, .idx 5 (.t 44) (.t 45), none⟩,
  ⟨some 47, .fld 0 (.t 46), none⟩,
  ⟨some 48, .load false 1 (.t 47), none⟩,
  ⟨some 49, .lens (.t 48), none⟩,
  ⟨some 50, .bin .gtr (.t 49) (.c (.imm (.int .i64 60))), none⟩]
def ri7_6 : List AItem := [⟨some 4, .mov (.c (.imm (.bool false))), none⟩]
def ri7_7 : List AItem := [⟨some 41, .mov (.t 5), none⟩,
  ⟨some 42, .bin .add (.t 41) (.c (.imm (.int .i64 1))), none⟩,
  ⟨some 5, .mov (.t 42), none⟩]
def ri7_8 : List AItem := [⟨some 6, .mov (.c (.imm (.int .i64 0))), none⟩]
def ri7_9 : List AItem := [⟨some 51, .mov (.t 6), none⟩,
  ⟨some 52, .fld 4 (.t 2), none⟩,
  ⟨some 53, .load false 1 (.t 52), none⟩,
  ⟨some 54, .len (.t 53), none⟩,
  ⟨some 55, .bin .lss (.t 51) (.t 54), none⟩]
def ri7_10 : List AItem := [⟨some 58, .fld 4 (.t 2), none⟩,
  ⟨some 59, .load false 1 (.t 58), none⟩,
  ⟨some 60, .mov (.t 6), none⟩,
  ⟨some 61, .idx 16 (.t 59) (.t 60), none⟩,
  ⟨some 62, .fld 4 (.t 61), none⟩,
  ⟨some 63, .load false 1 (.t 62), none⟩,
  ⟨some 64, .len (.t 63), none⟩,
  ⟨some 65, .bin .gtr (.t 64) (.c (.imm (.int .i64 10))), none⟩]
def ri7_11 : List AItem := [⟨some 4, .mov (.c (.imm (.bool false))), none⟩]
def ri7_12 : List AItem := [⟨some 56, .mov (.t 6), none⟩,
  ⟨some 57, .bin .add (.t 56) (.c (.imm (.int .i64 1))), none⟩,
  ⟨some 6, .mov (.t 57), none⟩]
def ri7_13 : List AItem := [⟨some 4, .mov (.c (.imm (.bool true))), none⟩]
def af7 : AFun := ⟨66, [.tmp 4], (
.seq (.region false [] ri7_0 (some [1, 2])) (
.seq (.seq (.region false [] ri7_1 (some [2, 35])) (
.cond (.t 35) (.seq (.region false [] ri7_2 (some [4])) (
.ret)) (.skip))) (
.seq (.seq (.region false [] ri7_3 (some [2, 5])) (
.block 0 (.loop (.seq (.seq (.region false [] ri7_4 (some [2, 5, 40])) (
.cond (.t 40) (.skip) (.exit 0))) (
.seq (.block 1 (.seq (.region false [] ri7_5 (some [2, 5, 50])) (
.cond (.t 50) (.seq (.region false [] ri7_6 (some [4])) (
.ret)) (.skip)))) (
.region false [] ri7_7 (some [2, 5]))))))) (
.seq (.seq (.region false [] ri7_8 (some [2, 6])) (
.block 2 (.loop (.seq (.seq (.region false [] ri7_9 (some [2, 6, 55])) (
.cond (.t 55) (.skip) (.exit 2))) (
.seq (.block 3 (.seq (.region false [] ri7_10 (some [2, 6, 65])) (
.cond (.t 65) (.seq (.region false [] ri7_11 (some [4])) (
.ret)) (.skip)))) (
.region false [] ri7_12 (some [2, 6]))))))) (
.seq (.region false [] ri7_13 (some [4])) (
.ret))))))⟩

def ri18_0 : List AItem := [⟨some 4, .mov (.c (.imm (.bool false))), none⟩]
def ri18_1 : List AItem := [⟨some 6, .mov (.t 0), none⟩,
  ⟨some 7, .len (.t 6), none⟩,
  ⟨some 8, .mov (.t 1), none⟩,
  ⟨some 9, .len (.t 8), none⟩,
  ⟨some 10, .bin .neq (.t 7) (.t 9), none⟩]
def ri18_2 : List AItem := [⟨some 4, .mov (.c (.imm (.bool false))), none⟩]
def ri18_3 : List AItem := [⟨some 5, .mov (.c (.imm (.int .i64 0))), none⟩]
def ri18_4 : List AItem := [⟨some 11, .mov (.t 5), none⟩,
  ⟨some 12, .mov (.t 0), none⟩,
  ⟨some 13, .len (.t 12), none⟩,
  ⟨some 14, .bin .lss (.t 11) (.t 13), none⟩]
def ri18_5 : List AItem := [⟨some 17, .mov (.t 0), none⟩,
  ⟨some 18, .mov (.t 5), none⟩,
  ⟨some 19, .idx 1 (.t 17) (.t 18), none⟩,
  ⟨some 20, .load false 1 (.t 19), none⟩,
  ⟨some 21, .mov (.t 1), none⟩,
  ⟨some 22, .mov (.t 5), none⟩,
  ⟨some 23, .idx 1 (.t 21) (.t 22), none⟩,
  ⟨some 24, .load false 1 (.t 23), none⟩,
  ⟨some 25, .bin .neq (.t 20) (.t 24), none⟩]
def ri18_6 : List AItem := [⟨some 4, .mov (.c (.imm (.bool false))), none⟩]
def ri18_7 : List AItem := [⟨some 15, .mov (.t 5), none⟩,
  ⟨some 16, .bin .add (.t 15) (.c (.imm (.int .i64 1))), none⟩,
  ⟨some 5, .mov (.t 16), none⟩]
def ri18_8 : List AItem := [⟨some 4, .mov (.c (.imm (.bool true))), none⟩]
def af18 : AFun := ⟨26, [.tmp 4], (
.seq (.region false [] ri18_0 (some [0, 1])) (
.seq (.seq (.region false [] ri18_1 (some [0, 1, 10])) (
.cond (.t 10) (.seq (.region false [] ri18_2 (some [4])) (
.ret)) (.skip))) (
.seq (.seq (.region false [] ri18_3 (some [0, 1, 5])) (
.block 0 (.loop (.seq (.seq (.region false [] ri18_4 (some [0, 1, 5, 14])) (
.cond (.t 14) (.skip) (.exit 0))) (
.seq (.block 1 (.seq (.region true [0, 0, 3, 7, 0, 0, 48, 112, 255] ri18_5 (some [0, 1, 5, 25])) (
.cond (.t 25) (.seq (.region false [] ri18_6 (some [4])) (
.ret)) (.skip)))) (
.region false [] ri18_7 (some [0, 1, 5]))))))) (
.seq (.region false [] ri18_8 (some [4])) (
.ret)))))⟩

def ri25_0 : List AItem := [⟨some 1, .box 16 (.t 0), none⟩,
  ⟨some 2, .mov (.c (.nil)), none⟩]
def ri25_1 : List AItem := [⟨some 3, .fld 9 (.t 1), none⟩,
  ⟨some 4, .load false 1 (.t 3), none⟩,
  ⟨some 5, .bin .eql (.t 4) (.c (.imm (.int .i64 (-1)))), none⟩]
def ri25_2 : List AItem := [⟨some 6, .fld 2 (.t 1), none⟩,
  ⟨some 7, .load false 1 (.t 6), none⟩,
  ⟨some 8, .bslice 1 [.imm (.int .i64 0)] 1 [(0, .t 7)], none⟩,
  ⟨some 2, .mov (.t 8), none⟩]
def ri25_3 : List AItem := [⟨some 9, .fld 2 (.t 1), none⟩,
  ⟨some 10, .load false 1 (.t 9), none⟩,
  ⟨some 11, .fld 9 (.t 1), none⟩,
  ⟨some 12, .load false 1 (.t 11), none⟩,
  ⟨some 13, .fld 10 (.t 1), none⟩,
  ⟨some 14, .load false 1 (.t 13), none⟩,
  ⟨some 15, .bslice 1 [.imm (.int .i64 0)] 3 [(0, .t 10), (1, .t 12), (2, .t 14)], none⟩,
  ⟨some 2, .mov (.t 15), none⟩]
def af25 : AFun := ⟨16, [.tmp 2], (
.seq (.region false [] ri25_0 (some [1])) (
.seq (.seq (.region false [] ri25_1 (some [1, 5])) (
.cond (.t 5) (.seq (.region false [] ri25_2 (some [2])) (
.ret)) (.skip))) (
.seq (.region false [] ri25_3 (some [2])) (
.ret))))⟩

def ri50_0 : List AItem := [⟨some 4, .mov (.c (.imm (.int .i64 0))), none⟩]
def ri50_1 : List AItem := [⟨some 6, .mov (.t 0), none⟩,
  ⟨some 7, .len (.t 6), none⟩,
  ⟨some 8, .mov (.c (.imm (.int .i64 0))), none⟩]
def ri50_2 : List AItem := [⟨some 9, .bin .lss (.t 8) (.t 7), none⟩]
def ri50_3 : List AItem := [⟨some 10, .mov (.t 8), none⟩,
  ⟨some 5, .mov (.t 10), none⟩]
def ri50_4 : List AItem := [⟨some 11, .mov (.t 1), none⟩,
  ⟨some 12, .mov (.t 0), none⟩,
  ⟨some 13, .mov (.t 5), none⟩,
  ⟨some 14, .idx 1 (.t 12) (.t 13), none⟩,
  ⟨some 15, .load false 1 (.t 14), none⟩,
  ⟨some 16, .bin .eql (.t 11) (.t 15), none⟩]
def ri50_5 : List AItem := [⟨some 17, .mov (.t 5), none⟩,
  ⟨some 4, .mov (.t 17), none⟩]
def ri50_6 : List AItem := [⟨some 18, .bin .add (.t 8) (.c (.imm (.int .i64 1))), none⟩,
  ⟨some 8, .mov (.t 18), none⟩]
def ri50_7 : List AItem := [⟨some 4, .mov (.c (.imm (.int .i64 (-1)))), none⟩]
def af50 : AFun := ⟨19, [.tmp 4], (
.seq (.region false [] ri50_0 (some [0, 1])) (
.seq (.seq (.region false [] ri50_1 (some [0, 1, 7, 8])) (
.block 0 (.loop (.seq (.region false [] ri50_2 (some [0, 1, 7, 8, 9])) (
.seq (.cond (.t 9) (.skip) (.exit 0)) (
.seq (.block 1 (.seq (.region false [] ri50_3 (some [0, 1, 5, 7, 8])) (
.seq (.region false [] ri50_4 (some [0, 1, 5, 7, 8, 16])) (
.cond (.t 16) (.seq (.region false [] ri50_5 (some [4])) (
.ret)) (.skip))))) (
.region false [] ri50_6 (some [0, 1, 7, 8])))))))) (
.seq (.region false [] ri50_7 (some [4])) (
.ret))))⟩

def ri28_0 : List AItem := [⟨some 4, .mov (.c (.imm (.bool false))), none⟩]
def ri28_1 : List AItem := [⟨some 5, .mov (.t 0), none⟩,
  ⟨some 6, .mov (.t 1), none⟩,
  ⟨some 7, .call (.c (.func 50 [] [])) [.t 5, .t 6], none⟩,
  ⟨some 8, .bin .geq (.t 7) (.c (.imm (.int .i64 0))), none⟩,
  ⟨some 4, .mov (.t 8), none⟩]
def af28 : AFun := ⟨9, [.tmp 4], (
.seq (.region false [] ri28_0 (some [0, 1])) (
.seq (.region false [] ri28_1 (some [4])) (
.ret)))⟩

def ri56_0 : List AItem := [⟨some 2, .mov (.c (.imm (.bool false))), none⟩]
def ri56_1 : List AItem := [⟨some 3, .mov (.t 0), none⟩,
  ⟨some 4, .mov (.t 0), none⟩,
  ⟨some 5, .bin .neq (.t 3) (.t 4), none⟩,
  ⟨some 2, .mov (.t 5), none⟩]
def af56 : AFun := ⟨6, [.tmp 2], (
.seq (.region false [] ri56_0 (some [0])) (
.seq (.region false [] ri56_1 (some [2])) (
.ret)))⟩

def ri52_0 : List AItem := [⟨some 4, .mov (.c (.imm (.bool false))), none⟩]
def ri52_1 : List AItem := [⟨some 5, .mov (.t 0), none⟩,
  ⟨some 6, .call (.c (.func 56 [] [])) [.t 5], none⟩,
  ⟨some 7, .mov (.t 6), none⟩,
  ⟨some 8, .mov (.t 1), some (7, true)⟩,
  ⟨some 9, .call (.c (.func 56 [] [])) [.t 8], some (7, true)⟩,
  ⟨some 10, .not (.t 9), some (7, true)⟩,
  ⟨some 11, .pick (.t 7) (.t 10) (.c (.imm (.bool false))), none⟩,
  ⟨some 12, .mov (.t 11), none⟩,
  ⟨some 13, .mov (.t 0), some (12, false)⟩,
  ⟨some 14, .mov (.t 1), some (12, false)⟩,
  ⟨some 15, .bin .lss (.t 13) (.t 14), some (12, false)⟩,
  ⟨some 16, .pick (.t 12) (.c (.imm (.bool true))) (.t 15), none⟩,
  ⟨some 4, .mov (.t 16), none⟩]
def af52 : AFun := ⟨17, [.tmp 4], (
.seq (.region false [] ri52_0 (some [0, 1])) (
.seq (.region false [] ri52_1 (some [4])) (
.ret)))⟩

def ri53_0 : List AItem := [⟨some 2, .mov (.c (.imm (.bool false))), none⟩]
def ri53_1 : List AItem := [⟨some 3, .mov (.t 0), none⟩,
  ⟨some 4, .mov (.t 0), none⟩,
  ⟨some 5, .bin .neq (.t 3) (.t 4), none⟩,
  ⟨some 2, .mov (.t 5), none⟩]
def af53 : AFun := ⟨6, [.tmp 2], (
.seq (.region false [] ri53_0 (some [0])) (
.seq (.region false [] ri53_1 (some [2])) (
.ret)))⟩

def ri38_0 : List AItem := [⟨some 4, .mov (.c (.imm (.int .i64 0))), none⟩,
  ⟨some 5, .mov (.c (.imm (.bool false))), none⟩]
def ri38_1 : List AItem := [⟨some 10, .mov (.t 0), none⟩,
  ⟨some 11, .len (.t 10), none⟩,
  ⟨some 6, .mov (.t 11), none⟩]
def ri38_2 : List AItem := [⟨some 12, .mov (.t 6), none⟩,
  ⟨some 7, .mov (.c (.imm (.int .i64 0))), none⟩,
  ⟨some 8, .mov (.t 12), none⟩]
def ri38_3 : List AItem := [⟨some 13, .mov (.t 7), none⟩,
  ⟨some 14, .mov (.t 8), none⟩,
  ⟨some 15, .bin .lss (.t 13) (.t 14), none⟩]
def ri38_4 : List AItem := [⟨some 16, .mov (.t 7), none⟩,
  ⟨some 17, .mov (.t 8), none⟩,
  ⟨some 18, .bin .add (.t 16) (.t 17), none⟩,
  ⟨some 19, .conv .u64 (.t 18), none⟩,
  ⟨some 20, .bin .shr (.t 19) (.c (.imm (.int .u64 1))), none⟩,
  ⟨some 21, .conv .i64 (.t 20), none⟩,
  ⟨some 9, .mov (.t 21), none⟩]
def ri38_5 : List AItem := [⟨some 22, .mov (.t 0), none⟩,
  ⟨some 23, .mov (.t 9), none⟩,
  ⟨some 24, .idx 1 (.t 22) (.t 23), none⟩,
  ⟨some 25, .load false 1 (.t 24), none⟩,
  ⟨some 26, .mov (.t 1), none⟩,
  ⟨some 27, .call (.c (.func 52 [] [])) [.t 25, .t 26], none⟩]
def ri38_6 : List AItem := [⟨some 28, .mov (.t 9), none⟩,
  ⟨some 29, .bin .add (.t 28) (.c (.imm (.int .i64 1))), none⟩,
  ⟨some 7, .mov (.t 29), none⟩]
def ri38_7 : List AItem := [⟨some 30, .mov (.t 9), none⟩,
  ⟨some 8, .mov (.t 30), none⟩]
def ri38_8 : List AItem := [⟨some 31, .mov (.t 7), none⟩,
  ⟨some 32, .mov (.t 7), none⟩,
  ⟨some 33, .mov (.t 6), none⟩,
  ⟨some 34, .bin .lss (.t 32) (.t 33), none⟩,
  ⟨some 35, .mov (.t 34), none⟩,
  ⟨some 36, .mov (.t 0), some (35, true)⟩,
  ⟨some 37, .mov (.t 7), some (35, true)⟩,
  ⟨some 38, .idx 1 (.t 36) (.t 37), some (35, true)⟩,
  ⟨some 39, .load false 1 (.t 38), some (35, true)⟩,
  ⟨some 40, .mov (.t 1), some (35, true)⟩,
  ⟨some 41, .bin .eql (.t 39) (.t 40), some (35, true)⟩,
  ⟨some 42, .mov (.t 41), some (35, true)⟩,
  ⟨some 43, .mov (.t 0), some (42, false)⟩,
  ⟨some 44, .mov (.t 7), some (42, false)⟩,
  ⟨some 45, .idx 1 (.t 43) (.t 44), some (42, false)⟩,
  ⟨some 46, .load false 1 (.t 45), some (42, false)⟩,
  ⟨some 47, .call (.c (.func 53 [] [])) [.t 46], some (42, false)⟩,
  ⟨some 48, .mov (.t 47), some (42, false)⟩,
  ⟨some 49, .mov (.t 1), some (48, true)⟩,
  ⟨some 50, .call (.c (.func 53 [] [])) [.t 49], some (48, true)⟩,
  ⟨some 51, .pick (.t 48) (.t 50) (.c (.imm (.bool false))), some (42, false)⟩,
  ⟨some 52, .pick (.t 42) (.c (.imm (.bool true))) (.t 51), some (35, true)⟩,
  ⟨some 53, .pick (.t 35) (.t 52) (.c (.imm (.bool false))), none⟩,
  ⟨some 4, .mov (.t 31), none⟩,
  ⟨some 5, .mov (.t 53), none⟩]
def af38 : AFun := ⟨54, [.tmp 4, .tmp 5], (
.seq (.region false [] ri38_0 (some [0, 1])) (
.seq (.region false [] ri38_1 (some [0, 1, 6])) (
.seq (.region false [] ri38_2 (some [0, 1, 6, 7, 8])) (
.seq (.block 0 (.loop (.seq (.seq (.region false [] ri38_3 (some [0, 1, 6, 7, 8, 15])) (
.cond (.t 15) (.skip) (.exit 0))) (
.block 1 (.seq (.region false [] ri38_4 (some [0, 1, 6, 7, 8, 9])) (
.seq (.region false [] ri38_5 (some [0, 1, 6, 7, 8, 9, 27])) (
.cond (.t 27) (.region false [] ri38_6 (some [0, 1, 6, 7, 8])) (.region false [] ri38_7 (some [0, 1, 6, 7, 8]))))))))) (
.seq (.region false [] ri38_8 (some [4, 5])) (
.ret))))))⟩

def ri24_0 : List AItem := [⟨some 2, .box 2 (.t 0), none⟩,
  ⟨some 3, .mov (.c (.imm (.bool false))), none⟩]
def ri24_1 : List AItem := [⟨some 4, .fld 0 (.t 2), none⟩,
  ⟨some 5, .load false 1 (.t 4), none⟩,
  ⟨some 6, .load false 1 (.t 1), none⟩,
  ⟨some 7, .bin .eql (.t 5) (.t 6), none⟩,
  ⟨some 3, .mov (.t 7), none⟩]
def af24 : AFun := ⟨8, [.tmp 3], (
.seq (.region false [] ri24_0 (some [1, 2])) (
.seq (.region false [] ri24_1 (some [3])) (
.ret)))⟩

def ri48_0 : List AItem := [⟨some 4, .mov (.c (.imm (.int .i64 0))), none⟩]
def ri48_1 : List AItem := [⟨some 6, .mov (.t 0), none⟩,
  ⟨some 7, .len (.t 6), none⟩,
  ⟨some 8, .mov (.c (.imm (.int .i64 0))), none⟩]
def ri48_2 : List AItem := [⟨some 9, .bin .lss (.t 8) (.t 7), none⟩]
def ri48_3 : List AItem := [⟨some 10, .mov (.t 8), none⟩,
  ⟨some 5, .mov (.t 10), none⟩]
def ri48_4 : List AItem := [⟨some 11, .mov (.t 1), none⟩,
  ⟨some 12, .mov (.t 0), none⟩,
  ⟨some 13, .mov (.t 5), none⟩,
  ⟨some 14, .idx 2 (.t 12) (.t 13), none⟩,
  ⟨some 15, .load true 2 (.t 14), none⟩,
  ⟨some 16, .call (.t 11) [.t 15], none⟩]
def ri48_5 : List AItem := [⟨some 17, .mov (.t 5), none⟩,
  ⟨some 4, .mov (.t 17), none⟩]
def ri48_6 : List AItem := [⟨some 18, .bin .add (.t 8) (.c (.imm (.int .i64 1))), none⟩,
  ⟨some 8, .mov (.t 18), none⟩]
def ri48_7 : List AItem := [⟨some 4, .mov (.c (.imm (.int .i64 (-1)))), none⟩]
def af48 : AFun := ⟨19, [.tmp 4], (
.seq (.region false [] ri48_0 (some [0, 1])) (
.seq (.seq (.region false [] ri48_1 (some [0, 1, 7, 8])) (
.block 0 (.loop (.seq (.region false [] ri48_2 (some [0, 1, 7, 8, 9])) (
.seq (.cond (.t 9) (.skip) (.exit 0)) (
.seq (.block 1 (.seq (.region false [] ri48_3 (some [0, 1, 5, 7, 8])) (
.seq (.region false [] ri48_4 (some [0, 1, 5, 7, 8, 16])) (
.cond (.t 16) (.seq (.region false [] ri48_5 (some [4])) (
.ret)) (.skip))))) (
.region false [] ri48_6 (some [0, 1, 7, 8])))))))) (
.seq (.region false [] ri48_7 (some [4])) (
.ret))))⟩

def ri23_0 : List AItem := [⟨some 4, .mov (.c (.imm (.bool false))), none⟩]
def ri23_1 : List AItem := [⟨some 5, .mov (.t 0), none⟩,
  ⟨some 6, .mov (.t 1), none⟩,
  ⟨some 7, .call (.c (.func 48 [] [])) [.t 5, .t 6], none⟩,
  ⟨some 8, .bin .geq (.t 7) (.c (.imm (.int .i64 0))), none⟩,
  ⟨some 4, .mov (.t 8), none⟩]
def af23 : AFun := ⟨9, [.tmp 4], (
.seq (.region false [] ri23_0 (some [0, 1])) (
.seq (.region false [] ri23_1 (some [4])) (
.ret)))⟩

def ri22_0 : List AItem := [⟨some 4, .box 1 (.t 1), none⟩,
  ⟨some 5, .mov (.c (.imm (.bool false))), none⟩]
def ri22_1 : List AItem := [⟨some 6, .fld 4 (.t 2), none⟩,
  ⟨some 7, .load false 1 (.t 6), none⟩,
  ⟨some 8, .mov (.t 0), none⟩,
  ⟨some 9, .idx 16 (.t 7) (.t 8), none⟩,
  ⟨some 10, .fld 4 (.t 9), none⟩,
  ⟨some 11, .load false 1 (.t 10), none⟩,
  ⟨some 12, .mkf 24 [] [.t 4], none⟩,
  ⟨some 13, .call (.c (.func 23 [] [])) [.t 11, .t 12], none⟩,
  ⟨some 5, .mov (.t 13), none⟩]
def af22 : AFun := ⟨14, [.tmp 5], (
.seq (.region false [] ri22_0 (some [0, 2, 4])) (
.seq (.region false [] ri22_1 (some [5])) (
.ret)))⟩

def ri27_0 : List AItem := [⟨some 3, .mov (.c (.imm (.bool false))), none⟩]
def ri27_1 : List AItem := [⟨some 4, .load false 1 (.t 1), none⟩,
  ⟨some 5, .mov (.t 0), none⟩,
  ⟨some 6, .call (.c (.func 28 [] [])) [.t 4, .t 5], none⟩,
  ⟨some 3, .mov (.t 6), none⟩]
def af27 : AFun := ⟨7, [.tmp 3], (
.seq (.region false [] ri27_0 (some [0, 1])) (
.seq (.region false [] ri27_1 (some [3])) (
.ret)))⟩

def ri49_0 : List AItem := [⟨some 4, .mov (.c (.imm (.int .i64 0))), none⟩]
def ri49_1 : List AItem := [⟨some 6, .mov (.t 0), none⟩,
  ⟨some 7, .len (.t 6), none⟩,
  ⟨some 8, .mov (.c (.imm (.int .i64 0))), none⟩]
def ri49_2 : List AItem := [⟨some 9, .bin .lss (.t 8) (.t 7), none⟩]
def ri49_3 : List AItem := [⟨some 10, .mov (.t 8), none⟩,
  ⟨some 5, .mov (.t 10), none⟩]
def ri49_4 : List AItem := [⟨some 11, .mov (.t 1), none⟩,
  ⟨some 12, .mov (.t 0), none⟩,
  ⟨some 13, .mov (.t 5), none⟩,
  ⟨some 14, .idx 1 (.t 12) (.t 13), none⟩,
  ⟨some 15, .load false 1 (.t 14), none⟩,
  ⟨some 16, .call (.t 11) [.t 15], none⟩]
def ri49_5 : List AItem := [⟨some 17, .mov (.t 5), none⟩,
  ⟨some 4, .mov (.t 17), none⟩]
def ri49_6 : List AItem := [⟨some 18, .bin .add (.t 8) (.c (.imm (.int .i64 1))), none⟩,
  ⟨some 8, .mov (.t 18), none⟩]
def ri49_7 : List AItem := [⟨some 4, .mov (.c (.imm (.int .i64 (-1)))), none⟩]
def af49 : AFun := ⟨19, [.tmp 4], (
.seq (.region false [] ri49_0 (some [0, 1])) (
.seq (.seq (.region false [] ri49_1 (some [0, 1, 7, 8])) (
.block 0 (.loop (.seq (.region false [] ri49_2 (some [0, 1, 7, 8, 9])) (
.seq (.cond (.t 9) (.skip) (.exit 0)) (
.seq (.block 1 (.seq (.region false [] ri49_3 (some [0, 1, 5, 7, 8])) (
.seq (.region false [] ri49_4 (some [0, 1, 5, 7, 8, 16])) (
.cond (.t 16) (.seq (.region false [] ri49_5 (some [4])) (
.ret)) (.skip))))) (
.region false [] ri49_6 (some [0, 1, 7, 8])))))))) (
.seq (.region false [] ri49_7 (some [4])) (
.ret))))⟩

def ri26_0 : List AItem := [⟨some 4, .mov (.c (.imm (.bool false))), none⟩]
def ri26_1 : List AItem := [⟨some 5, .mov (.t 0), none⟩,
  ⟨some 6, .mov (.t 1), none⟩,
  ⟨some 7, .call (.c (.func 49 [] [])) [.t 5, .t 6], none⟩,
  ⟨some 8, .bin .geq (.t 7) (.c (.imm (.int .i64 0))), none⟩,
  ⟨some 4, .mov (.t 8), none⟩]
def af26 : AFun := ⟨9, [.tmp 4], (
.seq (.region false [] ri26_0 (some [0, 1])) (
.seq (.region false [] ri26_1 (some [4])) (
.ret)))⟩

def ri12_0 : List AItem := [⟨some 3, .box 7 (.t 0), none⟩,
  ⟨some 6, .mov (.c (.imm (.bool false))), none⟩]
def ri12_1 : List AItem := [⟨some 11, .mov (.t 1), none⟩,
  ⟨some 12, .mov (.t 2), none⟩,
  ⟨some 13, .bin .eql (.t 11) (.t 12), none⟩,
  ⟨some 14, .mov (.t 13), none⟩,
  ⟨some 15, .mov (.t 1), some (14, false)⟩,
  ⟨some 16, .bin .lss (.t 15) (.c (.imm (.int .i64 0))), some (14, false)⟩,
  ⟨some 17, .pick (.t 14) (.c (.imm (.bool true))) (.t 16), none⟩,
  ⟨some 18, .mov (.t 17), none⟩,
  ⟨some 19, .mov (.t 2), some (18, false)⟩,
  ⟨some 20, .bin .lss (.t 19) (.c (.imm (.int .i64 0))), some (18, false)⟩,
  ⟨some 21, .pick (.t 18) (.c (.imm (.bool true))) (.t 20), none⟩,
  ⟨some 22, .mov (.t 21), none⟩,
  ⟨some 23, .mov (.t 1), some (22, false)⟩,
  ⟨some 24, .fld 4 (.t 3), some (22, false)⟩,
  ⟨some 25, .load false 1 (.t 24), some (22, false)⟩,
  ⟨some 26, .len (.t 25), some (22, false)⟩,
  ⟨some 27, .bin .geq (.t 23) (.t 26), some (22, false)⟩,
  ⟨some 28, .pick (.t 22) (.c (.imm (.bool true))) (.t 27), none⟩,
  ⟨some 29, .mov (.t 28), none⟩,
  ⟨some 30, .mov (.t 2), some (29, false)⟩,
  ⟨some 31, .fld 4 (.t 3), some (29, false)⟩,
  ⟨some 32, .load false 1 (.t 31), some (29, false)⟩,
  ⟨some 33, .len (.t 32), some (29, false)⟩,
  ⟨some 34, .bin .geq (.t 30) (.t 33), some (29, false)⟩,
  ⟨some 35, .pick (.t 29) (.c (.imm (.bool true))) (.t 34), none⟩]
def ri12_2 : List AItem := [⟨some 6, .mov (.c (.imm (.bool false))), none⟩]
def ri12_3 : List AItem := [⟨some 37, .load true 7 (.t 3), none⟩,
  ⟨some 38, .call (.c (.func 8 [] [])) [.t 37], none⟩,
  ⟨some 36, .mov (.t 38), none⟩,
  ⟨some 39, .ext (.t 36) 0, none⟩,
  ⟨some 40, .ext (.t 36) 1, none⟩,
  ⟨some 7, .mov (.t 39), none⟩,
  ⟨some 8, .mov (.t 40), none⟩]
def ri12_4 : List AItem := [⟨some 41, .mov (.t 7), none⟩,
  ⟨some 42, .bin .neq (.t 41) (.c (.imm (.int .i64 0))), none⟩]
def ri12_5 : List AItem := [⟨some 6, .mov (.c (.imm (.bool false))), none⟩]
def ri12_6 : List AItem := [⟨some 43, .mkf 22 [] [.t 3], none⟩,
  ⟨some 9, .mov (.t 43), none⟩]
def ri12_7 : List AItem := [⟨some 44, .mov (.t 9), none⟩,
  ⟨some 45, .mov (.t 1), none⟩,
  ⟨some 46, .mov (.t 2), none⟩,
  ⟨some 47, .call (.t 44) [.t 45, .t 46], none⟩,
  ⟨some 48, .mov (.t 47), none⟩,
  ⟨some 49, .mov (.t 9), some (48, false)⟩,
  ⟨some 50, .mov (.t 2), some (48, false)⟩,
  ⟨some 51, .mov (.t 1), some (48, false)⟩,
  ⟨some 52, .call (.t 49) [.t 50, .t 51], some (48, false)⟩,
  ⟨some 53, .pick (.t 48) (.c (.imm (.bool true))) (.t 52), none⟩]
def ri12_8 : List AItem := [⟨some 6, .mov (.c (.imm (.bool true))), none⟩]
def ri12_9 : List AItem := [⟨some 54, .fld 4 (.t 3), none⟩,
  ⟨some 55, .load false 1 (.t 54), none⟩,
  ⟨some 56, .mov (.t 2), none⟩,
  ⟨some 57, .idx 16 (.t 55) (.t 56), none⟩,
  ⟨some 58, .load true 16 (.t 57), none⟩,
  ⟨some 59, .call (.c (.func 25 [] [])) [.t 58], none⟩,
  ⟨some 10, .alloc 1 [[.nil]], none⟩,
  ⟨none, .store 1 (.t 10) (.t 59), none⟩]
def ri12_10 : List AItem := [⟨some 60, .fld 4 (.t 3), none⟩,
  ⟨some 61, .load false 1 (.t 60), none⟩,
  ⟨some 62, .mov (.t 1), none⟩,
  ⟨some 63, .idx 16 (.t 61) (.t 62), none⟩,
  ⟨some 64, .load true 16 (.t 63), none⟩,
  ⟨some 65, .call (.c (.func 25 [] [])) [.t 64], none⟩,
  ⟨some 66, .mkf 27 [] [.t 10], none⟩,
  ⟨some 67, .call (.c (.func 26 [] [])) [.t 65, .t 66], none⟩,
  ⟨some 6, .mov (.t 67), none⟩]
def af12 : AFun := ⟨68, [.tmp 6], (
.seq (.region false [] ri12_0 (some [1, 2, 3])) (
.seq (.seq (.region false [] ri12_1 (some [1, 2, 3, 35])) (
.cond (.t 35) (.seq (.region false [] ri12_2 (some [6])) (
.ret)) (.skip))) (
.seq (.seq (.region false [] ri12_3 (some [1, 2, 3, 7])) (
.seq (.region false [] ri12_4 (some [1, 2, 3, 42])) (
.cond (.t 42) (.seq (.region false [] ri12_5 (some [6])) (
.ret)) (.skip)))) (
.seq (.region false [] ri12_6 (some [1, 2, 3, 9])) (
.seq (.seq (.region false [] ri12_7 (some [1, 2, 3, 53])) (
.cond (.t 53) (.seq (.region false [] ri12_8 (some [6])) (
.ret)) (.skip))) (
.seq (.region false [] ri12_9 (some [1, 3, 10])) (
.seq (.region false [] ri12_10 (some [6])) (
.ret))))))))⟩

def ri34_0 : List AItem := [⟨some 2, .mov (.c (.nil)), none⟩]
def ri34_1 : List AItem := [⟨some 3, .mov (.t 0), none⟩,
  ⟨some 4, .eqnil false (.t 3) (.c (.nil)), none⟩]
def ri34_2 : List AItem := [⟨some 2, .mov (.c (.nil)), none⟩]
def ri34_3 : List AItem := [⟨some 5, .bslice 1 [.imm (.int .i64 0)] 0 [], none⟩,
  ⟨some 6, .mov (.t 0), none⟩,
  ⟨some 7, .app 1 8 (.t 5) (.t 6), none⟩,
  ⟨some 2, .mov (.t 7), none⟩]
def af34 : AFun := ⟨8, [.tmp 2], (
.seq (.region false [] ri34_0 (some [0])) (
.seq (.seq (.region false [] ri34_1 (some [0, 4])) (
.cond (.t 4) (.seq (.region false [] ri34_2 (some [2])) (
.ret)) (.skip))) (
.seq (.region false [] ri34_3 (some [2])) (
.ret))))⟩

def ri35_0 : List AItem := [⟨some 2, .mov (.c (.nil)), none⟩]
def ri35_1 : List AItem := [⟨some 3, .mov (.t 0), none⟩,
  ⟨some 4, .eqnil false (.t 3) (.c (.nil)), none⟩]
def ri35_2 : List AItem := [⟨some 2, .mov (.c (.nil)), none⟩]
def ri35_3 : List AItem := [⟨some 5, .bslice 5 [.imm (.str ⟨#[]⟩), .imm (.int .i64 0), .imm (.int .i64 0), .imm (.int .i64 0), .imm (.int .i64 0)] 0 [], none⟩,
  ⟨some 6, .mov (.t 0), none⟩,
  ⟨some 7, .app 5 48 (.t 5) (.t 6), none⟩,
  ⟨some 2, .mov (.t 7), none⟩]
def af35 : AFun := ⟨8, [.tmp 2], (
.seq (.region false [] ri35_0 (some [0])) (
.seq (.seq (.region false [] ri35_1 (some [0, 4])) (
.cond (.t 4) (.seq (.region false [] ri35_2 (some [2])) (
.ret)) (.skip))) (
.seq (.region false [] ri35_3 (some [2])) (
.ret))))⟩

def ri36_0 : List AItem := [⟨some 2, .mov (.c (.nil)), none⟩]
def ri36_1 : List AItem := [⟨some 3, .mov (.t 0), none⟩,
  ⟨some 4, .eqnil false (.t 3) (.c (.nil)), none⟩]
def ri36_2 : List AItem := [⟨some 2, .mov (.c (.nil)), none⟩]
def ri36_3 : List AItem := [⟨some 5, .bslice 7 [.imm (.int .i64 0), .imm (.int .i64 0), .imm (.int .i64 0), .imm (.int .i64 0), .imm (.int .i64 0), .imm (.int .i64 0), .imm (.int .i64 0)] 0 [], none⟩,
  ⟨some 6, .mov (.t 0), none⟩,
  ⟨some 7, .app 7 56 (.t 5) (.t 6), none⟩,
  ⟨some 2, .mov (.t 7), none⟩]
def af36 : AFun := ⟨8, [.tmp 2], (
.seq (.region false [] ri36_0 (some [0])) (
.seq (.seq (.region false [] ri36_1 (some [0, 4])) (
.cond (.t 4) (.seq (.region false [] ri36_2 (some [2])) (
.ret)) (.skip))) (
.seq (.region false [] ri36_3 (some [2])) (
.ret))))⟩

def ri37_0 : List AItem := [⟨some 2, .mov (.c (.nil)), none⟩]
def ri37_1 : List AItem := [⟨some 3, .mov (.t 0), none⟩,
  ⟨some 4, .eqnil false (.t 3) (.c (.nil)), none⟩]
def ri37_2 : List AItem := [⟨some 2, .mov (.c (.nil)), none⟩]
def ri37_3 : List AItem := [⟨some 5, .bslice 2 [.imm (.int .i64 0), .imm (.int .i64 0)] 0 [], none⟩,
  ⟨some 6, .mov (.t 0), none⟩,
  ⟨some 7, .app 2 16 (.t 5) (.t 6), none⟩,
  ⟨some 2, .mov (.t 7), none⟩]
def af37 : AFun := ⟨8, [.tmp 2], (
.seq (.region false [] ri37_0 (some [0])) (
.seq (.seq (.region false [] ri37_1 (some [0, 4])) (
.cond (.t 4) (.seq (.region false [] ri37_2 (some [2])) (
.ret)) (.skip))) (
.seq (.region false [] ri37_3 (some [2])) (
.ret))))⟩

def ri15_0 : List AItem := [⟨some 2, .box 7 (.t 0), none⟩,
  ⟨some 4, .alloc 7 [[.imm (.int .i64 0), .nil, .nil, .nil, .nil, .imm (.int .i64 0), .nil]], none⟩,
  ⟨some 5, .mov (.c (.imm (.int .i64 0))), none⟩]
def ri15_1 : List AItem := [⟨some 19, .load true 7 (.t 2), none⟩,
  ⟨some 20, .call (.c (.func 8 [] [])) [.t 19], none⟩,
  ⟨some 18, .mov (.t 20), none⟩,
  ⟨some 21, .ext (.t 18) 0, none⟩,
  ⟨some 22, .ext (.t 18) 1, none⟩,
  ⟨some 6, .mov (.t 21), none⟩,
  ⟨some 7, .mov (.t 22), none⟩]
def ri15_2 : List AItem := [⟨some 23, .mov (.t 6), none⟩,
  ⟨some 24, .bin .neq (.t 23) (.c (.imm (.int .i64 0))), none⟩]
def ri15_3 : List AItem := [⟨some 25, .build [.imm (.int .i64 0), .nil, .nil, .nil, .nil, .imm (.int .i64 0), .nil] [], none⟩,
  ⟨none, .store 7 (.t 4) (.t 25), none⟩,
  ⟨some 5, .mov (.c (.imm (.int .i64 1))), none⟩]
def ri15_4 : List AItem := [⟨some 8, .mov (.c (.imm (.int .i64 (-1)))), none⟩]
def ri15_5 : List AItem := [⟨some 26, .mov (.t 1), none⟩,
  ⟨some 27, .len (.t 26), none⟩,
  ⟨some 28, .mov (.c (.imm (.int .i64 0))), none⟩]
def ri15_6 : List AItem := [⟨some 29, .bin .lss (.t 28) (.t 27), none⟩]
def ri15_7 : List AItem := [⟨some 30, .idx 1 (.t 26) (.t 28), none⟩,
  ⟨some 31, .load false 1 (.t 30), none⟩,
  ⟨some 10, .mov (.t 31), none⟩]
def ri15_8 : List AItem := [⟨some 32, .mov (.t 10), none⟩,
  ⟨some 33, .mov (.t 8), none⟩,
  ⟨some 34, .bin .leq (.t 32) (.t 33), none⟩,
  ⟨some 35, .mov (.t 34), none⟩,
  ⟨some 36, .mov (.t 10), some (35, false)⟩,
  ⟨some 37, .fld 4 (.t 2), some (35, false)⟩,
  ⟨some 38, .load false 1 (.t 37), some (35, false)⟩,
  ⟨some 39, .len (.t 38), some (35, false)⟩,
  ⟨some 40, .bin .geq (.t 36) (.t 39), some (35, false)⟩,
  ⟨some 41, .pick (.t 35) (.c (.imm (.bool true))) (.t 40), none⟩]
def ri15_9 : List AItem := [⟨some 42, .build [.imm (.int .i64 0), .nil, .nil, .nil, .nil, .imm (.int .i64 0), .nil] [], none⟩,
  ⟨none, .store 7 (.t 4) (.t 42), none⟩,
  ⟨some 5, .mov (.c (.imm (.int .i64 1))), none⟩]
def ri15_10 : List AItem := [⟨some 43, .mov (.t 10), none⟩,
  ⟨some 8, .mov (.t 43), none⟩]
def ri15_11 : List AItem := [⟨some 44, .bin .add (.t 28) (.c (.imm (.int .i64 1))), none⟩,
  ⟨some 28, .mov (.t 44), none⟩]
def ri15_12 : List AItem := [⟨some 45, .load true 7 (.t 2), none⟩,
  ⟨some 11, .alloc 7 [[.imm (.int .i64 0), .nil, .nil, .nil, .nil, .imm (.int .i64 0), .nil]], none⟩,
  ⟨none, .store 7 (.t 11) (.t 45), none⟩]
def ri15_13 : List AItem := [⟨some 46, .fld 1 (.t 2), none⟩,
  ⟨some 47, .load false 1 (.t 46), none⟩,
  ⟨some 48, .call (.c (.func 34 [] [])) [.t 47], none⟩,
  ⟨some 49, .fld 1 (.t 11), none⟩,
  ⟨none, .store 1 (.t 49) (.t 48), none⟩]
def ri15_14 : List AItem := [⟨some 50, .fld 2 (.t 2), none⟩,
  ⟨some 51, .load false 1 (.t 50), none⟩,
  ⟨some 52, .call (.c (.func 35 [] [])) [.t 51], none⟩,
  ⟨some 53, .fld 2 (.t 11), none⟩,
  ⟨none, .store 1 (.t 53) (.t 52), none⟩]
def ri15_15 : List AItem := [⟨some 54, .fld 3 (.t 2), none⟩,
  ⟨some 55, .load false 1 (.t 54), none⟩,
  ⟨some 56, .call (.c (.func 36 [] [])) [.t 55], none⟩,
  ⟨some 57, .fld 3 (.t 11), none⟩,
  ⟨none, .store 1 (.t 57) (.t 56), none⟩]
def ri15_16 : List AItem := [⟨some 58, .fld 6 (.t 2), none⟩,
  ⟨some 59, .load false 1 (.t 58), none⟩,
  ⟨some 60, .call (.c (.func 34 [] [])) [.t 59], none⟩,
  ⟨some 61, .fld 6 (.t 11), none⟩,
  ⟨none, .store 1 (.t 61) (.t 60), none⟩]
def ri15_17 : List AItem := [⟨some 62, .mov (.t 1), none⟩,
  ⟨some 63, .len (.t 62), none⟩,
  ⟨some 64, .mks 16 136 [.imm (.int .i64 0), .imm (.int .i64 0), .imm (.int .i64 0), .imm (.int .i64 0), .nil, .imm (.int .i64 0), .imm (.int .i64 0), .imm (.bool false), .imm (.bool false), .imm (.int .i64 0), .imm (.int .i64 0), .imm (.int .i64 0), .imm (.int .i64 0), .imm (.int .i64 0), .imm (.int .i64 0), .imm (.bool false)] (.t 63), none⟩,
  ⟨some 65, .fld 4 (.t 11), none⟩,
  ⟨none, .store 1 (.t 65) (.t 64), none⟩]
def ri15_18 : List AItem := [⟨some 66, .mov (.t 1), none⟩,
  ⟨some 67, .len (.t 66), none⟩,
  ⟨some 68, .mov (.c (.imm (.int .i64 0))), none⟩]
def ri15_19 : List AItem := [⟨some 69, .bin .lss (.t 68) (.t 67), none⟩]
def ri15_20 : List AItem := [⟨some 70, .mov (.t 68), none⟩,
  ⟨some 71, .idx 1 (.t 66) (.t 68), none⟩,
  ⟨some 72, .load false 1 (.t 71), none⟩,
  ⟨some 12, .mov (.t 70), none⟩,
  ⟨some 13, .mov (.t 72), none⟩]
def ri15_21 : List AItem := [⟨some 73, .fld 4 (.t 2), none⟩,
  ⟨some 74, .load false 1 (.t 73), none⟩,
  ⟨some 75, .mov (.t 13), none⟩,
  ⟨some 76, .idx 16 (.t 74) (.t 75), none⟩,
  ⟨some 77, .load true 16 (.t 76), none⟩,
  ⟨some 14, .alloc 16 [[.imm (.int .i64 0), .imm (.int .i64 0), .imm (.int .i64 0), .imm (.int .i64 0), .nil, .imm (.int .i64 0), .imm (.int .i64 0), .imm (.bool false), .imm (.bool false), .imm (.int .i64 0), .imm (.int .i64 0), .imm (.int .i64 0), .imm (.int .i64 0), .imm (.int .i64 0), .imm (.int .i64 0), .imm (.bool false)]], none⟩,
  ⟨none, .store 16 (.t 14) (.t 77), none⟩]
def ri15_22 : List AItem := [⟨some 78, .fld 4 (.t 14), none⟩,
  ⟨some 79, .load false 1 (.t 78), none⟩,
  ⟨some 80, .call (.c (.func 37 [] [])) [.t 79], none⟩,
  ⟨some 81, .fld 4 (.t 14), none⟩,
  ⟨none, .store 1 (.t 81) (.t 80), none⟩]
def ri15_23 : List AItem := [⟨some 82, .fld 4 (.t 14), none⟩,
  ⟨some 83, .load false 1 (.t 82), none⟩,
  ⟨some 84, .len (.t 83), none⟩,
  ⟨some 85, .mov (.c (.imm (.int .i64 0))), none⟩]
def ri15_24 : List AItem := [⟨some 86, .bin .lss (.t 85) (.t 84), none⟩]
def ri15_25 : List AItem := [⟨some 87, .mov (.t 85), none⟩,
  ⟨some 15, .mov (.t 87), none⟩]
def ri15_26 : List AItem := [⟨some 89, .mov (.t 1), none⟩,
  ⟨some 90, .fld 4 (.t 14), none⟩,
  ⟨some 91, .load false 1 (.t 90), none⟩,
  ⟨some 92, .mov (.t 15), none⟩,
  ⟨some 93, .idx 2 (.t 91) (.t 92), none⟩,
  ⟨some 94, .fld 0 (.t 93), none⟩,
  ⟨some 95, .load false 1 (.t 94), none⟩,
  ⟨some 96, .call (.c (.func 38 [] [])) [.t 89, .t 95], none⟩,
  ⟨some 88, .mov (.t 96), none⟩,
  ⟨some 97, .ext (.t 88) 0, none⟩,
  ⟨some 98, .ext (.t 88) 1, none⟩,
  ⟨some 16, .mov (.t 97), none⟩,
  ⟨some 17, .mov (.t 98), none⟩]
def ri15_27 : List AItem := [⟨some 99, .mov (.t 17), none⟩,
  ⟨some 100, .not (.t 99), none⟩]
def ri15_28 : List AItem := [⟨some 101, .build [.imm (.int .i64 0), .nil, .nil, .nil, .nil, .imm (.int .i64 0), .nil] [], none⟩,
  ⟨none, .store 7 (.t 4) (.t 101), none⟩,
  ⟨some 5, .mov (.c (.imm (.int .i64 1))), none⟩]
def ri15_29 : List AItem := [⟨some 102, .fld 4 (.t 14), none⟩,
  ⟨some 103, .load false 1 (.t 102), none⟩,
  ⟨some 104, .mov (.t 15), none⟩,
  ⟨some 105, .mov (.t 16), none⟩,
  ⟨some 106, .idx 2 (.t 103) (.t 104), none⟩,
  ⟨some 107, .fld 0 (.t 106), none⟩,
  ⟨none, .store 1 (.t 107) (.t 105), none⟩]
def ri15_30 : List AItem := [⟨some 108, .bin .add (.t 85) (.c (.imm (.int .i64 1))), none⟩,
  ⟨some 85, .mov (.t 108), none⟩]
def ri15_31 : List AItem := [⟨some 109, .fld 4 (.t 11), none⟩,
  ⟨some 110, .load false 1 (.t 109), none⟩,
  ⟨some 111, .mov (.t 12), none⟩,
  ⟨some 112, .load true 16 (.t 14), none⟩,
  ⟨some 113, .idx 16 (.t 110) (.t 111), none⟩,
  ⟨none, .store 16 (.t 113) (.t 112), none⟩]
def ri15_32 : List AItem := [⟨some 114, .bin .add (.t 68) (.c (.imm (.int .i64 1))), none⟩,
  ⟨some 68, .mov (.t 114), none⟩]
def ri15_33 : List AItem := [⟨some 115, .load true 7 (.t 11), none⟩,
  ⟨none, .store 7 (.t 4) (.t 115), none⟩,
  ⟨some 5, .mov (.c (.imm (.int .i64 0))), none⟩]
def af15 : AFun := ⟨116, [.cell 4 true 7, .tmp 5], (
.seq (.region false [] ri15_0 (some [1, 2, 4])) (
.seq (.seq (.region false [] ri15_1 (some [1, 2, 4, 6])) (
.seq (.region false [] ri15_2 (some [1, 2, 4, 24])) (
.cond (.t 24) (.seq (.region false [] ri15_3 (some [4, 5])) (
.ret)) (.skip)))) (
.seq (.region false [] ri15_4 (some [1, 2, 4, 8])) (
.seq (.seq (.region false [] ri15_5 (some [1, 2, 4, 8, 26, 27, 28])) (
.block 0 (.loop (.seq (.region false [] ri15_6 (some [1, 2, 4, 8, 26, 27, 28, 29])) (
.seq (.cond (.t 29) (.skip) (.exit 0)) (
.seq (.block 1 (.seq (.region false [] ri15_7 (some [1, 2, 4, 8, 10, 26, 27, 28])) (
.seq (.seq (.region false [] ri15_8 (some [1, 2, 4, 10, 26, 27, 28, 41])) (
.cond (.t 41) (.seq (.region false [] ri15_9 (some [4, 5])) (
.ret)) (.skip))) (
.region false [] ri15_10 (some [1, 2, 4, 8, 26, 27, 28]))))) (
.region false [] ri15_11 (some [1, 2, 4, 8, 26, 27, 28])))))))) (
.seq (.region false [] ri15_12 (some [1, 2, 4, 11])) (
.seq (.region false [] ri15_13 (some [1, 2, 4, 11])) (
.seq (.region false [] ri15_14 (some [1, 2, 4, 11])) (
.seq (.region false [] ri15_15 (some [1, 2, 4, 11])) (
.seq (.region false [] ri15_16 (some [1, 2, 4, 11])) (
.seq (.region false [] ri15_17 (some [1, 2, 4, 11])) (
.seq (.seq (.region false [] ri15_18 (some [1, 2, 4, 11, 66, 67, 68])) (
.block 2 (.loop (.seq (.region false [] ri15_19 (some [1, 2, 4, 11, 66, 67, 68, 69])) (
.seq (.cond (.t 69) (.skip) (.exit 2)) (
.seq (.block 3 (.seq (.region false [] ri15_20 (some [1, 2, 4, 11, 12, 13, 66, 67, 68])) (
.seq (.region false [] ri15_21 (some [1, 2, 4, 11, 12, 14, 66, 67, 68])) (
.seq (.region false [] ri15_22 (some [1, 2, 4, 11, 12, 14, 66, 67, 68])) (
.seq (.seq (.region false [] ri15_23 (some [1, 2, 4, 11, 12, 14, 66, 67, 68, 84, 85])) (
.block 4 (.loop (.seq (.region false [] ri15_24 (some [1, 2, 4, 11, 12, 14, 66, 67, 68, 84, 85, 86])) (
.seq (.cond (.t 86) (.skip) (.exit 4)) (
.seq (.block 5 (.seq (.region false [] ri15_25 (some [1, 2, 4, 11, 12, 14, 15, 66, 67, 68, 84, 85])) (
.seq (.region false [] ri15_26 (some [1, 2, 4, 11, 12, 14, 15, 16, 17, 66, 67, 68, 84, 85])) (
.seq (.seq (.region false [] ri15_27 (some [1, 2, 4, 11, 12, 14, 15, 16, 66, 67, 68, 84, 85, 100])) (
.cond (.t 100) (.seq (.region false [] ri15_28 (some [4, 5])) (
.ret)) (.skip))) (
.region false [] ri15_29 (some [1, 2, 4, 11, 12, 14, 66, 67, 68, 84, 85])))))) (
.region false [] ri15_30 (some [1, 2, 4, 11, 12, 14, 66, 67, 68, 84, 85])))))))) (
.region false [] ri15_31 (some [1, 2, 4, 11, 66, 67, 68]))))))) (
.region false [] ri15_32 (some [1, 2, 4, 11, 66, 67, 68])))))))) (
.seq (.region false [] ri15_33 (some [4, 5])) (
.ret)))))))))))))⟩

def ri32_0 : List AItem := [⟨some 1, .box 7 (.t 0), none⟩,
  ⟨some 2, .mov (.c (.imm (.bool false))), none⟩]
def ri32_1 : List AItem := [⟨some 3, .fld 0 (.t 1), none⟩,
  ⟨some 4, .load false 1 (.t 3), none⟩,
  ⟨some 5, .bin .neq (.t 4) (.c (.imm (.int .i64 1))), none⟩,
  ⟨some 2, .mov (.t 5), none⟩]
def af32 : AFun := ⟨6, [.tmp 2], (
.seq (.region false [] ri32_0 (some [1])) (
.seq (.region false [] ri32_1 (some [2])) (
.ret)))⟩

def ri51_0 : List AItem := [⟨some 4, .mov (.c (.imm (.int .i64 0))), none⟩]
def ri51_1 : List AItem := [⟨some 6, .mov (.t 0), none⟩,
  ⟨some 7, .len (.t 6), none⟩,
  ⟨some 8, .mov (.c (.imm (.int .i64 0))), none⟩]
def ri51_2 : List AItem := [⟨some 9, .bin .lss (.t 8) (.t 7), none⟩]
def ri51_3 : List AItem := [⟨some 10, .mov (.t 8), none⟩,
  ⟨some 5, .mov (.t 10), none⟩]
def ri51_4 : List AItem := [⟨some 11, .mov (.t 1), none⟩,
  ⟨some 12, .mov (.t 0), none⟩,
  ⟨some 13, .mov (.t 5), none⟩,
  ⟨some 14, .idx 7 (.t 12) (.t 13), none⟩,
  ⟨some 15, .load true 7 (.t 14), none⟩,
  ⟨some 16, .call (.t 11) [.t 15], none⟩]
def ri51_5 : List AItem := [⟨some 17, .mov (.t 5), none⟩,
  ⟨some 4, .mov (.t 17), none⟩]
def ri51_6 : List AItem := [⟨some 18, .bin .add (.t 8) (.c (.imm (.int .i64 1))), none⟩,
  ⟨some 8, .mov (.t 18), none⟩]
def ri51_7 : List AItem := [⟨some 4, .mov (.c (.imm (.int .i64 (-1)))), none⟩]
def af51 : AFun := ⟨19, [.tmp 4], (
.seq (.region false [] ri51_0 (some [0, 1])) (
.seq (.seq (.region false [] ri51_1 (some [0, 1, 7, 8])) (
.block 0 (.loop (.seq (.region false [] ri51_2 (some [0, 1, 7, 8, 9])) (
.seq (.cond (.t 9) (.skip) (.exit 0)) (
.seq (.block 1 (.seq (.region false [] ri51_3 (some [0, 1, 5, 7, 8])) (
.seq (.region false [] ri51_4 (some [0, 1, 5, 7, 8, 16])) (
.cond (.t 16) (.seq (.region false [] ri51_5 (some [4])) (
.ret)) (.skip))))) (
.region false [] ri51_6 (some [0, 1, 7, 8])))))))) (
.seq (.region false [] ri51_7 (some [4])) (
.ret))))⟩

def ri31_0 : List AItem := [⟨some 4, .mov (.c (.imm (.bool false))), none⟩]
def ri31_1 : List AItem := [⟨some 5, .mov (.t 0), none⟩,
  ⟨some 6, .mov (.t 1), none⟩,
  ⟨some 7, .call (.c (.func 51 [] [])) [.t 5, .t 6], none⟩,
  ⟨some 8, .bin .geq (.t 7) (.c (.imm (.int .i64 0))), none⟩,
  ⟨some 4, .mov (.t 8), none⟩]
def af31 : AFun := ⟨9, [.tmp 4], (
.seq (.region false [] ri31_0 (some [0, 1])) (
.seq (.region false [] ri31_1 (some [4])) (
.ret)))⟩

def ri29_0 : List AItem := [⟨some 4, .mov (.c (.imm (.int .i64 0))), none⟩]
def ri29_1 : List AItem := [⟨some 5, .mov (.t 0), none⟩,
  ⟨some 6, .idxa 400 1 (.t 1) (.t 5), none⟩,
  ⟨some 7, .load false 1 (.t 6), none⟩,
  ⟨some 8, .mov (.t 0), none⟩,
  ⟨some 9, .bin .neq (.t 7) (.t 8), none⟩]
def ri29_2 : List AItem := [⟨some 10, .mov (.t 0), none⟩,
  ⟨some 11, .load false 1 (.t 2), none⟩,
  ⟨some 12, .mov (.t 0), none⟩,
  ⟨some 13, .idxa 400 1 (.t 1) (.t 12), none⟩,
  ⟨some 14, .load false 1 (.t 13), none⟩,
  ⟨some 15, .call (.t 11) [.t 14], none⟩,
  ⟨some 16, .idxa 400 1 (.t 1) (.t 10), none⟩,
  ⟨none, .store 1 (.t 16) (.t 15), none⟩]
def ri29_3 : List AItem := [⟨some 17, .mov (.t 0), none⟩,
  ⟨some 18, .idxa 400 1 (.t 1) (.t 17), none⟩,
  ⟨some 19, .load false 1 (.t 18), none⟩,
  ⟨some 4, .mov (.t 19), none⟩]
def af29 : AFun := ⟨20, [.tmp 4], (
.seq (.region false [] ri29_0 (some [0, 1, 2])) (
.seq (.seq (.region false [] ri29_1 (some [0, 1, 2, 9])) (
.cond (.t 9) (.region true [0, 0, 0, 4, 12, 30, 63, 127] ri29_2 (some [0, 1])) (.skip))) (
.seq (.region false [] ri29_3 (some [4])) (
.ret))))⟩

def ri30_0 : List AItem := [⟨some 8, .load false 1 (.t 2), none⟩,
  ⟨some 9, .mov (.t 0), none⟩,
  ⟨some 10, .call (.t 8) [.t 9], none⟩,
  ⟨some 11, .load false 1 (.t 2), none⟩,
  ⟨some 12, .mov (.t 1), none⟩,
  ⟨some 13, .call (.t 11) [.t 12], none⟩,
  ⟨some 14, .mm false (.t 10) (.t 13), none⟩,
  ⟨some 15, .load false 1 (.t 2), none⟩,
  ⟨some 16, .mov (.t 0), none⟩,
  ⟨some 17, .call (.t 15) [.t 16], none⟩,
  ⟨some 18, .load false 1 (.t 2), none⟩,
  ⟨some 19, .mov (.t 1), none⟩,
  ⟨some 20, .call (.t 18) [.t 19], none⟩,
  ⟨some 21, .mm true (.t 17) (.t 20), none⟩,
  ⟨some 6, .mov (.t 14), none⟩,
  ⟨some 7, .mov (.t 21), none⟩]
def ri30_1 : List AItem := [⟨some 22, .mov (.t 7), none⟩,
  ⟨some 23, .mov (.t 6), none⟩,
  ⟨some 24, .idxa 400 1 (.t 3) (.t 22), none⟩,
  ⟨none, .store 1 (.t 24) (.t 23), none⟩]
def af30 : AFun := ⟨25, [], (
.seq (.region true [0, 0, 3, 0, 0, 31, 63, 0, 0, 447, 0, 0, 4031, 8127, 8191, 32767] ri30_0 (some [3, 6, 7])) (
.region false [] ri30_1 (some [])))⟩

def ri33_0 : List AItem := [⟨some 4, .mov (.c (.nil)), none⟩]
def ri33_1 : List AItem := [⟨some 5, .mov (.c (.nil)), none⟩]
def ri33_2 : List AItem := [⟨some 9, .mkmap, none⟩,
  ⟨some 6, .mov (.t 9), none⟩]
def ri33_3 : List AItem := [⟨some 10, .mov (.t 0), none⟩,
  ⟨some 11, .mov (.c (.imm (.int .i64 0))), none⟩]
def ri33_4 : List AItem := [⟨some 12, .bin .lss (.t 11) (.t 10), none⟩]
def ri33_5 : List AItem := [⟨some 13, .mov (.t 11), none⟩,
  ⟨some 7, .mov (.t 13), none⟩]
def ri33_6 : List AItem := [⟨some 14, .mov (.t 1), none⟩,
  ⟨some 15, .mov (.t 7), none⟩,
  ⟨some 16, .call (.t 14) [.t 15], none⟩,
  ⟨some 8, .mov (.t 16), none⟩]
def ri33_7 : List AItem := [⟨some 17, .mov (.t 8), none⟩,
  ⟨some 18, .mov (.t 7), none⟩,
  ⟨some 19, .bin .eql (.t 17) (.t 18), none⟩]
def ri33_8 : List AItem := [⟨some 20, .mov (.t 6), none⟩,
  ⟨some 21, .mov (.t 7), none⟩,
  ⟨some 22, .mov (.t 5), none⟩,
  ⟨some 23, .len (.t 22), none⟩,
  ⟨none, .upd false (.t 20) (.t 21) (.t 23), none⟩]
def ri33_9 : List AItem := [⟨some 24, .mov (.t 5), none⟩,
  ⟨some 25, .bslice 1 [.nil] 1 [(0, .c (.nil))], none⟩,
  ⟨some 26, .app 1 24 (.t 24) (.t 25), none⟩,
  ⟨some 5, .mov (.t 26), none⟩]
def ri33_10 : List AItem := [⟨some 27, .mov (.t 5), none⟩,
  ⟨some 28, .mov (.t 6), none⟩,
  ⟨some 29, .mov (.t 8), none⟩,
  ⟨some 30, .look false (.imm (.int .i64 0)) false (.t 28) (.t 29), none⟩,
  ⟨some 31, .mov (.t 5), none⟩,
  ⟨some 32, .mov (.t 6), none⟩,
  ⟨some 33, .mov (.t 8), none⟩,
  ⟨some 34, .look false (.imm (.int .i64 0)) false (.t 32) (.t 33), none⟩,
  ⟨some 35, .idx 1 (.t 31) (.t 34), none⟩,
  ⟨some 36, .load false 1 (.t 35), none⟩,
  ⟨some 37, .mov (.t 7), none⟩,
  ⟨some 38, .bslice 1 [.imm (.int .i64 0)] 1 [(0, .t 37)], none⟩,
  ⟨some 39, .app 1 8 (.t 36) (.t 38), none⟩,
  ⟨some 40, .idx 1 (.t 27) (.t 30), none⟩,
  ⟨none, .store 1 (.t 40) (.t 39), none⟩]
def ri33_11 : List AItem := [⟨some 41, .bin .add (.t 11) (.c (.imm (.int .i64 1))), none⟩,
  ⟨some 11, .mov (.t 41), none⟩]
def ri33_12 : List AItem := [⟨some 42, .mov (.t 5), none⟩,
  ⟨some 4, .mov (.t 42), none⟩]
def af33 : AFun := ⟨43, [.tmp 4], (
.seq (.region false [] ri33_0 (some [0, 1])) (
.seq (.region false [] ri33_1 (some [0, 1, 5])) (
.seq (.region false [] ri33_2 (some [0, 1, 5, 6])) (
.seq (.seq (.region false [] ri33_3 (some [1, 5, 6, 10, 11])) (
.block 0 (.loop (.seq (.region false [] ri33_4 (some [1, 5, 6, 10, 11, 12])) (
.seq (.cond (.t 12) (.skip) (.exit 0)) (
.seq (.block 1 (.seq (.region false [] ri33_5 (some [1, 5, 6, 7, 10, 11])) (
.seq (.region false [] ri33_6 (some [1, 5, 6, 7, 8, 10, 11])) (
.seq (.seq (.region false [] ri33_7 (some [1, 5, 6, 7, 8, 10, 11, 19])) (
.cond (.t 19) (.seq (.region false [] ri33_8 (some [1, 5, 6, 7, 8, 10, 11])) (
.region false [] ri33_9 (some [1, 5, 6, 7, 8, 10, 11]))) (.skip))) (
.region true [0, 0, 0, 6, 0, 0, 0, 96, 240, 496, 0, 1024, 4080, 8191, 16383] ri33_10 (some [1, 5, 6, 10, 11])))))) (
.region false [] ri33_11 (some [1, 5, 6, 10, 11])))))))) (
.seq (.region false [] ri33_12 (some [4])) (
.ret))))))⟩

def ri13_0 : List AItem := [⟨some 1, .box 7 (.t 0), none⟩,
  ⟨some 2, .mov (.c (.nil)), none⟩]
def ri13_1 : List AItem := [⟨some 20, .load true 7 (.t 1), none⟩,
  ⟨some 21, .call (.c (.func 8 [] [])) [.t 20], none⟩,
  ⟨some 19, .mov (.t 21), none⟩,
  ⟨some 22, .ext (.t 19) 0, none⟩,
  ⟨some 23, .ext (.t 19) 1, none⟩,
  ⟨some 3, .mov (.t 22), none⟩,
  ⟨some 4, .mov (.t 23), none⟩]
def ri13_2 : List AItem := [⟨some 24, .mov (.t 3), none⟩,
  ⟨some 25, .bin .neq (.t 24) (.c (.imm (.int .i64 0))), none⟩]
def ri13_3 : List AItem := [⟨some 2, .mov (.c (.nil)), none⟩]
def ri13_4 : List AItem := [⟨some 5, .alloc 1 (List.replicate 400 [.imm (.int .i64 0)]), none⟩]
def ri13_5 : List AItem := [⟨some 26, .fld 4 (.t 1), none⟩,
  ⟨some 27, .load false 1 (.t 26), none⟩,
  ⟨some 28, .len (.t 27), none⟩,
  ⟨some 29, .mov (.c (.imm (.int .i64 0))), none⟩]
def ri13_6 : List AItem := [⟨some 30, .bin .lss (.t 29) (.t 28), none⟩]
def ri13_7 : List AItem := [⟨some 31, .mov (.t 29), none⟩,
  ⟨some 6, .mov (.t 31), none⟩]
def ri13_8 : List AItem := [⟨some 32, .mov (.t 6), none⟩,
  ⟨some 33, .mov (.t 6), none⟩,
  ⟨some 34, .idxa 400 1 (.t 5) (.t 32), none⟩,
  ⟨none, .store 1 (.t 34) (.t 33), none⟩]
def ri13_9 : List AItem := [⟨some 35, .bin .add (.t 29) (.c (.imm (.int .i64 1))), none⟩,
  ⟨some 29, .mov (.t 35), none⟩]
def ri13_10 : List AItem := [⟨some 7, .alloc 1 [[.top]], none⟩]
def ri13_11 : List AItem := [⟨some 36, .mkf 29 [] [.t 5, .t 7], none⟩,
  ⟨none, .store 1 (.t 7) (.t 36), none⟩]
def ri13_12 : List AItem := [⟨some 37, .mkf 30 [] [.t 7, .t 5], none⟩,
  ⟨some 8, .mov (.t 37), none⟩]
def ri13_13 : List AItem := [⟨some 38, .fld 3 (.t 1), none⟩,
  ⟨some 39, .load false 1 (.t 38), none⟩,
  ⟨some 40, .call (.c (.func 31 [] [])) [.t 39, .c (.func 32 [] [])], none⟩,
  ⟨some 9, .mov (.t 40), none⟩]
def ri13_14 : List AItem := [⟨some 41, .mkmap, none⟩,
  ⟨some 10, .mov (.t 41), none⟩]
def ri13_15 : List AItem := [⟨some 42, .fld 4 (.t 1), none⟩,
  ⟨some 43, .load false 1 (.t 42), none⟩,
  ⟨some 44, .len (.t 43), none⟩,
  ⟨some 45, .mov (.c (.imm (.int .i64 0))), none⟩]
def ri13_16 : List AItem := [⟨some 46, .bin .lss (.t 45) (.t 44), none⟩]
def ri13_17 : List AItem := [⟨some 47, .mov (.t 45), none⟩,
  ⟨some 48, .idx 16 (.t 43) (.t 45), none⟩,
  ⟨some 49, .load true 16 (.t 48), none⟩,
  ⟨some 12, .alloc 16 [[.imm (.int .i64 0), .imm (.int .i64 0), .imm (.int .i64 0), .imm (.int .i64 0), .nil, .imm (.int .i64 0), .imm (.int .i64 0), .imm (.bool false), .imm (.bool false), .imm (.int .i64 0), .imm (.int .i64 0), .imm (.int .i64 0), .imm (.int .i64 0), .imm (.int .i64 0), .imm (.int .i64 0), .imm (.bool false)]], none⟩,
  ⟨some 11, .mov (.t 47), none⟩,
  ⟨none, .store 16 (.t 12) (.t 49), none⟩]
def ri13_18 : List AItem := [⟨some 50, .mov (.t 9), none⟩]
def ri13_19 : List AItem := [⟨some 51, .mov (.t 8), none⟩,
  ⟨some 52, .mov (.t 11), none⟩,
  ⟨some 53, .call (.t 51) [.c (.imm (.int .i64 0)), .t 52], none⟩]
def ri13_20 : List AItem := [⟨some 54, .fld 4 (.t 12), none⟩,
  ⟨some 55, .load false 1 (.t 54), none⟩,
  ⟨some 56, .len (.t 55), none⟩,
  ⟨some 57, .mov (.c (.imm (.int .i64 0))), none⟩]
def ri13_21 : List AItem := [⟨some 58, .bin .lss (.t 57) (.t 56), none⟩]
def ri13_22 : List AItem := [⟨some 59, .idx 2 (.t 55) (.t 57), none⟩,
  ⟨some 60, .load true 2 (.t 59), none⟩,
  ⟨some 14, .alloc 2 [[.imm (.int .i64 0), .imm (.int .i64 0)]], none⟩,
  ⟨none, .store 2 (.t 14) (.t 60), none⟩]
def ri13_23 : List AItem := [⟨some 61, .mov (.t 8), none⟩,
  ⟨some 62, .mov (.t 11), none⟩,
  ⟨some 63, .fld 0 (.t 14), none⟩,
  ⟨some 64, .load false 1 (.t 63), none⟩,
  ⟨some 65, .call (.t 61) [.t 62, .t 64], none⟩]
def ri13_24 : List AItem := [⟨some 66, .bin .add (.t 57) (.c (.imm (.int .i64 1))), none⟩,
  ⟨some 57, .mov (.t 66), none⟩]
def ri13_25 : List AItem := [⟨some 67, .load true 16 (.t 12), none⟩,
  ⟨some 68, .call (.c (.func 25 [] [])) [.t 67], none⟩,
  ⟨some 69, .len (.t 68), none⟩,
  ⟨some 70, .mov (.c (.imm (.int .i64 0))), none⟩]
def ri13_26 : List AItem := [⟨some 71, .bin .lss (.t 70) (.t 69), none⟩]
def ri13_27 : List AItem := [⟨some 72, .idx 1 (.t 68) (.t 70), none⟩,
  ⟨some 73, .load false 1 (.t 72), none⟩,
  ⟨some 16, .mov (.t 73), none⟩]
def ri13_28 : List AItem := [⟨some 75, .mov (.t 10), none⟩,
  ⟨some 76, .mov (.t 16), none⟩,
  ⟨some 77, .look false (.imm (.int .i64 0)) true (.t 75) (.t 76), none⟩,
  ⟨some 74, .mov (.t 77), none⟩,
  ⟨some 78, .ext (.t 74) 0, none⟩,
  ⟨some 79, .ext (.t 74) 1, none⟩,
  ⟨some 17, .mov (.t 78), none⟩,
  ⟨some 18, .mov (.t 79), none⟩]
def ri13_29 : List AItem := [⟨some 80, .mov (.t 18), none⟩]
def ri13_30 : List AItem := [⟨some 81, .mov (.t 8), none⟩,
  ⟨some 82, .mov (.t 17), none⟩,
  ⟨some 83, .mov (.t 11), none⟩,
  ⟨some 84, .call (.t 81) [.t 82, .t 83], none⟩]
def ri13_31 : List AItem := [⟨some 85, .mov (.t 10), none⟩,
  ⟨some 86, .mov (.t 16), none⟩,
  ⟨some 87, .mov (.t 11), none⟩,
  ⟨none, .upd false (.t 85) (.t 86) (.t 87), none⟩]
def ri13_32 : List AItem := [⟨some 88, .bin .add (.t 70) (.c (.imm (.int .i64 1))), none⟩,
  ⟨some 70, .mov (.t 88), none⟩]
def ri13_33 : List AItem := [⟨some 89, .bin .add (.t 45) (.c (.imm (.int .i64 1))), none⟩,
  ⟨some 45, .mov (.t 89), none⟩]
def ri13_34 : List AItem := [⟨some 90, .fld 4 (.t 1), none⟩,
  ⟨some 91, .load false 1 (.t 90), none⟩,
  ⟨some 92, .len (.t 91), none⟩,
  ⟨some 93, .load false 1 (.t 7), none⟩,
  ⟨some 94, .call (.c (.func 33 [] [])) [.t 92, .t 93], none⟩,
  ⟨some 2, .mov (.t 94), none⟩]
def af13 : AFun := ⟨95, [.tmp 2], (
.seq (.region false [] ri13_0 (some [1])) (
.seq (.seq (.region false [] ri13_1 (some [1, 3])) (
.seq (.region false [] ri13_2 (some [1, 25])) (
.cond (.t 25) (.seq (.region false [] ri13_3 (some [2])) (
.ret)) (.skip)))) (
.seq (.region false [] ri13_4 (some [1, 5])) (
.seq (.seq (.region false [] ri13_5 (some [1, 5, 28, 29])) (
.block 0 (.loop (.seq (.region false [] ri13_6 (some [1, 5, 28, 29, 30])) (
.seq (.cond (.t 30) (.skip) (.exit 0)) (
.seq (.block 1 (.seq (.region false [] ri13_7 (some [1, 5, 6, 28, 29])) (
.region false [] ri13_8 (some [1, 5, 28, 29])))) (
.region false [] ri13_9 (some [1, 5, 28, 29])))))))) (
.seq (.region false [] ri13_10 (some [1, 5, 7])) (
.seq (.region false [] ri13_11 (some [1, 5, 7])) (
.seq (.region false [] ri13_12 (some [1, 7, 8])) (
.seq (.region false [] ri13_13 (some [1, 7, 8, 9])) (
.seq (.region false [] ri13_14 (some [1, 7, 8, 9, 10])) (
.seq (.seq (.region false [] ri13_15 (some [1, 7, 8, 9, 10, 43, 44, 45])) (
.block 2 (.loop (.seq (.region false [] ri13_16 (some [1, 7, 8, 9, 10, 43, 44, 45, 46])) (
.seq (.cond (.t 46) (.skip) (.exit 2)) (
.seq (.block 3 (.seq (.region false [] ri13_17 (some [1, 7, 8, 9, 10, 11, 12, 43, 44, 45])) (
.seq (.seq (.region false [] ri13_18 (some [1, 7, 8, 9, 10, 11, 12, 43, 44, 45, 50])) (
.cond (.t 50) (.region false [] ri13_19 (some [1, 7, 8, 9, 10, 11, 12, 43, 44, 45])) (.skip))) (
.seq (.seq (.region false [] ri13_20 (some [1, 7, 8, 9, 10, 11, 12, 43, 44, 45, 55, 56, 57])) (
.block 4 (.loop (.seq (.region false [] ri13_21 (some [1, 7, 8, 9, 10, 11, 12, 43, 44, 45, 55, 56, 57, 58])) (
.seq (.cond (.t 58) (.skip) (.exit 4)) (
.seq (.block 5 (.seq (.region false [] ri13_22 (some [1, 7, 8, 9, 10, 11, 12, 14, 43, 44, 45, 55, 56, 57])) (
.region false [] ri13_23 (some [1, 7, 8, 9, 10, 11, 12, 43, 44, 45, 55, 56, 57])))) (
.region false [] ri13_24 (some [1, 7, 8, 9, 10, 11, 12, 43, 44, 45, 55, 56, 57])))))))) (
.seq (.region false [] ri13_25 (some [1, 7, 8, 9, 10, 11, 43, 44, 45, 68, 69, 70])) (
.block 6 (.loop (.seq (.region false [] ri13_26 (some [1, 7, 8, 9, 10, 11, 43, 44, 45, 68, 69, 70, 71])) (
.seq (.cond (.t 71) (.skip) (.exit 6)) (
.seq (.block 7 (.seq (.region false [] ri13_27 (some [1, 7, 8, 9, 10, 11, 16, 43, 44, 45, 68, 69, 70])) (
.seq (.region false [] ri13_28 (some [1, 7, 8, 9, 10, 11, 16, 17, 18, 43, 44, 45, 68, 69, 70])) (
.seq (.region false [] ri13_29 (some [1, 7, 8, 9, 10, 11, 16, 17, 43, 44, 45, 68, 69, 70, 80])) (
.cond (.t 80) (.region false [] ri13_30 (some [1, 7, 8, 9, 10, 11, 43, 44, 45, 68, 69, 70])) (.region false [] ri13_31 (some [1, 7, 8, 9, 10, 11, 43, 44, 45, 68, 69, 70]))))))) (
.region false [] ri13_32 (some [1, 7, 8, 9, 10, 11, 43, 44, 45, 68, 69, 70])))))))))))) (
.region false [] ri13_33 (some [1, 7, 8, 9, 10, 43, 44, 45])))))))) (
.seq (.region false [] ri13_34 (some [2])) (
.ret))))))))))))⟩

def ri21_0 : List AItem := [⟨some 0, .alloc 2 [[.imm (.int .i64 0), .imm (.int .i64 0)]], none⟩]
def ri21_1 : List AItem := [⟨some 1, .build [.imm (.int .i64 0), .imm (.int .i64 0)] [(1, 1, .c (.imm (.int .i64 1)))], none⟩,
  ⟨none, .store 2 (.t 0) (.t 1), none⟩]
def af21 : AFun := ⟨2, [.cell 0 true 2], (
.seq (.region false [] ri21_0 (some [0])) (
.seq (.region false [] ri21_1 (some [0])) (
.ret)))⟩

def ri9_0 : List AItem := [⟨some 6, .alloc 16 [[.imm (.int .i64 0), .imm (.int .i64 0), .imm (.int .i64 0), .imm (.int .i64 0), .nil, .imm (.int .i64 0), .imm (.int .i64 0), .imm (.bool false), .imm (.bool false), .imm (.int .i64 0), .imm (.int .i64 0), .imm (.int .i64 0), .imm (.int .i64 0), .imm (.int .i64 0), .imm (.int .i64 0), .imm (.bool false)]], none⟩]
def ri9_1 : List AItem := [⟨some 7, .mov (.t 0), none⟩,
  ⟨some 8, .mov (.t 1), none⟩,
  ⟨some 9, .mov (.t 2), none⟩,
  ⟨some 10, .call (.c (.func 21 [] [])) [], none⟩,
  ⟨some 11, .build [.imm (.int .i64 0), .imm (.int .i64 0), .imm (.int .i64 0), .imm (.int .i64 0), .nil, .imm (.int .i64 0), .imm (.int .i64 0), .imm (.bool false), .imm (.bool false), .imm (.int .i64 0), .imm (.int .i64 0), .imm (.int .i64 0), .imm (.int .i64 0), .imm (.int .i64 0), .imm (.int .i64 0), .imm (.bool false)] [(0, 1, .t 7), (2, 1, .t 8), (3, 1, .c (.imm (.int .i64 1))), (4, 1, .t 9), (5, 1, .c (.imm (.int .i64 3))), (9, 1, .c (.imm (.int .i64 (-1)))), (10, 1, .c (.imm (.int .i64 (-1)))), (11, 2, .t 10), (13, 1, .c (.imm (.int .i64 (-1)))), (14, 1, .c (.imm (.int .i64 (-1))))], none⟩,
  ⟨none, .store 16 (.t 6) (.t 11), none⟩]
def af9 : AFun := ⟨12, [.cell 6 true 16], (
.seq (.region false [] ri9_0 (some [0, 1, 2, 6])) (
.seq (.region false [] ri9_1 (some [6])) (
.ret)))⟩

def ri17_0 : List AItem := [⟨some 0, .alloc 7 [[.imm (.int .i64 0), .nil, .nil, .nil, .nil, .imm (.int .i64 0), .nil]], none⟩]
def ri17_1 : List AItem := [⟨some 1, .bslice 1 [.imm (.int .i64 0)] 1 [(0, .c (.imm (.int .i64 0)))], none⟩,
  ⟨some 2, .call (.c (.func 21 [] [])) [], none⟩,
  ⟨some 3, .build [.imm (.int .i64 0), .imm (.int .i64 0), .imm (.int .i64 0), .imm (.int .i64 0), .imm (.int .i64 0), .imm (.int .i64 0), .imm (.int .i64 0)] [(0, 1, .c (.imm (.int .i64 1))), (3, 1, .c (.imm (.int .i64 (-1)))), (4, 1, .c (.imm (.int .i64 (-1)))), (5, 2, .t 2)], none⟩,
  ⟨some 4, .call (.c (.func 21 [] [])) [], none⟩,
  ⟨some 5, .build [.imm (.int .i64 0), .imm (.int .i64 0), .imm (.int .i64 0), .imm (.int .i64 0), .imm (.int .i64 0), .imm (.int .i64 0), .imm (.int .i64 0)] [(0, 1, .c (.imm (.int .i64 1))), (3, 1, .c (.imm (.int .i64 (-1)))), (4, 1, .c (.imm (.int .i64 (-1)))), (5, 2, .t 4)], none⟩,
  ⟨some 6, .bslice 7 [.imm (.int .i64 0), .imm (.int .i64 0), .imm (.int .i64 0), .imm (.int .i64 0), .imm (.int .i64 0), .imm (.int .i64 0), .imm (.int .i64 0)] 2 [(0, .t 3), (1, .t 5)], none⟩,
  ⟨some 7, .call (.c (.func 9 [] [])) [.c (.imm (.int .i64 1)), .c (.imm (.int .i64 0)), .c (.nil)], none⟩,
  ⟨some 8, .call (.c (.func 9 [] [])) [.c (.imm (.int .i64 2)), .c (.imm (.int .i64 1)), .c (.nil)], none⟩,
  ⟨some 9, .call (.c (.func 9 [] [])) [.c (.imm (.int .i64 3)), .c (.imm (.int .i64 1)), .c (.nil)], none⟩,
  ⟨some 10, .bslice 16 [.imm (.int .i64 0), .imm (.int .i64 0), .imm (.int .i64 0), .imm (.int .i64 0), .nil, .imm (.int .i64 0), .imm (.int .i64 0), .imm (.bool false), .imm (.bool false), .imm (.int .i64 0), .imm (.int .i64 0), .imm (.int .i64 0), .imm (.int .i64 0), .imm (.int .i64 0), .imm (.int .i64 0), .imm (.bool false)] 3 [(0, .t 7), (1, .t 8), (2, .t 9)], none⟩,
  ⟨some 11, .build [.imm (.int .i64 0), .nil, .nil, .nil, .nil, .imm (.int .i64 0), .nil] [(0, 1, .c (.imm (.int .i64 1))), (1, 1, .t 1), (3, 1, .t 6), (4, 1, .t 10), (5, 1, .c (.imm (.int .i64 9)))], none⟩,
  ⟨none, .store 7 (.t 0) (.t 11), none⟩]
def af17 : AFun := ⟨12, [.cell 0 true 7], (
.seq (.region false [] ri17_0 (some [0])) (
.seq (.region false [] ri17_1 (some [0])) (
.ret)))⟩

def ri6_0 : List AItem := [⟨some 0, .mov (.c (.imm (.bool false))), none⟩]
def ri6_1 : List AItem := [⟨some 15, .call (.c (.func 17 [] [])) [], none⟩,
  ⟨some 1, .alloc 7 [[.imm (.int .i64 0), .nil, .nil, .nil, .nil, .imm (.int .i64 0), .nil]], none⟩,
  ⟨none, .store 7 (.t 1) (.t 15), none⟩]
def ri6_2 : List AItem := [⟨some 17, .load true 7 (.t 1), none⟩,
  ⟨some 18, .call (.c (.func 8 [] [])) [.t 17], none⟩,
  ⟨some 16, .mov (.t 18), none⟩,
  ⟨some 19, .ext (.t 16) 0, none⟩,
  ⟨some 20, .ext (.t 16) 1, none⟩,
  ⟨some 2, .mov (.t 19), none⟩,
  ⟨some 3, .mov (.t 20), none⟩]
def ri6_3 : List AItem := [⟨some 21, .load true 7 (.t 1), none⟩,
  ⟨some 22, .call (.c (.func 13 [] [])) [.t 21], none⟩,
  ⟨some 4, .mov (.t 22), none⟩]
def ri6_4 : List AItem := [⟨some 24, .load true 7 (.t 1), none⟩,
  ⟨some 25, .bslice 1 [.imm (.int .i64 0)] 2 [(0, .c (.imm (.int .i64 1))), (1, .c (.imm (.int .i64 2)))], none⟩,
  ⟨some 26, .call (.c (.func 15 [] [])) [.t 24, .t 25], none⟩,
  ⟨some 23, .mov (.t 26), none⟩,
  ⟨some 27, .ext (.t 23) 0, none⟩,
  ⟨some 28, .ext (.t 23) 1, none⟩,
  ⟨some 5, .alloc 7 [[.imm (.int .i64 0), .nil, .nil, .nil, .nil, .imm (.int .i64 0), .nil]], none⟩,
  ⟨none, .store 7 (.t 5) (.t 27), none⟩,
  ⟨some 6, .mov (.t 28), none⟩]
def ri6_5 : List AItem := [⟨some 29, .fld 4 (.t 1), none⟩,
  ⟨some 30, .load false 1 (.t 29), none⟩,
  ⟨some 31, .build [.imm (.int .i64 0), .imm (.int .i64 0)] [(0, 1, .c (.imm (.int .i64 0))), (1, 1, .c (.imm (.int .i64 2)))], none⟩,
  ⟨some 32, .bslice 2 [.imm (.int .i64 0), .imm (.int .i64 0)] 1 [(0, .t 31)], none⟩,
  ⟨some 33, .idx 16 (.t 30) (.c (.imm (.int .i64 1))), none⟩,
  ⟨some 34, .fld 4 (.t 33), none⟩,
  ⟨none, .store 1 (.t 34) (.t 32), none⟩]
def ri6_6 : List AItem := [⟨some 36, .load true 7 (.t 1), none⟩,
  ⟨some 37, .bslice 1 [.imm (.int .i64 0)] 1 [(0, .c (.imm (.int .i64 1)))], none⟩,
  ⟨some 38, .call (.c (.func 15 [] [])) [.t 36, .t 37], none⟩,
  ⟨some 35, .mov (.t 38), none⟩,
  ⟨some 39, .ext (.t 35) 0, none⟩,
  ⟨some 40, .ext (.t 35) 1, none⟩,
  ⟨some 7, .alloc 7 [[.imm (.int .i64 0), .nil, .nil, .nil, .nil, .imm (.int .i64 0), .nil]], none⟩,
  ⟨none, .store 7 (.t 7) (.t 39), none⟩,
  ⟨some 8, .mov (.t 40), none⟩]
def ri6_7 : List AItem := [⟨some 41, .load true 7 (.t 1), none⟩,
  ⟨some 42, .call (.c (.func 13 [] [])) [.t 41], none⟩,
  ⟨some 9, .mov (.t 42), none⟩]
def ri6_8 : List AItem := [⟨some 43, .fld 4 (.t 1), none⟩,
  ⟨some 44, .load false 1 (.t 43), none⟩,
  ⟨some 45, .idx 16 (.t 44) (.c (.imm (.int .i64 2))), none⟩,
  ⟨some 46, .fld 3 (.t 45), none⟩,
  ⟨none, .store 1 (.t 46) (.c (.imm (.int .i64 2))), none⟩]
def ri6_9 : List AItem := [⟨some 48, .load true 7 (.t 1), none⟩,
  ⟨some 49, .call (.c (.func 8 [] [])) [.t 48], none⟩,
  ⟨some 47, .mov (.t 49), none⟩,
  ⟨some 50, .ext (.t 47) 0, none⟩,
  ⟨some 51, .ext (.t 47) 1, none⟩,
  ⟨some 10, .mov (.t 50), none⟩,
  ⟨some 11, .mov (.t 51), none⟩]
def ri6_10 : List AItem := [⟨some 52, .fld 5 (.t 1), none⟩,
  ⟨none, .store 1 (.t 52) (.c (.imm (.int .i64 2001))), none⟩]
def ri6_11 : List AItem := [⟨some 54, .load true 7 (.t 1), none⟩,
  ⟨some 55, .call (.c (.func 8 [] [])) [.t 54], none⟩,
  ⟨some 53, .mov (.t 55), none⟩,
  ⟨some 56, .ext (.t 53) 0, none⟩,
  ⟨some 57, .ext (.t 53) 1, none⟩,
  ⟨some 12, .mov (.t 56), none⟩,
  ⟨some 13, .mov (.t 57), none⟩]
def ri6_12 : List AItem := [⟨some 58, .mov (.t 4), none⟩,
  ⟨some 59, .len (.t 58), none⟩,
  ⟨some 60, .bin .neq (.t 59) (.c (.imm (.int .i64 2))), none⟩,
  ⟨some 61, .mov (.t 60), none⟩,
  ⟨some 62, .mov (.t 9), some (61, false)⟩,
  ⟨some 63, .len (.t 62), some (61, false)⟩,
  ⟨some 64, .bin .neq (.t 63) (.c (.imm (.int .i64 1))), some (61, false)⟩,
  ⟨some 65, .pick (.t 61) (.c (.imm (.bool true))) (.t 64), none⟩,
  ⟨some 66, .mov (.t 65), none⟩,
  ⟨some 67, .fld 4 (.t 5), some (66, false)⟩,
  ⟨some 68, .load false 1 (.t 67), some (66, false)⟩,
  ⟨some 69, .len (.t 68), some (66, false)⟩,
  ⟨some 70, .bin .neq (.t 69) (.c (.imm (.int .i64 2))), some (66, false)⟩,
  ⟨some 71, .pick (.t 66) (.c (.imm (.bool true))) (.t 70), none⟩]
def ri6_13 : List AItem := [⟨some 0, .mov (.c (.imm (.bool false))), none⟩]
def ri6_14 : List AItem := [⟨some 72, .mov (.t 2), none⟩,
  ⟨some 73, .bin .eql (.t 72) (.c (.imm (.int .i64 0))), none⟩,
  ⟨some 74, .mov (.t 73), none⟩,
  ⟨some 75, .mov (.t 3), some (74, true)⟩,
  ⟨some 76, .bin .eql (.t 75) (.c (.imm (.int .i64 (-1)))), some (74, true)⟩,
  ⟨some 77, .pick (.t 74) (.t 76) (.c (.imm (.bool false))), none⟩,
  ⟨some 78, .mov (.t 77), none⟩,
  ⟨some 79, .mov (.t 4), some (78, true)⟩,
  ⟨some 80, .idx 1 (.t 79) (.c (.imm (.int .i64 0))), some (78, true)⟩,
  ⟨some 81, .load false 1 (.t 80), some (78, true)⟩,
  ⟨some 82, .bslice 1 [.imm (.int .i64 0)] 1 [(0, .c (.imm (.int .i64 0)))], some (78, true)⟩,
  ⟨some 83, .call (.c (.func 18 [] [])) [.t 81, .t 82], some (78, true)⟩,
  ⟨some 84, .pick (.t 78) (.t 83) (.c (.imm (.bool false))), none⟩,
  ⟨some 85, .mov (.t 84), none⟩,
  ⟨some 86, .mov (.t 4), some (85, true)⟩,
  ⟨some 87, .idx 1 (.t 86) (.c (.imm (.int .i64 1))), some (85, true)⟩,
  ⟨some 88, .load false 1 (.t 87), some (85, true)⟩,
  ⟨some 89, .bslice 1 [.imm (.int .i64 0)] 2 [(0, .c (.imm (.int .i64 1))), (1, .c (.imm (.int .i64 2)))], some (85, true)⟩,
  ⟨some 90, .call (.c (.func 18 [] [])) [.t 88, .t 89], some (85, true)⟩,
  ⟨some 91, .pick (.t 85) (.t 90) (.c (.imm (.bool false))), none⟩,
  ⟨some 92, .mov (.t 91), none⟩,
  ⟨some 93, .mov (.t 9), some (92, true)⟩,
  ⟨some 94, .idx 1 (.t 93) (.c (.imm (.int .i64 0))), some (92, true)⟩,
  ⟨some 95, .load false 1 (.t 94), some (92, true)⟩,
  ⟨some 96, .bslice 1 [.imm (.int .i64 0)] 3 [(0, .c (.imm (.int .i64 0))), (1, .c (.imm (.int .i64 1))), (2, .c (.imm (.int .i64 2)))], some (92, true)⟩,
  ⟨some 97, .call (.c (.func 18 [] [])) [.t 95, .t 96], some (92, true)⟩,
  ⟨some 98, .pick (.t 92) (.t 97) (.c (.imm (.bool false))), none⟩,
  ⟨some 99, .mov (.t 98), none⟩,
  ⟨some 100, .mov (.t 6), some (99, true)⟩,
  ⟨some 101, .bin .eql (.t 100) (.c (.imm (.int .i64 0))), some (99, true)⟩,
  ⟨some 102, .pick (.t 99) (.t 101) (.c (.imm (.bool false))), none⟩,
  ⟨some 103, .mov (.t 102), none⟩,
  ⟨some 104, .fld 4 (.t 5), some (103, true)⟩,
  ⟨some 105, .load false 1 (.t 104), some (103, true)⟩,
  ⟨some 106, .idx 16 (.t 105) (.c (.imm (.int .i64 0))), some (103, true)⟩,
  ⟨some 107, .fld 0 (.t 106), some (103, true)⟩,
  ⟨some 108, .load false 1 (.t 107), some (103, true)⟩,
  ⟨some 109, .bin .eql (.t 108) (.c (.imm (.int .i64 2))), some (103, true)⟩,
  ⟨some 110, .pick (.t 103) (.t 109) (.c (.imm (.bool false))), none⟩,
  ⟨some 14, .mov (.t 110), none⟩]
def ri6_15 : List AItem := [⟨some 111, .mov (.t 14), none⟩,
  ⟨some 112, .mov (.t 111), none⟩,
  ⟨some 113, .mov (.t 8), some (112, true)⟩,
  ⟨some 114, .bin .eql (.t 113) (.c (.imm (.int .i64 1))), some (112, true)⟩,
  ⟨some 115, .pick (.t 112) (.t 114) (.c (.imm (.bool false))), none⟩,
  ⟨some 116, .mov (.t 115), none⟩,
  ⟨some 117, .mov (.t 10), some (116, true)⟩,
  ⟨some 118, .bin .eql (.t 117) (.c (.imm (.int .i64 1))), some (116, true)⟩,
  ⟨some 119, .pick (.t 116) (.t 118) (.c (.imm (.bool false))), none⟩,
  ⟨some 120, .mov (.t 119), none⟩,
  ⟨some 121, .mov (.t 11), some (120, true)⟩,
  ⟨some 122, .bin .eql (.t 121) (.c (.imm (.int .i64 2))), some (120, true)⟩,
  ⟨some 123, .pick (.t 120) (.t 122) (.c (.imm (.bool false))), none⟩,
  ⟨some 124, .mov (.t 123), none⟩,
  ⟨some 125, .mov (.t 12), some (124, true)⟩,
  ⟨some 126, .bin .eql (.t 125) (.c (.imm (.int .i64 3))), some (124, true)⟩,
  ⟨some 127, .pick (.t 124) (.t 126) (.c (.imm (.bool false))), none⟩,
  ⟨some 128, .mov (.t 127), none⟩,
  ⟨some 129, .mov (.t 13), some (128, true)⟩,
  ⟨some 130, .bin .eql (.t 129) (.c (.imm (.int .i64 (-1)))), some (128, true)⟩,
  ⟨some 131, .pick (.t 128) (.t 130) (.c (.imm (.bool false))), none⟩,
  ⟨some 132, .mov (.t 131), none⟩,
  ⟨some 133, .call (.c (.func 17 [] [])) [], some (132, true)⟩,
  ⟨some 134, .call (.c (.func 12 [] [])) [.t 133, .c (.imm (.int .i64 1)), .c (.imm (.int .i64 2))], some (132, true)⟩,
  ⟨some 135, .pick (.t 132) (.t 134) (.c (.imm (.bool false))), none⟩,
  ⟨some 136, .mov (.t 135), none⟩,
  ⟨some 137, .call (.c (.func 17 [] [])) [], some (136, true)⟩,
  ⟨some 138, .call (.c (.func 12 [] [])) [.t 137, .c (.imm (.int .i64 0)), .c (.imm (.int .i64 2))], some (136, true)⟩,
  ⟨some 139, .not (.t 138), some (136, true)⟩,
  ⟨some 140, .pick (.t 136) (.t 139) (.c (.imm (.bool false))), none⟩,
  ⟨some 0, .mov (.t 140), none⟩]
def af6 : AFun := ⟨141, [.tmp 0], (
.seq (.region false [] ri6_0 (some [])) (
.seq (.region false [] ri6_1 (some [1])) (
.seq (.region false [] ri6_2 (some [1, 2, 3])) (
.seq (.region false [] ri6_3 (some [1, 2, 3, 4])) (
.seq (.region false [] ri6_4 (some [1, 2, 3, 4, 5, 6])) (
.seq (.region false [] ri6_5 (some [1, 2, 3, 4, 5, 6])) (
.seq (.region false [] ri6_6 (some [1, 2, 3, 4, 5, 6, 8])) (
.seq (.region false [] ri6_7 (some [1, 2, 3, 4, 5, 6, 8, 9])) (
.seq (.region false [] ri6_8 (some [1, 2, 3, 4, 5, 6, 8, 9])) (
.seq (.region false [] ri6_9 (some [1, 2, 3, 4, 5, 6, 8, 9, 10, 11])) (
.seq (.region false [] ri6_10 (some [1, 2, 3, 4, 5, 6, 8, 9, 10, 11])) (
.seq (.region false [] ri6_11 (some [2, 3, 4, 5, 6, 8, 9, 10, 11, 12, 13])) (
.seq (.seq (.region false [] ri6_12 (some [2, 3, 4, 5, 6, 8, 9, 10, 11, 12, 13, 71])) (
.cond (.t 71) (.seq (.region false [] ri6_13 (some [0])) (
.ret)) (.skip))) (
.seq (.region false [] ri6_14 (some [8, 10, 11, 12, 13, 14])) (
.seq (.region false [] ri6_15 (some [0])) (
.ret))))))))))))))))⟩

def ri0_0 : List AItem := [⟨some 1, .box 7 (.t 0), none⟩,
  ⟨some 2, .mov (.c (.imm (.bool false))), none⟩]
def ri0_1 : List AItem := [⟨some 9, .call (.c (.func 6 [] [])) [], none⟩,
  ⟨some 3, .mov (.t 9), none⟩]
def ri0_2 : List AItem := [⟨some 10, .load true 7 (.t 1), none⟩,
  ⟨some 11, .call (.c (.func 7 [] [])) [.t 10, .c (.imm (.int .i64 60))], none⟩,
  ⟨some 12, .not (.t 11), none⟩]
def ri0_3 : List AItem := [⟨some 13, .mov (.t 3), none⟩,
  ⟨some 2, .mov (.t 13), none⟩]
def ri0_4 : List AItem := [⟨some 15, .load true 7 (.t 1), none⟩,
  ⟨some 16, .call (.c (.func 8 [] [])) [.t 15], none⟩,
  ⟨some 14, .mov (.t 16), none⟩,
  ⟨some 17, .ext (.t 14) 0, none⟩,
  ⟨some 18, .ext (.t 14) 1, none⟩,
  ⟨some 4, .mov (.t 17), none⟩,
  ⟨some 5, .mov (.t 18), none⟩]
def ri0_5 : List AItem := [⟨some 19, .mov (.t 4), none⟩,
  ⟨some 20, .bin .eql (.t 19) (.c (.imm (.int .i64 0))), none⟩]
def ri0_6 : List AItem := [⟨some 21, .mov (.t 3), none⟩,
  ⟨some 22, .mov (.t 21), none⟩,
  ⟨some 23, .mov (.t 5), some (22, true)⟩,
  ⟨some 24, .bin .eql (.t 23) (.c (.imm (.int .i64 (-1)))), some (22, true)⟩,
  ⟨some 25, .pick (.t 22) (.t 24) (.c (.imm (.bool false))), none⟩,
  ⟨some 2, .mov (.t 25), none⟩]
def ri0_7 : List AItem := [⟨some 26, .mov (.t 5), none⟩,
  ⟨some 27, .bin .lss (.t 26) (.c (.imm (.int .i64 0))), none⟩,
  ⟨some 28, .mov (.t 27), none⟩,
  ⟨some 29, .fld 3 (.t 1), some (28, false)⟩,
  ⟨some 30, .load false 1 (.t 29), some (28, false)⟩,
  ⟨some 31, .len (.t 30), some (28, false)⟩,
  ⟨some 32, .bin .eql (.t 31) (.c (.imm (.int .i64 0))), some (28, false)⟩,
  ⟨some 33, .pick (.t 28) (.c (.imm (.bool true))) (.t 32), none⟩]
def ri0_8 : List AItem := [⟨some 34, .mov (.t 3), none⟩,
  ⟨some 35, .mov (.t 34), none⟩,
  ⟨some 36, .mov (.t 5), some (35, true)⟩,
  ⟨some 37, .bin .geq (.t 36) (.c (.imm (.int .i64 (-1)))), some (35, true)⟩,
  ⟨some 38, .pick (.t 35) (.t 37) (.c (.imm (.bool false))), none⟩,
  ⟨some 39, .mov (.t 38), none⟩,
  ⟨some 40, .mov (.t 4), some (39, true)⟩,
  ⟨some 41, .bin .eql (.t 40) (.c (.imm (.int .i64 1))), some (39, true)⟩,
  ⟨some 42, .mov (.t 41), some (39, true)⟩,
  ⟨some 43, .mov (.t 4), some (42, false)⟩,
  ⟨some 44, .bin .eql (.t 43) (.c (.imm (.int .i64 3))), some (42, false)⟩,
  ⟨some 45, .mov (.t 44), some (42, false)⟩,
  ⟨some 46, .mov (.t 5), some (45, true)⟩,
  ⟨some 47, .bin .eql (.t 46) (.c (.imm (.int .i64 (-1)))), some (45, true)⟩,
  ⟨some 48, .pick (.t 45) (.t 47) (.c (.imm (.bool false))), some (42, false)⟩,
  ⟨some 49, .pick (.t 42) (.c (.imm (.bool true))) (.t 48), some (39, true)⟩,
  ⟨some 50, .pick (.t 39) (.t 49) (.c (.imm (.bool false))), none⟩,
  ⟨some 2, .mov (.t 50), none⟩]
def ri0_9 : List AItem := [⟨some 51, .mov (.t 4), none⟩,
  ⟨some 52, .bin .neq (.t 51) (.c (.imm (.int .i64 1))), none⟩,
  ⟨some 53, .mov (.t 52), none⟩,
  ⟨some 54, .mov (.t 5), some (53, false)⟩,
  ⟨some 55, .fld 4 (.t 1), some (53, false)⟩,
  ⟨some 56, .load false 1 (.t 55), some (53, false)⟩,
  ⟨some 57, .len (.t 56), some (53, false)⟩,
  ⟨some 58, .bin .geq (.t 54) (.t 57), some (53, false)⟩,
  ⟨some 59, .pick (.t 53) (.c (.imm (.bool true))) (.t 58), none⟩]
def ri0_10 : List AItem := [⟨some 2, .mov (.c (.imm (.bool false))), none⟩]
def ri0_11 : List AItem := [⟨some 60, .load true 7 (.t 1), none⟩,
  ⟨some 6, .alloc 7 [[.imm (.int .i64 0), .nil, .nil, .nil, .nil, .imm (.int .i64 0), .nil]], none⟩,
  ⟨none, .store 7 (.t 6) (.t 60), none⟩]
def ri0_12 : List AItem := [⟨some 61, .bslice 16 [.imm (.int .i64 0), .imm (.int .i64 0), .imm (.int .i64 0), .imm (.int .i64 0), .nil, .imm (.int .i64 0), .imm (.int .i64 0), .imm (.bool false), .imm (.bool false), .imm (.int .i64 0), .imm (.int .i64 0), .imm (.int .i64 0), .imm (.int .i64 0), .imm (.int .i64 0), .imm (.int .i64 0), .imm (.bool false)] 0 [], none⟩,
  ⟨some 62, .fld 4 (.t 1), none⟩,
  ⟨some 63, .load false 1 (.t 62), none⟩,
  ⟨some 64, .app 16 136 (.t 61) (.t 63), none⟩,
  ⟨some 65, .fld 4 (.t 6), none⟩,
  ⟨none, .store 1 (.t 65) (.t 64), none⟩]
def ri0_13 : List AItem := [⟨some 66, .fld 4 (.t 6), none⟩,
  ⟨some 67, .load false 1 (.t 66), none⟩,
  ⟨some 68, .mov (.t 5), none⟩,
  ⟨some 69, .call (.c (.func 9 [] [])) [.c (.imm (.int .i64 4)), .c (.imm (.int .i64 0)), .c (.nil)], none⟩,
  ⟨some 70, .idx 16 (.t 67) (.t 68), none⟩,
  ⟨none, .store 16 (.t 70) (.t 69), none⟩]
def ri0_14 : List AItem := [⟨some 71, .fld 4 (.t 6), none⟩,
  ⟨some 72, .load false 1 (.t 71), none⟩,
  ⟨some 73, .mov (.t 5), none⟩,
  ⟨some 74, .idx 16 (.t 72) (.t 73), none⟩,
  ⟨some 75, .fld 1 (.t 74), none⟩,
  ⟨none, .store 1 (.t 75) (.c (.imm (.int .i64 (-1)))), none⟩]
def ri0_15 : List AItem := [⟨some 77, .load true 7 (.t 6), none⟩,
  ⟨some 78, .call (.c (.func 8 [] [])) [.t 77], none⟩,
  ⟨some 76, .mov (.t 78), none⟩,
  ⟨some 79, .ext (.t 76) 0, none⟩,
  ⟨some 80, .ext (.t 76) 1, none⟩,
  ⟨some 7, .mov (.t 79), none⟩,
  ⟨some 8, .mov (.t 80), none⟩]
def ri0_16 : List AItem := [⟨some 81, .mov (.t 3), none⟩,
  ⟨some 82, .mov (.t 81), none⟩,
  ⟨some 83, .mov (.t 7), some (82, true)⟩,
  ⟨some 84, .bin .eql (.t 83) (.c (.imm (.int .i64 0))), some (82, true)⟩,
  ⟨some 85, .mov (.t 84), some (82, true)⟩,
  ⟨some 86, .mov (.t 8), some (85, true)⟩,
  ⟨some 87, .bin .eql (.t 86) (.c (.imm (.int .i64 (-1)))), some (85, true)⟩,
  ⟨some 88, .pick (.t 85) (.t 87) (.c (.imm (.bool false))), some (82, true)⟩,
  ⟨some 89, .mov (.t 88), some (82, true)⟩,
  ⟨some 90, .mov (.t 7), some (89, false)⟩,
  ⟨some 91, .bin .eql (.t 90) (.c (.imm (.int .i64 1))), some (89, false)⟩,
  ⟨some 92, .mov (.t 91), some (89, false)⟩,
  ⟨some 93, .mov (.t 8), some (92, true)⟩,
  ⟨some 94, .mov (.t 5), some (92, true)⟩,
  ⟨some 95, .bin .gtr (.t 93) (.t 94), some (92, true)⟩,
  ⟨some 96, .pick (.t 92) (.t 95) (.c (.imm (.bool false))), some (89, false)⟩,
  ⟨some 97, .mov (.t 96), some (89, false)⟩,
  ⟨some 98, .mov (.t 8), some (97, true)⟩,
  ⟨some 99, .fld 4 (.t 1), some (97, true)⟩,
  ⟨some 100, .load false 1 (.t 99), some (97, true)⟩,
  ⟨some 101, .len (.t 100), some (97, true)⟩,
  ⟨some 102, .bin .lss (.t 98) (.t 101), some (97, true)⟩,
  ⟨some 103, .pick (.t 97) (.t 102) (.c (.imm (.bool false))), some (89, false)⟩,
  ⟨some 104, .pick (.t 89) (.c (.imm (.bool true))) (.t 103), some (82, true)⟩,
  ⟨some 105, .pick (.t 82) (.t 104) (.c (.imm (.bool false))), none⟩,
  ⟨some 2, .mov (.t 105), none⟩]
def af0 : AFun := ⟨106, [.tmp 2], (
.seq (.region false [] ri0_0 (some [1])) (
.seq (.region false [] ri0_1 (some [1, 3])) (
.seq (.seq (.region false [] ri0_2 (some [1, 3, 12])) (
.cond (.t 12) (.seq (.region false [] ri0_3 (some [2])) (
.ret)) (.skip))) (
.seq (.region false [] ri0_4 (some [1, 3, 4, 5])) (
.seq (.seq (.region false [] ri0_5 (some [1, 3, 4, 5, 20])) (
.cond (.t 20) (.seq (.region false [] ri0_6 (some [2])) (
.ret)) (.skip))) (
.seq (.seq (.region false [] ri0_7 (some [1, 3, 4, 5, 33])) (
.cond (.t 33) (.seq (.region false [] ri0_8 (some [2])) (
.ret)) (.skip))) (
.seq (.seq (.region false [] ri0_9 (some [1, 3, 5, 59])) (
.cond (.t 59) (.seq (.region false [] ri0_10 (some [2])) (
.ret)) (.skip))) (
.seq (.region false [] ri0_11 (some [1, 3, 5, 6])) (
.seq (.region false [] ri0_12 (some [1, 3, 5, 6])) (
.seq (.region true [0, 1, 0, 0, 15, 31] ri0_13 (some [1, 3, 5, 6])) (
.seq (.region false [] ri0_14 (some [1, 3, 5, 6])) (
.seq (.region false [] ri0_15 (some [1, 3, 5, 7, 8])) (
.seq (.region false [] ri0_16 (some [2])) (
.ret))))))))))))))⟩

structure HasA (C : Ctx) : Prop where
  h40 : compFun C 40 = some af40.erase
  h59 : compFun C 59 = some af59.erase
  h58 : compFun C 58 = some af58.erase
  h55 : compFun C 55 = some af55.erase
  h57 : compFun C 57 = some af57.erase
  h54 : compFun C 54 = some af54.erase
  h41 : compFun C 41 = some af41.erase
  h47 : compFun C 47 = some af47.erase
  h45 : compFun C 45 = some af45.erase
  h46 : compFun C 46 = some af46.erase
  h42 : compFun C 42 = some af42.erase
  h19 : compFun C 19 = some af19.erase
  h44 : compFun C 44 = some af44.erase
  h43 : compFun C 43 = some af43.erase
  h20 : compFun C 20 = some af20.erase
  h8 : compFun C 8 = some af8.erase
  h7 : compFun C 7 = some af7.erase
  h18 : compFun C 18 = some af18.erase
  h25 : compFun C 25 = some af25.erase
  h50 : compFun C 50 = some af50.erase
  h28 : compFun C 28 = some af28.erase
  h56 : compFun C 56 = some af56.erase
  h52 : compFun C 52 = some af52.erase
  h53 : compFun C 53 = some af53.erase
  h38 : compFun C 38 = some af38.erase
  h24 : compFun C 24 = some af24.erase
  h48 : compFun C 48 = some af48.erase
  h23 : compFun C 23 = some af23.erase
  h22 : compFun C 22 = some af22.erase
  h27 : compFun C 27 = some af27.erase
  h49 : compFun C 49 = some af49.erase
  h26 : compFun C 26 = some af26.erase
  h12 : compFun C 12 = some af12.erase
  h34 : compFun C 34 = some af34.erase
  h35 : compFun C 35 = some af35.erase
  h36 : compFun C 36 = some af36.erase
  h37 : compFun C 37 = some af37.erase
  h15 : compFun C 15 = some af15.erase
  h32 : compFun C 32 = some af32.erase
  h51 : compFun C 51 = some af51.erase
  h31 : compFun C 31 = some af31.erase
  h29 : compFun C 29 = some af29.erase
  h30 : compFun C 30 = some af30.erase
  h33 : compFun C 33 = some af33.erase
  h13 : compFun C 13 = some af13.erase
  h21 : compFun C 21 = some af21.erase
  h9 : compFun C 9 = some af9.erase
  h17 : compFun C 17 = some af17.erase
  h6 : compFun C 6 = some af6.erase
  h0 : compFun C 0 = some af0.erase

end Go.Proofs.Ytgligibbgobmnaa
