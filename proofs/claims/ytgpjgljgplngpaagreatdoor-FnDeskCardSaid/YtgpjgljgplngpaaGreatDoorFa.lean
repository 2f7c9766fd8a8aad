/- What the program's types are. No conditions. -/
import Derived.Test.YtgpjgljgplngpaaGreatDoorM4
import Derived.Test.YtgpjgljgplngpaaGreatDoorProg
import Derived.KernelRfl
set_option linter.unusedSimpArgs false
set_option linter.unusedVariables false
namespace Go.Proofs.YtgpjgljgplngpaaGreatDoor.AM
open Go
set_option maxHeartbeats 8000000
set_option maxRecDepth 100000
theorem mixed : Tryz.prog.follows .mixedOrders = true := by kernel_rfl
theorem tsz2 : tSize Tryz.prog 2 = some 1 := by kernel_rfl
theorem tby2 : tBytes Tryz.prog 2 = some 8 := by kernel_rfl
theorem tag2 : tAgg Tryz.prog 2 = some false := by kernel_rfl
theorem tze2 : tZero Tryz.prog 2 = some [.int .i64 0] := by kernel_rfl
theorem tin2 : tInt Tryz.prog 2 = some .i64 := by kernel_rfl
theorem tis2 : tIs Tryz.prog 2 = true := by kernel_rfl
theorem tsz3 : tSize Tryz.prog 3 = some 1 := by kernel_rfl
theorem tby3 : tBytes Tryz.prog 3 = some 8 := by kernel_rfl
theorem tag3 : tAgg Tryz.prog 3 = some false := by kernel_rfl
theorem tze3 : tZero Tryz.prog 3 = some [.int .i64 0] := by kernel_rfl
theorem tin3 : tInt Tryz.prog 3 = some .i64 := by kernel_rfl
theorem tis3 : tIs Tryz.prog 3 = true := by kernel_rfl
theorem tsz4 : tSize Tryz.prog 4 = some 1 := by kernel_rfl
theorem tby4 : tBytes Tryz.prog 4 = some 1 := by kernel_rfl
theorem tag4 : tAgg Tryz.prog 4 = some false := by kernel_rfl
theorem tze4 : tZero Tryz.prog 4 = some [.bool false] := by kernel_rfl
theorem tbo4 : tBoo Tryz.prog 4 = true := by kernel_rfl
theorem tis4 : tIs Tryz.prog 4 = true := by kernel_rfl
theorem tsz5 : tSize Tryz.prog 5 = some 1 := by kernel_rfl
theorem tby5 : tBytes Tryz.prog 5 = some 1 := by kernel_rfl
theorem tag5 : tAgg Tryz.prog 5 = some false := by kernel_rfl
theorem tze5 : tZero Tryz.prog 5 = some [.int .u8 0] := by kernel_rfl
theorem tin5 : tInt Tryz.prog 5 = some .u8 := by kernel_rfl
theorem tis5 : tIs Tryz.prog 5 = true := by kernel_rfl
theorem tsz9 : tSize Tryz.prog 9 = some 1 := by kernel_rfl
theorem tby9 : tBytes Tryz.prog 9 = some 16 := by kernel_rfl
theorem tag9 : tAgg Tryz.prog 9 = some false := by kernel_rfl
theorem tze9 : tZero Tryz.prog 9 = some [.str ⟨#[]⟩] := by kernel_rfl
theorem tst9 : tStr Tryz.prog 9 = true := by kernel_rfl
theorem tis9 : tIs Tryz.prog 9 = true := by kernel_rfl
theorem tsz21 : tSize Tryz.prog 21 = some 1 := by kernel_rfl
theorem tby21 : tBytes Tryz.prog 21 = some 4 := by kernel_rfl
theorem tag21 : tAgg Tryz.prog 21 = some false := by kernel_rfl
theorem tze21 : tZero Tryz.prog 21 = some [.int .i32 0] := by kernel_rfl
theorem tin21 : tInt Tryz.prog 21 = some .i32 := by kernel_rfl
theorem tis21 : tIs Tryz.prog 21 = true := by kernel_rfl
theorem tsz22 : tSize Tryz.prog 22 = some 1 := by kernel_rfl
theorem tby22 : tBytes Tryz.prog 22 = some 24 := by kernel_rfl
theorem tag22 : tAgg Tryz.prog 22 = some false := by kernel_rfl
theorem tze22 : tZero Tryz.prog 22 = some [.nilsl] := by kernel_rfl
theorem tel22 : tElem Tryz.prog 22 = some 92 := by kernel_rfl
theorem tsl22 : tSli Tryz.prog 22 = true := by kernel_rfl
theorem tis22 : tIs Tryz.prog 22 = true := by kernel_rfl
theorem tsz23 : tSize Tryz.prog 23 = some 1 := by kernel_rfl
theorem tby23 : tBytes Tryz.prog 23 = some 24 := by kernel_rfl
theorem tag23 : tAgg Tryz.prog 23 = some false := by kernel_rfl
theorem tze23 : tZero Tryz.prog 23 = some [.nilsl] := by kernel_rfl
theorem tel23 : tElem Tryz.prog 23 = some 27 := by kernel_rfl
theorem tsl23 : tSli Tryz.prog 23 = true := by kernel_rfl
theorem tis23 : tIs Tryz.prog 23 = true := by kernel_rfl
theorem tsz25 : tSize Tryz.prog 25 = some 4 := by kernel_rfl
theorem tby25 : tBytes Tryz.prog 25 = some 32 := by kernel_rfl
theorem tag25 : tAgg Tryz.prog 25 = some true := by kernel_rfl
theorem tze25 : tZero Tryz.prog 25 = some [.int .i64 0, .int .i64 0, .int .i64 0, .int .i64 0] := by kernel_rfl
theorem tsc25 : tSct Tryz.prog 25 = true := by kernel_rfl
theorem tfd25_0 : tField Tryz.prog 25 0 = some (0, 3) := by kernel_rfl
theorem tfd25_1 : tField Tryz.prog 25 1 = some (1, 3) := by kernel_rfl
theorem tfd25_2 : tField Tryz.prog 25 2 = some (2, 3) := by kernel_rfl
theorem tfd25_3 : tField Tryz.prog 25 3 = some (3, 3) := by kernel_rfl
theorem tis25 : tIs Tryz.prog 25 = true := by kernel_rfl
theorem tsz27 : tSize Tryz.prog 27 = some 6 := by kernel_rfl
theorem tby27 : tBytes Tryz.prog 27 = some 48 := by kernel_rfl
theorem tag27 : tAgg Tryz.prog 27 = some true := by kernel_rfl
theorem tze27 : tZero Tryz.prog 27 = some [.int .i64 0, .bool false, .int .i64 0, .int .i64 0, .int .i64 0, .int .i64 0] := by kernel_rfl
theorem tsc27 : tSct Tryz.prog 27 = true := by kernel_rfl
theorem tfd27_0 : tField Tryz.prog 27 0 = some (0, 3) := by kernel_rfl
theorem tfd27_1 : tField Tryz.prog 27 1 = some (1, 4) := by kernel_rfl
theorem tfd27_2 : tField Tryz.prog 27 2 = some (2, 25) := by kernel_rfl
theorem tis27 : tIs Tryz.prog 27 = true := by kernel_rfl
theorem tsz28 : tSize Tryz.prog 28 = some 1 := by kernel_rfl
theorem tby28 : tBytes Tryz.prog 28 = some 24 := by kernel_rfl
theorem tag28 : tAgg Tryz.prog 28 = some false := by kernel_rfl
theorem tze28 : tZero Tryz.prog 28 = some [.nilsl] := by kernel_rfl
theorem tel28 : tElem Tryz.prog 28 = some 4 := by kernel_rfl
theorem tsl28 : tSli Tryz.prog 28 = true := by kernel_rfl
theorem tis28 : tIs Tryz.prog 28 = true := by kernel_rfl
theorem tsz30 : tSize Tryz.prog 30 = some 2 := by kernel_rfl
theorem tby30 : tBytes Tryz.prog 30 = some 48 := by kernel_rfl
theorem tag30 : tAgg Tryz.prog 30 = some true := by kernel_rfl
theorem tze30 : tZero Tryz.prog 30 = some [.nilsl, .nilsl] := by kernel_rfl
theorem tsc30 : tSct Tryz.prog 30 = true := by kernel_rfl
theorem tfd30_0 : tField Tryz.prog 30 0 = some (0, 23) := by kernel_rfl
theorem tfd30_1 : tField Tryz.prog 30 1 = some (1, 28) := by kernel_rfl
theorem tis30 : tIs Tryz.prog 30 = true := by kernel_rfl
theorem tsz32 : tSize Tryz.prog 32 = some 10 := by kernel_rfl
theorem tby32 : tBytes Tryz.prog 32 = some 128 := by kernel_rfl
theorem tag32 : tAgg Tryz.prog 32 = some true := by kernel_rfl
theorem tze32 : tZero Tryz.prog 32 = some [.nilsl, .int .i64 0, .bool false, .int .i64 0, .int .i64 0, .int .i64 0, .int .i64 0, .nilsl, .nilsl, .int .i64 0] := by kernel_rfl
theorem tsc32 : tSct Tryz.prog 32 = true := by kernel_rfl
theorem tfd32_0 : tField Tryz.prog 32 0 = some (0, 23) := by kernel_rfl
theorem tfd32_1 : tField Tryz.prog 32 1 = some (1, 27) := by kernel_rfl
theorem tfd32_2 : tField Tryz.prog 32 2 = some (7, 30) := by kernel_rfl
theorem tfd32_3 : tField Tryz.prog 32 3 = some (9, 3) := by kernel_rfl
theorem tis32 : tIs Tryz.prog 32 = true := by kernel_rfl
theorem tsz33 : tSize Tryz.prog 33 = some 1 := by kernel_rfl
theorem tby33 : tBytes Tryz.prog 33 = some 24 := by kernel_rfl
theorem tag33 : tAgg Tryz.prog 33 = some false := by kernel_rfl
theorem tze33 : tZero Tryz.prog 33 = some [.nilsl] := by kernel_rfl
theorem tel33 : tElem Tryz.prog 33 = some 96 := by kernel_rfl
theorem tsl33 : tSli Tryz.prog 33 = true := by kernel_rfl
theorem tis33 : tIs Tryz.prog 33 = true := by kernel_rfl
theorem tsz34 : tSize Tryz.prog 34 = some 1 := by kernel_rfl
theorem tby34 : tBytes Tryz.prog 34 = some 24 := by kernel_rfl
theorem tag34 : tAgg Tryz.prog 34 = some false := by kernel_rfl
theorem tze34 : tZero Tryz.prog 34 = some [.nilsl] := by kernel_rfl
theorem tel34 : tElem Tryz.prog 34 = some 3 := by kernel_rfl
theorem tsl34 : tSli Tryz.prog 34 = true := by kernel_rfl
theorem tis34 : tIs Tryz.prog 34 = true := by kernel_rfl
theorem tsz36 : tSize Tryz.prog 36 = some 19 := by kernel_rfl
theorem tby36 : tBytes Tryz.prog 36 = some 232 := by kernel_rfl
theorem tag36 : tAgg Tryz.prog 36 = some true := by kernel_rfl
theorem tze36 : tZero Tryz.prog 36 = some [.nilsl, .int .i64 0, .bool false, .int .i64 0, .int .i64 0, .int .i64 0, .int .i64 0, .nilsl, .nilsl, .int .i64 0, .nilsl, .int .i64 0, .bool false, .int .i64 0, .int .i64 0, .int .i64 0, .int .i64 0, .bool false, .nilsl] := by kernel_rfl
theorem tsc36 : tSct Tryz.prog 36 = true := by kernel_rfl
theorem tfd36_0 : tField Tryz.prog 36 0 = some (0, 32) := by kernel_rfl
theorem tfd36_1 : tField Tryz.prog 36 1 = some (10, 33) := by kernel_rfl
theorem tfd36_2 : tField Tryz.prog 36 2 = some (11, 27) := by kernel_rfl
theorem tfd36_3 : tField Tryz.prog 36 3 = some (17, 4) := by kernel_rfl
theorem tfd36_4 : tField Tryz.prog 36 4 = some (18, 34) := by kernel_rfl
theorem tis36 : tIs Tryz.prog 36 = true := by kernel_rfl
theorem tsz38 : tSize Tryz.prog 38 = some 21 := by kernel_rfl
theorem tby38 : tBytes Tryz.prog 38 = some 280 := by kernel_rfl
theorem tag38 : tAgg Tryz.prog 38 = some true := by kernel_rfl
theorem tze38 : tZero Tryz.prog 38 = some [.nilsl, .nilsl, .int .i64 0, .bool false, .int .i64 0, .int .i64 0, .int .i64 0, .int .i64 0, .nilsl, .nilsl, .int .i64 0, .nilsl, .int .i64 0, .bool false, .int .i64 0, .int .i64 0, .int .i64 0, .int .i64 0, .bool false, .nilsl, .nilsl] := by kernel_rfl
theorem tsc38 : tSct Tryz.prog 38 = true := by kernel_rfl
theorem tfd38_0 : tField Tryz.prog 38 0 = some (0, 22) := by kernel_rfl
theorem tfd38_1 : tField Tryz.prog 38 1 = some (1, 36) := by kernel_rfl
theorem tfd38_2 : tField Tryz.prog 38 2 = some (20, 34) := by kernel_rfl
theorem tis38 : tIs Tryz.prog 38 = true := by kernel_rfl
theorem tsz47 : tSize Tryz.prog 47 = some 1 := by kernel_rfl
theorem tby47 : tBytes Tryz.prog 47 = some 24 := by kernel_rfl
theorem tag47 : tAgg Tryz.prog 47 = some false := by kernel_rfl
theorem tze47 : tZero Tryz.prog 47 = some [.nilsl] := by kernel_rfl
theorem tel47 : tElem Tryz.prog 47 = some 5 := by kernel_rfl
theorem tsl47 : tSli Tryz.prog 47 = true := by kernel_rfl
theorem tis47 : tIs Tryz.prog 47 = true := by kernel_rfl
theorem tsz56 : tSize Tryz.prog 56 = some 1 := by kernel_rfl
theorem tby56 : tBytes Tryz.prog 56 = some 24 := by kernel_rfl
theorem tag56 : tAgg Tryz.prog 56 = some false := by kernel_rfl
theorem tze56 : tZero Tryz.prog 56 = some [.nilsl] := by kernel_rfl
theorem tel56 : tElem Tryz.prog 56 = some 9 := by kernel_rfl
theorem tsl56 : tSli Tryz.prog 56 = true := by kernel_rfl
theorem tis56 : tIs Tryz.prog 56 = true := by kernel_rfl
theorem tsz81 : tSize Tryz.prog 81 = some 2 := by kernel_rfl
theorem tby81 : tBytes Tryz.prog 81 = some 16 := by kernel_rfl
theorem tag81 : tAgg Tryz.prog 81 = some true := by kernel_rfl
theorem tze81 : tZero Tryz.prog 81 = some [.int .i64 0, .int .i64 0] := by kernel_rfl
theorem tsc81 : tSct Tryz.prog 81 = true := by kernel_rfl
theorem tfd81_0 : tField Tryz.prog 81 0 = some (0, 3) := by kernel_rfl
theorem tfd81_1 : tField Tryz.prog 81 1 = some (1, 3) := by kernel_rfl
theorem tis81 : tIs Tryz.prog 81 = true := by kernel_rfl
theorem tsz92 : tSize Tryz.prog 92 = some 5 := by kernel_rfl
theorem tby92 : tBytes Tryz.prog 92 = some 40 := by kernel_rfl
theorem tag92 : tAgg Tryz.prog 92 = some true := by kernel_rfl
theorem tze92 : tZero Tryz.prog 92 = some [.int .i64 0, .int .i64 0, .int .i64 0, .int .i64 0, .int .i64 0] := by kernel_rfl
theorem tsc92 : tSct Tryz.prog 92 = true := by kernel_rfl
theorem tfd92_0 : tField Tryz.prog 92 0 = some (0, 3) := by kernel_rfl
theorem tfd92_1 : tField Tryz.prog 92 1 = some (1, 3) := by kernel_rfl
theorem tfd92_2 : tField Tryz.prog 92 2 = some (2, 3) := by kernel_rfl
theorem tfd92_3 : tField Tryz.prog 92 3 = some (3, 3) := by kernel_rfl
theorem tfd92_4 : tField Tryz.prog 92 4 = some (4, 3) := by kernel_rfl
theorem tis92 : tIs Tryz.prog 92 = true := by kernel_rfl
theorem tsz94 : tSize Tryz.prog 94 = some 22 := by kernel_rfl
theorem tby94 : tBytes Tryz.prog 94 = some 176 := by kernel_rfl
theorem tag94 : tAgg Tryz.prog 94 = some true := by kernel_rfl
theorem tze94 : tZero Tryz.prog 94 = some [.int .i64 0, .int .i64 0, .int .i64 0, .bool false, .int .i64 0, .int .i64 0, .int .i64 0, .int .i64 0, .int .i64 0, .bool false, .int .i64 0, .int .i64 0, .int .i64 0, .int .i64 0, .int .i64 0, .int .i64 0, .bool false, .int .i64 0, .int .i64 0, .int .i64 0, .int .i64 0, .int .i64 0] := by kernel_rfl
theorem tsc94 : tSct Tryz.prog 94 = true := by kernel_rfl
theorem tfd94_0 : tField Tryz.prog 94 0 = some (0, 3) := by kernel_rfl
theorem tfd94_1 : tField Tryz.prog 94 1 = some (1, 3) := by kernel_rfl
theorem tfd94_2 : tField Tryz.prog 94 2 = some (2, 27) := by kernel_rfl
theorem tfd94_3 : tField Tryz.prog 94 3 = some (8, 27) := by kernel_rfl
theorem tfd94_4 : tField Tryz.prog 94 4 = some (14, 3) := by kernel_rfl
theorem tfd94_5 : tField Tryz.prog 94 5 = some (15, 27) := by kernel_rfl
theorem tfd94_6 : tField Tryz.prog 94 6 = some (21, 3) := by kernel_rfl
theorem tis94 : tIs Tryz.prog 94 = true := by kernel_rfl
theorem tsz96 : tSize Tryz.prog 96 = some 40 := by kernel_rfl
theorem tby96 : tBytes Tryz.prog 96 = some 320 := by kernel_rfl
theorem tag96 : tAgg Tryz.prog 96 = some true := by kernel_rfl
theorem tze96 : tZero Tryz.prog 96 = some [.int .i64 0, .bool false, .int .i64 0, .int .i64 0, .int .i64 0, .int .i64 0, .int .i64 0, .int .i64 0, .int .i64 0, .int .i64 0, .int .i64 0, .bool false, .int .i64 0, .int .i64 0, .int .i64 0, .bool false, .int .i64 0, .int .i64 0, .int .i64 0, .int .i64 0, .int .i64 0, .bool false, .int .i64 0, .int .i64 0, .int .i64 0, .int .i64 0, .int .i64 0, .int .i64 0, .bool false, .int .i64 0, .int .i64 0, .int .i64 0, .int .i64 0, .int .i64 0, .int .i64 0, .bool false, .int .i64 0, .int .i64 0, .int .i64 0, .int .i64 0] := by kernel_rfl
theorem tsc96 : tSct Tryz.prog 96 = true := by kernel_rfl
theorem tfd96_0 : tField Tryz.prog 96 0 = some (0, 27) := by kernel_rfl
theorem tfd96_1 : tField Tryz.prog 96 1 = some (6, 92) := by kernel_rfl
theorem tfd96_2 : tField Tryz.prog 96 2 = some (11, 4) := by kernel_rfl
theorem tfd96_3 : tField Tryz.prog 96 3 = some (12, 94) := by kernel_rfl
theorem tfd96_4 : tField Tryz.prog 96 4 = some (34, 27) := by kernel_rfl
theorem tis96 : tIs Tryz.prog 96 = true := by kernel_rfl
theorem tsz120 : tSize Tryz.prog 120 = some 3 := by kernel_rfl
theorem tby120 : tBytes Tryz.prog 120 = some 40 := by kernel_rfl
theorem tag120 : tAgg Tryz.prog 120 = some true := by kernel_rfl
theorem tze120 : tZero Tryz.prog 120 = some [.nilsl, .int .i64 0, .int .i64 0] := by kernel_rfl
theorem tsc120 : tSct Tryz.prog 120 = true := by kernel_rfl
theorem tfd120_0 : tField Tryz.prog 120 0 = some (0, 47) := by kernel_rfl
theorem tfd120_1 : tField Tryz.prog 120 1 = some (1, 3) := by kernel_rfl
theorem tfd120_2 : tField Tryz.prog 120 2 = some (2, 3) := by kernel_rfl
theorem tis120 : tIs Tryz.prog 120 = true := by kernel_rfl
theorem tsz159 : tSize Tryz.prog 159 = some 1 := by kernel_rfl
theorem tby159 : tBytes Tryz.prog 159 = some 16 := by kernel_rfl
theorem tag159 : tAgg Tryz.prog 159 = some false := by kernel_rfl
theorem tze159 : tZero Tryz.prog 159 = some [.nilif] := by kernel_rfl
theorem tif159 : tIfc Tryz.prog 159 = true := by kernel_rfl
theorem tis159 : tIs Tryz.prog 159 = true := by kernel_rfl
theorem tsz176 : tSize Tryz.prog 176 = some 1 := by kernel_rfl
theorem tby176 : tBytes Tryz.prog 176 = some 8 := by kernel_rfl
theorem tag176 : tAgg Tryz.prog 176 = some false := by kernel_rfl
theorem tze176 : tZero Tryz.prog 176 = some [.int .u64 0] := by kernel_rfl
theorem tin176 : tInt Tryz.prog 176 = some .u64 := by kernel_rfl
theorem tis176 : tIs Tryz.prog 176 = true := by kernel_rfl
theorem tsz207 : tSize Tryz.prog 207 = some 1 := by kernel_rfl
theorem tby207 : tBytes Tryz.prog 207 = some 4 := by kernel_rfl
theorem tag207 : tAgg Tryz.prog 207 = some false := by kernel_rfl
theorem tze207 : tZero Tryz.prog 207 = some [.int .u32 0] := by kernel_rfl
theorem tin207 : tInt Tryz.prog 207 = some .u32 := by kernel_rfl
theorem tis207 : tIs Tryz.prog 207 = true := by kernel_rfl
theorem tsz210 : tSize Tryz.prog 210 = some 1 := by kernel_rfl
theorem tby210 : tBytes Tryz.prog 210 = some 8 := by kernel_rfl
theorem tag210 : tAgg Tryz.prog 210 = some false := by kernel_rfl
theorem tze210 : tZero Tryz.prog 210 = some [.int .u64 0] := by kernel_rfl
theorem tin210 : tInt Tryz.prog 210 = some .u64 := by kernel_rfl
theorem tis210 : tIs Tryz.prog 210 = true := by kernel_rfl
theorem tis236 : tIs Tryz.prog 236 = true := by kernel_rfl
theorem tsz250 : tSize Tryz.prog 250 = some 3 := by kernel_rfl
theorem tby250 : tBytes Tryz.prog 250 = some 24 := by kernel_rfl
theorem tag250 : tAgg Tryz.prog 250 = some true := by kernel_rfl
theorem tze250 : tZero Tryz.prog 250 = some [.int .i64 0, .int .i64 0, .int .i64 0] := by kernel_rfl
theorem tsc250 : tSct Tryz.prog 250 = true := by kernel_rfl
theorem tfd250_0 : tField Tryz.prog 250 0 = some (0, 3) := by kernel_rfl
theorem tfd250_1 : tField Tryz.prog 250 1 = some (1, 3) := by kernel_rfl
theorem tfd250_2 : tField Tryz.prog 250 2 = some (2, 3) := by kernel_rfl
theorem tis250 : tIs Tryz.prog 250 = true := by kernel_rfl
theorem tsz259 : tSize Tryz.prog 259 = some 3 := by kernel_rfl
theorem tby259 : tBytes Tryz.prog 259 = some 48 := by kernel_rfl
theorem tag259 : tAgg Tryz.prog 259 = some true := by kernel_rfl
theorem tze259 : tZero Tryz.prog 259 = some [.str ⟨#[]⟩, .str ⟨#[]⟩, .nilif] := by kernel_rfl
theorem tsc259 : tSct Tryz.prog 259 = true := by kernel_rfl
theorem tfd259_0 : tField Tryz.prog 259 0 = some (0, 9) := by kernel_rfl
theorem tfd259_1 : tField Tryz.prog 259 1 = some (1, 9) := by kernel_rfl
theorem tfd259_2 : tField Tryz.prog 259 2 = some (2, 159) := by kernel_rfl
theorem tis259 : tIs Tryz.prog 259 = true := by kernel_rfl
theorem tis261 : tIs Tryz.prog 261 = true := by kernel_rfl
theorem tsz263 : tSize Tryz.prog 263 = some 2 := by kernel_rfl
theorem tby263 : tBytes Tryz.prog 263 = some 2 := by kernel_rfl
theorem tag263 : tAgg Tryz.prog 263 = some true := by kernel_rfl
theorem tze263 : tZero Tryz.prog 263 = some [.int .u8 0, .int .u8 0] := by kernel_rfl
theorem tsc263 : tSct Tryz.prog 263 = true := by kernel_rfl
theorem tfd263_0 : tField Tryz.prog 263 0 = some (0, 5) := by kernel_rfl
theorem tfd263_1 : tField Tryz.prog 263 1 = some (1, 5) := by kernel_rfl
theorem tis263 : tIs Tryz.prog 263 = true := by kernel_rfl
theorem tis264 : tIs Tryz.prog 264 = true := by kernel_rfl
theorem tis267 : tIs Tryz.prog 267 = true := by kernel_rfl
theorem tis268 : tIs Tryz.prog 268 = true := by kernel_rfl
theorem tsz271 : tSize Tryz.prog 271 = some 1 := by kernel_rfl
theorem tby271 : tBytes Tryz.prog 271 = some 8 := by kernel_rfl
theorem tag271 : tAgg Tryz.prog 271 = some false := by kernel_rfl
theorem tze271 : tZero Tryz.prog 271 = some [.nilp] := by kernel_rfl
theorem tis271 : tIs Tryz.prog 271 = true := by kernel_rfl
theorem tsz274 : tSize Tryz.prog 274 = some 1 := by kernel_rfl
theorem tby274 : tBytes Tryz.prog 274 = some 16 := by kernel_rfl
theorem tag274 : tAgg Tryz.prog 274 = some true := by kernel_rfl
theorem tze274 : tZero Tryz.prog 274 = some [.str ⟨#[]⟩] := by kernel_rfl
theorem tsc274 : tSct Tryz.prog 274 = true := by kernel_rfl
theorem tfd274_0 : tField Tryz.prog 274 0 = some (0, 9) := by kernel_rfl
theorem tis274 : tIs Tryz.prog 274 = true := by kernel_rfl
theorem tis278 : tIs Tryz.prog 278 = true := by kernel_rfl
theorem tis279 : tIs Tryz.prog 279 = true := by kernel_rfl
attribute [go_sem] tsz2 tby2 tag2 tze2 tin2 tis2 tsz3 tby3 tag3 tze3 tin3 tis3 tsz4 tby4 tag4 tze4 tbo4 tis4 tsz5 tby5 tag5 tze5 tin5 tis5 tsz9 tby9 tag9 tze9 tst9 tis9 tsz21 tby21 tag21 tze21 tin21 tis21 tsz22 tby22 tag22 tze22 tel22 tsl22 tis22 tsz23 tby23 tag23 tze23 tel23 tsl23 tis23 tsz25 tby25 tag25 tze25 tsc25 tfd25_0 tfd25_1 tfd25_2 tfd25_3 tis25 tsz27 tby27 tag27 tze27 tsc27 tfd27_0 tfd27_1 tfd27_2 tis27 tsz28 tby28 tag28 tze28 tel28 tsl28 tis28 tsz30 tby30 tag30 tze30 tsc30 tfd30_0 tfd30_1 tis30 tsz32 tby32 tag32 tze32 tsc32 tfd32_0 tfd32_1 tfd32_2 tfd32_3 tis32 tsz33 tby33 tag33 tze33 tel33 tsl33 tis33 tsz34 tby34 tag34 tze34 tel34 tsl34 tis34 tsz36 tby36 tag36 tze36 tsc36 tfd36_0 tfd36_1 tfd36_2 tfd36_3 tfd36_4 tis36 tsz38 tby38 tag38 tze38 tsc38 tfd38_0 tfd38_1 tfd38_2 tis38 tsz47 tby47 tag47 tze47 tel47 tsl47 tis47 tsz56 tby56 tag56 tze56 tel56 tsl56 tis56 tsz81 tby81 tag81 tze81 tsc81 tfd81_0 tfd81_1 tis81 tsz92 tby92 tag92 tze92 tsc92 tfd92_0 tfd92_1 tfd92_2 tfd92_3 tfd92_4 tis92 tsz94 tby94 tag94 tze94 tsc94 tfd94_0 tfd94_1 tfd94_2 tfd94_3 tfd94_4 tfd94_5 tfd94_6 tis94 tsz96 tby96 tag96 tze96 tsc96 tfd96_0 tfd96_1 tfd96_2 tfd96_3 tfd96_4 tis96 tsz120 tby120 tag120 tze120 tsc120 tfd120_0 tfd120_1 tfd120_2 tis120 tsz159 tby159 tag159 tze159 tif159 tis159 tsz176 tby176 tag176 tze176 tin176 tis176 tsz207 tby207 tag207 tze207 tin207 tis207 tsz210 tby210 tag210 tze210 tin210 tis210 tis236 tsz250 tby250 tag250 tze250 tsc250 tfd250_0 tfd250_1 tfd250_2 tis250 tsz259 tby259 tag259 tze259 tsc259 tfd259_0 tfd259_1 tfd259_2 tis259 tis261 tsz263 tby263 tag263 tze263 tsc263 tfd263_0 tfd263_1 tis263 tis264 tis267 tis268 tsz271 tby271 tag271 tze271 tis271 tsz274 tby274 tag274 tze274 tsc274 tfd274_0 tis274 tis278 tis279
set_option maxRecDepth 100000 in
theorem teq25 {a0 : Int} {b0 : Int} {a1 : Int} {b1 : Int} {a2 : Int} {b2 : Int} {a3 : Int} {b3 : Int} : eqV Tryz.prog Op.maxDepth 25 (.agg [(.int .i64 a0), (.int .i64 a1), (.int .i64 a2), (.int .i64 a3)]) (.agg [(.int .i64 b0), (.int .i64 b1), (.int .i64 b2), (.int .i64 b3)]) = some ((decide (a0 = b0)) && ((decide (a1 = b1)) && ((decide (a2 = b2)) && ((decide (a3 = b3)) && true)))) := (eqV_struct Tryz.underlying25 (by kernel_rfl) (eqFs_cons (by decide) (a := (.int .i64 a0)) (b := (.int .i64 b0)) (by simp only [go_sem]; try rfl) (by simp only [go_sem]; try rfl) (eqV_int (by simp only [tin3]; rfl)) (eqFs_cons (by decide) (a := (.int .i64 a1)) (b := (.int .i64 b1)) (by simp only [go_sem]; try rfl) (by simp only [go_sem]; try rfl) (eqV_int (by simp only [tin3]; rfl)) (eqFs_cons (by decide) (a := (.int .i64 a2)) (b := (.int .i64 b2)) (by simp only [go_sem]; try rfl) (by simp only [go_sem]; try rfl) (eqV_int (by simp only [tin3]; rfl)) (eqFs_cons (by decide) (a := (.int .i64 a3)) (b := (.int .i64 b3)) (by simp only [go_sem]; try rfl) (by simp only [go_sem]; try rfl) (eqV_int (by simp only [tin3]; rfl)) eqFs_nil)))))
theorem tgd25 : Tryz.prog.eqGuardType Tryz.prog.depth 25 = false := by kernel_rfl
attribute [go_sem] teq25 tgd25
set_option maxRecDepth 100000 in
theorem teq27 {a0 : Int} {b0 : Int} {a1 : Bool} {b1 : Bool} {a2 : Int} {b2 : Int} {a3 : Int} {b3 : Int} {a4 : Int} {b4 : Int} {a5 : Int} {b5 : Int} : eqV Tryz.prog Op.maxDepth 27 (.agg [(.int .i64 a0), (.bool a1), (.int .i64 a2), (.int .i64 a3), (.int .i64 a4), (.int .i64 a5)]) (.agg [(.int .i64 b0), (.bool b1), (.int .i64 b2), (.int .i64 b3), (.int .i64 b4), (.int .i64 b5)]) = some ((decide (a0 = b0)) && ((a1 == b1) && (((decide (a2 = b2)) && ((decide (a3 = b3)) && ((decide (a4 = b4)) && ((decide (a5 = b5)) && true)))) && true))) := (eqV_struct Tryz.underlying27 (by kernel_rfl) (eqFs_cons (by decide) (a := (.int .i64 a0)) (b := (.int .i64 b0)) (by simp only [go_sem]; try rfl) (by simp only [go_sem]; try rfl) (eqV_int (by simp only [tin3]; rfl)) (eqFs_cons (by decide) (a := (.bool a1)) (b := (.bool b1)) (by simp only [go_sem]; try rfl) (by simp only [go_sem]; try rfl) (eqV_bool tbo4) (eqFs_cons (by decide) (a := (.agg [(.int .i64 a2), (.int .i64 a3), (.int .i64 a4), (.int .i64 a5)])) (b := (.agg [(.int .i64 b2), (.int .i64 b3), (.int .i64 b4), (.int .i64 b5)])) (by simp only [go_sem]; try rfl) (by simp only [go_sem]; try rfl) (eqV_struct Tryz.underlying25 (by kernel_rfl) (eqFs_cons (by decide) (a := (.int .i64 a2)) (b := (.int .i64 b2)) (by simp only [go_sem]; try rfl) (by simp only [go_sem]; try rfl) (eqV_int (by simp only [tin3]; rfl)) (eqFs_cons (by decide) (a := (.int .i64 a3)) (b := (.int .i64 b3)) (by simp only [go_sem]; try rfl) (by simp only [go_sem]; try rfl) (eqV_int (by simp only [tin3]; rfl)) (eqFs_cons (by decide) (a := (.int .i64 a4)) (b := (.int .i64 b4)) (by simp only [go_sem]; try rfl) (by simp only [go_sem]; try rfl) (eqV_int (by simp only [tin3]; rfl)) (eqFs_cons (by decide) (a := (.int .i64 a5)) (b := (.int .i64 b5)) (by simp only [go_sem]; try rfl) (by simp only [go_sem]; try rfl) (eqV_int (by simp only [tin3]; rfl)) eqFs_nil))))) eqFs_nil))))
theorem tgd27 : Tryz.prog.eqGuardType Tryz.prog.depth 27 = false := by kernel_rfl
attribute [go_sem] teq27 tgd27
set_option maxRecDepth 100000 in
theorem teq92 {a0 : Int} {b0 : Int} {a1 : Int} {b1 : Int} {a2 : Int} {b2 : Int} {a3 : Int} {b3 : Int} {a4 : Int} {b4 : Int} : eqV Tryz.prog Op.maxDepth 92 (.agg [(.int .i64 a0), (.int .i64 a1), (.int .i64 a2), (.int .i64 a3), (.int .i64 a4)]) (.agg [(.int .i64 b0), (.int .i64 b1), (.int .i64 b2), (.int .i64 b3), (.int .i64 b4)]) = some ((decide (a0 = b0)) && ((decide (a1 = b1)) && ((decide (a2 = b2)) && ((decide (a3 = b3)) && ((decide (a4 = b4)) && true))))) := (eqV_struct Tryz.underlying92 (by kernel_rfl) (eqFs_cons (by decide) (a := (.int .i64 a0)) (b := (.int .i64 b0)) (by simp only [go_sem]; try rfl) (by simp only [go_sem]; try rfl) (eqV_int (by simp only [tin3]; rfl)) (eqFs_cons (by decide) (a := (.int .i64 a1)) (b := (.int .i64 b1)) (by simp only [go_sem]; try rfl) (by simp only [go_sem]; try rfl) (eqV_int (by simp only [tin3]; rfl)) (eqFs_cons (by decide) (a := (.int .i64 a2)) (b := (.int .i64 b2)) (by simp only [go_sem]; try rfl) (by simp only [go_sem]; try rfl) (eqV_int (by simp only [tin3]; rfl)) (eqFs_cons (by decide) (a := (.int .i64 a3)) (b := (.int .i64 b3)) (by simp only [go_sem]; try rfl) (by simp only [go_sem]; try rfl) (eqV_int (by simp only [tin3]; rfl)) (eqFs_cons (by decide) (a := (.int .i64 a4)) (b := (.int .i64 b4)) (by simp only [go_sem]; try rfl) (by simp only [go_sem]; try rfl) (eqV_int (by simp only [tin3]; rfl)) eqFs_nil))))))
theorem tgd92 : Tryz.prog.eqGuardType Tryz.prog.depth 92 = false := by kernel_rfl
attribute [go_sem] teq92 tgd92
end Go.Proofs.YtgpjgljgplngpaaGreatDoor.AM
