/- What the program's types are. No conditions. -/
import Derived.Test.YtokjjeibagmgpaaGreatM4
import Derived.Test.YtokjjeibagmgpaaGreatProg
import Derived.KernelRfl
set_option linter.unusedSimpArgs false
set_option linter.unusedVariables false
namespace Go.Proofs.YtokjjeibagmgpaaGreat.AM
open Go
set_option maxHeartbeats 8000000
set_option maxRecDepth 100000
theorem mixed : Tryz.prog.follows .mixedOrders = true := by kernel_rfl
theorem tsz3 : tSize Tryz.prog 3 = some 1 := by kernel_rfl
theorem tby3 : tBytes Tryz.prog 3 = some 8 := by kernel_rfl
theorem tag3 : tAgg Tryz.prog 3 = some false := by kernel_rfl
theorem tze3 : tZero Tryz.prog 3 = some [.int .i64 0] := by kernel_rfl
theorem tin3 : tInt Tryz.prog 3 = some .i64 := by kernel_rfl
theorem tis3 : tIs Tryz.prog 3 = true := by kernel_rfl
theorem tsz4 : tSize Tryz.prog 4 = some 1 := by kernel_rfl
theorem tby4 : tBytes Tryz.prog 4 = some 1 := by kernel_rfl
theorem tag4 : tAgg Tryz.prog 4 = some false := by kernel_rfl
theorem tze4 : tZero Tryz.prog 4 = some [.bool false] := by kernel_rfl
theorem tbo4 : tBoo Tryz.prog 4 = true := by kernel_rfl
theorem tis4 : tIs Tryz.prog 4 = true := by kernel_rfl
theorem tsz5 : tSize Tryz.prog 5 = some 1 := by kernel_rfl
theorem tby5 : tBytes Tryz.prog 5 = some 1 := by kernel_rfl
theorem tag5 : tAgg Tryz.prog 5 = some false := by kernel_rfl
theorem tze5 : tZero Tryz.prog 5 = some [.int .u8 0] := by kernel_rfl
theorem tin5 : tInt Tryz.prog 5 = some .u8 := by kernel_rfl
theorem tis5 : tIs Tryz.prog 5 = true := by kernel_rfl
theorem tsz9 : tSize Tryz.prog 9 = some 1 := by kernel_rfl
theorem tby9 : tBytes Tryz.prog 9 = some 16 := by kernel_rfl
theorem tag9 : tAgg Tryz.prog 9 = some false := by kernel_rfl
theorem tze9 : tZero Tryz.prog 9 = some [.str ⟨#[]⟩] := by kernel_rfl
theorem tst9 : tStr Tryz.prog 9 = true := by kernel_rfl
theorem tis9 : tIs Tryz.prog 9 = true := by kernel_rfl
theorem tsz22 : tSize Tryz.prog 22 = some 1 := by kernel_rfl
theorem tby22 : tBytes Tryz.prog 22 = some 24 := by kernel_rfl
theorem tag22 : tAgg Tryz.prog 22 = some false := by kernel_rfl
theorem tze22 : tZero Tryz.prog 22 = some [.nilsl] := by kernel_rfl
theorem tel22 : tElem Tryz.prog 22 = some 99 := by kernel_rfl
theorem tsl22 : tSli Tryz.prog 22 = true := by kernel_rfl
theorem tis22 : tIs Tryz.prog 22 = true := by kernel_rfl
theorem tsz23 : tSize Tryz.prog 23 = some 1 := by kernel_rfl
theorem tby23 : tBytes Tryz.prog 23 = some 24 := by kernel_rfl
theorem tag23 : tAgg Tryz.prog 23 = some false := by kernel_rfl
theorem tze23 : tZero Tryz.prog 23 = some [.nilsl] := by kernel_rfl
theorem tel23 : tElem Tryz.prog 23 = some 27 := by kernel_rfl
theorem tsl23 : tSli Tryz.prog 23 = true := by kernel_rfl
theorem tis23 : tIs Tryz.prog 23 = true := by kernel_rfl
theorem tsz25 : tSize Tryz.prog 25 = some 4 := by kernel_rfl
theorem tby25 : tBytes Tryz.prog 25 = some 32 := by kernel_rfl
theorem tag25 : tAgg Tryz.prog 25 = some true := by kernel_rfl
theorem tze25 : tZero Tryz.prog 25 = some [.int .i64 0, .int .i64 0, .int .i64 0, .int .i64 0] := by kernel_rfl
theorem tsc25 : tSct Tryz.prog 25 = true := by kernel_rfl
theorem tfd25_0 : tField Tryz.prog 25 0 = some (0, 3) := by kernel_rfl
theorem tfd25_1 : tField Tryz.prog 25 1 = some (1, 3) := by kernel_rfl
theorem tfd25_2 : tField Tryz.prog 25 2 = some (2, 3) := by kernel_rfl
theorem tfd25_3 : tField Tryz.prog 25 3 = some (3, 3) := by kernel_rfl
theorem tis25 : tIs Tryz.prog 25 = true := by kernel_rfl
theorem tsz27 : tSize Tryz.prog 27 = some 6 := by kernel_rfl
theorem tby27 : tBytes Tryz.prog 27 = some 48 := by kernel_rfl
theorem tag27 : tAgg Tryz.prog 27 = some true := by kernel_rfl
theorem tze27 : tZero Tryz.prog 27 = some [.int .i64 0, .bool false, .int .i64 0, .int .i64 0, .int .i64 0, .int .i64 0] := by kernel_rfl
theorem tsc27 : tSct Tryz.prog 27 = true := by kernel_rfl
theorem tfd27_0 : tField Tryz.prog 27 0 = some (0, 3) := by kernel_rfl
theorem tfd27_1 : tField Tryz.prog 27 1 = some (1, 4) := by kernel_rfl
theorem tfd27_2 : tField Tryz.prog 27 2 = some (2, 25) := by kernel_rfl
theorem tis27 : tIs Tryz.prog 27 = true := by kernel_rfl
theorem tsz28 : tSize Tryz.prog 28 = some 1 := by kernel_rfl
theorem tby28 : tBytes Tryz.prog 28 = some 24 := by kernel_rfl
theorem tag28 : tAgg Tryz.prog 28 = some false := by kernel_rfl
theorem tze28 : tZero Tryz.prog 28 = some [.nilsl] := by kernel_rfl
theorem tel28 : tElem Tryz.prog 28 = some 4 := by kernel_rfl
theorem tsl28 : tSli Tryz.prog 28 = true := by kernel_rfl
theorem tis28 : tIs Tryz.prog 28 = true := by kernel_rfl
theorem tsz30 : tSize Tryz.prog 30 = some 2 := by kernel_rfl
theorem tby30 : tBytes Tryz.prog 30 = some 48 := by kernel_rfl
theorem tag30 : tAgg Tryz.prog 30 = some true := by kernel_rfl
theorem tze30 : tZero Tryz.prog 30 = some [.nilsl, .nilsl] := by kernel_rfl
theorem tsc30 : tSct Tryz.prog 30 = true := by kernel_rfl
theorem tfd30_0 : tField Tryz.prog 30 0 = some (0, 23) := by kernel_rfl
theorem tfd30_1 : tField Tryz.prog 30 1 = some (1, 28) := by kernel_rfl
theorem tis30 : tIs Tryz.prog 30 = true := by kernel_rfl
theorem tsz32 : tSize Tryz.prog 32 = some 10 := by kernel_rfl
theorem tby32 : tBytes Tryz.prog 32 = some 128 := by kernel_rfl
theorem tag32 : tAgg Tryz.prog 32 = some true := by kernel_rfl
theorem tze32 : tZero Tryz.prog 32 = some [.nilsl, .int .i64 0, .bool false, .int .i64 0, .int .i64 0, .int .i64 0, .int .i64 0, .nilsl, .nilsl, .int .i64 0] := by kernel_rfl
theorem tsc32 : tSct Tryz.prog 32 = true := by kernel_rfl
theorem tfd32_0 : tField Tryz.prog 32 0 = some (0, 23) := by kernel_rfl
theorem tfd32_1 : tField Tryz.prog 32 1 = some (1, 27) := by kernel_rfl
theorem tfd32_2 : tField Tryz.prog 32 2 = some (7, 30) := by kernel_rfl
theorem tfd32_3 : tField Tryz.prog 32 3 = some (9, 3) := by kernel_rfl
theorem tis32 : tIs Tryz.prog 32 = true := by kernel_rfl
theorem tsz35 : tSize Tryz.prog 35 = some 1 := by kernel_rfl
theorem tby35 : tBytes Tryz.prog 35 = some 24 := by kernel_rfl
theorem tag35 : tAgg Tryz.prog 35 = some false := by kernel_rfl
theorem tze35 : tZero Tryz.prog 35 = some [.nilsl] := by kernel_rfl
theorem tel35 : tElem Tryz.prog 35 = some 38 := by kernel_rfl
theorem tsl35 : tSli Tryz.prog 35 = true := by kernel_rfl
theorem tis35 : tIs Tryz.prog 35 = true := by kernel_rfl
theorem tsz36 : tSize Tryz.prog 36 = some 4 := by kernel_rfl
theorem tby36 : tBytes Tryz.prog 36 = some 32 := by kernel_rfl
theorem tag36 : tAgg Tryz.prog 36 = some true := by kernel_rfl
theorem tze36 : tZero Tryz.prog 36 = some [.int .i64 0, .int .i64 0, .int .i64 0, .int .i64 0] := by kernel_rfl
theorem tsc36 : tSct Tryz.prog 36 = true := by kernel_rfl
theorem tfd36_0 : tField Tryz.prog 36 0 = some (0, 3) := by kernel_rfl
theorem tfd36_1 : tField Tryz.prog 36 1 = some (1, 3) := by kernel_rfl
theorem tfd36_2 : tField Tryz.prog 36 2 = some (2, 3) := by kernel_rfl
theorem tfd36_3 : tField Tryz.prog 36 3 = some (3, 3) := by kernel_rfl
theorem tis36 : tIs Tryz.prog 36 = true := by kernel_rfl
theorem tsz38 : tSize Tryz.prog 38 = some 6 := by kernel_rfl
theorem tby38 : tBytes Tryz.prog 38 = some 48 := by kernel_rfl
theorem tag38 : tAgg Tryz.prog 38 = some true := by kernel_rfl
theorem tze38 : tZero Tryz.prog 38 = some [.int .i64 0, .bool false, .int .i64 0, .int .i64 0, .int .i64 0, .int .i64 0] := by kernel_rfl
theorem tsc38 : tSct Tryz.prog 38 = true := by kernel_rfl
theorem tfd38_0 : tField Tryz.prog 38 0 = some (0, 3) := by kernel_rfl
theorem tfd38_1 : tField Tryz.prog 38 1 = some (1, 4) := by kernel_rfl
theorem tfd38_2 : tField Tryz.prog 38 2 = some (2, 36) := by kernel_rfl
theorem tis38 : tIs Tryz.prog 38 = true := by kernel_rfl
theorem tsz40 : tSize Tryz.prog 40 = some 2 := by kernel_rfl
theorem tby40 : tBytes Tryz.prog 40 = some 48 := by kernel_rfl
theorem tag40 : tAgg Tryz.prog 40 = some true := by kernel_rfl
theorem tze40 : tZero Tryz.prog 40 = some [.nilsl, .nilsl] := by kernel_rfl
theorem tsc40 : tSct Tryz.prog 40 = true := by kernel_rfl
theorem tfd40_0 : tField Tryz.prog 40 0 = some (0, 35) := by kernel_rfl
theorem tfd40_1 : tField Tryz.prog 40 1 = some (1, 28) := by kernel_rfl
theorem tis40 : tIs Tryz.prog 40 = true := by kernel_rfl
theorem tsz42 : tSize Tryz.prog 42 = some 10 := by kernel_rfl
theorem tby42 : tBytes Tryz.prog 42 = some 128 := by kernel_rfl
theorem tag42 : tAgg Tryz.prog 42 = some true := by kernel_rfl
theorem tze42 : tZero Tryz.prog 42 = some [.nilsl, .int .i64 0, .bool false, .int .i64 0, .int .i64 0, .int .i64 0, .int .i64 0, .nilsl, .nilsl, .int .i64 0] := by kernel_rfl
theorem tsc42 : tSct Tryz.prog 42 = true := by kernel_rfl
theorem tfd42_0 : tField Tryz.prog 42 0 = some (0, 35) := by kernel_rfl
theorem tfd42_1 : tField Tryz.prog 42 1 = some (1, 38) := by kernel_rfl
theorem tfd42_2 : tField Tryz.prog 42 2 = some (7, 40) := by kernel_rfl
theorem tfd42_3 : tField Tryz.prog 42 3 = some (9, 3) := by kernel_rfl
theorem tis42 : tIs Tryz.prog 42 = true := by kernel_rfl
theorem tsz45 : tSize Tryz.prog 45 = some 1 := by kernel_rfl
theorem tby45 : tBytes Tryz.prog 45 = some 24 := by kernel_rfl
theorem tag45 : tAgg Tryz.prog 45 = some false := by kernel_rfl
theorem tze45 : tZero Tryz.prog 45 = some [.nilsl] := by kernel_rfl
theorem tel45 : tElem Tryz.prog 45 = some 97 := by kernel_rfl
theorem tsl45 : tSli Tryz.prog 45 = true := by kernel_rfl
theorem tis45 : tIs Tryz.prog 45 = true := by kernel_rfl
theorem tsz54 : tSize Tryz.prog 54 = some 1 := by kernel_rfl
theorem tby54 : tBytes Tryz.prog 54 = some 24 := by kernel_rfl
theorem tag54 : tAgg Tryz.prog 54 = some false := by kernel_rfl
theorem tze54 : tZero Tryz.prog 54 = some [.nilsl] := by kernel_rfl
theorem tel54 : tElem Tryz.prog 54 = some 79 := by kernel_rfl
theorem tsl54 : tSli Tryz.prog 54 = true := by kernel_rfl
theorem tis54 : tIs Tryz.prog 54 = true := by kernel_rfl
theorem tsz57 : tSize Tryz.prog 57 = some 1 := by kernel_rfl
theorem tby57 : tBytes Tryz.prog 57 = some 24 := by kernel_rfl
theorem tag57 : tAgg Tryz.prog 57 = some false := by kernel_rfl
theorem tze57 : tZero Tryz.prog 57 = some [.nilsl] := by kernel_rfl
theorem tel57 : tElem Tryz.prog 57 = some 81 := by kernel_rfl
theorem tsl57 : tSli Tryz.prog 57 = true := by kernel_rfl
theorem tis57 : tIs Tryz.prog 57 = true := by kernel_rfl
theorem tsz61 : tSize Tryz.prog 61 = some 1 := by kernel_rfl
theorem tby61 : tBytes Tryz.prog 61 = some 24 := by kernel_rfl
theorem tag61 : tAgg Tryz.prog 61 = some false := by kernel_rfl
theorem tze61 : tZero Tryz.prog 61 = some [.nilsl] := by kernel_rfl
theorem tel61 : tElem Tryz.prog 61 = some 168 := by kernel_rfl
theorem tsl61 : tSli Tryz.prog 61 = true := by kernel_rfl
theorem tis61 : tIs Tryz.prog 61 = true := by kernel_rfl
theorem tsz62 : tSize Tryz.prog 62 = some 1 := by kernel_rfl
theorem tby62 : tBytes Tryz.prog 62 = some 24 := by kernel_rfl
theorem tag62 : tAgg Tryz.prog 62 = some false := by kernel_rfl
theorem tze62 : tZero Tryz.prog 62 = some [.nilsl] := by kernel_rfl
theorem tel62 : tElem Tryz.prog 62 = some 3 := by kernel_rfl
theorem tsl62 : tSli Tryz.prog 62 = true := by kernel_rfl
theorem tis62 : tIs Tryz.prog 62 = true := by kernel_rfl
theorem tsz64 : tSize Tryz.prog 64 = some 19 := by kernel_rfl
theorem tby64 : tBytes Tryz.prog 64 = some 232 := by kernel_rfl
theorem tag64 : tAgg Tryz.prog 64 = some true := by kernel_rfl
theorem tze64 : tZero Tryz.prog 64 = some [.nilsl, .int .i64 0, .bool false, .int .i64 0, .int .i64 0, .int .i64 0, .int .i64 0, .nilsl, .nilsl, .int .i64 0, .nilsl, .int .i64 0, .bool false, .int .i64 0, .int .i64 0, .int .i64 0, .int .i64 0, .bool false, .nilsl] := by kernel_rfl
theorem tsc64 : tSct Tryz.prog 64 = true := by kernel_rfl
theorem tfd64_0 : tField Tryz.prog 64 0 = some (0, 32) := by kernel_rfl
theorem tfd64_1 : tField Tryz.prog 64 1 = some (10, 61) := by kernel_rfl
theorem tfd64_2 : tField Tryz.prog 64 2 = some (11, 27) := by kernel_rfl
theorem tfd64_3 : tField Tryz.prog 64 3 = some (17, 4) := by kernel_rfl
theorem tfd64_4 : tField Tryz.prog 64 4 = some (18, 62) := by kernel_rfl
theorem tis64 : tIs Tryz.prog 64 = true := by kernel_rfl
theorem tsz66 : tSize Tryz.prog 66 = some 1 := by kernel_rfl
theorem tby66 : tBytes Tryz.prog 66 = some 24 := by kernel_rfl
theorem tag66 : tAgg Tryz.prog 66 = some false := by kernel_rfl
theorem tze66 : tZero Tryz.prog 66 = some [.nilsl] := by kernel_rfl
theorem tel66 : tElem Tryz.prog 66 = some 124 := by kernel_rfl
theorem tsl66 : tSli Tryz.prog 66 = true := by kernel_rfl
theorem tis66 : tIs Tryz.prog 66 = true := by kernel_rfl
theorem tsz68 : tSize Tryz.prog 68 = some 19 := by kernel_rfl
theorem tby68 : tBytes Tryz.prog 68 = some 232 := by kernel_rfl
theorem tag68 : tAgg Tryz.prog 68 = some true := by kernel_rfl
theorem tze68 : tZero Tryz.prog 68 = some [.nilsl, .int .i64 0, .bool false, .int .i64 0, .int .i64 0, .int .i64 0, .int .i64 0, .nilsl, .nilsl, .int .i64 0, .nilsl, .int .i64 0, .bool false, .int .i64 0, .int .i64 0, .int .i64 0, .int .i64 0, .bool false, .nilsl] := by kernel_rfl
theorem tsc68 : tSct Tryz.prog 68 = true := by kernel_rfl
theorem tfd68_0 : tField Tryz.prog 68 0 = some (0, 42) := by kernel_rfl
theorem tfd68_1 : tField Tryz.prog 68 1 = some (10, 66) := by kernel_rfl
theorem tfd68_2 : tField Tryz.prog 68 2 = some (11, 38) := by kernel_rfl
theorem tfd68_3 : tField Tryz.prog 68 3 = some (17, 4) := by kernel_rfl
theorem tfd68_4 : tField Tryz.prog 68 4 = some (18, 62) := by kernel_rfl
theorem tis68 : tIs Tryz.prog 68 = true := by kernel_rfl
theorem tsz79 : tSize Tryz.prog 79 = some 2 := by kernel_rfl
theorem tby79 : tBytes Tryz.prog 79 = some 16 := by kernel_rfl
theorem tag79 : tAgg Tryz.prog 79 = some true := by kernel_rfl
theorem tze79 : tZero Tryz.prog 79 = some [.int .i64 0, .int .i64 0] := by kernel_rfl
theorem tsc79 : tSct Tryz.prog 79 = true := by kernel_rfl
theorem tfd79_0 : tField Tryz.prog 79 0 = some (0, 3) := by kernel_rfl
theorem tfd79_1 : tField Tryz.prog 79 1 = some (1, 3) := by kernel_rfl
theorem tis79 : tIs Tryz.prog 79 = true := by kernel_rfl
theorem tsz81 : tSize Tryz.prog 81 = some 2 := by kernel_rfl
theorem tby81 : tBytes Tryz.prog 81 = some 16 := by kernel_rfl
theorem tag81 : tAgg Tryz.prog 81 = some true := by kernel_rfl
theorem tze81 : tZero Tryz.prog 81 = some [.int .i64 0, .int .i64 0] := by kernel_rfl
theorem tsc81 : tSct Tryz.prog 81 = true := by kernel_rfl
theorem tfd81_0 : tField Tryz.prog 81 0 = some (0, 3) := by kernel_rfl
theorem tfd81_1 : tField Tryz.prog 81 1 = some (1, 3) := by kernel_rfl
theorem tis81 : tIs Tryz.prog 81 = true := by kernel_rfl
theorem tsz97 : tSize Tryz.prog 97 = some 5 := by kernel_rfl
theorem tby97 : tBytes Tryz.prog 97 = some 40 := by kernel_rfl
theorem tag97 : tAgg Tryz.prog 97 = some true := by kernel_rfl
theorem tze97 : tZero Tryz.prog 97 = some [.int .i64 0, .int .i64 0, .int .i64 0, .int .i64 0, .int .i64 0] := by kernel_rfl
theorem tsc97 : tSct Tryz.prog 97 = true := by kernel_rfl
theorem tfd97_0 : tField Tryz.prog 97 0 = some (0, 3) := by kernel_rfl
theorem tfd97_1 : tField Tryz.prog 97 1 = some (1, 3) := by kernel_rfl
theorem tfd97_2 : tField Tryz.prog 97 2 = some (2, 3) := by kernel_rfl
theorem tfd97_3 : tField Tryz.prog 97 3 = some (3, 3) := by kernel_rfl
theorem tfd97_4 : tField Tryz.prog 97 4 = some (4, 3) := by kernel_rfl
theorem tis97 : tIs Tryz.prog 97 = true := by kernel_rfl
theorem tsz99 : tSize Tryz.prog 99 = some 5 := by kernel_rfl
theorem tby99 : tBytes Tryz.prog 99 = some 40 := by kernel_rfl
theorem tag99 : tAgg Tryz.prog 99 = some true := by kernel_rfl
theorem tze99 : tZero Tryz.prog 99 = some [.int .i64 0, .int .i64 0, .int .i64 0, .int .i64 0, .int .i64 0] := by kernel_rfl
theorem tsc99 : tSct Tryz.prog 99 = true := by kernel_rfl
theorem tfd99_0 : tField Tryz.prog 99 0 = some (0, 3) := by kernel_rfl
theorem tfd99_1 : tField Tryz.prog 99 1 = some (1, 3) := by kernel_rfl
theorem tfd99_2 : tField Tryz.prog 99 2 = some (2, 3) := by kernel_rfl
theorem tfd99_3 : tField Tryz.prog 99 3 = some (3, 3) := by kernel_rfl
theorem tfd99_4 : tField Tryz.prog 99 4 = some (4, 3) := by kernel_rfl
theorem tis99 : tIs Tryz.prog 99 = true := by kernel_rfl
theorem tsz121 : tSize Tryz.prog 121 = some 22 := by kernel_rfl
theorem tby121 : tBytes Tryz.prog 121 = some 176 := by kernel_rfl
theorem tag121 : tAgg Tryz.prog 121 = some true := by kernel_rfl
theorem tze121 : tZero Tryz.prog 121 = some [.int .i64 0, .int .i64 0, .int .i64 0, .bool false, .int .i64 0, .int .i64 0, .int .i64 0, .int .i64 0, .int .i64 0, .bool false, .int .i64 0, .int .i64 0, .int .i64 0, .int .i64 0, .int .i64 0, .int .i64 0, .bool false, .int .i64 0, .int .i64 0, .int .i64 0, .int .i64 0, .int .i64 0] := by kernel_rfl
theorem tsc121 : tSct Tryz.prog 121 = true := by kernel_rfl
theorem tfd121_0 : tField Tryz.prog 121 0 = some (0, 3) := by kernel_rfl
theorem tfd121_1 : tField Tryz.prog 121 1 = some (1, 3) := by kernel_rfl
theorem tfd121_2 : tField Tryz.prog 121 2 = some (2, 38) := by kernel_rfl
theorem tfd121_3 : tField Tryz.prog 121 3 = some (8, 38) := by kernel_rfl
theorem tfd121_4 : tField Tryz.prog 121 4 = some (14, 3) := by kernel_rfl
theorem tfd121_5 : tField Tryz.prog 121 5 = some (15, 38) := by kernel_rfl
theorem tfd121_6 : tField Tryz.prog 121 6 = some (21, 3) := by kernel_rfl
theorem tis121 : tIs Tryz.prog 121 = true := by kernel_rfl
theorem tsz124 : tSize Tryz.prog 124 = some 40 := by kernel_rfl
theorem tby124 : tBytes Tryz.prog 124 = some 320 := by kernel_rfl
theorem tag124 : tAgg Tryz.prog 124 = some true := by kernel_rfl
theorem tze124 : tZero Tryz.prog 124 = some [.int .i64 0, .bool false, .int .i64 0, .int .i64 0, .int .i64 0, .int .i64 0, .int .i64 0, .int .i64 0, .int .i64 0, .int .i64 0, .int .i64 0, .bool false, .int .i64 0, .int .i64 0, .int .i64 0, .bool false, .int .i64 0, .int .i64 0, .int .i64 0, .int .i64 0, .int .i64 0, .bool false, .int .i64 0, .int .i64 0, .int .i64 0, .int .i64 0, .int .i64 0, .int .i64 0, .bool false, .int .i64 0, .int .i64 0, .int .i64 0, .int .i64 0, .int .i64 0, .int .i64 0, .bool false, .int .i64 0, .int .i64 0, .int .i64 0, .int .i64 0] := by kernel_rfl
theorem tsc124 : tSct Tryz.prog 124 = true := by kernel_rfl
theorem tfd124_0 : tField Tryz.prog 124 0 = some (0, 38) := by kernel_rfl
theorem tfd124_1 : tField Tryz.prog 124 1 = some (6, 97) := by kernel_rfl
theorem tfd124_2 : tField Tryz.prog 124 2 = some (11, 4) := by kernel_rfl
theorem tfd124_3 : tField Tryz.prog 124 3 = some (12, 121) := by kernel_rfl
theorem tfd124_4 : tField Tryz.prog 124 4 = some (34, 38) := by kernel_rfl
theorem tis124 : tIs Tryz.prog 124 = true := by kernel_rfl
theorem tsz166 : tSize Tryz.prog 166 = some 22 := by kernel_rfl
theorem tby166 : tBytes Tryz.prog 166 = some 176 := by kernel_rfl
theorem tag166 : tAgg Tryz.prog 166 = some true := by kernel_rfl
theorem tze166 : tZero Tryz.prog 166 = some [.int .i64 0, .int .i64 0, .int .i64 0, .bool false, .int .i64 0, .int .i64 0, .int .i64 0, .int .i64 0, .int .i64 0, .bool false, .int .i64 0, .int .i64 0, .int .i64 0, .int .i64 0, .int .i64 0, .int .i64 0, .bool false, .int .i64 0, .int .i64 0, .int .i64 0, .int .i64 0, .int .i64 0] := by kernel_rfl
theorem tsc166 : tSct Tryz.prog 166 = true := by kernel_rfl
theorem tfd166_0 : tField Tryz.prog 166 0 = some (0, 3) := by kernel_rfl
theorem tfd166_1 : tField Tryz.prog 166 1 = some (1, 3) := by kernel_rfl
theorem tfd166_2 : tField Tryz.prog 166 2 = some (2, 27) := by kernel_rfl
theorem tfd166_3 : tField Tryz.prog 166 3 = some (8, 27) := by kernel_rfl
theorem tfd166_4 : tField Tryz.prog 166 4 = some (14, 3) := by kernel_rfl
theorem tfd166_5 : tField Tryz.prog 166 5 = some (15, 27) := by kernel_rfl
theorem tfd166_6 : tField Tryz.prog 166 6 = some (21, 3) := by kernel_rfl
theorem tis166 : tIs Tryz.prog 166 = true := by kernel_rfl
theorem tsz168 : tSize Tryz.prog 168 = some 40 := by kernel_rfl
theorem tby168 : tBytes Tryz.prog 168 = some 320 := by kernel_rfl
theorem tag168 : tAgg Tryz.prog 168 = some true := by kernel_rfl
theorem tze168 : tZero Tryz.prog 168 = some [.int .i64 0, .bool false, .int .i64 0, .int .i64 0, .int .i64 0, .int .i64 0, .int .i64 0, .int .i64 0, .int .i64 0, .int .i64 0, .int .i64 0, .bool false, .int .i64 0, .int .i64 0, .int .i64 0, .bool false, .int .i64 0, .int .i64 0, .int .i64 0, .int .i64 0, .int .i64 0, .bool false, .int .i64 0, .int .i64 0, .int .i64 0, .int .i64 0, .int .i64 0, .int .i64 0, .bool false, .int .i64 0, .int .i64 0, .int .i64 0, .int .i64 0, .int .i64 0, .int .i64 0, .bool false, .int .i64 0, .int .i64 0, .int .i64 0, .int .i64 0] := by kernel_rfl
theorem tsc168 : tSct Tryz.prog 168 = true := by kernel_rfl
theorem tfd168_0 : tField Tryz.prog 168 0 = some (0, 27) := by kernel_rfl
theorem tfd168_1 : tField Tryz.prog 168 1 = some (6, 99) := by kernel_rfl
theorem tfd168_2 : tField Tryz.prog 168 2 = some (11, 4) := by kernel_rfl
theorem tfd168_3 : tField Tryz.prog 168 3 = some (12, 166) := by kernel_rfl
theorem tfd168_4 : tField Tryz.prog 168 4 = some (34, 27) := by kernel_rfl
theorem tis168 : tIs Tryz.prog 168 = true := by kernel_rfl
theorem tsz186 : tSize Tryz.prog 186 = some 1 := by kernel_rfl
theorem tby186 : tBytes Tryz.prog 186 = some 24 := by kernel_rfl
theorem tag186 : tAgg Tryz.prog 186 = some false := by kernel_rfl
theorem tze186 : tZero Tryz.prog 186 = some [.nilsl] := by kernel_rfl
theorem tel186 : tElem Tryz.prog 186 = some 35 := by kernel_rfl
theorem tsl186 : tSli Tryz.prog 186 = true := by kernel_rfl
theorem tis186 : tIs Tryz.prog 186 = true := by kernel_rfl
theorem tsz204 : tSize Tryz.prog 204 = some 1 := by kernel_rfl
theorem tby204 : tBytes Tryz.prog 204 = some 8 := by kernel_rfl
theorem tag204 : tAgg Tryz.prog 204 = some false := by kernel_rfl
theorem tze204 : tZero Tryz.prog 204 = some [.int .u64 0] := by kernel_rfl
theorem tin204 : tInt Tryz.prog 204 = some .u64 := by kernel_rfl
theorem tis204 : tIs Tryz.prog 204 = true := by kernel_rfl
theorem tsz209 : tSize Tryz.prog 209 = some 1 := by kernel_rfl
theorem tby209 : tBytes Tryz.prog 209 = some 24 := by kernel_rfl
theorem tag209 : tAgg Tryz.prog 209 = some false := by kernel_rfl
theorem tze209 : tZero Tryz.prog 209 = some [.nilsl] := by kernel_rfl
theorem tel209 : tElem Tryz.prog 209 = some 5 := by kernel_rfl
theorem tsl209 : tSli Tryz.prog 209 = true := by kernel_rfl
theorem tis209 : tIs Tryz.prog 209 = true := by kernel_rfl
theorem tsz216 : tSize Tryz.prog 216 = some 1 := by kernel_rfl
theorem tby216 : tBytes Tryz.prog 216 = some 4 := by kernel_rfl
theorem tag216 : tAgg Tryz.prog 216 = some false := by kernel_rfl
theorem tze216 : tZero Tryz.prog 216 = some [.int .u32 0] := by kernel_rfl
theorem tin216 : tInt Tryz.prog 216 = some .u32 := by kernel_rfl
theorem tis216 : tIs Tryz.prog 216 = true := by kernel_rfl
theorem tsz219 : tSize Tryz.prog 219 = some 1 := by kernel_rfl
theorem tby219 : tBytes Tryz.prog 219 = some 8 := by kernel_rfl
theorem tag219 : tAgg Tryz.prog 219 = some false := by kernel_rfl
theorem tze219 : tZero Tryz.prog 219 = some [.int .u64 0] := by kernel_rfl
theorem tin219 : tInt Tryz.prog 219 = some .u64 := by kernel_rfl
theorem tis219 : tIs Tryz.prog 219 = true := by kernel_rfl
theorem tsz224 : tSize Tryz.prog 224 = some 3 := by kernel_rfl
theorem tby224 : tBytes Tryz.prog 224 = some 24 := by kernel_rfl
theorem tag224 : tAgg Tryz.prog 224 = some true := by kernel_rfl
theorem tze224 : tZero Tryz.prog 224 = some [.int .i64 0, .int .i64 0, .int .i64 0] := by kernel_rfl
theorem tsc224 : tSct Tryz.prog 224 = true := by kernel_rfl
theorem tfd224_0 : tField Tryz.prog 224 0 = some (0, 3) := by kernel_rfl
theorem tfd224_1 : tField Tryz.prog 224 1 = some (1, 3) := by kernel_rfl
theorem tfd224_2 : tField Tryz.prog 224 2 = some (2, 3) := by kernel_rfl
theorem tis224 : tIs Tryz.prog 224 = true := by kernel_rfl
attribute [go_sem] tsz3 tby3 tag3 tze3 tin3 tis3 tsz4 tby4 tag4 tze4 tbo4 tis4 tsz5 tby5 tag5 tze5 tin5 tis5 tsz9 tby9 tag9 tze9 tst9 tis9 tsz22 tby22 tag22 tze22 tel22 tsl22 tis22 tsz23 tby23 tag23 tze23 tel23 tsl23 tis23 tsz25 tby25 tag25 tze25 tsc25 tfd25_0 tfd25_1 tfd25_2 tfd25_3 tis25 tsz27 tby27 tag27 tze27 tsc27 tfd27_0 tfd27_1 tfd27_2 tis27 tsz28 tby28 tag28 tze28 tel28 tsl28 tis28 tsz30 tby30 tag30 tze30 tsc30 tfd30_0 tfd30_1 tis30 tsz32 tby32 tag32 tze32 tsc32 tfd32_0 tfd32_1 tfd32_2 tfd32_3 tis32 tsz35 tby35 tag35 tze35 tel35 tsl35 tis35 tsz36 tby36 tag36 tze36 tsc36 tfd36_0 tfd36_1 tfd36_2 tfd36_3 tis36 tsz38 tby38 tag38 tze38 tsc38 tfd38_0 tfd38_1 tfd38_2 tis38 tsz40 tby40 tag40 tze40 tsc40 tfd40_0 tfd40_1 tis40 tsz42 tby42 tag42 tze42 tsc42 tfd42_0 tfd42_1 tfd42_2 tfd42_3 tis42 tsz45 tby45 tag45 tze45 tel45 tsl45 tis45 tsz54 tby54 tag54 tze54 tel54 tsl54 tis54 tsz57 tby57 tag57 tze57 tel57 tsl57 tis57 tsz61 tby61 tag61 tze61 tel61 tsl61 tis61 tsz62 tby62 tag62 tze62 tel62 tsl62 tis62 tsz64 tby64 tag64 tze64 tsc64 tfd64_0 tfd64_1 tfd64_2 tfd64_3 tfd64_4 tis64 tsz66 tby66 tag66 tze66 tel66 tsl66 tis66 tsz68 tby68 tag68 tze68 tsc68 tfd68_0 tfd68_1 tfd68_2 tfd68_3 tfd68_4 tis68 tsz79 tby79 tag79 tze79 tsc79 tfd79_0 tfd79_1 tis79 tsz81 tby81 tag81 tze81 tsc81 tfd81_0 tfd81_1 tis81 tsz97 tby97 tag97 tze97 tsc97 tfd97_0 tfd97_1 tfd97_2 tfd97_3 tfd97_4 tis97 tsz99 tby99 tag99 tze99 tsc99 tfd99_0 tfd99_1 tfd99_2 tfd99_3 tfd99_4 tis99 tsz121 tby121 tag121 tze121 tsc121 tfd121_0 tfd121_1 tfd121_2 tfd121_3 tfd121_4 tfd121_5 tfd121_6 tis121 tsz124 tby124 tag124 tze124 tsc124 tfd124_0 tfd124_1 tfd124_2 tfd124_3 tfd124_4 tis124 tsz166 tby166 tag166 tze166 tsc166 tfd166_0 tfd166_1 tfd166_2 tfd166_3 tfd166_4 tfd166_5 tfd166_6 tis166 tsz168 tby168 tag168 tze168 tsc168 tfd168_0 tfd168_1 tfd168_2 tfd168_3 tfd168_4 tis168 tsz186 tby186 tag186 tze186 tel186 tsl186 tis186 tsz204 tby204 tag204 tze204 tin204 tis204 tsz209 tby209 tag209 tze209 tel209 tsl209 tis209 tsz216 tby216 tag216 tze216 tin216 tis216 tsz219 tby219 tag219 tze219 tin219 tis219 tsz224 tby224 tag224 tze224 tsc224 tfd224_0 tfd224_1 tfd224_2 tis224
set_option maxRecDepth 100000 in
theorem teq36 {a0 : Int} {b0 : Int} {a1 : Int} {b1 : Int} {a2 : Int} {b2 : Int} {a3 : Int} {b3 : Int} : eqV Tryz.prog Op.maxDepth 36 (.agg [(.int .i64 a0), (.int .i64 a1), (.int .i64 a2), (.int .i64 a3)]) (.agg [(.int .i64 b0), (.int .i64 b1), (.int .i64 b2), (.int .i64 b3)]) = some ((decide (a0 = b0)) && ((decide (a1 = b1)) && ((decide (a2 = b2)) && ((decide (a3 = b3)) && true)))) := (eqV_struct Tryz.underlying36 (by kernel_rfl) (eqFs_cons (by decide) (a := (.int .i64 a0)) (b := (.int .i64 b0)) (by simp only [go_sem]; try rfl) (by simp only [go_sem]; try rfl) (eqV_int (by simp only [tin3]; rfl)) (eqFs_cons (by decide) (a := (.int .i64 a1)) (b := (.int .i64 b1)) (by simp only [go_sem]; try rfl) (by simp only [go_sem]; try rfl) (eqV_int (by simp only [tin3]; rfl)) (eqFs_cons (by decide) (a := (.int .i64 a2)) (b := (.int .i64 b2)) (by simp only [go_sem]; try rfl) (by simp only [go_sem]; try rfl) (eqV_int (by simp only [tin3]; rfl)) (eqFs_cons (by decide) (a := (.int .i64 a3)) (b := (.int .i64 b3)) (by simp only [go_sem]; try rfl) (by simp only [go_sem]; try rfl) (eqV_int (by simp only [tin3]; rfl)) eqFs_nil)))))
theorem tgd36 : Tryz.prog.eqGuardType Tryz.prog.depth 36 = false := by kernel_rfl
attribute [go_sem] teq36 tgd36
set_option maxRecDepth 100000 in
theorem teq38 {a0 : Int} {b0 : Int} {a1 : Bool} {b1 : Bool} {a2 : Int} {b2 : Int} {a3 : Int} {b3 : Int} {a4 : Int} {b4 : Int} {a5 : Int} {b5 : Int} : eqV Tryz.prog Op.maxDepth 38 (.agg [(.int .i64 a0), (.bool a1), (.int .i64 a2), (.int .i64 a3), (.int .i64 a4), (.int .i64 a5)]) (.agg [(.int .i64 b0), (.bool b1), (.int .i64 b2), (.int .i64 b3), (.int .i64 b4), (.int .i64 b5)]) = some ((decide (a0 = b0)) && ((a1 == b1) && (((decide (a2 = b2)) && ((decide (a3 = b3)) && ((decide (a4 = b4)) && ((decide (a5 = b5)) && true)))) && true))) := (eqV_struct Tryz.underlying38 (by kernel_rfl) (eqFs_cons (by decide) (a := (.int .i64 a0)) (b := (.int .i64 b0)) (by simp only [go_sem]; try rfl) (by simp only [go_sem]; try rfl) (eqV_int (by simp only [tin3]; rfl)) (eqFs_cons (by decide) (a := (.bool a1)) (b := (.bool b1)) (by simp only [go_sem]; try rfl) (by simp only [go_sem]; try rfl) (eqV_bool tbo4) (eqFs_cons (by decide) (a := (.agg [(.int .i64 a2), (.int .i64 a3), (.int .i64 a4), (.int .i64 a5)])) (b := (.agg [(.int .i64 b2), (.int .i64 b3), (.int .i64 b4), (.int .i64 b5)])) (by simp only [go_sem]; try rfl) (by simp only [go_sem]; try rfl) (eqV_struct Tryz.underlying36 (by kernel_rfl) (eqFs_cons (by decide) (a := (.int .i64 a2)) (b := (.int .i64 b2)) (by simp only [go_sem]; try rfl) (by simp only [go_sem]; try rfl) (eqV_int (by simp only [tin3]; rfl)) (eqFs_cons (by decide) (a := (.int .i64 a3)) (b := (.int .i64 b3)) (by simp only [go_sem]; try rfl) (by simp only [go_sem]; try rfl) (eqV_int (by simp only [tin3]; rfl)) (eqFs_cons (by decide) (a := (.int .i64 a4)) (b := (.int .i64 b4)) (by simp only [go_sem]; try rfl) (by simp only [go_sem]; try rfl) (eqV_int (by simp only [tin3]; rfl)) (eqFs_cons (by decide) (a := (.int .i64 a5)) (b := (.int .i64 b5)) (by simp only [go_sem]; try rfl) (by simp only [go_sem]; try rfl) (eqV_int (by simp only [tin3]; rfl)) eqFs_nil))))) eqFs_nil))))
theorem tgd38 : Tryz.prog.eqGuardType Tryz.prog.depth 38 = false := by kernel_rfl
attribute [go_sem] teq38 tgd38
set_option maxRecDepth 100000 in
theorem teq97 {a0 : Int} {b0 : Int} {a1 : Int} {b1 : Int} {a2 : Int} {b2 : Int} {a3 : Int} {b3 : Int} {a4 : Int} {b4 : Int} : eqV Tryz.prog Op.maxDepth 97 (.agg [(.int .i64 a0), (.int .i64 a1), (.int .i64 a2), (.int .i64 a3), (.int .i64 a4)]) (.agg [(.int .i64 b0), (.int .i64 b1), (.int .i64 b2), (.int .i64 b3), (.int .i64 b4)]) = some ((decide (a0 = b0)) && ((decide (a1 = b1)) && ((decide (a2 = b2)) && ((decide (a3 = b3)) && ((decide (a4 = b4)) && true))))) := (eqV_struct Tryz.underlying97 (by kernel_rfl) (eqFs_cons (by decide) (a := (.int .i64 a0)) (b := (.int .i64 b0)) (by simp only [go_sem]; try rfl) (by simp only [go_sem]; try rfl) (eqV_int (by simp only [tin3]; rfl)) (eqFs_cons (by decide) (a := (.int .i64 a1)) (b := (.int .i64 b1)) (by simp only [go_sem]; try rfl) (by simp only [go_sem]; try rfl) (eqV_int (by simp only [tin3]; rfl)) (eqFs_cons (by decide) (a := (.int .i64 a2)) (b := (.int .i64 b2)) (by simp only [go_sem]; try rfl) (by simp only [go_sem]; try rfl) (eqV_int (by simp only [tin3]; rfl)) (eqFs_cons (by decide) (a := (.int .i64 a3)) (b := (.int .i64 b3)) (by simp only [go_sem]; try rfl) (by simp only [go_sem]; try rfl) (eqV_int (by simp only [tin3]; rfl)) (eqFs_cons (by decide) (a := (.int .i64 a4)) (b := (.int .i64 b4)) (by simp only [go_sem]; try rfl) (by simp only [go_sem]; try rfl) (eqV_int (by simp only [tin3]; rfl)) eqFs_nil))))))
theorem tgd97 : Tryz.prog.eqGuardType Tryz.prog.depth 97 = false := by kernel_rfl
attribute [go_sem] teq97 tgd97
end Go.Proofs.YtokjjeibagmgpaaGreat.AM
