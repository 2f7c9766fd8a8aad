/- What the program's types are. No conditions. -/
import Derived.Test.YtopjagninmjkbaaGreatM4
import Derived.Test.YtopjagninmjkbaaGreatProg
import Derived.KernelRfl
set_option linter.unusedSimpArgs false
set_option linter.unusedVariables false
namespace Go.Proofs.YtopjagninmjkbaaGreat.AM
open Go
theorem mixed : Tryz.prog.follows .mixedOrders = true := by kernel_rfl
theorem tsz3 : tSize Tryz.prog 3 = some 1 := by kernel_rfl
theorem tby3 : tBytes Tryz.prog 3 = some 8 := by kernel_rfl
theorem tag3 : tAgg Tryz.prog 3 = some false := by kernel_rfl
theorem tze3 : tZero Tryz.prog 3 = some [.int .i64 0] := by kernel_rfl
theorem tin3 : tInt Tryz.prog 3 = some .i64 := by kernel_rfl
theorem tis3 : tIs Tryz.prog 3 = true := by kernel_rfl
theorem tsz4 : tSize Tryz.prog 4 = some 1 := by kernel_rfl
theorem tby4 : tBytes Tryz.prog 4 = some 1 := by kernel_rfl
theorem tag4 : tAgg Tryz.prog 4 = some false := by kernel_rfl
theorem tze4 : tZero Tryz.prog 4 = some [.bool false] := by kernel_rfl
theorem tbo4 : tBoo Tryz.prog 4 = true := by kernel_rfl
theorem tis4 : tIs Tryz.prog 4 = true := by kernel_rfl
theorem tsz5 : tSize Tryz.prog 5 = some 1 := by kernel_rfl
theorem tby5 : tBytes Tryz.prog 5 = some 1 := by kernel_rfl
theorem tag5 : tAgg Tryz.prog 5 = some false := by kernel_rfl
theorem tze5 : tZero Tryz.prog 5 = some [.int .u8 0] := by kernel_rfl
theorem tin5 : tInt Tryz.prog 5 = some .u8 := by kernel_rfl
theorem tis5 : tIs Tryz.prog 5 = true := by kernel_rfl
theorem tsz9 : tSize Tryz.prog 9 = some 1 := by kernel_rfl
theorem tby9 : tBytes Tryz.prog 9 = some 16 := by kernel_rfl
theorem tag9 : tAgg Tryz.prog 9 = some false := by kernel_rfl
theorem tze9 : tZero Tryz.prog 9 = some [.str ⟨#[]⟩] := by kernel_rfl
theorem tst9 : tStr Tryz.prog 9 = true := by kernel_rfl
theorem tis9 : tIs Tryz.prog 9 = true := by kernel_rfl
theorem tsz22 : tSize Tryz.prog 22 = some 1 := by kernel_rfl
theorem tby22 : tBytes Tryz.prog 22 = some 24 := by kernel_rfl
theorem tag22 : tAgg Tryz.prog 22 = some false := by kernel_rfl
theorem tze22 : tZero Tryz.prog 22 = some [.nilsl] := by kernel_rfl
theorem tel22 : tElem Tryz.prog 22 = some 78 := by kernel_rfl
theorem tsl22 : tSli Tryz.prog 22 = true := by kernel_rfl
theorem tis22 : tIs Tryz.prog 22 = true := by kernel_rfl
theorem tsz23 : tSize Tryz.prog 23 = some 1 := by kernel_rfl
theorem tby23 : tBytes Tryz.prog 23 = some 24 := by kernel_rfl
theorem tag23 : tAgg Tryz.prog 23 = some false := by kernel_rfl
theorem tze23 : tZero Tryz.prog 23 = some [.nilsl] := by kernel_rfl
theorem tel23 : tElem Tryz.prog 23 = some 27 := by kernel_rfl
theorem tsl23 : tSli Tryz.prog 23 = true := by kernel_rfl
theorem tis23 : tIs Tryz.prog 23 = true := by kernel_rfl
theorem tsz25 : tSize Tryz.prog 25 = some 4 := by kernel_rfl
theorem tby25 : tBytes Tryz.prog 25 = some 32 := by kernel_rfl
theorem tag25 : tAgg Tryz.prog 25 = some true := by kernel_rfl
theorem tze25 : tZero Tryz.prog 25 = some [.int .i64 0, .int .i64 0, .int .i64 0, .int .i64 0] := by kernel_rfl
theorem tsc25 : tSct Tryz.prog 25 = true := by kernel_rfl
theorem tfd25_0 : tField Tryz.prog 25 0 = some (0, 3) := by kernel_rfl
theorem tfd25_1 : tField Tryz.prog 25 1 = some (1, 3) := by kernel_rfl
theorem tfd25_2 : tField Tryz.prog 25 2 = some (2, 3) := by kernel_rfl
theorem tfd25_3 : tField Tryz.prog 25 3 = some (3, 3) := by kernel_rfl
theorem tis25 : tIs Tryz.prog 25 = true := by kernel_rfl
theorem tsz27 : tSize Tryz.prog 27 = some 6 := by kernel_rfl
theorem tby27 : tBytes Tryz.prog 27 = some 48 := by kernel_rfl
theorem tag27 : tAgg Tryz.prog 27 = some true := by kernel_rfl
theorem tze27 : tZero Tryz.prog 27 = some [.int .i64 0, .bool false, .int .i64 0, .int .i64 0, .int .i64 0, .int .i64 0] := by kernel_rfl
theorem tsc27 : tSct Tryz.prog 27 = true := by kernel_rfl
theorem tfd27_0 : tField Tryz.prog 27 0 = some (0, 3) := by kernel_rfl
theorem tfd27_1 : tField Tryz.prog 27 1 = some (1, 4) := by kernel_rfl
theorem tfd27_2 : tField Tryz.prog 27 2 = some (2, 25) := by kernel_rfl
theorem tis27 : tIs Tryz.prog 27 = true := by kernel_rfl
theorem tsz28 : tSize Tryz.prog 28 = some 1 := by kernel_rfl
theorem tby28 : tBytes Tryz.prog 28 = some 24 := by kernel_rfl
theorem tag28 : tAgg Tryz.prog 28 = some false := by kernel_rfl
theorem tze28 : tZero Tryz.prog 28 = some [.nilsl] := by kernel_rfl
theorem tel28 : tElem Tryz.prog 28 = some 4 := by kernel_rfl
theorem tsl28 : tSli Tryz.prog 28 = true := by kernel_rfl
theorem tis28 : tIs Tryz.prog 28 = true := by kernel_rfl
theorem tsz30 : tSize Tryz.prog 30 = some 2 := by kernel_rfl
theorem tby30 : tBytes Tryz.prog 30 = some 48 := by kernel_rfl
theorem tag30 : tAgg Tryz.prog 30 = some true := by kernel_rfl
theorem tze30 : tZero Tryz.prog 30 = some [.nilsl, .nilsl] := by kernel_rfl
theorem tsc30 : tSct Tryz.prog 30 = true := by kernel_rfl
theorem tfd30_0 : tField Tryz.prog 30 0 = some (0, 23) := by kernel_rfl
theorem tfd30_1 : tField Tryz.prog 30 1 = some (1, 28) := by kernel_rfl
theorem tis30 : tIs Tryz.prog 30 = true := by kernel_rfl
theorem tsz32 : tSize Tryz.prog 32 = some 10 := by kernel_rfl
theorem tby32 : tBytes Tryz.prog 32 = some 128 := by kernel_rfl
theorem tag32 : tAgg Tryz.prog 32 = some true := by kernel_rfl
theorem tze32 : tZero Tryz.prog 32 = some [.nilsl, .int .i64 0, .bool false, .int .i64 0, .int .i64 0, .int .i64 0, .int .i64 0, .nilsl, .nilsl, .int .i64 0] := by kernel_rfl
theorem tsc32 : tSct Tryz.prog 32 = true := by kernel_rfl
theorem tfd32_0 : tField Tryz.prog 32 0 = some (0, 23) := by kernel_rfl
theorem tfd32_1 : tField Tryz.prog 32 1 = some (1, 27) := by kernel_rfl
theorem tfd32_2 : tField Tryz.prog 32 2 = some (7, 30) := by kernel_rfl
theorem tfd32_3 : tField Tryz.prog 32 3 = some (9, 3) := by kernel_rfl
theorem tis32 : tIs Tryz.prog 32 = true := by kernel_rfl
theorem tsz33 : tSize Tryz.prog 33 = some 1 := by kernel_rfl
theorem tby33 : tBytes Tryz.prog 33 = some 24 := by kernel_rfl
theorem tag33 : tAgg Tryz.prog 33 = some false := by kernel_rfl
theorem tze33 : tZero Tryz.prog 33 = some [.nilsl] := by kernel_rfl
theorem tel33 : tElem Tryz.prog 33 = some 111 := by kernel_rfl
theorem tsl33 : tSli Tryz.prog 33 = true := by kernel_rfl
theorem tis33 : tIs Tryz.prog 33 = true := by kernel_rfl
theorem tsz34 : tSize Tryz.prog 34 = some 1 := by kernel_rfl
theorem tby34 : tBytes Tryz.prog 34 = some 24 := by kernel_rfl
theorem tag34 : tAgg Tryz.prog 34 = some false := by kernel_rfl
theorem tze34 : tZero Tryz.prog 34 = some [.nilsl] := by kernel_rfl
theorem tel34 : tElem Tryz.prog 34 = some 3 := by kernel_rfl
theorem tsl34 : tSli Tryz.prog 34 = true := by kernel_rfl
theorem tis34 : tIs Tryz.prog 34 = true := by kernel_rfl
theorem tsz36 : tSize Tryz.prog 36 = some 19 := by kernel_rfl
theorem tby36 : tBytes Tryz.prog 36 = some 232 := by kernel_rfl
theorem tag36 : tAgg Tryz.prog 36 = some true := by kernel_rfl
theorem tze36 : tZero Tryz.prog 36 = some [.nilsl, .int .i64 0, .bool false, .int .i64 0, .int .i64 0, .int .i64 0, .int .i64 0, .nilsl, .nilsl, .int .i64 0, .nilsl, .int .i64 0, .bool false, .int .i64 0, .int .i64 0, .int .i64 0, .int .i64 0, .bool false, .nilsl] := by kernel_rfl
theorem tsc36 : tSct Tryz.prog 36 = true := by kernel_rfl
theorem tfd36_0 : tField Tryz.prog 36 0 = some (0, 32) := by kernel_rfl
theorem tfd36_1 : tField Tryz.prog 36 1 = some (10, 33) := by kernel_rfl
theorem tfd36_2 : tField Tryz.prog 36 2 = some (11, 27) := by kernel_rfl
theorem tfd36_3 : tField Tryz.prog 36 3 = some (17, 4) := by kernel_rfl
theorem tfd36_4 : tField Tryz.prog 36 4 = some (18, 34) := by kernel_rfl
theorem tis36 : tIs Tryz.prog 36 = true := by kernel_rfl
theorem tsz39 : tSize Tryz.prog 39 = some 1 := by kernel_rfl
theorem tby39 : tBytes Tryz.prog 39 = some 24 := by kernel_rfl
theorem tag39 : tAgg Tryz.prog 39 = some false := by kernel_rfl
theorem tze39 : tZero Tryz.prog 39 = some [.nilsl] := by kernel_rfl
theorem tel39 : tElem Tryz.prog 39 = some 42 := by kernel_rfl
theorem tsl39 : tSli Tryz.prog 39 = true := by kernel_rfl
theorem tis39 : tIs Tryz.prog 39 = true := by kernel_rfl
theorem tsz40 : tSize Tryz.prog 40 = some 4 := by kernel_rfl
theorem tby40 : tBytes Tryz.prog 40 = some 32 := by kernel_rfl
theorem tag40 : tAgg Tryz.prog 40 = some true := by kernel_rfl
theorem tze40 : tZero Tryz.prog 40 = some [.int .i64 0, .int .i64 0, .int .i64 0, .int .i64 0] := by kernel_rfl
theorem tsc40 : tSct Tryz.prog 40 = true := by kernel_rfl
theorem tfd40_0 : tField Tryz.prog 40 0 = some (0, 3) := by kernel_rfl
theorem tfd40_1 : tField Tryz.prog 40 1 = some (1, 3) := by kernel_rfl
theorem tfd40_2 : tField Tryz.prog 40 2 = some (2, 3) := by kernel_rfl
theorem tfd40_3 : tField Tryz.prog 40 3 = some (3, 3) := by kernel_rfl
theorem tis40 : tIs Tryz.prog 40 = true := by kernel_rfl
theorem tsz42 : tSize Tryz.prog 42 = some 6 := by kernel_rfl
theorem tby42 : tBytes Tryz.prog 42 = some 48 := by kernel_rfl
theorem tag42 : tAgg Tryz.prog 42 = some true := by kernel_rfl
theorem tze42 : tZero Tryz.prog 42 = some [.int .i64 0, .bool false, .int .i64 0, .int .i64 0, .int .i64 0, .int .i64 0] := by kernel_rfl
theorem tsc42 : tSct Tryz.prog 42 = true := by kernel_rfl
theorem tfd42_0 : tField Tryz.prog 42 0 = some (0, 3) := by kernel_rfl
theorem tfd42_1 : tField Tryz.prog 42 1 = some (1, 4) := by kernel_rfl
theorem tfd42_2 : tField Tryz.prog 42 2 = some (2, 40) := by kernel_rfl
theorem tis42 : tIs Tryz.prog 42 = true := by kernel_rfl
theorem tsz44 : tSize Tryz.prog 44 = some 2 := by kernel_rfl
theorem tby44 : tBytes Tryz.prog 44 = some 48 := by kernel_rfl
theorem tag44 : tAgg Tryz.prog 44 = some true := by kernel_rfl
theorem tze44 : tZero Tryz.prog 44 = some [.nilsl, .nilsl] := by kernel_rfl
theorem tsc44 : tSct Tryz.prog 44 = true := by kernel_rfl
theorem tfd44_0 : tField Tryz.prog 44 0 = some (0, 39) := by kernel_rfl
theorem tfd44_1 : tField Tryz.prog 44 1 = some (1, 28) := by kernel_rfl
theorem tis44 : tIs Tryz.prog 44 = true := by kernel_rfl
theorem tsz46 : tSize Tryz.prog 46 = some 10 := by kernel_rfl
theorem tby46 : tBytes Tryz.prog 46 = some 128 := by kernel_rfl
theorem tag46 : tAgg Tryz.prog 46 = some true := by kernel_rfl
theorem tze46 : tZero Tryz.prog 46 = some [.nilsl, .int .i64 0, .bool false, .int .i64 0, .int .i64 0, .int .i64 0, .int .i64 0, .nilsl, .nilsl, .int .i64 0] := by kernel_rfl
theorem tsc46 : tSct Tryz.prog 46 = true := by kernel_rfl
theorem tfd46_0 : tField Tryz.prog 46 0 = some (0, 39) := by kernel_rfl
theorem tfd46_1 : tField Tryz.prog 46 1 = some (1, 42) := by kernel_rfl
theorem tfd46_2 : tField Tryz.prog 46 2 = some (7, 44) := by kernel_rfl
theorem tfd46_3 : tField Tryz.prog 46 3 = some (9, 3) := by kernel_rfl
theorem tis46 : tIs Tryz.prog 46 = true := by kernel_rfl
theorem tsz47 : tSize Tryz.prog 47 = some 1 := by kernel_rfl
theorem tby47 : tBytes Tryz.prog 47 = some 24 := by kernel_rfl
theorem tag47 : tAgg Tryz.prog 47 = some false := by kernel_rfl
theorem tze47 : tZero Tryz.prog 47 = some [.nilsl] := by kernel_rfl
theorem tel47 : tElem Tryz.prog 47 = some 75 := by kernel_rfl
theorem tsl47 : tSli Tryz.prog 47 = true := by kernel_rfl
theorem tis47 : tIs Tryz.prog 47 = true := by kernel_rfl
theorem tsz49 : tSize Tryz.prog 49 = some 19 := by kernel_rfl
theorem tby49 : tBytes Tryz.prog 49 = some 232 := by kernel_rfl
theorem tag49 : tAgg Tryz.prog 49 = some true := by kernel_rfl
theorem tze49 : tZero Tryz.prog 49 = some [.nilsl, .int .i64 0, .bool false, .int .i64 0, .int .i64 0, .int .i64 0, .int .i64 0, .nilsl, .nilsl, .int .i64 0, .nilsl, .int .i64 0, .bool false, .int .i64 0, .int .i64 0, .int .i64 0, .int .i64 0, .bool false, .nilsl] := by kernel_rfl
theorem tsc49 : tSct Tryz.prog 49 = true := by kernel_rfl
theorem tfd49_0 : tField Tryz.prog 49 0 = some (0, 46) := by kernel_rfl
theorem tfd49_1 : tField Tryz.prog 49 1 = some (10, 47) := by kernel_rfl
theorem tfd49_2 : tField Tryz.prog 49 2 = some (11, 42) := by kernel_rfl
theorem tfd49_3 : tField Tryz.prog 49 3 = some (17, 4) := by kernel_rfl
theorem tfd49_4 : tField Tryz.prog 49 4 = some (18, 34) := by kernel_rfl
theorem tis49 : tIs Tryz.prog 49 = true := by kernel_rfl
theorem tsz52 : tSize Tryz.prog 52 = some 1 := by kernel_rfl
theorem tby52 : tBytes Tryz.prog 52 = some 24 := by kernel_rfl
theorem tag52 : tAgg Tryz.prog 52 = some false := by kernel_rfl
theorem tze52 : tZero Tryz.prog 52 = some [.nilsl] := by kernel_rfl
theorem tel52 : tElem Tryz.prog 52 = some 68 := by kernel_rfl
theorem tsl52 : tSli Tryz.prog 52 = true := by kernel_rfl
theorem tis52 : tIs Tryz.prog 52 = true := by kernel_rfl
theorem tsz68 : tSize Tryz.prog 68 = some 5 := by kernel_rfl
theorem tby68 : tBytes Tryz.prog 68 = some 40 := by kernel_rfl
theorem tag68 : tAgg Tryz.prog 68 = some true := by kernel_rfl
theorem tze68 : tZero Tryz.prog 68 = some [.int .i64 0, .int .i64 0, .int .i64 0, .int .i64 0, .int .i64 0] := by kernel_rfl
theorem tsc68 : tSct Tryz.prog 68 = true := by kernel_rfl
theorem tfd68_0 : tField Tryz.prog 68 0 = some (0, 3) := by kernel_rfl
theorem tfd68_1 : tField Tryz.prog 68 1 = some (1, 3) := by kernel_rfl
theorem tfd68_2 : tField Tryz.prog 68 2 = some (2, 3) := by kernel_rfl
theorem tfd68_3 : tField Tryz.prog 68 3 = some (3, 3) := by kernel_rfl
theorem tfd68_4 : tField Tryz.prog 68 4 = some (4, 3) := by kernel_rfl
theorem tis68 : tIs Tryz.prog 68 = true := by kernel_rfl
theorem tsz72 : tSize Tryz.prog 72 = some 22 := by kernel_rfl
theorem tby72 : tBytes Tryz.prog 72 = some 176 := by kernel_rfl
theorem tag72 : tAgg Tryz.prog 72 = some true := by kernel_rfl
theorem tze72 : tZero Tryz.prog 72 = some [.int .i64 0, .int .i64 0, .int .i64 0, .bool false, .int .i64 0, .int .i64 0, .int .i64 0, .int .i64 0, .int .i64 0, .bool false, .int .i64 0, .int .i64 0, .int .i64 0, .int .i64 0, .int .i64 0, .int .i64 0, .bool false, .int .i64 0, .int .i64 0, .int .i64 0, .int .i64 0, .int .i64 0] := by kernel_rfl
theorem tsc72 : tSct Tryz.prog 72 = true := by kernel_rfl
theorem tfd72_0 : tField Tryz.prog 72 0 = some (0, 3) := by kernel_rfl
theorem tfd72_1 : tField Tryz.prog 72 1 = some (1, 3) := by kernel_rfl
theorem tfd72_2 : tField Tryz.prog 72 2 = some (2, 42) := by kernel_rfl
theorem tfd72_3 : tField Tryz.prog 72 3 = some (8, 42) := by kernel_rfl
theorem tfd72_4 : tField Tryz.prog 72 4 = some (14, 3) := by kernel_rfl
theorem tfd72_5 : tField Tryz.prog 72 5 = some (15, 42) := by kernel_rfl
theorem tfd72_6 : tField Tryz.prog 72 6 = some (21, 3) := by kernel_rfl
theorem tis72 : tIs Tryz.prog 72 = true := by kernel_rfl
theorem tsz75 : tSize Tryz.prog 75 = some 40 := by kernel_rfl
theorem tby75 : tBytes Tryz.prog 75 = some 320 := by kernel_rfl
theorem tag75 : tAgg Tryz.prog 75 = some true := by kernel_rfl
theorem tze75 : tZero Tryz.prog 75 = some [.int .i64 0, .bool false, .int .i64 0, .int .i64 0, .int .i64 0, .int .i64 0, .int .i64 0, .int .i64 0, .int .i64 0, .int .i64 0, .int .i64 0, .bool false, .int .i64 0, .int .i64 0, .int .i64 0, .bool false, .int .i64 0, .int .i64 0, .int .i64 0, .int .i64 0, .int .i64 0, .bool false, .int .i64 0, .int .i64 0, .int .i64 0, .int .i64 0, .int .i64 0, .int .i64 0, .bool false, .int .i64 0, .int .i64 0, .int .i64 0, .int .i64 0, .int .i64 0, .int .i64 0, .bool false, .int .i64 0, .int .i64 0, .int .i64 0, .int .i64 0] := by kernel_rfl
theorem tsc75 : tSct Tryz.prog 75 = true := by kernel_rfl
theorem tfd75_0 : tField Tryz.prog 75 0 = some (0, 42) := by kernel_rfl
theorem tfd75_1 : tField Tryz.prog 75 1 = some (6, 68) := by kernel_rfl
theorem tfd75_2 : tField Tryz.prog 75 2 = some (11, 4) := by kernel_rfl
theorem tfd75_3 : tField Tryz.prog 75 3 = some (12, 72) := by kernel_rfl
theorem tfd75_4 : tField Tryz.prog 75 4 = some (34, 42) := by kernel_rfl
theorem tis75 : tIs Tryz.prog 75 = true := by kernel_rfl
theorem tsz78 : tSize Tryz.prog 78 = some 5 := by kernel_rfl
theorem tby78 : tBytes Tryz.prog 78 = some 40 := by kernel_rfl
theorem tag78 : tAgg Tryz.prog 78 = some true := by kernel_rfl
theorem tze78 : tZero Tryz.prog 78 = some [.int .i64 0, .int .i64 0, .int .i64 0, .int .i64 0, .int .i64 0] := by kernel_rfl
theorem tsc78 : tSct Tryz.prog 78 = true := by kernel_rfl
theorem tfd78_0 : tField Tryz.prog 78 0 = some (0, 3) := by kernel_rfl
theorem tfd78_1 : tField Tryz.prog 78 1 = some (1, 3) := by kernel_rfl
theorem tfd78_2 : tField Tryz.prog 78 2 = some (2, 3) := by kernel_rfl
theorem tfd78_3 : tField Tryz.prog 78 3 = some (3, 3) := by kernel_rfl
theorem tfd78_4 : tField Tryz.prog 78 4 = some (4, 3) := by kernel_rfl
theorem tis78 : tIs Tryz.prog 78 = true := by kernel_rfl
theorem tsz109 : tSize Tryz.prog 109 = some 22 := by kernel_rfl
theorem tby109 : tBytes Tryz.prog 109 = some 176 := by kernel_rfl
theorem tag109 : tAgg Tryz.prog 109 = some true := by kernel_rfl
theorem tze109 : tZero Tryz.prog 109 = some [.int .i64 0, .int .i64 0, .int .i64 0, .bool false, .int .i64 0, .int .i64 0, .int .i64 0, .int .i64 0, .int .i64 0, .bool false, .int .i64 0, .int .i64 0, .int .i64 0, .int .i64 0, .int .i64 0, .int .i64 0, .bool false, .int .i64 0, .int .i64 0, .int .i64 0, .int .i64 0, .int .i64 0] := by kernel_rfl
theorem tsc109 : tSct Tryz.prog 109 = true := by kernel_rfl
theorem tfd109_0 : tField Tryz.prog 109 0 = some (0, 3) := by kernel_rfl
theorem tfd109_1 : tField Tryz.prog 109 1 = some (1, 3) := by kernel_rfl
theorem tfd109_2 : tField Tryz.prog 109 2 = some (2, 27) := by kernel_rfl
theorem tfd109_3 : tField Tryz.prog 109 3 = some (8, 27) := by kernel_rfl
theorem tfd109_4 : tField Tryz.prog 109 4 = some (14, 3) := by kernel_rfl
theorem tfd109_5 : tField Tryz.prog 109 5 = some (15, 27) := by kernel_rfl
theorem tfd109_6 : tField Tryz.prog 109 6 = some (21, 3) := by kernel_rfl
theorem tis109 : tIs Tryz.prog 109 = true := by kernel_rfl
theorem tsz111 : tSize Tryz.prog 111 = some 40 := by kernel_rfl
theorem tby111 : tBytes Tryz.prog 111 = some 320 := by kernel_rfl
theorem tag111 : tAgg Tryz.prog 111 = some true := by kernel_rfl
theorem tze111 : tZero Tryz.prog 111 = some [.int .i64 0, .bool false, .int .i64 0, .int .i64 0, .int .i64 0, .int .i64 0, .int .i64 0, .int .i64 0, .int .i64 0, .int .i64 0, .int .i64 0, .bool false, .int .i64 0, .int .i64 0, .int .i64 0, .bool false, .int .i64 0, .int .i64 0, .int .i64 0, .int .i64 0, .int .i64 0, .bool false, .int .i64 0, .int .i64 0, .int .i64 0, .int .i64 0, .int .i64 0, .int .i64 0, .bool false, .int .i64 0, .int .i64 0, .int .i64 0, .int .i64 0, .int .i64 0, .int .i64 0, .bool false, .int .i64 0, .int .i64 0, .int .i64 0, .int .i64 0] := by kernel_rfl
theorem tsc111 : tSct Tryz.prog 111 = true := by kernel_rfl
theorem tfd111_0 : tField Tryz.prog 111 0 = some (0, 27) := by kernel_rfl
theorem tfd111_1 : tField Tryz.prog 111 1 = some (6, 78) := by kernel_rfl
theorem tfd111_2 : tField Tryz.prog 111 2 = some (11, 4) := by kernel_rfl
theorem tfd111_3 : tField Tryz.prog 111 3 = some (12, 109) := by kernel_rfl
theorem tfd111_4 : tField Tryz.prog 111 4 = some (34, 27) := by kernel_rfl
theorem tis111 : tIs Tryz.prog 111 = true := by kernel_rfl
theorem tsz139 : tSize Tryz.prog 139 = some 1 := by kernel_rfl
theorem tby139 : tBytes Tryz.prog 139 = some 24 := by kernel_rfl
theorem tag139 : tAgg Tryz.prog 139 = some false := by kernel_rfl
theorem tze139 : tZero Tryz.prog 139 = some [.nilsl] := by kernel_rfl
theorem tel139 : tElem Tryz.prog 139 = some 5 := by kernel_rfl
theorem tsl139 : tSli Tryz.prog 139 = true := by kernel_rfl
theorem tis139 : tIs Tryz.prog 139 = true := by kernel_rfl
theorem tsz153 : tSize Tryz.prog 153 = some 3 := by kernel_rfl
theorem tby153 : tBytes Tryz.prog 153 = some 24 := by kernel_rfl
theorem tag153 : tAgg Tryz.prog 153 = some true := by kernel_rfl
theorem tze153 : tZero Tryz.prog 153 = some [.int .i64 0, .int .i64 0, .int .i64 0] := by kernel_rfl
theorem tsc153 : tSct Tryz.prog 153 = true := by kernel_rfl
theorem tfd153_0 : tField Tryz.prog 153 0 = some (0, 3) := by kernel_rfl
theorem tfd153_1 : tField Tryz.prog 153 1 = some (1, 3) := by kernel_rfl
theorem tfd153_2 : tField Tryz.prog 153 2 = some (2, 3) := by kernel_rfl
theorem tis153 : tIs Tryz.prog 153 = true := by kernel_rfl
attribute [go_sem] tsz3 tby3 tag3 tze3 tin3 tis3 tsz4 tby4 tag4 tze4 tbo4 tis4 tsz5 tby5 tag5 tze5 tin5 tis5 tsz9 tby9 tag9 tze9 tst9 tis9 tsz22 tby22 tag22 tze22 tel22 tsl22 tis22 tsz23 tby23 tag23 tze23 tel23 tsl23 tis23 tsz25 tby25 tag25 tze25 tsc25 tfd25_0 tfd25_1 tfd25_2 tfd25_3 tis25 tsz27 tby27 tag27 tze27 tsc27 tfd27_0 tfd27_1 tfd27_2 tis27 tsz28 tby28 tag28 tze28 tel28 tsl28 tis28 tsz30 tby30 tag30 tze30 tsc30 tfd30_0 tfd30_1 tis30 tsz32 tby32 tag32 tze32 tsc32 tfd32_0 tfd32_1 tfd32_2 tfd32_3 tis32 tsz33 tby33 tag33 tze33 tel33 tsl33 tis33 tsz34 tby34 tag34 tze34 tel34 tsl34 tis34 tsz36 tby36 tag36 tze36 tsc36 tfd36_0 tfd36_1 tfd36_2 tfd36_3 tfd36_4 tis36 tsz39 tby39 tag39 tze39 tel39 tsl39 tis39 tsz40 tby40 tag40 tze40 tsc40 tfd40_0 tfd40_1 tfd40_2 tfd40_3 tis40 tsz42 tby42 tag42 tze42 tsc42 tfd42_0 tfd42_1 tfd42_2 tis42 tsz44 tby44 tag44 tze44 tsc44 tfd44_0 tfd44_1 tis44 tsz46 tby46 tag46 tze46 tsc46 tfd46_0 tfd46_1 tfd46_2 tfd46_3 tis46 tsz47 tby47 tag47 tze47 tel47 tsl47 tis47 tsz49 tby49 tag49 tze49 tsc49 tfd49_0 tfd49_1 tfd49_2 tfd49_3 tfd49_4 tis49 tsz52 tby52 tag52 tze52 tel52 tsl52 tis52 tsz68 tby68 tag68 tze68 tsc68 tfd68_0 tfd68_1 tfd68_2 tfd68_3 tfd68_4 tis68 tsz72 tby72 tag72 tze72 tsc72 tfd72_0 tfd72_1 tfd72_2 tfd72_3 tfd72_4 tfd72_5 tfd72_6 tis72 tsz75 tby75 tag75 tze75 tsc75 tfd75_0 tfd75_1 tfd75_2 tfd75_3 tfd75_4 tis75 tsz78 tby78 tag78 tze78 tsc78 tfd78_0 tfd78_1 tfd78_2 tfd78_3 tfd78_4 tis78 tsz109 tby109 tag109 tze109 tsc109 tfd109_0 tfd109_1 tfd109_2 tfd109_3 tfd109_4 tfd109_5 tfd109_6 tis109 tsz111 tby111 tag111 tze111 tsc111 tfd111_0 tfd111_1 tfd111_2 tfd111_3 tfd111_4 tis111 tsz139 tby139 tag139 tze139 tel139 tsl139 tis139 tsz153 tby153 tag153 tze153 tsc153 tfd153_0 tfd153_1 tfd153_2 tis153
set_option maxRecDepth 100000 in
theorem teq40 {a0 : Int} {b0 : Int} {a1 : Int} {b1 : Int} {a2 : Int} {b2 : Int} {a3 : Int} {b3 : Int} : eqV Tryz.prog Op.maxDepth 40 (.agg [(.int .i64 a0), (.int .i64 a1), (.int .i64 a2), (.int .i64 a3)]) (.agg [(.int .i64 b0), (.int .i64 b1), (.int .i64 b2), (.int .i64 b3)]) = some ((decide (a0 = b0)) && ((decide (a1 = b1)) && ((decide (a2 = b2)) && ((decide (a3 = b3)) && true)))) := (eqV_struct Tryz.underlying40 (by kernel_rfl) (eqFs_cons (by decide) (a := (.int .i64 a0)) (b := (.int .i64 b0)) (by simp only [go_sem]; try rfl) (by simp only [go_sem]; try rfl) (eqV_int (by simp only [tin3]; rfl)) (eqFs_cons (by decide) (a := (.int .i64 a1)) (b := (.int .i64 b1)) (by simp only [go_sem]; try rfl) (by simp only [go_sem]; try rfl) (eqV_int (by simp only [tin3]; rfl)) (eqFs_cons (by decide) (a := (.int .i64 a2)) (b := (.int .i64 b2)) (by simp only [go_sem]; try rfl) (by simp only [go_sem]; try rfl) (eqV_int (by simp only [tin3]; rfl)) (eqFs_cons (by decide) (a := (.int .i64 a3)) (b := (.int .i64 b3)) (by simp only [go_sem]; try rfl) (by simp only [go_sem]; try rfl) (eqV_int (by simp only [tin3]; rfl)) eqFs_nil)))))
theorem tgd40 : Tryz.prog.eqGuardType Tryz.prog.depth 40 = false := by kernel_rfl
attribute [go_sem] teq40 tgd40
set_option maxRecDepth 100000 in
theorem teq68 {a0 : Int} {b0 : Int} {a1 : Int} {b1 : Int} {a2 : Int} {b2 : Int} {a3 : Int} {b3 : Int} {a4 : Int} {b4 : Int} : eqV Tryz.prog Op.maxDepth 68 (.agg [(.int .i64 a0), (.int .i64 a1), (.int .i64 a2), (.int .i64 a3), (.int .i64 a4)]) (.agg [(.int .i64 b0), (.int .i64 b1), (.int .i64 b2), (.int .i64 b3), (.int .i64 b4)]) = some ((decide (a0 = b0)) && ((decide (a1 = b1)) && ((decide (a2 = b2)) && ((decide (a3 = b3)) && ((decide (a4 = b4)) && true))))) := (eqV_struct Tryz.underlying68 (by kernel_rfl) (eqFs_cons (by decide) (a := (.int .i64 a0)) (b := (.int .i64 b0)) (by simp only [go_sem]; try rfl) (by simp only [go_sem]; try rfl) (eqV_int (by simp only [tin3]; rfl)) (eqFs_cons (by decide) (a := (.int .i64 a1)) (b := (.int .i64 b1)) (by simp only [go_sem]; try rfl) (by simp only [go_sem]; try rfl) (eqV_int (by simp only [tin3]; rfl)) (eqFs_cons (by decide) (a := (.int .i64 a2)) (b := (.int .i64 b2)) (by simp only [go_sem]; try rfl) (by simp only [go_sem]; try rfl) (eqV_int (by simp only [tin3]; rfl)) (eqFs_cons (by decide) (a := (.int .i64 a3)) (b := (.int .i64 b3)) (by simp only [go_sem]; try rfl) (by simp only [go_sem]; try rfl) (eqV_int (by simp only [tin3]; rfl)) (eqFs_cons (by decide) (a := (.int .i64 a4)) (b := (.int .i64 b4)) (by simp only [go_sem]; try rfl) (by simp only [go_sem]; try rfl) (eqV_int (by simp only [tin3]; rfl)) eqFs_nil))))))
theorem tgd68 : Tryz.prog.eqGuardType Tryz.prog.depth 68 = false := by kernel_rfl
attribute [go_sem] teq68 tgd68
end Go.Proofs.YtopjagninmjkbaaGreat.AM
