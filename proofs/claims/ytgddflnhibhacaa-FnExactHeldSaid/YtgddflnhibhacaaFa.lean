/- What the program's types are. No conditions. -/
import Derived.Test.YtgddflnhibhacaaM4
import Derived.Test.YtgddflnhibhacaaProg
import Derived.KernelRfl
set_option linter.unusedSimpArgs false
set_option linter.unusedVariables false
namespace Go.Proofs.Ytgddflnhibhacaa.AM
open Go
theorem mixed : Try.prog.follows .mixedOrders = true := by kernel_rfl
theorem tsz3 : tSize Try.prog 3 = some 1 := by kernel_rfl
theorem tby3 : tBytes Try.prog 3 = some 8 := by kernel_rfl
theorem tag3 : tAgg Try.prog 3 = some false := by kernel_rfl
theorem tze3 : tZero Try.prog 3 = some [.int .i64 0] := by kernel_rfl
theorem tin3 : tInt Try.prog 3 = some .i64 := by kernel_rfl
theorem tis3 : tIs Try.prog 3 = true := by kernel_rfl
theorem tsz4 : tSize Try.prog 4 = some 1 := by kernel_rfl
theorem tby4 : tBytes Try.prog 4 = some 1 := by kernel_rfl
theorem tag4 : tAgg Try.prog 4 = some false := by kernel_rfl
theorem tze4 : tZero Try.prog 4 = some [.bool false] := by kernel_rfl
theorem tbo4 : tBoo Try.prog 4 = true := by kernel_rfl
theorem tis4 : tIs Try.prog 4 = true := by kernel_rfl
theorem tsz5 : tSize Try.prog 5 = some 1 := by kernel_rfl
theorem tby5 : tBytes Try.prog 5 = some 1 := by kernel_rfl
theorem tag5 : tAgg Try.prog 5 = some false := by kernel_rfl
theorem tze5 : tZero Try.prog 5 = some [.int .u8 0] := by kernel_rfl
theorem tin5 : tInt Try.prog 5 = some .u8 := by kernel_rfl
theorem tis5 : tIs Try.prog 5 = true := by kernel_rfl
theorem tsz9 : tSize Try.prog 9 = some 1 := by kernel_rfl
theorem tby9 : tBytes Try.prog 9 = some 16 := by kernel_rfl
theorem tag9 : tAgg Try.prog 9 = some false := by kernel_rfl
theorem tze9 : tZero Try.prog 9 = some [.str ⟨#[]⟩] := by kernel_rfl
theorem tst9 : tStr Try.prog 9 = true := by kernel_rfl
theorem tis9 : tIs Try.prog 9 = true := by kernel_rfl
theorem tsz22 : tSize Try.prog 22 = some 1 := by kernel_rfl
theorem tby22 : tBytes Try.prog 22 = some 24 := by kernel_rfl
theorem tag22 : tAgg Try.prog 22 = some false := by kernel_rfl
theorem tze22 : tZero Try.prog 22 = some [.nilsl] := by kernel_rfl
theorem tel22 : tElem Try.prog 22 = some 3 := by kernel_rfl
theorem tsl22 : tSli Try.prog 22 = true := by kernel_rfl
theorem tis22 : tIs Try.prog 22 = true := by kernel_rfl
theorem tsz27 : tSize Try.prog 27 = some 1 := by kernel_rfl
theorem tby27 : tBytes Try.prog 27 = some 24 := by kernel_rfl
theorem tag27 : tAgg Try.prog 27 = some false := by kernel_rfl
theorem tze27 : tZero Try.prog 27 = some [.nilsl] := by kernel_rfl
theorem tel27 : tElem Try.prog 27 = some 31 := by kernel_rfl
theorem tsl27 : tSli Try.prog 27 = true := by kernel_rfl
theorem tis27 : tIs Try.prog 27 = true := by kernel_rfl
theorem tsz29 : tSize Try.prog 29 = some 4 := by kernel_rfl
theorem tby29 : tBytes Try.prog 29 = some 32 := by kernel_rfl
theorem tag29 : tAgg Try.prog 29 = some true := by kernel_rfl
theorem tze29 : tZero Try.prog 29 = some [.int .i64 0, .int .i64 0, .int .i64 0, .int .i64 0] := by kernel_rfl
theorem tsc29 : tSct Try.prog 29 = true := by kernel_rfl
theorem tfd29_0 : tField Try.prog 29 0 = some (0, 3) := by kernel_rfl
theorem tfd29_1 : tField Try.prog 29 1 = some (1, 3) := by kernel_rfl
theorem tfd29_2 : tField Try.prog 29 2 = some (2, 3) := by kernel_rfl
theorem tfd29_3 : tField Try.prog 29 3 = some (3, 3) := by kernel_rfl
theorem tis29 : tIs Try.prog 29 = true := by kernel_rfl
theorem tsz31 : tSize Try.prog 31 = some 6 := by kernel_rfl
theorem tby31 : tBytes Try.prog 31 = some 48 := by kernel_rfl
theorem tag31 : tAgg Try.prog 31 = some true := by kernel_rfl
theorem tze31 : tZero Try.prog 31 = some [.int .i64 0, .bool false, .int .i64 0, .int .i64 0, .int .i64 0, .int .i64 0] := by kernel_rfl
theorem tsc31 : tSct Try.prog 31 = true := by kernel_rfl
theorem tfd31_0 : tField Try.prog 31 0 = some (0, 3) := by kernel_rfl
theorem tfd31_1 : tField Try.prog 31 1 = some (1, 4) := by kernel_rfl
theorem tfd31_2 : tField Try.prog 31 2 = some (2, 29) := by kernel_rfl
theorem tis31 : tIs Try.prog 31 = true := by kernel_rfl
theorem tsz32 : tSize Try.prog 32 = some 1 := by kernel_rfl
theorem tby32 : tBytes Try.prog 32 = some 24 := by kernel_rfl
theorem tag32 : tAgg Try.prog 32 = some false := by kernel_rfl
theorem tze32 : tZero Try.prog 32 = some [.nilsl] := by kernel_rfl
theorem tel32 : tElem Try.prog 32 = some 4 := by kernel_rfl
theorem tsl32 : tSli Try.prog 32 = true := by kernel_rfl
theorem tis32 : tIs Try.prog 32 = true := by kernel_rfl
theorem tsz34 : tSize Try.prog 34 = some 2 := by kernel_rfl
theorem tby34 : tBytes Try.prog 34 = some 48 := by kernel_rfl
theorem tag34 : tAgg Try.prog 34 = some true := by kernel_rfl
theorem tze34 : tZero Try.prog 34 = some [.nilsl, .nilsl] := by kernel_rfl
theorem tsc34 : tSct Try.prog 34 = true := by kernel_rfl
theorem tfd34_0 : tField Try.prog 34 0 = some (0, 27) := by kernel_rfl
theorem tfd34_1 : tField Try.prog 34 1 = some (1, 32) := by kernel_rfl
theorem tis34 : tIs Try.prog 34 = true := by kernel_rfl
theorem tsz36 : tSize Try.prog 36 = some 10 := by kernel_rfl
theorem tby36 : tBytes Try.prog 36 = some 128 := by kernel_rfl
theorem tag36 : tAgg Try.prog 36 = some true := by kernel_rfl
theorem tze36 : tZero Try.prog 36 = some [.nilsl, .int .i64 0, .bool false, .int .i64 0, .int .i64 0, .int .i64 0, .int .i64 0, .nilsl, .nilsl, .int .i64 0] := by kernel_rfl
theorem tsc36 : tSct Try.prog 36 = true := by kernel_rfl
theorem tfd36_0 : tField Try.prog 36 0 = some (0, 27) := by kernel_rfl
theorem tfd36_1 : tField Try.prog 36 1 = some (1, 31) := by kernel_rfl
theorem tfd36_2 : tField Try.prog 36 2 = some (7, 34) := by kernel_rfl
theorem tfd36_3 : tField Try.prog 36 3 = some (9, 3) := by kernel_rfl
theorem tis36 : tIs Try.prog 36 = true := by kernel_rfl
theorem tsz38 : tSize Try.prog 38 = some 1 := by kernel_rfl
theorem tby38 : tBytes Try.prog 38 = some 24 := by kernel_rfl
theorem tag38 : tAgg Try.prog 38 = some false := by kernel_rfl
theorem tze38 : tZero Try.prog 38 = some [.nilsl] := by kernel_rfl
theorem tel38 : tElem Try.prog 38 = some 42 := by kernel_rfl
theorem tsl38 : tSli Try.prog 38 = true := by kernel_rfl
theorem tis38 : tIs Try.prog 38 = true := by kernel_rfl
theorem tsz40 : tSize Try.prog 40 = some 4 := by kernel_rfl
theorem tby40 : tBytes Try.prog 40 = some 32 := by kernel_rfl
theorem tag40 : tAgg Try.prog 40 = some true := by kernel_rfl
theorem tze40 : tZero Try.prog 40 = some [.int .i64 0, .int .i64 0, .int .i64 0, .int .i64 0] := by kernel_rfl
theorem tsc40 : tSct Try.prog 40 = true := by kernel_rfl
theorem tfd40_0 : tField Try.prog 40 0 = some (0, 3) := by kernel_rfl
theorem tfd40_1 : tField Try.prog 40 1 = some (1, 3) := by kernel_rfl
theorem tfd40_2 : tField Try.prog 40 2 = some (2, 3) := by kernel_rfl
theorem tfd40_3 : tField Try.prog 40 3 = some (3, 3) := by kernel_rfl
theorem tis40 : tIs Try.prog 40 = true := by kernel_rfl
theorem tsz42 : tSize Try.prog 42 = some 6 := by kernel_rfl
theorem tby42 : tBytes Try.prog 42 = some 48 := by kernel_rfl
theorem tag42 : tAgg Try.prog 42 = some true := by kernel_rfl
theorem tze42 : tZero Try.prog 42 = some [.int .i64 0, .bool false, .int .i64 0, .int .i64 0, .int .i64 0, .int .i64 0] := by kernel_rfl
theorem tsc42 : tSct Try.prog 42 = true := by kernel_rfl
theorem tfd42_0 : tField Try.prog 42 0 = some (0, 3) := by kernel_rfl
theorem tfd42_1 : tField Try.prog 42 1 = some (1, 4) := by kernel_rfl
theorem tfd42_2 : tField Try.prog 42 2 = some (2, 40) := by kernel_rfl
theorem tis42 : tIs Try.prog 42 = true := by kernel_rfl
theorem tsz44 : tSize Try.prog 44 = some 2 := by kernel_rfl
theorem tby44 : tBytes Try.prog 44 = some 48 := by kernel_rfl
theorem tag44 : tAgg Try.prog 44 = some true := by kernel_rfl
theorem tze44 : tZero Try.prog 44 = some [.nilsl, .nilsl] := by kernel_rfl
theorem tsc44 : tSct Try.prog 44 = true := by kernel_rfl
theorem tfd44_0 : tField Try.prog 44 0 = some (0, 38) := by kernel_rfl
theorem tfd44_1 : tField Try.prog 44 1 = some (1, 32) := by kernel_rfl
theorem tis44 : tIs Try.prog 44 = true := by kernel_rfl
theorem tsz46 : tSize Try.prog 46 = some 10 := by kernel_rfl
theorem tby46 : tBytes Try.prog 46 = some 128 := by kernel_rfl
theorem tag46 : tAgg Try.prog 46 = some true := by kernel_rfl
theorem tze46 : tZero Try.prog 46 = some [.nilsl, .int .i64 0, .bool false, .int .i64 0, .int .i64 0, .int .i64 0, .int .i64 0, .nilsl, .nilsl, .int .i64 0] := by kernel_rfl
theorem tsc46 : tSct Try.prog 46 = true := by kernel_rfl
theorem tfd46_0 : tField Try.prog 46 0 = some (0, 38) := by kernel_rfl
theorem tfd46_1 : tField Try.prog 46 1 = some (1, 42) := by kernel_rfl
theorem tfd46_2 : tField Try.prog 46 2 = some (7, 44) := by kernel_rfl
theorem tfd46_3 : tField Try.prog 46 3 = some (9, 3) := by kernel_rfl
theorem tis46 : tIs Try.prog 46 = true := by kernel_rfl
theorem tsz54 : tSize Try.prog 54 = some 1 := by kernel_rfl
theorem tby54 : tBytes Try.prog 54 = some 24 := by kernel_rfl
theorem tag54 : tAgg Try.prog 54 = some false := by kernel_rfl
theorem tze54 : tZero Try.prog 54 = some [.nilsl] := by kernel_rfl
theorem tel54 : tElem Try.prog 54 = some 134 := by kernel_rfl
theorem tsl54 : tSli Try.prog 54 = true := by kernel_rfl
theorem tis54 : tIs Try.prog 54 = true := by kernel_rfl
theorem tsz56 : tSize Try.prog 56 = some 19 := by kernel_rfl
theorem tby56 : tBytes Try.prog 56 = some 232 := by kernel_rfl
theorem tag56 : tAgg Try.prog 56 = some true := by kernel_rfl
theorem tze56 : tZero Try.prog 56 = some [.nilsl, .int .i64 0, .bool false, .int .i64 0, .int .i64 0, .int .i64 0, .int .i64 0, .nilsl, .nilsl, .int .i64 0, .nilsl, .int .i64 0, .bool false, .int .i64 0, .int .i64 0, .int .i64 0, .int .i64 0, .bool false, .nilsl] := by kernel_rfl
theorem tsc56 : tSct Try.prog 56 = true := by kernel_rfl
theorem tfd56_0 : tField Try.prog 56 0 = some (0, 36) := by kernel_rfl
theorem tfd56_1 : tField Try.prog 56 1 = some (10, 54) := by kernel_rfl
theorem tfd56_2 : tField Try.prog 56 2 = some (11, 31) := by kernel_rfl
theorem tfd56_3 : tField Try.prog 56 3 = some (17, 4) := by kernel_rfl
theorem tfd56_4 : tField Try.prog 56 4 = some (18, 22) := by kernel_rfl
theorem tis56 : tIs Try.prog 56 = true := by kernel_rfl
theorem tsz59 : tSize Try.prog 59 = some 1 := by kernel_rfl
theorem tby59 : tBytes Try.prog 59 = some 24 := by kernel_rfl
theorem tag59 : tAgg Try.prog 59 = some false := by kernel_rfl
theorem tze59 : tZero Try.prog 59 = some [.nilsl] := by kernel_rfl
theorem tel59 : tElem Try.prog 59 = some 96 := by kernel_rfl
theorem tsl59 : tSli Try.prog 59 = true := by kernel_rfl
theorem tis59 : tIs Try.prog 59 = true := by kernel_rfl
theorem tsz61 : tSize Try.prog 61 = some 19 := by kernel_rfl
theorem tby61 : tBytes Try.prog 61 = some 232 := by kernel_rfl
theorem tag61 : tAgg Try.prog 61 = some true := by kernel_rfl
theorem tze61 : tZero Try.prog 61 = some [.nilsl, .int .i64 0, .bool false, .int .i64 0, .int .i64 0, .int .i64 0, .int .i64 0, .nilsl, .nilsl, .int .i64 0, .nilsl, .int .i64 0, .bool false, .int .i64 0, .int .i64 0, .int .i64 0, .int .i64 0, .bool false, .nilsl] := by kernel_rfl
theorem tsc61 : tSct Try.prog 61 = true := by kernel_rfl
theorem tfd61_0 : tField Try.prog 61 0 = some (0, 46) := by kernel_rfl
theorem tfd61_1 : tField Try.prog 61 1 = some (10, 59) := by kernel_rfl
theorem tfd61_2 : tField Try.prog 61 2 = some (11, 42) := by kernel_rfl
theorem tfd61_3 : tField Try.prog 61 3 = some (17, 4) := by kernel_rfl
theorem tfd61_4 : tField Try.prog 61 4 = some (18, 22) := by kernel_rfl
theorem tis61 : tIs Try.prog 61 = true := by kernel_rfl
theorem tsz92 : tSize Try.prog 92 = some 22 := by kernel_rfl
theorem tby92 : tBytes Try.prog 92 = some 176 := by kernel_rfl
theorem tag92 : tAgg Try.prog 92 = some true := by kernel_rfl
theorem tze92 : tZero Try.prog 92 = some [.int .i64 0, .int .i64 0, .int .i64 0, .bool false, .int .i64 0, .int .i64 0, .int .i64 0, .int .i64 0, .int .i64 0, .bool false, .int .i64 0, .int .i64 0, .int .i64 0, .int .i64 0, .int .i64 0, .int .i64 0, .bool false, .int .i64 0, .int .i64 0, .int .i64 0, .int .i64 0, .int .i64 0] := by kernel_rfl
theorem tsc92 : tSct Try.prog 92 = true := by kernel_rfl
theorem tfd92_0 : tField Try.prog 92 0 = some (0, 3) := by kernel_rfl
theorem tfd92_1 : tField Try.prog 92 1 = some (1, 3) := by kernel_rfl
theorem tfd92_2 : tField Try.prog 92 2 = some (2, 42) := by kernel_rfl
theorem tfd92_3 : tField Try.prog 92 3 = some (8, 42) := by kernel_rfl
theorem tfd92_4 : tField Try.prog 92 4 = some (14, 3) := by kernel_rfl
theorem tfd92_5 : tField Try.prog 92 5 = some (15, 42) := by kernel_rfl
theorem tfd92_6 : tField Try.prog 92 6 = some (21, 3) := by kernel_rfl
theorem tis92 : tIs Try.prog 92 = true := by kernel_rfl
theorem tsz94 : tSize Try.prog 94 = some 5 := by kernel_rfl
theorem tby94 : tBytes Try.prog 94 = some 40 := by kernel_rfl
theorem tag94 : tAgg Try.prog 94 = some true := by kernel_rfl
theorem tze94 : tZero Try.prog 94 = some [.int .i64 0, .int .i64 0, .int .i64 0, .int .i64 0, .int .i64 0] := by kernel_rfl
theorem tsc94 : tSct Try.prog 94 = true := by kernel_rfl
theorem tfd94_0 : tField Try.prog 94 0 = some (0, 3) := by kernel_rfl
theorem tfd94_1 : tField Try.prog 94 1 = some (1, 3) := by kernel_rfl
theorem tfd94_2 : tField Try.prog 94 2 = some (2, 3) := by kernel_rfl
theorem tfd94_3 : tField Try.prog 94 3 = some (3, 3) := by kernel_rfl
theorem tfd94_4 : tField Try.prog 94 4 = some (4, 3) := by kernel_rfl
theorem tis94 : tIs Try.prog 94 = true := by kernel_rfl
theorem tsz96 : tSize Try.prog 96 = some 40 := by kernel_rfl
theorem tby96 : tBytes Try.prog 96 = some 320 := by kernel_rfl
theorem tag96 : tAgg Try.prog 96 = some true := by kernel_rfl
theorem tze96 : tZero Try.prog 96 = some [.int .i64 0, .bool false, .int .i64 0, .int .i64 0, .int .i64 0, .int .i64 0, .int .i64 0, .int .i64 0, .int .i64 0, .int .i64 0, .int .i64 0, .bool false, .int .i64 0, .int .i64 0, .int .i64 0, .bool false, .int .i64 0, .int .i64 0, .int .i64 0, .int .i64 0, .int .i64 0, .bool false, .int .i64 0, .int .i64 0, .int .i64 0, .int .i64 0, .int .i64 0, .int .i64 0, .bool false, .int .i64 0, .int .i64 0, .int .i64 0, .int .i64 0, .int .i64 0, .int .i64 0, .bool false, .int .i64 0, .int .i64 0, .int .i64 0, .int .i64 0] := by kernel_rfl
theorem tsc96 : tSct Try.prog 96 = true := by kernel_rfl
theorem tfd96_0 : tField Try.prog 96 0 = some (0, 42) := by kernel_rfl
theorem tfd96_1 : tField Try.prog 96 1 = some (6, 94) := by kernel_rfl
theorem tfd96_2 : tField Try.prog 96 2 = some (11, 4) := by kernel_rfl
theorem tfd96_3 : tField Try.prog 96 3 = some (12, 92) := by kernel_rfl
theorem tfd96_4 : tField Try.prog 96 4 = some (34, 42) := by kernel_rfl
theorem tis96 : tIs Try.prog 96 = true := by kernel_rfl
theorem tsz116 : tSize Try.prog 116 = some 1 := by kernel_rfl
theorem tby116 : tBytes Try.prog 116 = some 8 := by kernel_rfl
theorem tag116 : tAgg Try.prog 116 = some false := by kernel_rfl
theorem tze116 : tZero Try.prog 116 = some [.int .u64 0] := by kernel_rfl
theorem tin116 : tInt Try.prog 116 = some .u64 := by kernel_rfl
theorem tis116 : tIs Try.prog 116 = true := by kernel_rfl
theorem tsz122 : tSize Try.prog 122 = some 1 := by kernel_rfl
theorem tby122 : tBytes Try.prog 122 = some 24 := by kernel_rfl
theorem tag122 : tAgg Try.prog 122 = some false := by kernel_rfl
theorem tze122 : tZero Try.prog 122 = some [.nilsl] := by kernel_rfl
theorem tel122 : tElem Try.prog 122 = some 38 := by kernel_rfl
theorem tsl122 : tSli Try.prog 122 = true := by kernel_rfl
theorem tis122 : tIs Try.prog 122 = true := by kernel_rfl
theorem tsz130 : tSize Try.prog 130 = some 5 := by kernel_rfl
theorem tby130 : tBytes Try.prog 130 = some 40 := by kernel_rfl
theorem tag130 : tAgg Try.prog 130 = some true := by kernel_rfl
theorem tze130 : tZero Try.prog 130 = some [.int .i64 0, .int .i64 0, .int .i64 0, .int .i64 0, .int .i64 0] := by kernel_rfl
theorem tsc130 : tSct Try.prog 130 = true := by kernel_rfl
theorem tfd130_0 : tField Try.prog 130 0 = some (0, 3) := by kernel_rfl
theorem tfd130_1 : tField Try.prog 130 1 = some (1, 3) := by kernel_rfl
theorem tfd130_2 : tField Try.prog 130 2 = some (2, 3) := by kernel_rfl
theorem tfd130_3 : tField Try.prog 130 3 = some (3, 3) := by kernel_rfl
theorem tfd130_4 : tField Try.prog 130 4 = some (4, 3) := by kernel_rfl
theorem tis130 : tIs Try.prog 130 = true := by kernel_rfl
theorem tsz132 : tSize Try.prog 132 = some 22 := by kernel_rfl
theorem tby132 : tBytes Try.prog 132 = some 176 := by kernel_rfl
theorem tag132 : tAgg Try.prog 132 = some true := by kernel_rfl
theorem tze132 : tZero Try.prog 132 = some [.int .i64 0, .int .i64 0, .int .i64 0, .bool false, .int .i64 0, .int .i64 0, .int .i64 0, .int .i64 0, .int .i64 0, .bool false, .int .i64 0, .int .i64 0, .int .i64 0, .int .i64 0, .int .i64 0, .int .i64 0, .bool false, .int .i64 0, .int .i64 0, .int .i64 0, .int .i64 0, .int .i64 0] := by kernel_rfl
theorem tsc132 : tSct Try.prog 132 = true := by kernel_rfl
theorem tfd132_0 : tField Try.prog 132 0 = some (0, 3) := by kernel_rfl
theorem tfd132_1 : tField Try.prog 132 1 = some (1, 3) := by kernel_rfl
theorem tfd132_2 : tField Try.prog 132 2 = some (2, 31) := by kernel_rfl
theorem tfd132_3 : tField Try.prog 132 3 = some (8, 31) := by kernel_rfl
theorem tfd132_4 : tField Try.prog 132 4 = some (14, 3) := by kernel_rfl
theorem tfd132_5 : tField Try.prog 132 5 = some (15, 31) := by kernel_rfl
theorem tfd132_6 : tField Try.prog 132 6 = some (21, 3) := by kernel_rfl
theorem tis132 : tIs Try.prog 132 = true := by kernel_rfl
theorem tsz134 : tSize Try.prog 134 = some 40 := by kernel_rfl
theorem tby134 : tBytes Try.prog 134 = some 320 := by kernel_rfl
theorem tag134 : tAgg Try.prog 134 = some true := by kernel_rfl
theorem tze134 : tZero Try.prog 134 = some [.int .i64 0, .bool false, .int .i64 0, .int .i64 0, .int .i64 0, .int .i64 0, .int .i64 0, .int .i64 0, .int .i64 0, .int .i64 0, .int .i64 0, .bool false, .int .i64 0, .int .i64 0, .int .i64 0, .bool false, .int .i64 0, .int .i64 0, .int .i64 0, .int .i64 0, .int .i64 0, .bool false, .int .i64 0, .int .i64 0, .int .i64 0, .int .i64 0, .int .i64 0, .int .i64 0, .bool false, .int .i64 0, .int .i64 0, .int .i64 0, .int .i64 0, .int .i64 0, .int .i64 0, .bool false, .int .i64 0, .int .i64 0, .int .i64 0, .int .i64 0] := by kernel_rfl
theorem tsc134 : tSct Try.prog 134 = true := by kernel_rfl
theorem tfd134_0 : tField Try.prog 134 0 = some (0, 31) := by kernel_rfl
theorem tfd134_1 : tField Try.prog 134 1 = some (6, 130) := by kernel_rfl
theorem tfd134_2 : tField Try.prog 134 2 = some (11, 4) := by kernel_rfl
theorem tfd134_3 : tField Try.prog 134 3 = some (12, 132) := by kernel_rfl
theorem tfd134_4 : tField Try.prog 134 4 = some (34, 31) := by kernel_rfl
theorem tis134 : tIs Try.prog 134 = true := by kernel_rfl
theorem tsz147 : tSize Try.prog 147 = some 1 := by kernel_rfl
theorem tby147 : tBytes Try.prog 147 = some 4 := by kernel_rfl
theorem tag147 : tAgg Try.prog 147 = some false := by kernel_rfl
theorem tze147 : tZero Try.prog 147 = some [.int .u32 0] := by kernel_rfl
theorem tin147 : tInt Try.prog 147 = some .u32 := by kernel_rfl
theorem tis147 : tIs Try.prog 147 = true := by kernel_rfl
theorem tsz150 : tSize Try.prog 150 = some 1 := by kernel_rfl
theorem tby150 : tBytes Try.prog 150 = some 8 := by kernel_rfl
theorem tag150 : tAgg Try.prog 150 = some false := by kernel_rfl
theorem tze150 : tZero Try.prog 150 = some [.int .u64 0] := by kernel_rfl
theorem tin150 : tInt Try.prog 150 = some .u64 := by kernel_rfl
theorem tis150 : tIs Try.prog 150 = true := by kernel_rfl
theorem tsz163 : tSize Try.prog 163 = some 1 := by kernel_rfl
theorem tby163 : tBytes Try.prog 163 = some 24 := by kernel_rfl
theorem tag163 : tAgg Try.prog 163 = some false := by kernel_rfl
theorem tze163 : tZero Try.prog 163 = some [.nilsl] := by kernel_rfl
theorem tel163 : tElem Try.prog 163 = some 5 := by kernel_rfl
theorem tsl163 : tSli Try.prog 163 = true := by kernel_rfl
theorem tis163 : tIs Try.prog 163 = true := by kernel_rfl
theorem tsz170 : tSize Try.prog 170 = some 3 := by kernel_rfl
theorem tby170 : tBytes Try.prog 170 = some 24 := by kernel_rfl
theorem tag170 : tAgg Try.prog 170 = some true := by kernel_rfl
theorem tze170 : tZero Try.prog 170 = some [.int .i64 0, .int .i64 0, .int .i64 0] := by kernel_rfl
theorem tsc170 : tSct Try.prog 170 = true := by kernel_rfl
theorem tfd170_0 : tField Try.prog 170 0 = some (0, 3) := by kernel_rfl
theorem tfd170_1 : tField Try.prog 170 1 = some (1, 3) := by kernel_rfl
theorem tfd170_2 : tField Try.prog 170 2 = some (2, 3) := by kernel_rfl
theorem tis170 : tIs Try.prog 170 = true := by kernel_rfl
attribute [go_sem] tsz3 tby3 tag3 tze3 tin3 tis3 tsz4 tby4 tag4 tze4 tbo4 tis4 tsz5 tby5 tag5 tze5 tin5 tis5 tsz9 tby9 tag9 tze9 tst9 tis9 tsz22 tby22 tag22 tze22 tel22 tsl22 tis22 tsz27 tby27 tag27 tze27 tel27 tsl27 tis27 tsz29 tby29 tag29 tze29 tsc29 tfd29_0 tfd29_1 tfd29_2 tfd29_3 tis29 tsz31 tby31 tag31 tze31 tsc31 tfd31_0 tfd31_1 tfd31_2 tis31 tsz32 tby32 tag32 tze32 tel32 tsl32 tis32 tsz34 tby34 tag34 tze34 tsc34 tfd34_0 tfd34_1 tis34 tsz36 tby36 tag36 tze36 tsc36 tfd36_0 tfd36_1 tfd36_2 tfd36_3 tis36 tsz38 tby38 tag38 tze38 tel38 tsl38 tis38 tsz40 tby40 tag40 tze40 tsc40 tfd40_0 tfd40_1 tfd40_2 tfd40_3 tis40 tsz42 tby42 tag42 tze42 tsc42 tfd42_0 tfd42_1 tfd42_2 tis42 tsz44 tby44 tag44 tze44 tsc44 tfd44_0 tfd44_1 tis44 tsz46 tby46 tag46 tze46 tsc46 tfd46_0 tfd46_1 tfd46_2 tfd46_3 tis46 tsz54 tby54 tag54 tze54 tel54 tsl54 tis54 tsz56 tby56 tag56 tze56 tsc56 tfd56_0 tfd56_1 tfd56_2 tfd56_3 tfd56_4 tis56 tsz59 tby59 tag59 tze59 tel59 tsl59 tis59 tsz61 tby61 tag61 tze61 tsc61 tfd61_0 tfd61_1 tfd61_2 tfd61_3 tfd61_4 tis61 tsz92 tby92 tag92 tze92 tsc92 tfd92_0 tfd92_1 tfd92_2 tfd92_3 tfd92_4 tfd92_5 tfd92_6 tis92 tsz94 tby94 tag94 tze94 tsc94 tfd94_0 tfd94_1 tfd94_2 tfd94_3 tfd94_4 tis94 tsz96 tby96 tag96 tze96 tsc96 tfd96_0 tfd96_1 tfd96_2 tfd96_3 tfd96_4 tis96 tsz116 tby116 tag116 tze116 tin116 tis116 tsz122 tby122 tag122 tze122 tel122 tsl122 tis122 tsz130 tby130 tag130 tze130 tsc130 tfd130_0 tfd130_1 tfd130_2 tfd130_3 tfd130_4 tis130 tsz132 tby132 tag132 tze132 tsc132 tfd132_0 tfd132_1 tfd132_2 tfd132_3 tfd132_4 tfd132_5 tfd132_6 tis132 tsz134 tby134 tag134 tze134 tsc134 tfd134_0 tfd134_1 tfd134_2 tfd134_3 tfd134_4 tis134 tsz147 tby147 tag147 tze147 tin147 tis147 tsz150 tby150 tag150 tze150 tin150 tis150 tsz163 tby163 tag163 tze163 tel163 tsl163 tis163 tsz170 tby170 tag170 tze170 tsc170 tfd170_0 tfd170_1 tfd170_2 tis170
set_option maxRecDepth 100000 in
theorem teq40 {a0 : Int} {b0 : Int} {a1 : Int} {b1 : Int} {a2 : Int} {b2 : Int} {a3 : Int} {b3 : Int} : eqV Try.prog Op.maxDepth 40 (.agg [(.int .i64 a0), (.int .i64 a1), (.int .i64 a2), (.int .i64 a3)]) (.agg [(.int .i64 b0), (.int .i64 b1), (.int .i64 b2), (.int .i64 b3)]) = some ((decide (a0 = b0)) && ((decide (a1 = b1)) && ((decide (a2 = b2)) && ((decide (a3 = b3)) && true)))) := (eqV_struct Try.underlying40 (by kernel_rfl) (eqFs_cons (by decide) (a := (.int .i64 a0)) (b := (.int .i64 b0)) (by simp only [go_sem]; try rfl) (by simp only [go_sem]; try rfl) (eqV_int (by simp only [tin3]; rfl)) (eqFs_cons (by decide) (a := (.int .i64 a1)) (b := (.int .i64 b1)) (by simp only [go_sem]; try rfl) (by simp only [go_sem]; try rfl) (eqV_int (by simp only [tin3]; rfl)) (eqFs_cons (by decide) (a := (.int .i64 a2)) (b := (.int .i64 b2)) (by simp only [go_sem]; try rfl) (by simp only [go_sem]; try rfl) (eqV_int (by simp only [tin3]; rfl)) (eqFs_cons (by decide) (a := (.int .i64 a3)) (b := (.int .i64 b3)) (by simp only [go_sem]; try rfl) (by simp only [go_sem]; try rfl) (eqV_int (by simp only [tin3]; rfl)) eqFs_nil)))))
theorem tgd40 : Try.prog.eqGuardType Try.prog.depth 40 = false := by kernel_rfl
attribute [go_sem] teq40 tgd40
set_option maxRecDepth 100000 in
theorem teq94 {a0 : Int} {b0 : Int} {a1 : Int} {b1 : Int} {a2 : Int} {b2 : Int} {a3 : Int} {b3 : Int} {a4 : Int} {b4 : Int} : eqV Try.prog Op.maxDepth 94 (.agg [(.int .i64 a0), (.int .i64 a1), (.int .i64 a2), (.int .i64 a3), (.int .i64 a4)]) (.agg [(.int .i64 b0), (.int .i64 b1), (.int .i64 b2), (.int .i64 b3), (.int .i64 b4)]) = some ((decide (a0 = b0)) && ((decide (a1 = b1)) && ((decide (a2 = b2)) && ((decide (a3 = b3)) && ((decide (a4 = b4)) && true))))) := (eqV_struct Try.underlying94 (by kernel_rfl) (eqFs_cons (by decide) (a := (.int .i64 a0)) (b := (.int .i64 b0)) (by simp only [go_sem]; try rfl) (by simp only [go_sem]; try rfl) (eqV_int (by simp only [tin3]; rfl)) (eqFs_cons (by decide) (a := (.int .i64 a1)) (b := (.int .i64 b1)) (by simp only [go_sem]; try rfl) (by simp only [go_sem]; try rfl) (eqV_int (by simp only [tin3]; rfl)) (eqFs_cons (by decide) (a := (.int .i64 a2)) (b := (.int .i64 b2)) (by simp only [go_sem]; try rfl) (by simp only [go_sem]; try rfl) (eqV_int (by simp only [tin3]; rfl)) (eqFs_cons (by decide) (a := (.int .i64 a3)) (b := (.int .i64 b3)) (by simp only [go_sem]; try rfl) (by simp only [go_sem]; try rfl) (eqV_int (by simp only [tin3]; rfl)) (eqFs_cons (by decide) (a := (.int .i64 a4)) (b := (.int .i64 b4)) (by simp only [go_sem]; try rfl) (by simp only [go_sem]; try rfl) (eqV_int (by simp only [tin3]; rfl)) eqFs_nil))))))
theorem tgd94 : Try.prog.eqGuardType Try.prog.depth 94 = false := by kernel_rfl
attribute [go_sem] teq94 tgd94
end Go.Proofs.Ytgddflnhibhacaa.AM
