/- What the program's types are. No conditions. -/
import Derived.Test.YtlkpicpeoimcjaaAm20
import Derived.Test.YtlkpicpeoimcjaaProg
import Derived.KernelRfl
set_option linter.unusedSimpArgs false
set_option linter.unusedVariables false
namespace Go.Proofs.Ytlkpicpeoimcjaa.AM
open Go
theorem mixed : Try.prog.follows .mixedOrders = true := by kernel_rfl
theorem tsz3 : tSize Try.prog 3 = some 1 := by kernel_rfl
theorem tby3 : tBytes Try.prog 3 = some 8 := by kernel_rfl
theorem tag3 : tAgg Try.prog 3 = some false := by kernel_rfl
theorem tze3 : tZero Try.prog 3 = some [.int .i64 0] := by kernel_rfl
theorem tin3 : tInt Try.prog 3 = some .i64 := by kernel_rfl
theorem tis3 : tIs Try.prog 3 = true := by kernel_rfl
theorem tsz4 : tSize Try.prog 4 = some 1 := by kernel_rfl
theorem tby4 : tBytes Try.prog 4 = some 1 := by kernel_rfl
theorem tag4 : tAgg Try.prog 4 = some false := by kernel_rfl
theorem tze4 : tZero Try.prog 4 = some [.bool false] := by kernel_rfl
theorem tbo4 : tBoo Try.prog 4 = true := by kernel_rfl
theorem tis4 : tIs Try.prog 4 = true := by kernel_rfl
theorem tsz5 : tSize Try.prog 5 = some 1 := by kernel_rfl
theorem tby5 : tBytes Try.prog 5 = some 1 := by kernel_rfl
theorem tag5 : tAgg Try.prog 5 = some false := by kernel_rfl
theorem tze5 : tZero Try.prog 5 = some [.int .u8 0] := by kernel_rfl
theorem tin5 : tInt Try.prog 5 = some .u8 := by kernel_rfl
theorem tis5 : tIs Try.prog 5 = true := by kernel_rfl
theorem tsz9 : tSize Try.prog 9 = some 1 := by kernel_rfl
theorem tby9 : tBytes Try.prog 9 = some 16 := by kernel_rfl
theorem tag9 : tAgg Try.prog 9 = some false := by kernel_rfl
theorem tze9 : tZero Try.prog 9 = some [.str ⟨#[]⟩] := by kernel_rfl
theorem tst9 : tStr Try.prog 9 = true := by kernel_rfl
theorem tis9 : tIs Try.prog 9 = true := by kernel_rfl
theorem tsz22 : tSize Try.prog 22 = some 1 := by kernel_rfl
theorem tby22 : tBytes Try.prog 22 = some 24 := by kernel_rfl
theorem tag22 : tAgg Try.prog 22 = some false := by kernel_rfl
theorem tze22 : tZero Try.prog 22 = some [.nilsl] := by kernel_rfl
theorem tel22 : tElem Try.prog 22 = some 3 := by kernel_rfl
theorem tsl22 : tSli Try.prog 22 = true := by kernel_rfl
theorem tis22 : tIs Try.prog 22 = true := by kernel_rfl
theorem tsz27 : tSize Try.prog 27 = some 1 := by kernel_rfl
theorem tby27 : tBytes Try.prog 27 = some 24 := by kernel_rfl
theorem tag27 : tAgg Try.prog 27 = some false := by kernel_rfl
theorem tze27 : tZero Try.prog 27 = some [.nilsl] := by kernel_rfl
theorem tel27 : tElem Try.prog 27 = some 31 := by kernel_rfl
theorem tsl27 : tSli Try.prog 27 = true := by kernel_rfl
theorem tis27 : tIs Try.prog 27 = true := by kernel_rfl
theorem tsz29 : tSize Try.prog 29 = some 4 := by kernel_rfl
theorem tby29 : tBytes Try.prog 29 = some 32 := by kernel_rfl
theorem tag29 : tAgg Try.prog 29 = some true := by kernel_rfl
theorem tze29 : tZero Try.prog 29 = some [.int .i64 0, .int .i64 0, .int .i64 0, .int .i64 0] := by kernel_rfl
theorem tsc29 : tSct Try.prog 29 = true := by kernel_rfl
theorem tfd29_0 : tField Try.prog 29 0 = some (0, 3) := by kernel_rfl
theorem tfd29_1 : tField Try.prog 29 1 = some (1, 3) := by kernel_rfl
theorem tfd29_2 : tField Try.prog 29 2 = some (2, 3) := by kernel_rfl
theorem tfd29_3 : tField Try.prog 29 3 = some (3, 3) := by kernel_rfl
theorem tis29 : tIs Try.prog 29 = true := by kernel_rfl
theorem tsz31 : tSize Try.prog 31 = some 6 := by kernel_rfl
theorem tby31 : tBytes Try.prog 31 = some 48 := by kernel_rfl
theorem tag31 : tAgg Try.prog 31 = some true := by kernel_rfl
theorem tze31 : tZero Try.prog 31 = some [.int .i64 0, .bool false, .int .i64 0, .int .i64 0, .int .i64 0, .int .i64 0] := by kernel_rfl
theorem tsc31 : tSct Try.prog 31 = true := by kernel_rfl
theorem tfd31_0 : tField Try.prog 31 0 = some (0, 3) := by kernel_rfl
theorem tfd31_1 : tField Try.prog 31 1 = some (1, 4) := by kernel_rfl
theorem tfd31_2 : tField Try.prog 31 2 = some (2, 29) := by kernel_rfl
theorem tis31 : tIs Try.prog 31 = true := by kernel_rfl
theorem tsz32 : tSize Try.prog 32 = some 1 := by kernel_rfl
theorem tby32 : tBytes Try.prog 32 = some 24 := by kernel_rfl
theorem tag32 : tAgg Try.prog 32 = some false := by kernel_rfl
theorem tze32 : tZero Try.prog 32 = some [.nilsl] := by kernel_rfl
theorem tel32 : tElem Try.prog 32 = some 4 := by kernel_rfl
theorem tsl32 : tSli Try.prog 32 = true := by kernel_rfl
theorem tis32 : tIs Try.prog 32 = true := by kernel_rfl
theorem tsz34 : tSize Try.prog 34 = some 2 := by kernel_rfl
theorem tby34 : tBytes Try.prog 34 = some 48 := by kernel_rfl
theorem tag34 : tAgg Try.prog 34 = some true := by kernel_rfl
theorem tze34 : tZero Try.prog 34 = some [.nilsl, .nilsl] := by kernel_rfl
theorem tsc34 : tSct Try.prog 34 = true := by kernel_rfl
theorem tfd34_0 : tField Try.prog 34 0 = some (0, 27) := by kernel_rfl
theorem tfd34_1 : tField Try.prog 34 1 = some (1, 32) := by kernel_rfl
theorem tis34 : tIs Try.prog 34 = true := by kernel_rfl
theorem tsz36 : tSize Try.prog 36 = some 10 := by kernel_rfl
theorem tby36 : tBytes Try.prog 36 = some 128 := by kernel_rfl
theorem tag36 : tAgg Try.prog 36 = some true := by kernel_rfl
theorem tze36 : tZero Try.prog 36 = some [.nilsl, .int .i64 0, .bool false, .int .i64 0, .int .i64 0, .int .i64 0, .int .i64 0, .nilsl, .nilsl, .int .i64 0] := by kernel_rfl
theorem tsc36 : tSct Try.prog 36 = true := by kernel_rfl
theorem tfd36_0 : tField Try.prog 36 0 = some (0, 27) := by kernel_rfl
theorem tfd36_1 : tField Try.prog 36 1 = some (1, 31) := by kernel_rfl
theorem tfd36_2 : tField Try.prog 36 2 = some (7, 34) := by kernel_rfl
theorem tfd36_3 : tField Try.prog 36 3 = some (9, 3) := by kernel_rfl
theorem tis36 : tIs Try.prog 36 = true := by kernel_rfl
theorem tsz39 : tSize Try.prog 39 = some 1 := by kernel_rfl
theorem tby39 : tBytes Try.prog 39 = some 24 := by kernel_rfl
theorem tag39 : tAgg Try.prog 39 = some false := by kernel_rfl
theorem tze39 : tZero Try.prog 39 = some [.nilsl] := by kernel_rfl
theorem tel39 : tElem Try.prog 39 = some 42 := by kernel_rfl
theorem tsl39 : tSli Try.prog 39 = true := by kernel_rfl
theorem tis39 : tIs Try.prog 39 = true := by kernel_rfl
theorem tsz40 : tSize Try.prog 40 = some 4 := by kernel_rfl
theorem tby40 : tBytes Try.prog 40 = some 32 := by kernel_rfl
theorem tag40 : tAgg Try.prog 40 = some true := by kernel_rfl
theorem tze40 : tZero Try.prog 40 = some [.int .i64 0, .int .i64 0, .int .i64 0, .int .i64 0] := by kernel_rfl
theorem tsc40 : tSct Try.prog 40 = true := by kernel_rfl
theorem tfd40_0 : tField Try.prog 40 0 = some (0, 3) := by kernel_rfl
theorem tfd40_1 : tField Try.prog 40 1 = some (1, 3) := by kernel_rfl
theorem tfd40_2 : tField Try.prog 40 2 = some (2, 3) := by kernel_rfl
theorem tfd40_3 : tField Try.prog 40 3 = some (3, 3) := by kernel_rfl
theorem tis40 : tIs Try.prog 40 = true := by kernel_rfl
theorem tsz42 : tSize Try.prog 42 = some 6 := by kernel_rfl
theorem tby42 : tBytes Try.prog 42 = some 48 := by kernel_rfl
theorem tag42 : tAgg Try.prog 42 = some true := by kernel_rfl
theorem tze42 : tZero Try.prog 42 = some [.int .i64 0, .bool false, .int .i64 0, .int .i64 0, .int .i64 0, .int .i64 0] := by kernel_rfl
theorem tsc42 : tSct Try.prog 42 = true := by kernel_rfl
theorem tfd42_0 : tField Try.prog 42 0 = some (0, 3) := by kernel_rfl
theorem tfd42_1 : tField Try.prog 42 1 = some (1, 4) := by kernel_rfl
theorem tfd42_2 : tField Try.prog 42 2 = some (2, 40) := by kernel_rfl
theorem tis42 : tIs Try.prog 42 = true := by kernel_rfl
theorem tsz44 : tSize Try.prog 44 = some 2 := by kernel_rfl
theorem tby44 : tBytes Try.prog 44 = some 48 := by kernel_rfl
theorem tag44 : tAgg Try.prog 44 = some true := by kernel_rfl
theorem tze44 : tZero Try.prog 44 = some [.nilsl, .nilsl] := by kernel_rfl
theorem tsc44 : tSct Try.prog 44 = true := by kernel_rfl
theorem tfd44_0 : tField Try.prog 44 0 = some (0, 39) := by kernel_rfl
theorem tfd44_1 : tField Try.prog 44 1 = some (1, 32) := by kernel_rfl
theorem tis44 : tIs Try.prog 44 = true := by kernel_rfl
theorem tsz46 : tSize Try.prog 46 = some 10 := by kernel_rfl
theorem tby46 : tBytes Try.prog 46 = some 128 := by kernel_rfl
theorem tag46 : tAgg Try.prog 46 = some true := by kernel_rfl
theorem tze46 : tZero Try.prog 46 = some [.nilsl, .int .i64 0, .bool false, .int .i64 0, .int .i64 0, .int .i64 0, .int .i64 0, .nilsl, .nilsl, .int .i64 0] := by kernel_rfl
theorem tsc46 : tSct Try.prog 46 = true := by kernel_rfl
theorem tfd46_0 : tField Try.prog 46 0 = some (0, 39) := by kernel_rfl
theorem tfd46_1 : tField Try.prog 46 1 = some (1, 42) := by kernel_rfl
theorem tfd46_2 : tField Try.prog 46 2 = some (7, 44) := by kernel_rfl
theorem tfd46_3 : tField Try.prog 46 3 = some (9, 3) := by kernel_rfl
theorem tis46 : tIs Try.prog 46 = true := by kernel_rfl
theorem tsz59 : tSize Try.prog 59 = some 1 := by kernel_rfl
theorem tby59 : tBytes Try.prog 59 = some 24 := by kernel_rfl
theorem tag59 : tAgg Try.prog 59 = some false := by kernel_rfl
theorem tze59 : tZero Try.prog 59 = some [.nilsl] := by kernel_rfl
theorem tel59 : tElem Try.prog 59 = some 138 := by kernel_rfl
theorem tsl59 : tSli Try.prog 59 = true := by kernel_rfl
theorem tis59 : tIs Try.prog 59 = true := by kernel_rfl
theorem tsz61 : tSize Try.prog 61 = some 19 := by kernel_rfl
theorem tby61 : tBytes Try.prog 61 = some 232 := by kernel_rfl
theorem tag61 : tAgg Try.prog 61 = some true := by kernel_rfl
theorem tze61 : tZero Try.prog 61 = some [.nilsl, .int .i64 0, .bool false, .int .i64 0, .int .i64 0, .int .i64 0, .int .i64 0, .nilsl, .nilsl, .int .i64 0, .nilsl, .int .i64 0, .bool false, .int .i64 0, .int .i64 0, .int .i64 0, .int .i64 0, .bool false, .nilsl] := by kernel_rfl
theorem tsc61 : tSct Try.prog 61 = true := by kernel_rfl
theorem tfd61_0 : tField Try.prog 61 0 = some (0, 36) := by kernel_rfl
theorem tfd61_1 : tField Try.prog 61 1 = some (10, 59) := by kernel_rfl
theorem tfd61_2 : tField Try.prog 61 2 = some (11, 31) := by kernel_rfl
theorem tfd61_3 : tField Try.prog 61 3 = some (17, 4) := by kernel_rfl
theorem tfd61_4 : tField Try.prog 61 4 = some (18, 22) := by kernel_rfl
theorem tis61 : tIs Try.prog 61 = true := by kernel_rfl
theorem tsz64 : tSize Try.prog 64 = some 1 := by kernel_rfl
theorem tby64 : tBytes Try.prog 64 = some 24 := by kernel_rfl
theorem tag64 : tAgg Try.prog 64 = some false := by kernel_rfl
theorem tze64 : tZero Try.prog 64 = some [.nilsl] := by kernel_rfl
theorem tel64 : tElem Try.prog 64 = some 104 := by kernel_rfl
theorem tsl64 : tSli Try.prog 64 = true := by kernel_rfl
theorem tis64 : tIs Try.prog 64 = true := by kernel_rfl
theorem tsz66 : tSize Try.prog 66 = some 19 := by kernel_rfl
theorem tby66 : tBytes Try.prog 66 = some 232 := by kernel_rfl
theorem tag66 : tAgg Try.prog 66 = some true := by kernel_rfl
theorem tze66 : tZero Try.prog 66 = some [.nilsl, .int .i64 0, .bool false, .int .i64 0, .int .i64 0, .int .i64 0, .int .i64 0, .nilsl, .nilsl, .int .i64 0, .nilsl, .int .i64 0, .bool false, .int .i64 0, .int .i64 0, .int .i64 0, .int .i64 0, .bool false, .nilsl] := by kernel_rfl
theorem tsc66 : tSct Try.prog 66 = true := by kernel_rfl
theorem tfd66_0 : tField Try.prog 66 0 = some (0, 46) := by kernel_rfl
theorem tfd66_1 : tField Try.prog 66 1 = some (10, 64) := by kernel_rfl
theorem tfd66_2 : tField Try.prog 66 2 = some (11, 42) := by kernel_rfl
theorem tfd66_3 : tField Try.prog 66 3 = some (17, 4) := by kernel_rfl
theorem tfd66_4 : tField Try.prog 66 4 = some (18, 22) := by kernel_rfl
theorem tis66 : tIs Try.prog 66 = true := by kernel_rfl
theorem tsz100 : tSize Try.prog 100 = some 22 := by kernel_rfl
theorem tby100 : tBytes Try.prog 100 = some 176 := by kernel_rfl
theorem tag100 : tAgg Try.prog 100 = some true := by kernel_rfl
theorem tze100 : tZero Try.prog 100 = some [.int .i64 0, .int .i64 0, .int .i64 0, .bool false, .int .i64 0, .int .i64 0, .int .i64 0, .int .i64 0, .int .i64 0, .bool false, .int .i64 0, .int .i64 0, .int .i64 0, .int .i64 0, .int .i64 0, .int .i64 0, .bool false, .int .i64 0, .int .i64 0, .int .i64 0, .int .i64 0, .int .i64 0] := by kernel_rfl
theorem tsc100 : tSct Try.prog 100 = true := by kernel_rfl
theorem tfd100_0 : tField Try.prog 100 0 = some (0, 3) := by kernel_rfl
theorem tfd100_1 : tField Try.prog 100 1 = some (1, 3) := by kernel_rfl
theorem tfd100_2 : tField Try.prog 100 2 = some (2, 42) := by kernel_rfl
theorem tfd100_3 : tField Try.prog 100 3 = some (8, 42) := by kernel_rfl
theorem tfd100_4 : tField Try.prog 100 4 = some (14, 3) := by kernel_rfl
theorem tfd100_5 : tField Try.prog 100 5 = some (15, 42) := by kernel_rfl
theorem tfd100_6 : tField Try.prog 100 6 = some (21, 3) := by kernel_rfl
theorem tis100 : tIs Try.prog 100 = true := by kernel_rfl
theorem tsz102 : tSize Try.prog 102 = some 5 := by kernel_rfl
theorem tby102 : tBytes Try.prog 102 = some 40 := by kernel_rfl
theorem tag102 : tAgg Try.prog 102 = some true := by kernel_rfl
theorem tze102 : tZero Try.prog 102 = some [.int .i64 0, .int .i64 0, .int .i64 0, .int .i64 0, .int .i64 0] := by kernel_rfl
theorem tsc102 : tSct Try.prog 102 = true := by kernel_rfl
theorem tfd102_0 : tField Try.prog 102 0 = some (0, 3) := by kernel_rfl
theorem tfd102_1 : tField Try.prog 102 1 = some (1, 3) := by kernel_rfl
theorem tfd102_2 : tField Try.prog 102 2 = some (2, 3) := by kernel_rfl
theorem tfd102_3 : tField Try.prog 102 3 = some (3, 3) := by kernel_rfl
theorem tfd102_4 : tField Try.prog 102 4 = some (4, 3) := by kernel_rfl
theorem tis102 : tIs Try.prog 102 = true := by kernel_rfl
theorem tsz104 : tSize Try.prog 104 = some 40 := by kernel_rfl
theorem tby104 : tBytes Try.prog 104 = some 320 := by kernel_rfl
theorem tag104 : tAgg Try.prog 104 = some true := by kernel_rfl
theorem tze104 : tZero Try.prog 104 = some [.int .i64 0, .bool false, .int .i64 0, .int .i64 0, .int .i64 0, .int .i64 0, .int .i64 0, .int .i64 0, .int .i64 0, .int .i64 0, .int .i64 0, .bool false, .int .i64 0, .int .i64 0, .int .i64 0, .bool false, .int .i64 0, .int .i64 0, .int .i64 0, .int .i64 0, .int .i64 0, .bool false, .int .i64 0, .int .i64 0, .int .i64 0, .int .i64 0, .int .i64 0, .int .i64 0, .bool false, .int .i64 0, .int .i64 0, .int .i64 0, .int .i64 0, .int .i64 0, .int .i64 0, .bool false, .int .i64 0, .int .i64 0, .int .i64 0, .int .i64 0] := by kernel_rfl
theorem tsc104 : tSct Try.prog 104 = true := by kernel_rfl
theorem tfd104_0 : tField Try.prog 104 0 = some (0, 42) := by kernel_rfl
theorem tfd104_1 : tField Try.prog 104 1 = some (6, 102) := by kernel_rfl
theorem tfd104_2 : tField Try.prog 104 2 = some (11, 4) := by kernel_rfl
theorem tfd104_3 : tField Try.prog 104 3 = some (12, 100) := by kernel_rfl
theorem tfd104_4 : tField Try.prog 104 4 = some (34, 42) := by kernel_rfl
theorem tis104 : tIs Try.prog 104 = true := by kernel_rfl
theorem tsz120 : tSize Try.prog 120 = some 1 := by kernel_rfl
theorem tby120 : tBytes Try.prog 120 = some 8 := by kernel_rfl
theorem tag120 : tAgg Try.prog 120 = some false := by kernel_rfl
theorem tze120 : tZero Try.prog 120 = some [.int .u64 0] := by kernel_rfl
theorem tin120 : tInt Try.prog 120 = some .u64 := by kernel_rfl
theorem tis120 : tIs Try.prog 120 = true := by kernel_rfl
theorem tsz127 : tSize Try.prog 127 = some 1 := by kernel_rfl
theorem tby127 : tBytes Try.prog 127 = some 24 := by kernel_rfl
theorem tag127 : tAgg Try.prog 127 = some false := by kernel_rfl
theorem tze127 : tZero Try.prog 127 = some [.nilsl] := by kernel_rfl
theorem tel127 : tElem Try.prog 127 = some 39 := by kernel_rfl
theorem tsl127 : tSli Try.prog 127 = true := by kernel_rfl
theorem tis127 : tIs Try.prog 127 = true := by kernel_rfl
theorem tsz134 : tSize Try.prog 134 = some 5 := by kernel_rfl
theorem tby134 : tBytes Try.prog 134 = some 40 := by kernel_rfl
theorem tag134 : tAgg Try.prog 134 = some true := by kernel_rfl
theorem tze134 : tZero Try.prog 134 = some [.int .i64 0, .int .i64 0, .int .i64 0, .int .i64 0, .int .i64 0] := by kernel_rfl
theorem tsc134 : tSct Try.prog 134 = true := by kernel_rfl
theorem tfd134_0 : tField Try.prog 134 0 = some (0, 3) := by kernel_rfl
theorem tfd134_1 : tField Try.prog 134 1 = some (1, 3) := by kernel_rfl
theorem tfd134_2 : tField Try.prog 134 2 = some (2, 3) := by kernel_rfl
theorem tfd134_3 : tField Try.prog 134 3 = some (3, 3) := by kernel_rfl
theorem tfd134_4 : tField Try.prog 134 4 = some (4, 3) := by kernel_rfl
theorem tis134 : tIs Try.prog 134 = true := by kernel_rfl
theorem tsz136 : tSize Try.prog 136 = some 22 := by kernel_rfl
theorem tby136 : tBytes Try.prog 136 = some 176 := by kernel_rfl
theorem tag136 : tAgg Try.prog 136 = some true := by kernel_rfl
theorem tze136 : tZero Try.prog 136 = some [.int .i64 0, .int .i64 0, .int .i64 0, .bool false, .int .i64 0, .int .i64 0, .int .i64 0, .int .i64 0, .int .i64 0, .bool false, .int .i64 0, .int .i64 0, .int .i64 0, .int .i64 0, .int .i64 0, .int .i64 0, .bool false, .int .i64 0, .int .i64 0, .int .i64 0, .int .i64 0, .int .i64 0] := by kernel_rfl
theorem tsc136 : tSct Try.prog 136 = true := by kernel_rfl
theorem tfd136_0 : tField Try.prog 136 0 = some (0, 3) := by kernel_rfl
theorem tfd136_1 : tField Try.prog 136 1 = some (1, 3) := by kernel_rfl
theorem tfd136_2 : tField Try.prog 136 2 = some (2, 31) := by kernel_rfl
theorem tfd136_3 : tField Try.prog 136 3 = some (8, 31) := by kernel_rfl
theorem tfd136_4 : tField Try.prog 136 4 = some (14, 3) := by kernel_rfl
theorem tfd136_5 : tField Try.prog 136 5 = some (15, 31) := by kernel_rfl
theorem tfd136_6 : tField Try.prog 136 6 = some (21, 3) := by kernel_rfl
theorem tis136 : tIs Try.prog 136 = true := by kernel_rfl
theorem tsz138 : tSize Try.prog 138 = some 40 := by kernel_rfl
theorem tby138 : tBytes Try.prog 138 = some 320 := by kernel_rfl
theorem tag138 : tAgg Try.prog 138 = some true := by kernel_rfl
theorem tze138 : tZero Try.prog 138 = some [.int .i64 0, .bool false, .int .i64 0, .int .i64 0, .int .i64 0, .int .i64 0, .int .i64 0, .int .i64 0, .int .i64 0, .int .i64 0, .int .i64 0, .bool false, .int .i64 0, .int .i64 0, .int .i64 0, .bool false, .int .i64 0, .int .i64 0, .int .i64 0, .int .i64 0, .int .i64 0, .bool false, .int .i64 0, .int .i64 0, .int .i64 0, .int .i64 0, .int .i64 0, .int .i64 0, .bool false, .int .i64 0, .int .i64 0, .int .i64 0, .int .i64 0, .int .i64 0, .int .i64 0, .bool false, .int .i64 0, .int .i64 0, .int .i64 0, .int .i64 0] := by kernel_rfl
theorem tsc138 : tSct Try.prog 138 = true := by kernel_rfl
theorem tfd138_0 : tField Try.prog 138 0 = some (0, 31) := by kernel_rfl
theorem tfd138_1 : tField Try.prog 138 1 = some (6, 134) := by kernel_rfl
theorem tfd138_2 : tField Try.prog 138 2 = some (11, 4) := by kernel_rfl
theorem tfd138_3 : tField Try.prog 138 3 = some (12, 136) := by kernel_rfl
theorem tfd138_4 : tField Try.prog 138 4 = some (34, 31) := by kernel_rfl
theorem tis138 : tIs Try.prog 138 = true := by kernel_rfl
theorem tsz151 : tSize Try.prog 151 = some 1 := by kernel_rfl
theorem tby151 : tBytes Try.prog 151 = some 4 := by kernel_rfl
theorem tag151 : tAgg Try.prog 151 = some false := by kernel_rfl
theorem tze151 : tZero Try.prog 151 = some [.int .u32 0] := by kernel_rfl
theorem tin151 : tInt Try.prog 151 = some .u32 := by kernel_rfl
theorem tis151 : tIs Try.prog 151 = true := by kernel_rfl
theorem tsz154 : tSize Try.prog 154 = some 1 := by kernel_rfl
theorem tby154 : tBytes Try.prog 154 = some 8 := by kernel_rfl
theorem tag154 : tAgg Try.prog 154 = some false := by kernel_rfl
theorem tze154 : tZero Try.prog 154 = some [.int .u64 0] := by kernel_rfl
theorem tin154 : tInt Try.prog 154 = some .u64 := by kernel_rfl
theorem tis154 : tIs Try.prog 154 = true := by kernel_rfl
theorem tsz166 : tSize Try.prog 166 = some 1 := by kernel_rfl
theorem tby166 : tBytes Try.prog 166 = some 24 := by kernel_rfl
theorem tag166 : tAgg Try.prog 166 = some false := by kernel_rfl
theorem tze166 : tZero Try.prog 166 = some [.nilsl] := by kernel_rfl
theorem tel166 : tElem Try.prog 166 = some 5 := by kernel_rfl
theorem tsl166 : tSli Try.prog 166 = true := by kernel_rfl
theorem tis166 : tIs Try.prog 166 = true := by kernel_rfl
theorem tsz173 : tSize Try.prog 173 = some 3 := by kernel_rfl
theorem tby173 : tBytes Try.prog 173 = some 24 := by kernel_rfl
theorem tag173 : tAgg Try.prog 173 = some true := by kernel_rfl
theorem tze173 : tZero Try.prog 173 = some [.int .i64 0, .int .i64 0, .int .i64 0] := by kernel_rfl
theorem tsc173 : tSct Try.prog 173 = true := by kernel_rfl
theorem tfd173_0 : tField Try.prog 173 0 = some (0, 3) := by kernel_rfl
theorem tfd173_1 : tField Try.prog 173 1 = some (1, 3) := by kernel_rfl
theorem tfd173_2 : tField Try.prog 173 2 = some (2, 3) := by kernel_rfl
theorem tis173 : tIs Try.prog 173 = true := by kernel_rfl
attribute [go_sem] tsz3 tby3 tag3 tze3 tin3 tis3 tsz4 tby4 tag4 tze4 tbo4 tis4 tsz5 tby5 tag5 tze5 tin5 tis5 tsz9 tby9 tag9 tze9 tst9 tis9 tsz22 tby22 tag22 tze22 tel22 tsl22 tis22 tsz27 tby27 tag27 tze27 tel27 tsl27 tis27 tsz29 tby29 tag29 tze29 tsc29 tfd29_0 tfd29_1 tfd29_2 tfd29_3 tis29 tsz31 tby31 tag31 tze31 tsc31 tfd31_0 tfd31_1 tfd31_2 tis31 tsz32 tby32 tag32 tze32 tel32 tsl32 tis32 tsz34 tby34 tag34 tze34 tsc34 tfd34_0 tfd34_1 tis34 tsz36 tby36 tag36 tze36 tsc36 tfd36_0 tfd36_1 tfd36_2 tfd36_3 tis36 tsz39 tby39 tag39 tze39 tel39 tsl39 tis39 tsz40 tby40 tag40 tze40 tsc40 tfd40_0 tfd40_1 tfd40_2 tfd40_3 tis40 tsz42 tby42 tag42 tze42 tsc42 tfd42_0 tfd42_1 tfd42_2 tis42 tsz44 tby44 tag44 tze44 tsc44 tfd44_0 tfd44_1 tis44 tsz46 tby46 tag46 tze46 tsc46 tfd46_0 tfd46_1 tfd46_2 tfd46_3 tis46 tsz59 tby59 tag59 tze59 tel59 tsl59 tis59 tsz61 tby61 tag61 tze61 tsc61 tfd61_0 tfd61_1 tfd61_2 tfd61_3 tfd61_4 tis61 tsz64 tby64 tag64 tze64 tel64 tsl64 tis64 tsz66 tby66 tag66 tze66 tsc66 tfd66_0 tfd66_1 tfd66_2 tfd66_3 tfd66_4 tis66 tsz100 tby100 tag100 tze100 tsc100 tfd100_0 tfd100_1 tfd100_2 tfd100_3 tfd100_4 tfd100_5 tfd100_6 tis100 tsz102 tby102 tag102 tze102 tsc102 tfd102_0 tfd102_1 tfd102_2 tfd102_3 tfd102_4 tis102 tsz104 tby104 tag104 tze104 tsc104 tfd104_0 tfd104_1 tfd104_2 tfd104_3 tfd104_4 tis104 tsz120 tby120 tag120 tze120 tin120 tis120 tsz127 tby127 tag127 tze127 tel127 tsl127 tis127 tsz134 tby134 tag134 tze134 tsc134 tfd134_0 tfd134_1 tfd134_2 tfd134_3 tfd134_4 tis134 tsz136 tby136 tag136 tze136 tsc136 tfd136_0 tfd136_1 tfd136_2 tfd136_3 tfd136_4 tfd136_5 tfd136_6 tis136 tsz138 tby138 tag138 tze138 tsc138 tfd138_0 tfd138_1 tfd138_2 tfd138_3 tfd138_4 tis138 tsz151 tby151 tag151 tze151 tin151 tis151 tsz154 tby154 tag154 tze154 tin154 tis154 tsz166 tby166 tag166 tze166 tel166 tsl166 tis166 tsz173 tby173 tag173 tze173 tsc173 tfd173_0 tfd173_1 tfd173_2 tis173
set_option maxRecDepth 100000 in
theorem teq40 {a0 : Int} {b0 : Int} {a1 : Int} {b1 : Int} {a2 : Int} {b2 : Int} {a3 : Int} {b3 : Int} : eqV Try.prog Op.maxDepth 40 (.agg [(.int .i64 a0), (.int .i64 a1), (.int .i64 a2), (.int .i64 a3)]) (.agg [(.int .i64 b0), (.int .i64 b1), (.int .i64 b2), (.int .i64 b3)]) = some ((decide (a0 = b0)) && ((decide (a1 = b1)) && ((decide (a2 = b2)) && ((decide (a3 = b3)) && true)))) := (eqV_struct Try.underlying40 (by kernel_rfl) (eqFs_cons (by decide) (a := (.int .i64 a0)) (b := (.int .i64 b0)) (by simp only [go_sem]; try rfl) (by simp only [go_sem]; try rfl) (eqV_int (by simp only [tin3]; rfl)) (eqFs_cons (by decide) (a := (.int .i64 a1)) (b := (.int .i64 b1)) (by simp only [go_sem]; try rfl) (by simp only [go_sem]; try rfl) (eqV_int (by simp only [tin3]; rfl)) (eqFs_cons (by decide) (a := (.int .i64 a2)) (b := (.int .i64 b2)) (by simp only [go_sem]; try rfl) (by simp only [go_sem]; try rfl) (eqV_int (by simp only [tin3]; rfl)) (eqFs_cons (by decide) (a := (.int .i64 a3)) (b := (.int .i64 b3)) (by simp only [go_sem]; try rfl) (by simp only [go_sem]; try rfl) (eqV_int (by simp only [tin3]; rfl)) eqFs_nil)))))
theorem tgd40 : Try.prog.eqGuardType Try.prog.depth 40 = false := by kernel_rfl
attribute [go_sem] teq40 tgd40
set_option maxRecDepth 100000 in
theorem teq42 {a0 : Int} {b0 : Int} {a1 : Bool} {b1 : Bool} {a2 : Int} {b2 : Int} {a3 : Int} {b3 : Int} {a4 : Int} {b4 : Int} {a5 : Int} {b5 : Int} : eqV Try.prog Op.maxDepth 42 (.agg [(.int .i64 a0), (.bool a1), (.int .i64 a2), (.int .i64 a3), (.int .i64 a4), (.int .i64 a5)]) (.agg [(.int .i64 b0), (.bool b1), (.int .i64 b2), (.int .i64 b3), (.int .i64 b4), (.int .i64 b5)]) = some ((decide (a0 = b0)) && ((a1 == b1) && (((decide (a2 = b2)) && ((decide (a3 = b3)) && ((decide (a4 = b4)) && ((decide (a5 = b5)) && true)))) && true))) := (eqV_struct Try.underlying42 (by kernel_rfl) (eqFs_cons (by decide) (a := (.int .i64 a0)) (b := (.int .i64 b0)) (by simp only [go_sem]; try rfl) (by simp only [go_sem]; try rfl) (eqV_int (by simp only [tin3]; rfl)) (eqFs_cons (by decide) (a := (.bool a1)) (b := (.bool b1)) (by simp only [go_sem]; try rfl) (by simp only [go_sem]; try rfl) (eqV_bool tbo4) (eqFs_cons (by decide) (a := (.agg [(.int .i64 a2), (.int .i64 a3), (.int .i64 a4), (.int .i64 a5)])) (b := (.agg [(.int .i64 b2), (.int .i64 b3), (.int .i64 b4), (.int .i64 b5)])) (by simp only [go_sem]; try rfl) (by simp only [go_sem]; try rfl) (eqV_struct Try.underlying40 (by kernel_rfl) (eqFs_cons (by decide) (a := (.int .i64 a2)) (b := (.int .i64 b2)) (by simp only [go_sem]; try rfl) (by simp only [go_sem]; try rfl) (eqV_int (by simp only [tin3]; rfl)) (eqFs_cons (by decide) (a := (.int .i64 a3)) (b := (.int .i64 b3)) (by simp only [go_sem]; try rfl) (by simp only [go_sem]; try rfl) (eqV_int (by simp only [tin3]; rfl)) (eqFs_cons (by decide) (a := (.int .i64 a4)) (b := (.int .i64 b4)) (by simp only [go_sem]; try rfl) (by simp only [go_sem]; try rfl) (eqV_int (by simp only [tin3]; rfl)) (eqFs_cons (by decide) (a := (.int .i64 a5)) (b := (.int .i64 b5)) (by simp only [go_sem]; try rfl) (by simp only [go_sem]; try rfl) (eqV_int (by simp only [tin3]; rfl)) eqFs_nil))))) eqFs_nil))))
theorem tgd42 : Try.prog.eqGuardType Try.prog.depth 42 = false := by kernel_rfl
attribute [go_sem] teq42 tgd42
set_option maxRecDepth 100000 in
theorem teq102 {a0 : Int} {b0 : Int} {a1 : Int} {b1 : Int} {a2 : Int} {b2 : Int} {a3 : Int} {b3 : Int} {a4 : Int} {b4 : Int} : eqV Try.prog Op.maxDepth 102 (.agg [(.int .i64 a0), (.int .i64 a1), (.int .i64 a2), (.int .i64 a3), (.int .i64 a4)]) (.agg [(.int .i64 b0), (.int .i64 b1), (.int .i64 b2), (.int .i64 b3), (.int .i64 b4)]) = some ((decide (a0 = b0)) && ((decide (a1 = b1)) && ((decide (a2 = b2)) && ((decide (a3 = b3)) && ((decide (a4 = b4)) && true))))) := (eqV_struct Try.underlying102 (by kernel_rfl) (eqFs_cons (by decide) (a := (.int .i64 a0)) (b := (.int .i64 b0)) (by simp only [go_sem]; try rfl) (by simp only [go_sem]; try rfl) (eqV_int (by simp only [tin3]; rfl)) (eqFs_cons (by decide) (a := (.int .i64 a1)) (b := (.int .i64 b1)) (by simp only [go_sem]; try rfl) (by simp only [go_sem]; try rfl) (eqV_int (by simp only [tin3]; rfl)) (eqFs_cons (by decide) (a := (.int .i64 a2)) (b := (.int .i64 b2)) (by simp only [go_sem]; try rfl) (by simp only [go_sem]; try rfl) (eqV_int (by simp only [tin3]; rfl)) (eqFs_cons (by decide) (a := (.int .i64 a3)) (b := (.int .i64 b3)) (by simp only [go_sem]; try rfl) (by simp only [go_sem]; try rfl) (eqV_int (by simp only [tin3]; rfl)) (eqFs_cons (by decide) (a := (.int .i64 a4)) (b := (.int .i64 b4)) (by simp only [go_sem]; try rfl) (by simp only [go_sem]; try rfl) (eqV_int (by simp only [tin3]; rfl)) eqFs_nil))))))
theorem tgd102 : Try.prog.eqGuardType Try.prog.depth 102 = false := by kernel_rfl
attribute [go_sem] teq102 tgd102
end Go.Proofs.Ytlkpicpeoimcjaa.AM
