/- What the program's types are. No conditions. -/
import Derived.Test.YtcjjopfmeipidaaAm20
import Derived.Test.YtcjjopfmeipidaaProg
import Derived.KernelRfl
set_option linter.unusedSimpArgs false
set_option linter.unusedVariables false
namespace Go.Proofs.Ytcjjopfmeipidaa.AM
open Go
theorem mixed : Try.prog.follows .mixedOrders = true := by kernel_rfl
theorem tsz3 : tSize Try.prog 3 = some 1 := by kernel_rfl
theorem tby3 : tBytes Try.prog 3 = some 8 := by kernel_rfl
theorem tag3 : tAgg Try.prog 3 = some false := by kernel_rfl
theorem tze3 : tZero Try.prog 3 = some [.int .i64 0] := by kernel_rfl
theorem tin3 : tInt Try.prog 3 = some .i64 := by kernel_rfl
theorem tis3 : tIs Try.prog 3 = true := by kernel_rfl
theorem tsz4 : tSize Try.prog 4 = some 1 := by kernel_rfl
theorem tby4 : tBytes Try.prog 4 = some 1 := by kernel_rfl
theorem tag4 : tAgg Try.prog 4 = some false := by kernel_rfl
theorem tze4 : tZero Try.prog 4 = some [.bool false] := by kernel_rfl
theorem tbo4 : tBoo Try.prog 4 = true := by kernel_rfl
theorem tis4 : tIs Try.prog 4 = true := by kernel_rfl
theorem tsz9 : tSize Try.prog 9 = some 1 := by kernel_rfl
theorem tby9 : tBytes Try.prog 9 = some 16 := by kernel_rfl
theorem tag9 : tAgg Try.prog 9 = some false := by kernel_rfl
theorem tze9 : tZero Try.prog 9 = some [.str ⟨#[]⟩] := by kernel_rfl
theorem tst9 : tStr Try.prog 9 = true := by kernel_rfl
theorem tis9 : tIs Try.prog 9 = true := by kernel_rfl
theorem tsz24 : tSize Try.prog 24 = some 1 := by kernel_rfl
theorem tby24 : tBytes Try.prog 24 = some 24 := by kernel_rfl
theorem tag24 : tAgg Try.prog 24 = some false := by kernel_rfl
theorem tze24 : tZero Try.prog 24 = some [.nilsl] := by kernel_rfl
theorem tel24 : tElem Try.prog 24 = some 3 := by kernel_rfl
theorem tsl24 : tSli Try.prog 24 = true := by kernel_rfl
theorem tis24 : tIs Try.prog 24 = true := by kernel_rfl
theorem tsz29 : tSize Try.prog 29 = some 4 := by kernel_rfl
theorem tby29 : tBytes Try.prog 29 = some 32 := by kernel_rfl
theorem tag29 : tAgg Try.prog 29 = some true := by kernel_rfl
theorem tze29 : tZero Try.prog 29 = some [.int .i64 0, .int .i64 0, .int .i64 0, .int .i64 0] := by kernel_rfl
theorem tsc29 : tSct Try.prog 29 = true := by kernel_rfl
theorem tfd29_0 : tField Try.prog 29 0 = some (0, 3) := by kernel_rfl
theorem tfd29_1 : tField Try.prog 29 1 = some (1, 3) := by kernel_rfl
theorem tfd29_2 : tField Try.prog 29 2 = some (2, 3) := by kernel_rfl
theorem tfd29_3 : tField Try.prog 29 3 = some (3, 3) := by kernel_rfl
theorem tis29 : tIs Try.prog 29 = true := by kernel_rfl
theorem tsz31 : tSize Try.prog 31 = some 6 := by kernel_rfl
theorem tby31 : tBytes Try.prog 31 = some 48 := by kernel_rfl
theorem tag31 : tAgg Try.prog 31 = some true := by kernel_rfl
theorem tze31 : tZero Try.prog 31 = some [.int .i64 0, .bool false, .int .i64 0, .int .i64 0, .int .i64 0, .int .i64 0] := by kernel_rfl
theorem tsc31 : tSct Try.prog 31 = true := by kernel_rfl
theorem tfd31_0 : tField Try.prog 31 0 = some (0, 3) := by kernel_rfl
theorem tfd31_1 : tField Try.prog 31 1 = some (1, 4) := by kernel_rfl
theorem tfd31_2 : tField Try.prog 31 2 = some (2, 29) := by kernel_rfl
theorem tis31 : tIs Try.prog 31 = true := by kernel_rfl
theorem tsz33 : tSize Try.prog 33 = some 4 := by kernel_rfl
theorem tby33 : tBytes Try.prog 33 = some 32 := by kernel_rfl
theorem tag33 : tAgg Try.prog 33 = some true := by kernel_rfl
theorem tze33 : tZero Try.prog 33 = some [.int .i64 0, .int .i64 0, .int .i64 0, .int .i64 0] := by kernel_rfl
theorem tsc33 : tSct Try.prog 33 = true := by kernel_rfl
theorem tfd33_0 : tField Try.prog 33 0 = some (0, 3) := by kernel_rfl
theorem tfd33_1 : tField Try.prog 33 1 = some (1, 3) := by kernel_rfl
theorem tfd33_2 : tField Try.prog 33 2 = some (2, 3) := by kernel_rfl
theorem tfd33_3 : tField Try.prog 33 3 = some (3, 3) := by kernel_rfl
theorem tis33 : tIs Try.prog 33 = true := by kernel_rfl
theorem tsz35 : tSize Try.prog 35 = some 6 := by kernel_rfl
theorem tby35 : tBytes Try.prog 35 = some 48 := by kernel_rfl
theorem tag35 : tAgg Try.prog 35 = some true := by kernel_rfl
theorem tze35 : tZero Try.prog 35 = some [.int .i64 0, .bool false, .int .i64 0, .int .i64 0, .int .i64 0, .int .i64 0] := by kernel_rfl
theorem tsc35 : tSct Try.prog 35 = true := by kernel_rfl
theorem tfd35_0 : tField Try.prog 35 0 = some (0, 3) := by kernel_rfl
theorem tfd35_1 : tField Try.prog 35 1 = some (1, 4) := by kernel_rfl
theorem tfd35_2 : tField Try.prog 35 2 = some (2, 33) := by kernel_rfl
theorem tis35 : tIs Try.prog 35 = true := by kernel_rfl
theorem tsz41 : tSize Try.prog 41 = some 1 := by kernel_rfl
theorem tby41 : tBytes Try.prog 41 = some 24 := by kernel_rfl
theorem tag41 : tAgg Try.prog 41 = some false := by kernel_rfl
theorem tze41 : tZero Try.prog 41 = some [.nilsl] := by kernel_rfl
theorem tel41 : tElem Try.prog 41 = some 31 := by kernel_rfl
theorem tsl41 : tSli Try.prog 41 = true := by kernel_rfl
theorem tis41 : tIs Try.prog 41 = true := by kernel_rfl
theorem tsz42 : tSize Try.prog 42 = some 1 := by kernel_rfl
theorem tby42 : tBytes Try.prog 42 = some 24 := by kernel_rfl
theorem tag42 : tAgg Try.prog 42 = some false := by kernel_rfl
theorem tze42 : tZero Try.prog 42 = some [.nilsl] := by kernel_rfl
theorem tel42 : tElem Try.prog 42 = some 4 := by kernel_rfl
theorem tsl42 : tSli Try.prog 42 = true := by kernel_rfl
theorem tis42 : tIs Try.prog 42 = true := by kernel_rfl
theorem tsz44 : tSize Try.prog 44 = some 2 := by kernel_rfl
theorem tby44 : tBytes Try.prog 44 = some 48 := by kernel_rfl
theorem tag44 : tAgg Try.prog 44 = some true := by kernel_rfl
theorem tze44 : tZero Try.prog 44 = some [.nilsl, .nilsl] := by kernel_rfl
theorem tsc44 : tSct Try.prog 44 = true := by kernel_rfl
theorem tfd44_0 : tField Try.prog 44 0 = some (0, 41) := by kernel_rfl
theorem tfd44_1 : tField Try.prog 44 1 = some (1, 42) := by kernel_rfl
theorem tis44 : tIs Try.prog 44 = true := by kernel_rfl
theorem tsz46 : tSize Try.prog 46 = some 10 := by kernel_rfl
theorem tby46 : tBytes Try.prog 46 = some 128 := by kernel_rfl
theorem tag46 : tAgg Try.prog 46 = some true := by kernel_rfl
theorem tze46 : tZero Try.prog 46 = some [.nilsl, .int .i64 0, .bool false, .int .i64 0, .int .i64 0, .int .i64 0, .int .i64 0, .nilsl, .nilsl, .int .i64 0] := by kernel_rfl
theorem tsc46 : tSct Try.prog 46 = true := by kernel_rfl
theorem tfd46_0 : tField Try.prog 46 0 = some (0, 41) := by kernel_rfl
theorem tfd46_1 : tField Try.prog 46 1 = some (1, 31) := by kernel_rfl
theorem tfd46_2 : tField Try.prog 46 2 = some (7, 44) := by kernel_rfl
theorem tfd46_3 : tField Try.prog 46 3 = some (9, 3) := by kernel_rfl
theorem tis46 : tIs Try.prog 46 = true := by kernel_rfl
theorem tsz49 : tSize Try.prog 49 = some 1 := by kernel_rfl
theorem tby49 : tBytes Try.prog 49 = some 24 := by kernel_rfl
theorem tag49 : tAgg Try.prog 49 = some false := by kernel_rfl
theorem tze49 : tZero Try.prog 49 = some [.nilsl] := by kernel_rfl
theorem tel49 : tElem Try.prog 49 = some 35 := by kernel_rfl
theorem tsl49 : tSli Try.prog 49 = true := by kernel_rfl
theorem tis49 : tIs Try.prog 49 = true := by kernel_rfl
theorem tsz51 : tSize Try.prog 51 = some 2 := by kernel_rfl
theorem tby51 : tBytes Try.prog 51 = some 48 := by kernel_rfl
theorem tag51 : tAgg Try.prog 51 = some true := by kernel_rfl
theorem tze51 : tZero Try.prog 51 = some [.nilsl, .nilsl] := by kernel_rfl
theorem tsc51 : tSct Try.prog 51 = true := by kernel_rfl
theorem tfd51_0 : tField Try.prog 51 0 = some (0, 49) := by kernel_rfl
theorem tfd51_1 : tField Try.prog 51 1 = some (1, 42) := by kernel_rfl
theorem tis51 : tIs Try.prog 51 = true := by kernel_rfl
theorem tsz53 : tSize Try.prog 53 = some 10 := by kernel_rfl
theorem tby53 : tBytes Try.prog 53 = some 128 := by kernel_rfl
theorem tag53 : tAgg Try.prog 53 = some true := by kernel_rfl
theorem tze53 : tZero Try.prog 53 = some [.nilsl, .int .i64 0, .bool false, .int .i64 0, .int .i64 0, .int .i64 0, .int .i64 0, .nilsl, .nilsl, .int .i64 0] := by kernel_rfl
theorem tsc53 : tSct Try.prog 53 = true := by kernel_rfl
theorem tfd53_0 : tField Try.prog 53 0 = some (0, 49) := by kernel_rfl
theorem tfd53_1 : tField Try.prog 53 1 = some (1, 35) := by kernel_rfl
theorem tfd53_2 : tField Try.prog 53 2 = some (7, 51) := by kernel_rfl
theorem tfd53_3 : tField Try.prog 53 3 = some (9, 3) := by kernel_rfl
theorem tis53 : tIs Try.prog 53 = true := by kernel_rfl
theorem tsz60 : tSize Try.prog 60 = some 1 := by kernel_rfl
theorem tby60 : tBytes Try.prog 60 = some 24 := by kernel_rfl
theorem tag60 : tAgg Try.prog 60 = some false := by kernel_rfl
theorem tze60 : tZero Try.prog 60 = some [.nilsl] := by kernel_rfl
theorem tel60 : tElem Try.prog 60 = some 9 := by kernel_rfl
theorem tsl60 : tSli Try.prog 60 = true := by kernel_rfl
theorem tis60 : tIs Try.prog 60 = true := by kernel_rfl
theorem tsz76 : tSize Try.prog 76 = some 1 := by kernel_rfl
theorem tby76 : tBytes Try.prog 76 = some 8 := by kernel_rfl
theorem tag76 : tAgg Try.prog 76 = some false := by kernel_rfl
theorem tze76 : tZero Try.prog 76 = some [.int .u64 0] := by kernel_rfl
theorem tin76 : tInt Try.prog 76 = some .u64 := by kernel_rfl
theorem tis76 : tIs Try.prog 76 = true := by kernel_rfl
theorem tsz82 : tSize Try.prog 82 = some 1 := by kernel_rfl
theorem tby82 : tBytes Try.prog 82 = some 4 := by kernel_rfl
theorem tag82 : tAgg Try.prog 82 = some false := by kernel_rfl
theorem tze82 : tZero Try.prog 82 = some [.int .u32 0] := by kernel_rfl
theorem tin82 : tInt Try.prog 82 = some .u32 := by kernel_rfl
theorem tis82 : tIs Try.prog 82 = true := by kernel_rfl
theorem tsz85 : tSize Try.prog 85 = some 1 := by kernel_rfl
theorem tby85 : tBytes Try.prog 85 = some 8 := by kernel_rfl
theorem tag85 : tAgg Try.prog 85 = some false := by kernel_rfl
theorem tze85 : tZero Try.prog 85 = some [.int .u64 0] := by kernel_rfl
theorem tin85 : tInt Try.prog 85 = some .u64 := by kernel_rfl
theorem tis85 : tIs Try.prog 85 = true := by kernel_rfl
theorem tsz93 : tSize Try.prog 93 = some 3 := by kernel_rfl
theorem tby93 : tBytes Try.prog 93 = some 24 := by kernel_rfl
theorem tag93 : tAgg Try.prog 93 = some true := by kernel_rfl
theorem tze93 : tZero Try.prog 93 = some [.int .i64 0, .int .i64 0, .int .i64 0] := by kernel_rfl
theorem tsc93 : tSct Try.prog 93 = true := by kernel_rfl
theorem tfd93_0 : tField Try.prog 93 0 = some (0, 3) := by kernel_rfl
theorem tfd93_1 : tField Try.prog 93 1 = some (1, 3) := by kernel_rfl
theorem tfd93_2 : tField Try.prog 93 2 = some (2, 3) := by kernel_rfl
theorem tis93 : tIs Try.prog 93 = true := by kernel_rfl
attribute [go_sem] tsz3 tby3 tag3 tze3 tin3 tis3 tsz4 tby4 tag4 tze4 tbo4 tis4 tsz9 tby9 tag9 tze9 tst9 tis9 tsz24 tby24 tag24 tze24 tel24 tsl24 tis24 tsz29 tby29 tag29 tze29 tsc29 tfd29_0 tfd29_1 tfd29_2 tfd29_3 tis29 tsz31 tby31 tag31 tze31 tsc31 tfd31_0 tfd31_1 tfd31_2 tis31 tsz33 tby33 tag33 tze33 tsc33 tfd33_0 tfd33_1 tfd33_2 tfd33_3 tis33 tsz35 tby35 tag35 tze35 tsc35 tfd35_0 tfd35_1 tfd35_2 tis35 tsz41 tby41 tag41 tze41 tel41 tsl41 tis41 tsz42 tby42 tag42 tze42 tel42 tsl42 tis42 tsz44 tby44 tag44 tze44 tsc44 tfd44_0 tfd44_1 tis44 tsz46 tby46 tag46 tze46 tsc46 tfd46_0 tfd46_1 tfd46_2 tfd46_3 tis46 tsz49 tby49 tag49 tze49 tel49 tsl49 tis49 tsz51 tby51 tag51 tze51 tsc51 tfd51_0 tfd51_1 tis51 tsz53 tby53 tag53 tze53 tsc53 tfd53_0 tfd53_1 tfd53_2 tfd53_3 tis53 tsz60 tby60 tag60 tze60 tel60 tsl60 tis60 tsz76 tby76 tag76 tze76 tin76 tis76 tsz82 tby82 tag82 tze82 tin82 tis82 tsz85 tby85 tag85 tze85 tin85 tis85 tsz93 tby93 tag93 tze93 tsc93 tfd93_0 tfd93_1 tfd93_2 tis93
end Go.Proofs.Ytcjjopfmeipidaa.AM
