/- What the program's types are. No conditions. -/
import Derived.Test.YteojcehneipgdaaGreatM4
import Derived.Test.YteojcehneipgdaaGreatProg
import Derived.KernelRfl
set_option linter.unusedSimpArgs false
set_option linter.unusedVariables false
namespace Go.Proofs.YteojcehneipgdaaGreat.AM
open Go
set_option maxHeartbeats 8000000
set_option maxRecDepth 100000
theorem mixed : Tryz.prog.follows .mixedOrders = true := by kernel_rfl
theorem tsz3 : tSize Tryz.prog 3 = some 1 := by kernel_rfl
theorem tby3 : tBytes Tryz.prog 3 = some 8 := by kernel_rfl
theorem tag3 : tAgg Tryz.prog 3 = some false := by kernel_rfl
theorem tze3 : tZero Tryz.prog 3 = some [.int .i64 0] := by kernel_rfl
theorem tin3 : tInt Tryz.prog 3 = some .i64 := by kernel_rfl
theorem tis3 : tIs Tryz.prog 3 = true := by kernel_rfl
theorem tsz4 : tSize Tryz.prog 4 = some 1 := by kernel_rfl
theorem tby4 : tBytes Tryz.prog 4 = some 1 := by kernel_rfl
theorem tag4 : tAgg Tryz.prog 4 = some false := by kernel_rfl
theorem tze4 : tZero Tryz.prog 4 = some [.bool false] := by kernel_rfl
theorem tbo4 : tBoo Tryz.prog 4 = true := by kernel_rfl
theorem tis4 : tIs Tryz.prog 4 = true := by kernel_rfl
theorem tsz5 : tSize Tryz.prog 5 = some 1 := by kernel_rfl
theorem tby5 : tBytes Tryz.prog 5 = some 1 := by kernel_rfl
theorem tag5 : tAgg Tryz.prog 5 = some false := by kernel_rfl
theorem tze5 : tZero Tryz.prog 5 = some [.int .u8 0] := by kernel_rfl
theorem tin5 : tInt Tryz.prog 5 = some .u8 := by kernel_rfl
theorem tis5 : tIs Tryz.prog 5 = true := by kernel_rfl
theorem tsz9 : tSize Tryz.prog 9 = some 1 := by kernel_rfl
theorem tby9 : tBytes Tryz.prog 9 = some 16 := by kernel_rfl
theorem tag9 : tAgg Tryz.prog 9 = some false := by kernel_rfl
theorem tze9 : tZero Tryz.prog 9 = some [.str ⟨#[]⟩] := by kernel_rfl
theorem tst9 : tStr Tryz.prog 9 = true := by kernel_rfl
theorem tis9 : tIs Tryz.prog 9 = true := by kernel_rfl
theorem tsz22 : tSize Tryz.prog 22 = some 1 := by kernel_rfl
theorem tby22 : tBytes Tryz.prog 22 = some 24 := by kernel_rfl
theorem tag22 : tAgg Tryz.prog 22 = some false := by kernel_rfl
theorem tze22 : tZero Tryz.prog 22 = some [.nilsl] := by kernel_rfl
theorem tel22 : tElem Tryz.prog 22 = some 5 := by kernel_rfl
theorem tsl22 : tSli Tryz.prog 22 = true := by kernel_rfl
theorem tis22 : tIs Tryz.prog 22 = true := by kernel_rfl
theorem tsz24 : tSize Tryz.prog 24 = some 1 := by kernel_rfl
theorem tby24 : tBytes Tryz.prog 24 = some 24 := by kernel_rfl
theorem tag24 : tAgg Tryz.prog 24 = some false := by kernel_rfl
theorem tze24 : tZero Tryz.prog 24 = some [.nilsl] := by kernel_rfl
theorem tel24 : tElem Tryz.prog 24 = some 59 := by kernel_rfl
theorem tsl24 : tSli Tryz.prog 24 = true := by kernel_rfl
theorem tis24 : tIs Tryz.prog 24 = true := by kernel_rfl
theorem tsz25 : tSize Tryz.prog 25 = some 1 := by kernel_rfl
theorem tby25 : tBytes Tryz.prog 25 = some 24 := by kernel_rfl
theorem tag25 : tAgg Tryz.prog 25 = some false := by kernel_rfl
theorem tze25 : tZero Tryz.prog 25 = some [.nilsl] := by kernel_rfl
theorem tel25 : tElem Tryz.prog 25 = some 29 := by kernel_rfl
theorem tsl25 : tSli Tryz.prog 25 = true := by kernel_rfl
theorem tis25 : tIs Tryz.prog 25 = true := by kernel_rfl
theorem tsz27 : tSize Tryz.prog 27 = some 4 := by kernel_rfl
theorem tby27 : tBytes Tryz.prog 27 = some 32 := by kernel_rfl
theorem tag27 : tAgg Tryz.prog 27 = some true := by kernel_rfl
theorem tze27 : tZero Tryz.prog 27 = some [.int .i64 0, .int .i64 0, .int .i64 0, .int .i64 0] := by kernel_rfl
theorem tsc27 : tSct Tryz.prog 27 = true := by kernel_rfl
theorem tfd27_0 : tField Tryz.prog 27 0 = some (0, 3) := by kernel_rfl
theorem tfd27_1 : tField Tryz.prog 27 1 = some (1, 3) := by kernel_rfl
theorem tfd27_2 : tField Tryz.prog 27 2 = some (2, 3) := by kernel_rfl
theorem tfd27_3 : tField Tryz.prog 27 3 = some (3, 3) := by kernel_rfl
theorem tis27 : tIs Tryz.prog 27 = true := by kernel_rfl
theorem tsz29 : tSize Tryz.prog 29 = some 6 := by kernel_rfl
theorem tby29 : tBytes Tryz.prog 29 = some 48 := by kernel_rfl
theorem tag29 : tAgg Tryz.prog 29 = some true := by kernel_rfl
theorem tze29 : tZero Tryz.prog 29 = some [.int .i64 0, .bool false, .int .i64 0, .int .i64 0, .int .i64 0, .int .i64 0] := by kernel_rfl
theorem tsc29 : tSct Tryz.prog 29 = true := by kernel_rfl
theorem tfd29_0 : tField Tryz.prog 29 0 = some (0, 3) := by kernel_rfl
theorem tfd29_1 : tField Tryz.prog 29 1 = some (1, 4) := by kernel_rfl
theorem tfd29_2 : tField Tryz.prog 29 2 = some (2, 27) := by kernel_rfl
theorem tis29 : tIs Tryz.prog 29 = true := by kernel_rfl
theorem tsz30 : tSize Tryz.prog 30 = some 1 := by kernel_rfl
theorem tby30 : tBytes Tryz.prog 30 = some 24 := by kernel_rfl
theorem tag30 : tAgg Tryz.prog 30 = some false := by kernel_rfl
theorem tze30 : tZero Tryz.prog 30 = some [.nilsl] := by kernel_rfl
theorem tel30 : tElem Tryz.prog 30 = some 4 := by kernel_rfl
theorem tsl30 : tSli Tryz.prog 30 = true := by kernel_rfl
theorem tis30 : tIs Tryz.prog 30 = true := by kernel_rfl
theorem tsz32 : tSize Tryz.prog 32 = some 2 := by kernel_rfl
theorem tby32 : tBytes Tryz.prog 32 = some 48 := by kernel_rfl
theorem tag32 : tAgg Tryz.prog 32 = some true := by kernel_rfl
theorem tze32 : tZero Tryz.prog 32 = some [.nilsl, .nilsl] := by kernel_rfl
theorem tsc32 : tSct Tryz.prog 32 = true := by kernel_rfl
theorem tfd32_0 : tField Tryz.prog 32 0 = some (0, 25) := by kernel_rfl
theorem tfd32_1 : tField Tryz.prog 32 1 = some (1, 30) := by kernel_rfl
theorem tis32 : tIs Tryz.prog 32 = true := by kernel_rfl
theorem tsz34 : tSize Tryz.prog 34 = some 10 := by kernel_rfl
theorem tby34 : tBytes Tryz.prog 34 = some 128 := by kernel_rfl
theorem tag34 : tAgg Tryz.prog 34 = some true := by kernel_rfl
theorem tze34 : tZero Tryz.prog 34 = some [.nilsl, .int .i64 0, .bool false, .int .i64 0, .int .i64 0, .int .i64 0, .int .i64 0, .nilsl, .nilsl, .int .i64 0] := by kernel_rfl
theorem tsc34 : tSct Tryz.prog 34 = true := by kernel_rfl
theorem tfd34_0 : tField Tryz.prog 34 0 = some (0, 25) := by kernel_rfl
theorem tfd34_1 : tField Tryz.prog 34 1 = some (1, 29) := by kernel_rfl
theorem tfd34_2 : tField Tryz.prog 34 2 = some (7, 32) := by kernel_rfl
theorem tfd34_3 : tField Tryz.prog 34 3 = some (9, 3) := by kernel_rfl
theorem tis34 : tIs Tryz.prog 34 = true := by kernel_rfl
theorem tsz40 : tSize Tryz.prog 40 = some 1 := by kernel_rfl
theorem tby40 : tBytes Tryz.prog 40 = some 24 := by kernel_rfl
theorem tag40 : tAgg Tryz.prog 40 = some false := by kernel_rfl
theorem tze40 : tZero Tryz.prog 40 = some [.nilsl] := by kernel_rfl
theorem tel40 : tElem Tryz.prog 40 = some 3 := by kernel_rfl
theorem tsl40 : tSli Tryz.prog 40 = true := by kernel_rfl
theorem tis40 : tIs Tryz.prog 40 = true := by kernel_rfl
theorem tsz50 : tSize Tryz.prog 50 = some 1 := by kernel_rfl
theorem tby50 : tBytes Tryz.prog 50 = some 24 := by kernel_rfl
theorem tag50 : tAgg Tryz.prog 50 = some false := by kernel_rfl
theorem tze50 : tZero Tryz.prog 50 = some [.nilsl] := by kernel_rfl
theorem tel50 : tElem Tryz.prog 50 = some 63 := by kernel_rfl
theorem tsl50 : tSli Tryz.prog 50 = true := by kernel_rfl
theorem tis50 : tIs Tryz.prog 50 = true := by kernel_rfl
theorem tsz52 : tSize Tryz.prog 52 = some 19 := by kernel_rfl
theorem tby52 : tBytes Tryz.prog 52 = some 232 := by kernel_rfl
theorem tag52 : tAgg Tryz.prog 52 = some true := by kernel_rfl
theorem tze52 : tZero Tryz.prog 52 = some [.nilsl, .int .i64 0, .bool false, .int .i64 0, .int .i64 0, .int .i64 0, .int .i64 0, .nilsl, .nilsl, .int .i64 0, .nilsl, .int .i64 0, .bool false, .int .i64 0, .int .i64 0, .int .i64 0, .int .i64 0, .bool false, .nilsl] := by kernel_rfl
theorem tsc52 : tSct Tryz.prog 52 = true := by kernel_rfl
theorem tfd52_0 : tField Tryz.prog 52 0 = some (0, 34) := by kernel_rfl
theorem tfd52_1 : tField Tryz.prog 52 1 = some (10, 50) := by kernel_rfl
theorem tfd52_2 : tField Tryz.prog 52 2 = some (11, 29) := by kernel_rfl
theorem tfd52_3 : tField Tryz.prog 52 3 = some (17, 4) := by kernel_rfl
theorem tfd52_4 : tField Tryz.prog 52 4 = some (18, 40) := by kernel_rfl
theorem tis52 : tIs Tryz.prog 52 = true := by kernel_rfl
theorem tsz59 : tSize Tryz.prog 59 = some 5 := by kernel_rfl
theorem tby59 : tBytes Tryz.prog 59 = some 40 := by kernel_rfl
theorem tag59 : tAgg Tryz.prog 59 = some true := by kernel_rfl
theorem tze59 : tZero Tryz.prog 59 = some [.int .i64 0, .int .i64 0, .int .i64 0, .int .i64 0, .int .i64 0] := by kernel_rfl
theorem tsc59 : tSct Tryz.prog 59 = true := by kernel_rfl
theorem tfd59_0 : tField Tryz.prog 59 0 = some (0, 3) := by kernel_rfl
theorem tfd59_1 : tField Tryz.prog 59 1 = some (1, 3) := by kernel_rfl
theorem tfd59_2 : tField Tryz.prog 59 2 = some (2, 3) := by kernel_rfl
theorem tfd59_3 : tField Tryz.prog 59 3 = some (3, 3) := by kernel_rfl
theorem tfd59_4 : tField Tryz.prog 59 4 = some (4, 3) := by kernel_rfl
theorem tis59 : tIs Tryz.prog 59 = true := by kernel_rfl
theorem tsz61 : tSize Tryz.prog 61 = some 22 := by kernel_rfl
theorem tby61 : tBytes Tryz.prog 61 = some 176 := by kernel_rfl
theorem tag61 : tAgg Tryz.prog 61 = some true := by kernel_rfl
theorem tze61 : tZero Tryz.prog 61 = some [.int .i64 0, .int .i64 0, .int .i64 0, .bool false, .int .i64 0, .int .i64 0, .int .i64 0, .int .i64 0, .int .i64 0, .bool false, .int .i64 0, .int .i64 0, .int .i64 0, .int .i64 0, .int .i64 0, .int .i64 0, .bool false, .int .i64 0, .int .i64 0, .int .i64 0, .int .i64 0, .int .i64 0] := by kernel_rfl
theorem tsc61 : tSct Tryz.prog 61 = true := by kernel_rfl
theorem tfd61_0 : tField Tryz.prog 61 0 = some (0, 3) := by kernel_rfl
theorem tfd61_1 : tField Tryz.prog 61 1 = some (1, 3) := by kernel_rfl
theorem tfd61_2 : tField Tryz.prog 61 2 = some (2, 29) := by kernel_rfl
theorem tfd61_3 : tField Tryz.prog 61 3 = some (8, 29) := by kernel_rfl
theorem tfd61_4 : tField Tryz.prog 61 4 = some (14, 3) := by kernel_rfl
theorem tfd61_5 : tField Tryz.prog 61 5 = some (15, 29) := by kernel_rfl
theorem tfd61_6 : tField Tryz.prog 61 6 = some (21, 3) := by kernel_rfl
theorem tis61 : tIs Tryz.prog 61 = true := by kernel_rfl
theorem tsz63 : tSize Tryz.prog 63 = some 40 := by kernel_rfl
theorem tby63 : tBytes Tryz.prog 63 = some 320 := by kernel_rfl
theorem tag63 : tAgg Tryz.prog 63 = some true := by kernel_rfl
theorem tze63 : tZero Tryz.prog 63 = some [.int .i64 0, .bool false, .int .i64 0, .int .i64 0, .int .i64 0, .int .i64 0, .int .i64 0, .int .i64 0, .int .i64 0, .int .i64 0, .int .i64 0, .bool false, .int .i64 0, .int .i64 0, .int .i64 0, .bool false, .int .i64 0, .int .i64 0, .int .i64 0, .int .i64 0, .int .i64 0, .bool false, .int .i64 0, .int .i64 0, .int .i64 0, .int .i64 0, .int .i64 0, .int .i64 0, .bool false, .int .i64 0, .int .i64 0, .int .i64 0, .int .i64 0, .int .i64 0, .int .i64 0, .bool false, .int .i64 0, .int .i64 0, .int .i64 0, .int .i64 0] := by kernel_rfl
theorem tsc63 : tSct Tryz.prog 63 = true := by kernel_rfl
theorem tfd63_0 : tField Tryz.prog 63 0 = some (0, 29) := by kernel_rfl
theorem tfd63_1 : tField Tryz.prog 63 1 = some (6, 59) := by kernel_rfl
theorem tfd63_2 : tField Tryz.prog 63 2 = some (11, 4) := by kernel_rfl
theorem tfd63_3 : tField Tryz.prog 63 3 = some (12, 61) := by kernel_rfl
theorem tfd63_4 : tField Tryz.prog 63 4 = some (34, 29) := by kernel_rfl
theorem tis63 : tIs Tryz.prog 63 = true := by kernel_rfl
theorem tsz70 : tSize Tryz.prog 70 = some 2 := by kernel_rfl
theorem tby70 : tBytes Tryz.prog 70 = some 16 := by kernel_rfl
theorem tag70 : tAgg Tryz.prog 70 = some true := by kernel_rfl
theorem tze70 : tZero Tryz.prog 70 = some [.int .i64 0, .int .i64 0] := by kernel_rfl
theorem tsc70 : tSct Tryz.prog 70 = true := by kernel_rfl
theorem tfd70_0 : tField Tryz.prog 70 0 = some (0, 3) := by kernel_rfl
theorem tfd70_1 : tField Tryz.prog 70 1 = some (1, 3) := by kernel_rfl
theorem tis70 : tIs Tryz.prog 70 = true := by kernel_rfl
theorem tsz74 : tSize Tryz.prog 74 = some 1 := by kernel_rfl
theorem tby74 : tBytes Tryz.prog 74 = some 24 := by kernel_rfl
theorem tag74 : tAgg Tryz.prog 74 = some false := by kernel_rfl
theorem tze74 : tZero Tryz.prog 74 = some [.nilsl] := by kernel_rfl
theorem tel74 : tElem Tryz.prog 74 = some 70 := by kernel_rfl
theorem tsl74 : tSli Tryz.prog 74 = true := by kernel_rfl
theorem tis74 : tIs Tryz.prog 74 = true := by kernel_rfl
theorem tsz144 : tSize Tryz.prog 144 = some 3 := by kernel_rfl
theorem tby144 : tBytes Tryz.prog 144 = some 40 := by kernel_rfl
theorem tag144 : tAgg Tryz.prog 144 = some true := by kernel_rfl
theorem tze144 : tZero Tryz.prog 144 = some [.nilsl, .int .i64 0, .int .i64 0] := by kernel_rfl
theorem tsc144 : tSct Tryz.prog 144 = true := by kernel_rfl
theorem tfd144_0 : tField Tryz.prog 144 0 = some (0, 22) := by kernel_rfl
theorem tfd144_1 : tField Tryz.prog 144 1 = some (1, 3) := by kernel_rfl
theorem tfd144_2 : tField Tryz.prog 144 2 = some (2, 3) := by kernel_rfl
theorem tis144 : tIs Tryz.prog 144 = true := by kernel_rfl
theorem tsz157 : tSize Tryz.prog 157 = some 1 := by kernel_rfl
theorem tby157 : tBytes Tryz.prog 157 = some 24 := by kernel_rfl
theorem tag157 : tAgg Tryz.prog 157 = some false := by kernel_rfl
theorem tze157 : tZero Tryz.prog 157 = some [.nilsl] := by kernel_rfl
theorem tel157 : tElem Tryz.prog 157 = some 25 := by kernel_rfl
theorem tsl157 : tSli Tryz.prog 157 = true := by kernel_rfl
theorem tis157 : tIs Tryz.prog 157 = true := by kernel_rfl
theorem tsz180 : tSize Tryz.prog 180 = some 1 := by kernel_rfl
theorem tby180 : tBytes Tryz.prog 180 = some 8 := by kernel_rfl
theorem tag180 : tAgg Tryz.prog 180 = some false := by kernel_rfl
theorem tze180 : tZero Tryz.prog 180 = some [.int .u64 0] := by kernel_rfl
theorem tin180 : tInt Tryz.prog 180 = some .u64 := by kernel_rfl
theorem tis180 : tIs Tryz.prog 180 = true := by kernel_rfl
theorem tsz191 : tSize Tryz.prog 191 = some 1 := by kernel_rfl
theorem tby191 : tBytes Tryz.prog 191 = some 4 := by kernel_rfl
theorem tag191 : tAgg Tryz.prog 191 = some false := by kernel_rfl
theorem tze191 : tZero Tryz.prog 191 = some [.int .u32 0] := by kernel_rfl
theorem tin191 : tInt Tryz.prog 191 = some .u32 := by kernel_rfl
theorem tis191 : tIs Tryz.prog 191 = true := by kernel_rfl
theorem tsz194 : tSize Tryz.prog 194 = some 1 := by kernel_rfl
theorem tby194 : tBytes Tryz.prog 194 = some 8 := by kernel_rfl
theorem tag194 : tAgg Tryz.prog 194 = some false := by kernel_rfl
theorem tze194 : tZero Tryz.prog 194 = some [.int .u64 0] := by kernel_rfl
theorem tin194 : tInt Tryz.prog 194 = some .u64 := by kernel_rfl
theorem tis194 : tIs Tryz.prog 194 = true := by kernel_rfl
theorem tsz200 : tSize Tryz.prog 200 = some 3 := by kernel_rfl
theorem tby200 : tBytes Tryz.prog 200 = some 24 := by kernel_rfl
theorem tag200 : tAgg Tryz.prog 200 = some true := by kernel_rfl
theorem tze200 : tZero Tryz.prog 200 = some [.int .i64 0, .int .i64 0, .int .i64 0] := by kernel_rfl
theorem tsc200 : tSct Tryz.prog 200 = true := by kernel_rfl
theorem tfd200_0 : tField Tryz.prog 200 0 = some (0, 3) := by kernel_rfl
theorem tfd200_1 : tField Tryz.prog 200 1 = some (1, 3) := by kernel_rfl
theorem tfd200_2 : tField Tryz.prog 200 2 = some (2, 3) := by kernel_rfl
theorem tis200 : tIs Tryz.prog 200 = true := by kernel_rfl
attribute [go_sem] tsz3 tby3 tag3 tze3 tin3 tis3 tsz4 tby4 tag4 tze4 tbo4 tis4 tsz5 tby5 tag5 tze5 tin5 tis5 tsz9 tby9 tag9 tze9 tst9 tis9 tsz22 tby22 tag22 tze22 tel22 tsl22 tis22 tsz24 tby24 tag24 tze24 tel24 tsl24 tis24 tsz25 tby25 tag25 tze25 tel25 tsl25 tis25 tsz27 tby27 tag27 tze27 tsc27 tfd27_0 tfd27_1 tfd27_2 tfd27_3 tis27 tsz29 tby29 tag29 tze29 tsc29 tfd29_0 tfd29_1 tfd29_2 tis29 tsz30 tby30 tag30 tze30 tel30 tsl30 tis30 tsz32 tby32 tag32 tze32 tsc32 tfd32_0 tfd32_1 tis32 tsz34 tby34 tag34 tze34 tsc34 tfd34_0 tfd34_1 tfd34_2 tfd34_3 tis34 tsz40 tby40 tag40 tze40 tel40 tsl40 tis40 tsz50 tby50 tag50 tze50 tel50 tsl50 tis50 tsz52 tby52 tag52 tze52 tsc52 tfd52_0 tfd52_1 tfd52_2 tfd52_3 tfd52_4 tis52 tsz59 tby59 tag59 tze59 tsc59 tfd59_0 tfd59_1 tfd59_2 tfd59_3 tfd59_4 tis59 tsz61 tby61 tag61 tze61 tsc61 tfd61_0 tfd61_1 tfd61_2 tfd61_3 tfd61_4 tfd61_5 tfd61_6 tis61 tsz63 tby63 tag63 tze63 tsc63 tfd63_0 tfd63_1 tfd63_2 tfd63_3 tfd63_4 tis63 tsz70 tby70 tag70 tze70 tsc70 tfd70_0 tfd70_1 tis70 tsz74 tby74 tag74 tze74 tel74 tsl74 tis74 tsz144 tby144 tag144 tze144 tsc144 tfd144_0 tfd144_1 tfd144_2 tis144 tsz157 tby157 tag157 tze157 tel157 tsl157 tis157 tsz180 tby180 tag180 tze180 tin180 tis180 tsz191 tby191 tag191 tze191 tin191 tis191 tsz194 tby194 tag194 tze194 tin194 tis194 tsz200 tby200 tag200 tze200 tsc200 tfd200_0 tfd200_1 tfd200_2 tis200
set_option maxRecDepth 100000 in
theorem teq27 {a0 : Int} {b0 : Int} {a1 : Int} {b1 : Int} {a2 : Int} {b2 : Int} {a3 : Int} {b3 : Int} : eqV Tryz.prog Op.maxDepth 27 (.agg [(.int .i64 a0), (.int .i64 a1), (.int .i64 a2), (.int .i64 a3)]) (.agg [(.int .i64 b0), (.int .i64 b1), (.int .i64 b2), (.int .i64 b3)]) = some ((decide (a0 = b0)) && ((decide (a1 = b1)) && ((decide (a2 = b2)) && ((decide (a3 = b3)) && true)))) := (eqV_struct Tryz.underlying27 (by kernel_rfl) (eqFs_cons (by decide) (a := (.int .i64 a0)) (b := (.int .i64 b0)) (by simp only [go_sem]; try rfl) (by simp only [go_sem]; try rfl) (eqV_int (by simp only [tin3]; rfl)) (eqFs_cons (by decide) (a := (.int .i64 a1)) (b := (.int .i64 b1)) (by simp only [go_sem]; try rfl) (by simp only [go_sem]; try rfl) (eqV_int (by simp only [tin3]; rfl)) (eqFs_cons (by decide) (a := (.int .i64 a2)) (b := (.int .i64 b2)) (by simp only [go_sem]; try rfl) (by simp only [go_sem]; try rfl) (eqV_int (by simp only [tin3]; rfl)) (eqFs_cons (by decide) (a := (.int .i64 a3)) (b := (.int .i64 b3)) (by simp only [go_sem]; try rfl) (by simp only [go_sem]; try rfl) (eqV_int (by simp only [tin3]; rfl)) eqFs_nil)))))
theorem tgd27 : Tryz.prog.eqGuardType Tryz.prog.depth 27 = false := by kernel_rfl
attribute [go_sem] teq27 tgd27
set_option maxRecDepth 100000 in
theorem teq29 {a0 : Int} {b0 : Int} {a1 : Bool} {b1 : Bool} {a2 : Int} {b2 : Int} {a3 : Int} {b3 : Int} {a4 : Int} {b4 : Int} {a5 : Int} {b5 : Int} : eqV Tryz.prog Op.maxDepth 29 (.agg [(.int .i64 a0), (.bool a1), (.int .i64 a2), (.int .i64 a3), (.int .i64 a4), (.int .i64 a5)]) (.agg [(.int .i64 b0), (.bool b1), (.int .i64 b2), (.int .i64 b3), (.int .i64 b4), (.int .i64 b5)]) = some ((decide (a0 = b0)) && ((a1 == b1) && (((decide (a2 = b2)) && ((decide (a3 = b3)) && ((decide (a4 = b4)) && ((decide (a5 = b5)) && true)))) && true))) := (eqV_struct Tryz.underlying29 (by kernel_rfl) (eqFs_cons (by decide) (a := (.int .i64 a0)) (b := (.int .i64 b0)) (by simp only [go_sem]; try rfl) (by simp only [go_sem]; try rfl) (eqV_int (by simp only [tin3]; rfl)) (eqFs_cons (by decide) (a := (.bool a1)) (b := (.bool b1)) (by simp only [go_sem]; try rfl) (by simp only [go_sem]; try rfl) (eqV_bool tbo4) (eqFs_cons (by decide) (a := (.agg [(.int .i64 a2), (.int .i64 a3), (.int .i64 a4), (.int .i64 a5)])) (b := (.agg [(.int .i64 b2), (.int .i64 b3), (.int .i64 b4), (.int .i64 b5)])) (by simp only [go_sem]; try rfl) (by simp only [go_sem]; try rfl) (eqV_struct Tryz.underlying27 (by kernel_rfl) (eqFs_cons (by decide) (a := (.int .i64 a2)) (b := (.int .i64 b2)) (by simp only [go_sem]; try rfl) (by simp only [go_sem]; try rfl) (eqV_int (by simp only [tin3]; rfl)) (eqFs_cons (by decide) (a := (.int .i64 a3)) (b := (.int .i64 b3)) (by simp only [go_sem]; try rfl) (by simp only [go_sem]; try rfl) (eqV_int (by simp only [tin3]; rfl)) (eqFs_cons (by decide) (a := (.int .i64 a4)) (b := (.int .i64 b4)) (by simp only [go_sem]; try rfl) (by simp only [go_sem]; try rfl) (eqV_int (by simp only [tin3]; rfl)) (eqFs_cons (by decide) (a := (.int .i64 a5)) (b := (.int .i64 b5)) (by simp only [go_sem]; try rfl) (by simp only [go_sem]; try rfl) (eqV_int (by simp only [tin3]; rfl)) eqFs_nil))))) eqFs_nil))))
theorem tgd29 : Tryz.prog.eqGuardType Tryz.prog.depth 29 = false := by kernel_rfl
attribute [go_sem] teq29 tgd29
set_option maxRecDepth 100000 in
theorem teq59 {a0 : Int} {b0 : Int} {a1 : Int} {b1 : Int} {a2 : Int} {b2 : Int} {a3 : Int} {b3 : Int} {a4 : Int} {b4 : Int} : eqV Tryz.prog Op.maxDepth 59 (.agg [(.int .i64 a0), (.int .i64 a1), (.int .i64 a2), (.int .i64 a3), (.int .i64 a4)]) (.agg [(.int .i64 b0), (.int .i64 b1), (.int .i64 b2), (.int .i64 b3), (.int .i64 b4)]) = some ((decide (a0 = b0)) && ((decide (a1 = b1)) && ((decide (a2 = b2)) && ((decide (a3 = b3)) && ((decide (a4 = b4)) && true))))) := (eqV_struct Tryz.underlying59 (by kernel_rfl) (eqFs_cons (by decide) (a := (.int .i64 a0)) (b := (.int .i64 b0)) (by simp only [go_sem]; try rfl) (by simp only [go_sem]; try rfl) (eqV_int (by simp only [tin3]; rfl)) (eqFs_cons (by decide) (a := (.int .i64 a1)) (b := (.int .i64 b1)) (by simp only [go_sem]; try rfl) (by simp only [go_sem]; try rfl) (eqV_int (by simp only [tin3]; rfl)) (eqFs_cons (by decide) (a := (.int .i64 a2)) (b := (.int .i64 b2)) (by simp only [go_sem]; try rfl) (by simp only [go_sem]; try rfl) (eqV_int (by simp only [tin3]; rfl)) (eqFs_cons (by decide) (a := (.int .i64 a3)) (b := (.int .i64 b3)) (by simp only [go_sem]; try rfl) (by simp only [go_sem]; try rfl) (eqV_int (by simp only [tin3]; rfl)) (eqFs_cons (by decide) (a := (.int .i64 a4)) (b := (.int .i64 b4)) (by simp only [go_sem]; try rfl) (by simp only [go_sem]; try rfl) (eqV_int (by simp only [tin3]; rfl)) eqFs_nil))))))
theorem tgd59 : Tryz.prog.eqGuardType Tryz.prog.depth 59 = false := by kernel_rfl
attribute [go_sem] teq59 tgd59
set_option maxRecDepth 100000 in
theorem teq63 {a0 : Int} {b0 : Int} {a1 : Bool} {b1 : Bool} {a2 : Int} {b2 : Int} {a3 : Int} {b3 : Int} {a4 : Int} {b4 : Int} {a5 : Int} {b5 : Int} {a6 : Int} {b6 : Int} {a7 : Int} {b7 : Int} {a8 : Int} {b8 : Int} {a9 : Int} {b9 : Int} {a10 : Int} {b10 : Int} {a11 : Bool} {b11 : Bool} {a12 : Int} {b12 : Int} {a13 : Int} {b13 : Int} {a14 : Int} {b14 : Int} {a15 : Bool} {b15 : Bool} {a16 : Int} {b16 : Int} {a17 : Int} {b17 : Int} {a18 : Int} {b18 : Int} {a19 : Int} {b19 : Int} {a20 : Int} {b20 : Int} {a21 : Bool} {b21 : Bool} {a22 : Int} {b22 : Int} {a23 : Int} {b23 : Int} {a24 : Int} {b24 : Int} {a25 : Int} {b25 : Int} {a26 : Int} {b26 : Int} {a27 : Int} {b27 : Int} {a28 : Bool} {b28 : Bool} {a29 : Int} {b29 : Int} {a30 : Int} {b30 : Int} {a31 : Int} {b31 : Int} {a32 : Int} {b32 : Int} {a33 : Int} {b33 : Int} {a34 : Int} {b34 : Int} {a35 : Bool} {b35 : Bool} {a36 : Int} {b36 : Int} {a37 : Int} {b37 : Int} {a38 : Int} {b38 : Int} {a39 : Int} {b39 : Int} : eqV Tryz.prog Op.maxDepth 63 (.agg [(.int .i64 a0), (.bool a1), (.int .i64 a2), (.int .i64 a3), (.int .i64 a4), (.int .i64 a5), (.int .i64 a6), (.int .i64 a7), (.int .i64 a8), (.int .i64 a9), (.int .i64 a10), (.bool a11), (.int .i64 a12), (.int .i64 a13), (.int .i64 a14), (.bool a15), (.int .i64 a16), (.int .i64 a17), (.int .i64 a18), (.int .i64 a19), (.int .i64 a20), (.bool a21), (.int .i64 a22), (.int .i64 a23), (.int .i64 a24), (.int .i64 a25), (.int .i64 a26), (.int .i64 a27), (.bool a28), (.int .i64 a29), (.int .i64 a30), (.int .i64 a31), (.int .i64 a32), (.int .i64 a33), (.int .i64 a34), (.bool a35), (.int .i64 a36), (.int .i64 a37), (.int .i64 a38), (.int .i64 a39)]) (.agg [(.int .i64 b0), (.bool b1), (.int .i64 b2), (.int .i64 b3), (.int .i64 b4), (.int .i64 b5), (.int .i64 b6), (.int .i64 b7), (.int .i64 b8), (.int .i64 b9), (.int .i64 b10), (.bool b11), (.int .i64 b12), (.int .i64 b13), (.int .i64 b14), (.bool b15), (.int .i64 b16), (.int .i64 b17), (.int .i64 b18), (.int .i64 b19), (.int .i64 b20), (.bool b21), (.int .i64 b22), (.int .i64 b23), (.int .i64 b24), (.int .i64 b25), (.int .i64 b26), (.int .i64 b27), (.bool b28), (.int .i64 b29), (.int .i64 b30), (.int .i64 b31), (.int .i64 b32), (.int .i64 b33), (.int .i64 b34), (.bool b35), (.int .i64 b36), (.int .i64 b37), (.int .i64 b38), (.int .i64 b39)]) = some (((decide (a0 = b0)) && ((a1 == b1) && (((decide (a2 = b2)) && ((decide (a3 = b3)) && ((decide (a4 = b4)) && ((decide (a5 = b5)) && true)))) && true))) && (((decide (a6 = b6)) && ((decide (a7 = b7)) && ((decide (a8 = b8)) && ((decide (a9 = b9)) && ((decide (a10 = b10)) && true))))) && ((a11 == b11) && (((decide (a12 = b12)) && ((decide (a13 = b13)) && (((decide (a14 = b14)) && ((a15 == b15) && (((decide (a16 = b16)) && ((decide (a17 = b17)) && ((decide (a18 = b18)) && ((decide (a19 = b19)) && true)))) && true))) && (((decide (a20 = b20)) && ((a21 == b21) && (((decide (a22 = b22)) && ((decide (a23 = b23)) && ((decide (a24 = b24)) && ((decide (a25 = b25)) && true)))) && true))) && ((decide (a26 = b26)) && (((decide (a27 = b27)) && ((a28 == b28) && (((decide (a29 = b29)) && ((decide (a30 = b30)) && ((decide (a31 = b31)) && ((decide (a32 = b32)) && true)))) && true))) && ((decide (a33 = b33)) && true))))))) && (((decide (a34 = b34)) && ((a35 == b35) && (((decide (a36 = b36)) && ((decide (a37 = b37)) && ((decide (a38 = b38)) && ((decide (a39 = b39)) && true)))) && true))) && true))))) := (eqV_struct Tryz.underlying63 (by kernel_rfl) (eqFs_cons (by decide) (a := (.agg [(.int .i64 a0), (.bool a1), (.int .i64 a2), (.int .i64 a3), (.int .i64 a4), (.int .i64 a5)])) (b := (.agg [(.int .i64 b0), (.bool b1), (.int .i64 b2), (.int .i64 b3), (.int .i64 b4), (.int .i64 b5)])) (by simp only [go_sem]; try rfl) (by simp only [go_sem]; try rfl) (eqV_struct Tryz.underlying29 (by kernel_rfl) (eqFs_cons (by decide) (a := (.int .i64 a0)) (b := (.int .i64 b0)) (by simp only [go_sem]; try rfl) (by simp only [go_sem]; try rfl) (eqV_int (by simp only [tin3]; rfl)) (eqFs_cons (by decide) (a := (.bool a1)) (b := (.bool b1)) (by simp only [go_sem]; try rfl) (by simp only [go_sem]; try rfl) (eqV_bool tbo4) (eqFs_cons (by decide) (a := (.agg [(.int .i64 a2), (.int .i64 a3), (.int .i64 a4), (.int .i64 a5)])) (b := (.agg [(.int .i64 b2), (.int .i64 b3), (.int .i64 b4), (.int .i64 b5)])) (by simp only [go_sem]; try rfl) (by simp only [go_sem]; try rfl) (eqV_struct Tryz.underlying27 (by kernel_rfl) (eqFs_cons (by decide) (a := (.int .i64 a2)) (b := (.int .i64 b2)) (by simp only [go_sem]; try rfl) (by simp only [go_sem]; try rfl) (eqV_int (by simp only [tin3]; rfl)) (eqFs_cons (by decide) (a := (.int .i64 a3)) (b := (.int .i64 b3)) (by simp only [go_sem]; try rfl) (by simp only [go_sem]; try rfl) (eqV_int (by simp only [tin3]; rfl)) (eqFs_cons (by decide) (a := (.int .i64 a4)) (b := (.int .i64 b4)) (by simp only [go_sem]; try rfl) (by simp only [go_sem]; try rfl) (eqV_int (by simp only [tin3]; rfl)) (eqFs_cons (by decide) (a := (.int .i64 a5)) (b := (.int .i64 b5)) (by simp only [go_sem]; try rfl) (by simp only [go_sem]; try rfl) (eqV_int (by simp only [tin3]; rfl)) eqFs_nil))))) eqFs_nil)))) (eqFs_cons (by decide) (a := (.agg [(.int .i64 a6), (.int .i64 a7), (.int .i64 a8), (.int .i64 a9), (.int .i64 a10)])) (b := (.agg [(.int .i64 b6), (.int .i64 b7), (.int .i64 b8), (.int .i64 b9), (.int .i64 b10)])) (by simp only [go_sem]; try rfl) (by simp only [go_sem]; try rfl) (eqV_struct Tryz.underlying59 (by kernel_rfl) (eqFs_cons (by decide) (a := (.int .i64 a6)) (b := (.int .i64 b6)) (by simp only [go_sem]; try rfl) (by simp only [go_sem]; try rfl) (eqV_int (by simp only [tin3]; rfl)) (eqFs_cons (by decide) (a := (.int .i64 a7)) (b := (.int .i64 b7)) (by simp only [go_sem]; try rfl) (by simp only [go_sem]; try rfl) (eqV_int (by simp only [tin3]; rfl)) (eqFs_cons (by decide) (a := (.int .i64 a8)) (b := (.int .i64 b8)) (by simp only [go_sem]; try rfl) (by simp only [go_sem]; try rfl) (eqV_int (by simp only [tin3]; rfl)) (eqFs_cons (by decide) (a := (.int .i64 a9)) (b := (.int .i64 b9)) (by simp only [go_sem]; try rfl) (by simp only [go_sem]; try rfl) (eqV_int (by simp only [tin3]; rfl)) (eqFs_cons (by decide) (a := (.int .i64 a10)) (b := (.int .i64 b10)) (by simp only [go_sem]; try rfl) (by simp only [go_sem]; try rfl) (eqV_int (by simp only [tin3]; rfl)) eqFs_nil)))))) (eqFs_cons (by decide) (a := (.bool a11)) (b := (.bool b11)) (by simp only [go_sem]; try rfl) (by simp only [go_sem]; try rfl) (eqV_bool tbo4) (eqFs_cons (by decide) (a := (.agg [(.int .i64 a12), (.int .i64 a13), (.int .i64 a14), (.bool a15), (.int .i64 a16), (.int .i64 a17), (.int .i64 a18), (.int .i64 a19), (.int .i64 a20), (.bool a21), (.int .i64 a22), (.int .i64 a23), (.int .i64 a24), (.int .i64 a25), (.int .i64 a26), (.int .i64 a27), (.bool a28), (.int .i64 a29), (.int .i64 a30), (.int .i64 a31), (.int .i64 a32), (.int .i64 a33)])) (b := (.agg [(.int .i64 b12), (.int .i64 b13), (.int .i64 b14), (.bool b15), (.int .i64 b16), (.int .i64 b17), (.int .i64 b18), (.int .i64 b19), (.int .i64 b20), (.bool b21), (.int .i64 b22), (.int .i64 b23), (.int .i64 b24), (.int .i64 b25), (.int .i64 b26), (.int .i64 b27), (.bool b28), (.int .i64 b29), (.int .i64 b30), (.int .i64 b31), (.int .i64 b32), (.int .i64 b33)])) (by simp only [go_sem]; try rfl) (by simp only [go_sem]; try rfl) (eqV_struct Tryz.underlying61 (by kernel_rfl) (eqFs_cons (by decide) (a := (.int .i64 a12)) (b := (.int .i64 b12)) (by simp only [go_sem]; try rfl) (by simp only [go_sem]; try rfl) (eqV_int (by simp only [tin3]; rfl)) (eqFs_cons (by decide) (a := (.int .i64 a13)) (b := (.int .i64 b13)) (by simp only [go_sem]; try rfl) (by simp only [go_sem]; try rfl) (eqV_int (by simp only [tin3]; rfl)) (eqFs_cons (by decide) (a := (.agg [(.int .i64 a14), (.bool a15), (.int .i64 a16), (.int .i64 a17), (.int .i64 a18), (.int .i64 a19)])) (b := (.agg [(.int .i64 b14), (.bool b15), (.int .i64 b16), (.int .i64 b17), (.int .i64 b18), (.int .i64 b19)])) (by simp only [go_sem]; try rfl) (by simp only [go_sem]; try rfl) (eqV_struct Tryz.underlying29 (by kernel_rfl) (eqFs_cons (by decide) (a := (.int .i64 a14)) (b := (.int .i64 b14)) (by simp only [go_sem]; try rfl) (by simp only [go_sem]; try rfl) (eqV_int (by simp only [tin3]; rfl)) (eqFs_cons (by decide) (a := (.bool a15)) (b := (.bool b15)) (by simp only [go_sem]; try rfl) (by simp only [go_sem]; try rfl) (eqV_bool tbo4) (eqFs_cons (by decide) (a := (.agg [(.int .i64 a16), (.int .i64 a17), (.int .i64 a18), (.int .i64 a19)])) (b := (.agg [(.int .i64 b16), (.int .i64 b17), (.int .i64 b18), (.int .i64 b19)])) (by simp only [go_sem]; try rfl) (by simp only [go_sem]; try rfl) (eqV_struct Tryz.underlying27 (by kernel_rfl) (eqFs_cons (by decide) (a := (.int .i64 a16)) (b := (.int .i64 b16)) (by simp only [go_sem]; try rfl) (by simp only [go_sem]; try rfl) (eqV_int (by simp only [tin3]; rfl)) (eqFs_cons (by decide) (a := (.int .i64 a17)) (b := (.int .i64 b17)) (by simp only [go_sem]; try rfl) (by simp only [go_sem]; try rfl) (eqV_int (by simp only [tin3]; rfl)) (eqFs_cons (by decide) (a := (.int .i64 a18)) (b := (.int .i64 b18)) (by simp only [go_sem]; try rfl) (by simp only [go_sem]; try rfl) (eqV_int (by simp only [tin3]; rfl)) (eqFs_cons (by decide) (a := (.int .i64 a19)) (b := (.int .i64 b19)) (by simp only [go_sem]; try rfl) (by simp only [go_sem]; try rfl) (eqV_int (by simp only [tin3]; rfl)) eqFs_nil))))) eqFs_nil)))) (eqFs_cons (by decide) (a := (.agg [(.int .i64 a20), (.bool a21), (.int .i64 a22), (.int .i64 a23), (.int .i64 a24), (.int .i64 a25)])) (b := (.agg [(.int .i64 b20), (.bool b21), (.int .i64 b22), (.int .i64 b23), (.int .i64 b24), (.int .i64 b25)])) (by simp only [go_sem]; try rfl) (by simp only [go_sem]; try rfl) (eqV_struct Tryz.underlying29 (by kernel_rfl) (eqFs_cons (by decide) (a := (.int .i64 a20)) (b := (.int .i64 b20)) (by simp only [go_sem]; try rfl) (by simp only [go_sem]; try rfl) (eqV_int (by simp only [tin3]; rfl)) (eqFs_cons (by decide) (a := (.bool a21)) (b := (.bool b21)) (by simp only [go_sem]; try rfl) (by simp only [go_sem]; try rfl) (eqV_bool tbo4) (eqFs_cons (by decide) (a := (.agg [(.int .i64 a22), (.int .i64 a23), (.int .i64 a24), (.int .i64 a25)])) (b := (.agg [(.int .i64 b22), (.int .i64 b23), (.int .i64 b24), (.int .i64 b25)])) (by simp only [go_sem]; try rfl) (by simp only [go_sem]; try rfl) (eqV_struct Tryz.underlying27 (by kernel_rfl) (eqFs_cons (by decide) (a := (.int .i64 a22)) (b := (.int .i64 b22)) (by simp only [go_sem]; try rfl) (by simp only [go_sem]; try rfl) (eqV_int (by simp only [tin3]; rfl)) (eqFs_cons (by decide) (a := (.int .i64 a23)) (b := (.int .i64 b23)) (by simp only [go_sem]; try rfl) (by simp only [go_sem]; try rfl) (eqV_int (by simp only [tin3]; rfl)) (eqFs_cons (by decide) (a := (.int .i64 a24)) (b := (.int .i64 b24)) (by simp only [go_sem]; try rfl) (by simp only [go_sem]; try rfl) (eqV_int (by simp only [tin3]; rfl)) (eqFs_cons (by decide) (a := (.int .i64 a25)) (b := (.int .i64 b25)) (by simp only [go_sem]; try rfl) (by simp only [go_sem]; try rfl) (eqV_int (by simp only [tin3]; rfl)) eqFs_nil))))) eqFs_nil)))) (eqFs_cons (by decide) (a := (.int .i64 a26)) (b := (.int .i64 b26)) (by simp only [go_sem]; try rfl) (by simp only [go_sem]; try rfl) (eqV_int (by simp only [tin3]; rfl)) (eqFs_cons (by decide) (a := (.agg [(.int .i64 a27), (.bool a28), (.int .i64 a29), (.int .i64 a30), (.int .i64 a31), (.int .i64 a32)])) (b := (.agg [(.int .i64 b27), (.bool b28), (.int .i64 b29), (.int .i64 b30), (.int .i64 b31), (.int .i64 b32)])) (by simp only [go_sem]; try rfl) (by simp only [go_sem]; try rfl) (eqV_struct Tryz.underlying29 (by kernel_rfl) (eqFs_cons (by decide) (a := (.int .i64 a27)) (b := (.int .i64 b27)) (by simp only [go_sem]; try rfl) (by simp only [go_sem]; try rfl) (eqV_int (by simp only [tin3]; rfl)) (eqFs_cons (by decide) (a := (.bool a28)) (b := (.bool b28)) (by simp only [go_sem]; try rfl) (by simp only [go_sem]; try rfl) (eqV_bool tbo4) (eqFs_cons (by decide) (a := (.agg [(.int .i64 a29), (.int .i64 a30), (.int .i64 a31), (.int .i64 a32)])) (b := (.agg [(.int .i64 b29), (.int .i64 b30), (.int .i64 b31), (.int .i64 b32)])) (by simp only [go_sem]; try rfl) (by simp only [go_sem]; try rfl) (eqV_struct Tryz.underlying27 (by kernel_rfl) (eqFs_cons (by decide) (a := (.int .i64 a29)) (b := (.int .i64 b29)) (by simp only [go_sem]; try rfl) (by simp only [go_sem]; try rfl) (eqV_int (by simp only [tin3]; rfl)) (eqFs_cons (by decide) (a := (.int .i64 a30)) (b := (.int .i64 b30)) (by simp only [go_sem]; try rfl) (by simp only [go_sem]; try rfl) (eqV_int (by simp only [tin3]; rfl)) (eqFs_cons (by decide) (a := (.int .i64 a31)) (b := (.int .i64 b31)) (by simp only [go_sem]; try rfl) (by simp only [go_sem]; try rfl) (eqV_int (by simp only [tin3]; rfl)) (eqFs_cons (by decide) (a := (.int .i64 a32)) (b := (.int .i64 b32)) (by simp only [go_sem]; try rfl) (by simp only [go_sem]; try rfl) (eqV_int (by simp only [tin3]; rfl)) eqFs_nil))))) eqFs_nil)))) (eqFs_cons (by decide) (a := (.int .i64 a33)) (b := (.int .i64 b33)) (by simp only [go_sem]; try rfl) (by simp only [go_sem]; try rfl) (eqV_int (by simp only [tin3]; rfl)) eqFs_nil)))))))) (eqFs_cons (by decide) (a := (.agg [(.int .i64 a34), (.bool a35), (.int .i64 a36), (.int .i64 a37), (.int .i64 a38), (.int .i64 a39)])) (b := (.agg [(.int .i64 b34), (.bool b35), (.int .i64 b36), (.int .i64 b37), (.int .i64 b38), (.int .i64 b39)])) (by simp only [go_sem]; try rfl) (by simp only [go_sem]; try rfl) (eqV_struct Tryz.underlying29 (by kernel_rfl) (eqFs_cons (by decide) (a := (.int .i64 a34)) (b := (.int .i64 b34)) (by simp only [go_sem]; try rfl) (by simp only [go_sem]; try rfl) (eqV_int (by simp only [tin3]; rfl)) (eqFs_cons (by decide) (a := (.bool a35)) (b := (.bool b35)) (by simp only [go_sem]; try rfl) (by simp only [go_sem]; try rfl) (eqV_bool tbo4) (eqFs_cons (by decide) (a := (.agg [(.int .i64 a36), (.int .i64 a37), (.int .i64 a38), (.int .i64 a39)])) (b := (.agg [(.int .i64 b36), (.int .i64 b37), (.int .i64 b38), (.int .i64 b39)])) (by simp only [go_sem]; try rfl) (by simp only [go_sem]; try rfl) (eqV_struct Tryz.underlying27 (by kernel_rfl) (eqFs_cons (by decide) (a := (.int .i64 a36)) (b := (.int .i64 b36)) (by simp only [go_sem]; try rfl) (by simp only [go_sem]; try rfl) (eqV_int (by simp only [tin3]; rfl)) (eqFs_cons (by decide) (a := (.int .i64 a37)) (b := (.int .i64 b37)) (by simp only [go_sem]; try rfl) (by simp only [go_sem]; try rfl) (eqV_int (by simp only [tin3]; rfl)) (eqFs_cons (by decide) (a := (.int .i64 a38)) (b := (.int .i64 b38)) (by simp only [go_sem]; try rfl) (by simp only [go_sem]; try rfl) (eqV_int (by simp only [tin3]; rfl)) (eqFs_cons (by decide) (a := (.int .i64 a39)) (b := (.int .i64 b39)) (by simp only [go_sem]; try rfl) (by simp only [go_sem]; try rfl) (eqV_int (by simp only [tin3]; rfl)) eqFs_nil))))) eqFs_nil)))) eqFs_nil))))))
theorem tgd63 : Tryz.prog.eqGuardType Tryz.prog.depth 63 = false := by kernel_rfl
attribute [go_sem] teq63 tgd63
end Go.Proofs.YteojcehneipgdaaGreat.AM
