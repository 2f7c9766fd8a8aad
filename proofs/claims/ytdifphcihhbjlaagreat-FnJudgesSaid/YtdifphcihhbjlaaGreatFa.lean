/- What the program's types are. No conditions. -/
import Derived.Test.YtdifphcihhbjlaaGreatM4
import Derived.Test.YtdifphcihhbjlaaGreatProg
import Derived.KernelRfl
set_option linter.unusedSimpArgs false
set_option linter.unusedVariables false
namespace Go.Proofs.YtdifphcihhbjlaaGreat.AM
open Go
set_option maxHeartbeats 8000000
set_option maxRecDepth 100000
theorem mixed : Tryz.prog.follows .mixedOrders = true := by kernel_rfl
theorem tsz3 : tSize Tryz.prog 3 = some 1 := by kernel_rfl
theorem tby3 : tBytes Tryz.prog 3 = some 8 := by kernel_rfl
theorem tag3 : tAgg Tryz.prog 3 = some false := by kernel_rfl
theorem tze3 : tZero Tryz.prog 3 = some [.int .i64 0] := by kernel_rfl
theorem tin3 : tInt Tryz.prog 3 = some .i64 := by kernel_rfl
theorem tis3 : tIs Tryz.prog 3 = true := by kernel_rfl
theorem tsz4 : tSize Tryz.prog 4 = some 1 := by kernel_rfl
theorem tby4 : tBytes Tryz.prog 4 = some 1 := by kernel_rfl
theorem tag4 : tAgg Tryz.prog 4 = some false := by kernel_rfl
theorem tze4 : tZero Tryz.prog 4 = some [.bool false] := by kernel_rfl
theorem tbo4 : tBoo Tryz.prog 4 = true := by kernel_rfl
theorem tis4 : tIs Tryz.prog 4 = true := by kernel_rfl
theorem tsz5 : tSize Tryz.prog 5 = some 1 := by kernel_rfl
theorem tby5 : tBytes Tryz.prog 5 = some 1 := by kernel_rfl
theorem tag5 : tAgg Tryz.prog 5 = some false := by kernel_rfl
theorem tze5 : tZero Tryz.prog 5 = some [.int .u8 0] := by kernel_rfl
theorem tin5 : tInt Tryz.prog 5 = some .u8 := by kernel_rfl
theorem tis5 : tIs Tryz.prog 5 = true := by kernel_rfl
theorem tsz9 : tSize Tryz.prog 9 = some 1 := by kernel_rfl
theorem tby9 : tBytes Tryz.prog 9 = some 16 := by kernel_rfl
theorem tag9 : tAgg Tryz.prog 9 = some false := by kernel_rfl
theorem tze9 : tZero Tryz.prog 9 = some [.str ⟨#[]⟩] := by kernel_rfl
theorem tst9 : tStr Tryz.prog 9 = true := by kernel_rfl
theorem tis9 : tIs Tryz.prog 9 = true := by kernel_rfl
theorem tsz22 : tSize Tryz.prog 22 = some 1 := by kernel_rfl
theorem tby22 : tBytes Tryz.prog 22 = some 24 := by kernel_rfl
theorem tag22 : tAgg Tryz.prog 22 = some false := by kernel_rfl
theorem tze22 : tZero Tryz.prog 22 = some [.nilsl] := by kernel_rfl
theorem tel22 : tElem Tryz.prog 22 = some 5 := by kernel_rfl
theorem tsl22 : tSli Tryz.prog 22 = true := by kernel_rfl
theorem tis22 : tIs Tryz.prog 22 = true := by kernel_rfl
theorem tsz24 : tSize Tryz.prog 24 = some 1 := by kernel_rfl
theorem tby24 : tBytes Tryz.prog 24 = some 24 := by kernel_rfl
theorem tag24 : tAgg Tryz.prog 24 = some false := by kernel_rfl
theorem tze24 : tZero Tryz.prog 24 = some [.nilsl] := by kernel_rfl
theorem tel24 : tElem Tryz.prog 24 = some 28 := by kernel_rfl
theorem tsl24 : tSli Tryz.prog 24 = true := by kernel_rfl
theorem tis24 : tIs Tryz.prog 24 = true := by kernel_rfl
theorem tsz26 : tSize Tryz.prog 26 = some 4 := by kernel_rfl
theorem tby26 : tBytes Tryz.prog 26 = some 32 := by kernel_rfl
theorem tag26 : tAgg Tryz.prog 26 = some true := by kernel_rfl
theorem tze26 : tZero Tryz.prog 26 = some [.int .i64 0, .int .i64 0, .int .i64 0, .int .i64 0] := by kernel_rfl
theorem tsc26 : tSct Tryz.prog 26 = true := by kernel_rfl
theorem tfd26_0 : tField Tryz.prog 26 0 = some (0, 3) := by kernel_rfl
theorem tfd26_1 : tField Tryz.prog 26 1 = some (1, 3) := by kernel_rfl
theorem tfd26_2 : tField Tryz.prog 26 2 = some (2, 3) := by kernel_rfl
theorem tfd26_3 : tField Tryz.prog 26 3 = some (3, 3) := by kernel_rfl
theorem tis26 : tIs Tryz.prog 26 = true := by kernel_rfl
theorem tsz28 : tSize Tryz.prog 28 = some 6 := by kernel_rfl
theorem tby28 : tBytes Tryz.prog 28 = some 48 := by kernel_rfl
theorem tag28 : tAgg Tryz.prog 28 = some true := by kernel_rfl
theorem tze28 : tZero Tryz.prog 28 = some [.int .i64 0, .bool false, .int .i64 0, .int .i64 0, .int .i64 0, .int .i64 0] := by kernel_rfl
theorem tsc28 : tSct Tryz.prog 28 = true := by kernel_rfl
theorem tfd28_0 : tField Tryz.prog 28 0 = some (0, 3) := by kernel_rfl
theorem tfd28_1 : tField Tryz.prog 28 1 = some (1, 4) := by kernel_rfl
theorem tfd28_2 : tField Tryz.prog 28 2 = some (2, 26) := by kernel_rfl
theorem tis28 : tIs Tryz.prog 28 = true := by kernel_rfl
theorem tsz29 : tSize Tryz.prog 29 = some 1 := by kernel_rfl
theorem tby29 : tBytes Tryz.prog 29 = some 24 := by kernel_rfl
theorem tag29 : tAgg Tryz.prog 29 = some false := by kernel_rfl
theorem tze29 : tZero Tryz.prog 29 = some [.nilsl] := by kernel_rfl
theorem tel29 : tElem Tryz.prog 29 = some 4 := by kernel_rfl
theorem tsl29 : tSli Tryz.prog 29 = true := by kernel_rfl
theorem tis29 : tIs Tryz.prog 29 = true := by kernel_rfl
theorem tsz31 : tSize Tryz.prog 31 = some 2 := by kernel_rfl
theorem tby31 : tBytes Tryz.prog 31 = some 48 := by kernel_rfl
theorem tag31 : tAgg Tryz.prog 31 = some true := by kernel_rfl
theorem tze31 : tZero Tryz.prog 31 = some [.nilsl, .nilsl] := by kernel_rfl
theorem tsc31 : tSct Tryz.prog 31 = true := by kernel_rfl
theorem tfd31_0 : tField Tryz.prog 31 0 = some (0, 24) := by kernel_rfl
theorem tfd31_1 : tField Tryz.prog 31 1 = some (1, 29) := by kernel_rfl
theorem tis31 : tIs Tryz.prog 31 = true := by kernel_rfl
theorem tsz33 : tSize Tryz.prog 33 = some 10 := by kernel_rfl
theorem tby33 : tBytes Tryz.prog 33 = some 128 := by kernel_rfl
theorem tag33 : tAgg Tryz.prog 33 = some true := by kernel_rfl
theorem tze33 : tZero Tryz.prog 33 = some [.nilsl, .int .i64 0, .bool false, .int .i64 0, .int .i64 0, .int .i64 0, .int .i64 0, .nilsl, .nilsl, .int .i64 0] := by kernel_rfl
theorem tsc33 : tSct Tryz.prog 33 = true := by kernel_rfl
theorem tfd33_0 : tField Tryz.prog 33 0 = some (0, 24) := by kernel_rfl
theorem tfd33_1 : tField Tryz.prog 33 1 = some (1, 28) := by kernel_rfl
theorem tfd33_2 : tField Tryz.prog 33 2 = some (7, 31) := by kernel_rfl
theorem tfd33_3 : tField Tryz.prog 33 3 = some (9, 3) := by kernel_rfl
theorem tis33 : tIs Tryz.prog 33 = true := by kernel_rfl
theorem tsz34 : tSize Tryz.prog 34 = some 1 := by kernel_rfl
theorem tby34 : tBytes Tryz.prog 34 = some 24 := by kernel_rfl
theorem tag34 : tAgg Tryz.prog 34 = some false := by kernel_rfl
theorem tze34 : tZero Tryz.prog 34 = some [.nilsl] := by kernel_rfl
theorem tel34 : tElem Tryz.prog 34 = some 53 := by kernel_rfl
theorem tsl34 : tSli Tryz.prog 34 = true := by kernel_rfl
theorem tis34 : tIs Tryz.prog 34 = true := by kernel_rfl
theorem tsz35 : tSize Tryz.prog 35 = some 1 := by kernel_rfl
theorem tby35 : tBytes Tryz.prog 35 = some 24 := by kernel_rfl
theorem tag35 : tAgg Tryz.prog 35 = some false := by kernel_rfl
theorem tze35 : tZero Tryz.prog 35 = some [.nilsl] := by kernel_rfl
theorem tel35 : tElem Tryz.prog 35 = some 3 := by kernel_rfl
theorem tsl35 : tSli Tryz.prog 35 = true := by kernel_rfl
theorem tis35 : tIs Tryz.prog 35 = true := by kernel_rfl
theorem tsz37 : tSize Tryz.prog 37 = some 19 := by kernel_rfl
theorem tby37 : tBytes Tryz.prog 37 = some 232 := by kernel_rfl
theorem tag37 : tAgg Tryz.prog 37 = some true := by kernel_rfl
theorem tze37 : tZero Tryz.prog 37 = some [.nilsl, .int .i64 0, .bool false, .int .i64 0, .int .i64 0, .int .i64 0, .int .i64 0, .nilsl, .nilsl, .int .i64 0, .nilsl, .int .i64 0, .bool false, .int .i64 0, .int .i64 0, .int .i64 0, .int .i64 0, .bool false, .nilsl] := by kernel_rfl
theorem tsc37 : tSct Tryz.prog 37 = true := by kernel_rfl
theorem tfd37_0 : tField Tryz.prog 37 0 = some (0, 33) := by kernel_rfl
theorem tfd37_1 : tField Tryz.prog 37 1 = some (10, 34) := by kernel_rfl
theorem tfd37_2 : tField Tryz.prog 37 2 = some (11, 28) := by kernel_rfl
theorem tfd37_3 : tField Tryz.prog 37 3 = some (17, 4) := by kernel_rfl
theorem tfd37_4 : tField Tryz.prog 37 4 = some (18, 35) := by kernel_rfl
theorem tis37 : tIs Tryz.prog 37 = true := by kernel_rfl
theorem tsz49 : tSize Tryz.prog 49 = some 5 := by kernel_rfl
theorem tby49 : tBytes Tryz.prog 49 = some 40 := by kernel_rfl
theorem tag49 : tAgg Tryz.prog 49 = some true := by kernel_rfl
theorem tze49 : tZero Tryz.prog 49 = some [.int .i64 0, .int .i64 0, .int .i64 0, .int .i64 0, .int .i64 0] := by kernel_rfl
theorem tsc49 : tSct Tryz.prog 49 = true := by kernel_rfl
theorem tfd49_0 : tField Tryz.prog 49 0 = some (0, 3) := by kernel_rfl
theorem tfd49_1 : tField Tryz.prog 49 1 = some (1, 3) := by kernel_rfl
theorem tfd49_2 : tField Tryz.prog 49 2 = some (2, 3) := by kernel_rfl
theorem tfd49_3 : tField Tryz.prog 49 3 = some (3, 3) := by kernel_rfl
theorem tfd49_4 : tField Tryz.prog 49 4 = some (4, 3) := by kernel_rfl
theorem tis49 : tIs Tryz.prog 49 = true := by kernel_rfl
theorem tsz51 : tSize Tryz.prog 51 = some 22 := by kernel_rfl
theorem tby51 : tBytes Tryz.prog 51 = some 176 := by kernel_rfl
theorem tag51 : tAgg Tryz.prog 51 = some true := by kernel_rfl
theorem tze51 : tZero Tryz.prog 51 = some [.int .i64 0, .int .i64 0, .int .i64 0, .bool false, .int .i64 0, .int .i64 0, .int .i64 0, .int .i64 0, .int .i64 0, .bool false, .int .i64 0, .int .i64 0, .int .i64 0, .int .i64 0, .int .i64 0, .int .i64 0, .bool false, .int .i64 0, .int .i64 0, .int .i64 0, .int .i64 0, .int .i64 0] := by kernel_rfl
theorem tsc51 : tSct Tryz.prog 51 = true := by kernel_rfl
theorem tfd51_0 : tField Tryz.prog 51 0 = some (0, 3) := by kernel_rfl
theorem tfd51_1 : tField Tryz.prog 51 1 = some (1, 3) := by kernel_rfl
theorem tfd51_2 : tField Tryz.prog 51 2 = some (2, 28) := by kernel_rfl
theorem tfd51_3 : tField Tryz.prog 51 3 = some (8, 28) := by kernel_rfl
theorem tfd51_4 : tField Tryz.prog 51 4 = some (14, 3) := by kernel_rfl
theorem tfd51_5 : tField Tryz.prog 51 5 = some (15, 28) := by kernel_rfl
theorem tfd51_6 : tField Tryz.prog 51 6 = some (21, 3) := by kernel_rfl
theorem tis51 : tIs Tryz.prog 51 = true := by kernel_rfl
theorem tsz53 : tSize Tryz.prog 53 = some 40 := by kernel_rfl
theorem tby53 : tBytes Tryz.prog 53 = some 320 := by kernel_rfl
theorem tag53 : tAgg Tryz.prog 53 = some true := by kernel_rfl
theorem tze53 : tZero Tryz.prog 53 = some [.int .i64 0, .bool false, .int .i64 0, .int .i64 0, .int .i64 0, .int .i64 0, .int .i64 0, .int .i64 0, .int .i64 0, .int .i64 0, .int .i64 0, .bool false, .int .i64 0, .int .i64 0, .int .i64 0, .bool false, .int .i64 0, .int .i64 0, .int .i64 0, .int .i64 0, .int .i64 0, .bool false, .int .i64 0, .int .i64 0, .int .i64 0, .int .i64 0, .int .i64 0, .int .i64 0, .bool false, .int .i64 0, .int .i64 0, .int .i64 0, .int .i64 0, .int .i64 0, .int .i64 0, .bool false, .int .i64 0, .int .i64 0, .int .i64 0, .int .i64 0] := by kernel_rfl
theorem tsc53 : tSct Tryz.prog 53 = true := by kernel_rfl
theorem tfd53_0 : tField Tryz.prog 53 0 = some (0, 28) := by kernel_rfl
theorem tfd53_1 : tField Tryz.prog 53 1 = some (6, 49) := by kernel_rfl
theorem tfd53_2 : tField Tryz.prog 53 2 = some (11, 4) := by kernel_rfl
theorem tfd53_3 : tField Tryz.prog 53 3 = some (12, 51) := by kernel_rfl
theorem tfd53_4 : tField Tryz.prog 53 4 = some (34, 28) := by kernel_rfl
theorem tis53 : tIs Tryz.prog 53 = true := by kernel_rfl
theorem tsz55 : tSize Tryz.prog 55 = some 1 := by kernel_rfl
theorem tby55 : tBytes Tryz.prog 55 = some 24 := by kernel_rfl
theorem tag55 : tAgg Tryz.prog 55 = some false := by kernel_rfl
theorem tze55 : tZero Tryz.prog 55 = some [.nilsl] := by kernel_rfl
theorem tel55 : tElem Tryz.prog 55 = some 49 := by kernel_rfl
theorem tsl55 : tSli Tryz.prog 55 = true := by kernel_rfl
theorem tis55 : tIs Tryz.prog 55 = true := by kernel_rfl
theorem tsz60 : tSize Tryz.prog 60 = some 2 := by kernel_rfl
theorem tby60 : tBytes Tryz.prog 60 = some 16 := by kernel_rfl
theorem tag60 : tAgg Tryz.prog 60 = some true := by kernel_rfl
theorem tze60 : tZero Tryz.prog 60 = some [.int .i64 0, .int .i64 0] := by kernel_rfl
theorem tsc60 : tSct Tryz.prog 60 = true := by kernel_rfl
theorem tfd60_0 : tField Tryz.prog 60 0 = some (0, 3) := by kernel_rfl
theorem tfd60_1 : tField Tryz.prog 60 1 = some (1, 3) := by kernel_rfl
theorem tis60 : tIs Tryz.prog 60 = true := by kernel_rfl
theorem tsz64 : tSize Tryz.prog 64 = some 1 := by kernel_rfl
theorem tby64 : tBytes Tryz.prog 64 = some 24 := by kernel_rfl
theorem tag64 : tAgg Tryz.prog 64 = some false := by kernel_rfl
theorem tze64 : tZero Tryz.prog 64 = some [.nilsl] := by kernel_rfl
theorem tel64 : tElem Tryz.prog 64 = some 60 := by kernel_rfl
theorem tsl64 : tSli Tryz.prog 64 = true := by kernel_rfl
theorem tis64 : tIs Tryz.prog 64 = true := by kernel_rfl
theorem tsz149 : tSize Tryz.prog 149 = some 3 := by kernel_rfl
theorem tby149 : tBytes Tryz.prog 149 = some 40 := by kernel_rfl
theorem tag149 : tAgg Tryz.prog 149 = some true := by kernel_rfl
theorem tze149 : tZero Tryz.prog 149 = some [.nilsl, .int .i64 0, .int .i64 0] := by kernel_rfl
theorem tsc149 : tSct Tryz.prog 149 = true := by kernel_rfl
theorem tfd149_0 : tField Tryz.prog 149 0 = some (0, 22) := by kernel_rfl
theorem tfd149_1 : tField Tryz.prog 149 1 = some (1, 3) := by kernel_rfl
theorem tfd149_2 : tField Tryz.prog 149 2 = some (2, 3) := by kernel_rfl
theorem tis149 : tIs Tryz.prog 149 = true := by kernel_rfl
theorem tsz178 : tSize Tryz.prog 178 = some 1 := by kernel_rfl
theorem tby178 : tBytes Tryz.prog 178 = some 24 := by kernel_rfl
theorem tag178 : tAgg Tryz.prog 178 = some false := by kernel_rfl
theorem tze178 : tZero Tryz.prog 178 = some [.nilsl] := by kernel_rfl
theorem tel178 : tElem Tryz.prog 178 = some 24 := by kernel_rfl
theorem tsl178 : tSli Tryz.prog 178 = true := by kernel_rfl
theorem tis178 : tIs Tryz.prog 178 = true := by kernel_rfl
theorem tsz186 : tSize Tryz.prog 186 = some 1 := by kernel_rfl
theorem tby186 : tBytes Tryz.prog 186 = some 8 := by kernel_rfl
theorem tag186 : tAgg Tryz.prog 186 = some false := by kernel_rfl
theorem tze186 : tZero Tryz.prog 186 = some [.int .u64 0] := by kernel_rfl
theorem tin186 : tInt Tryz.prog 186 = some .u64 := by kernel_rfl
theorem tis186 : tIs Tryz.prog 186 = true := by kernel_rfl
theorem tsz201 : tSize Tryz.prog 201 = some 3 := by kernel_rfl
theorem tby201 : tBytes Tryz.prog 201 = some 24 := by kernel_rfl
theorem tag201 : tAgg Tryz.prog 201 = some true := by kernel_rfl
theorem tze201 : tZero Tryz.prog 201 = some [.int .i64 0, .int .i64 0, .int .i64 0] := by kernel_rfl
theorem tsc201 : tSct Tryz.prog 201 = true := by kernel_rfl
theorem tfd201_0 : tField Tryz.prog 201 0 = some (0, 3) := by kernel_rfl
theorem tfd201_1 : tField Tryz.prog 201 1 = some (1, 3) := by kernel_rfl
theorem tfd201_2 : tField Tryz.prog 201 2 = some (2, 3) := by kernel_rfl
theorem tis201 : tIs Tryz.prog 201 = true := by kernel_rfl
theorem tsz206 : tSize Tryz.prog 206 = some 1 := by kernel_rfl
theorem tby206 : tBytes Tryz.prog 206 = some 4 := by kernel_rfl
theorem tag206 : tAgg Tryz.prog 206 = some false := by kernel_rfl
theorem tze206 : tZero Tryz.prog 206 = some [.int .u32 0] := by kernel_rfl
theorem tin206 : tInt Tryz.prog 206 = some .u32 := by kernel_rfl
theorem tis206 : tIs Tryz.prog 206 = true := by kernel_rfl
theorem tsz209 : tSize Tryz.prog 209 = some 1 := by kernel_rfl
theorem tby209 : tBytes Tryz.prog 209 = some 8 := by kernel_rfl
theorem tag209 : tAgg Tryz.prog 209 = some false := by kernel_rfl
theorem tze209 : tZero Tryz.prog 209 = some [.int .u64 0] := by kernel_rfl
theorem tin209 : tInt Tryz.prog 209 = some .u64 := by kernel_rfl
theorem tis209 : tIs Tryz.prog 209 = true := by kernel_rfl
attribute [go_sem] tsz3 tby3 tag3 tze3 tin3 tis3 tsz4 tby4 tag4 tze4 tbo4 tis4 tsz5 tby5 tag5 tze5 tin5 tis5 tsz9 tby9 tag9 tze9 tst9 tis9 tsz22 tby22 tag22 tze22 tel22 tsl22 tis22 tsz24 tby24 tag24 tze24 tel24 tsl24 tis24 tsz26 tby26 tag26 tze26 tsc26 tfd26_0 tfd26_1 tfd26_2 tfd26_3 tis26 tsz28 tby28 tag28 tze28 tsc28 tfd28_0 tfd28_1 tfd28_2 tis28 tsz29 tby29 tag29 tze29 tel29 tsl29 tis29 tsz31 tby31 tag31 tze31 tsc31 tfd31_0 tfd31_1 tis31 tsz33 tby33 tag33 tze33 tsc33 tfd33_0 tfd33_1 tfd33_2 tfd33_3 tis33 tsz34 tby34 tag34 tze34 tel34 tsl34 tis34 tsz35 tby35 tag35 tze35 tel35 tsl35 tis35 tsz37 tby37 tag37 tze37 tsc37 tfd37_0 tfd37_1 tfd37_2 tfd37_3 tfd37_4 tis37 tsz49 tby49 tag49 tze49 tsc49 tfd49_0 tfd49_1 tfd49_2 tfd49_3 tfd49_4 tis49 tsz51 tby51 tag51 tze51 tsc51 tfd51_0 tfd51_1 tfd51_2 tfd51_3 tfd51_4 tfd51_5 tfd51_6 tis51 tsz53 tby53 tag53 tze53 tsc53 tfd53_0 tfd53_1 tfd53_2 tfd53_3 tfd53_4 tis53 tsz55 tby55 tag55 tze55 tel55 tsl55 tis55 tsz60 tby60 tag60 tze60 tsc60 tfd60_0 tfd60_1 tis60 tsz64 tby64 tag64 tze64 tel64 tsl64 tis64 tsz149 tby149 tag149 tze149 tsc149 tfd149_0 tfd149_1 tfd149_2 tis149 tsz178 tby178 tag178 tze178 tel178 tsl178 tis178 tsz186 tby186 tag186 tze186 tin186 tis186 tsz201 tby201 tag201 tze201 tsc201 tfd201_0 tfd201_1 tfd201_2 tis201 tsz206 tby206 tag206 tze206 tin206 tis206 tsz209 tby209 tag209 tze209 tin209 tis209
set_option maxRecDepth 100000 in
theorem teq26 {a0 : Int} {b0 : Int} {a1 : Int} {b1 : Int} {a2 : Int} {b2 : Int} {a3 : Int} {b3 : Int} : eqV Tryz.prog Op.maxDepth 26 (.agg [(.int .i64 a0), (.int .i64 a1), (.int .i64 a2), (.int .i64 a3)]) (.agg [(.int .i64 b0), (.int .i64 b1), (.int .i64 b2), (.int .i64 b3)]) = some ((decide (a0 = b0)) && ((decide (a1 = b1)) && ((decide (a2 = b2)) && ((decide (a3 = b3)) && true)))) := (eqV_struct Tryz.underlying26 (by kernel_rfl) (eqFs_cons (by decide) (a := (.int .i64 a0)) (b := (.int .i64 b0)) (by simp only [go_sem]; try rfl) (by simp only [go_sem]; try rfl) (eqV_int (by simp only [tin3]; rfl)) (eqFs_cons (by decide) (a := (.int .i64 a1)) (b := (.int .i64 b1)) (by simp only [go_sem]; try rfl) (by simp only [go_sem]; try rfl) (eqV_int (by simp only [tin3]; rfl)) (eqFs_cons (by decide) (a := (.int .i64 a2)) (b := (.int .i64 b2)) (by simp only [go_sem]; try rfl) (by simp only [go_sem]; try rfl) (eqV_int (by simp only [tin3]; rfl)) (eqFs_cons (by decide) (a := (.int .i64 a3)) (b := (.int .i64 b3)) (by simp only [go_sem]; try rfl) (by simp only [go_sem]; try rfl) (eqV_int (by simp only [tin3]; rfl)) eqFs_nil)))))
theorem tgd26 : Tryz.prog.eqGuardType Tryz.prog.depth 26 = false := by kernel_rfl
attribute [go_sem] teq26 tgd26
set_option maxRecDepth 100000 in
theorem teq28 {a0 : Int} {b0 : Int} {a1 : Bool} {b1 : Bool} {a2 : Int} {b2 : Int} {a3 : Int} {b3 : Int} {a4 : Int} {b4 : Int} {a5 : Int} {b5 : Int} : eqV Tryz.prog Op.maxDepth 28 (.agg [(.int .i64 a0), (.bool a1), (.int .i64 a2), (.int .i64 a3), (.int .i64 a4), (.int .i64 a5)]) (.agg [(.int .i64 b0), (.bool b1), (.int .i64 b2), (.int .i64 b3), (.int .i64 b4), (.int .i64 b5)]) = some ((decide (a0 = b0)) && ((a1 == b1) && (((decide (a2 = b2)) && ((decide (a3 = b3)) && ((decide (a4 = b4)) && ((decide (a5 = b5)) && true)))) && true))) := (eqV_struct Tryz.underlying28 (by kernel_rfl) (eqFs_cons (by decide) (a := (.int .i64 a0)) (b := (.int .i64 b0)) (by simp only [go_sem]; try rfl) (by simp only [go_sem]; try rfl) (eqV_int (by simp only [tin3]; rfl)) (eqFs_cons (by decide) (a := (.bool a1)) (b := (.bool b1)) (by simp only [go_sem]; try rfl) (by simp only [go_sem]; try rfl) (eqV_bool tbo4) (eqFs_cons (by decide) (a := (.agg [(.int .i64 a2), (.int .i64 a3), (.int .i64 a4), (.int .i64 a5)])) (b := (.agg [(.int .i64 b2), (.int .i64 b3), (.int .i64 b4), (.int .i64 b5)])) (by simp only [go_sem]; try rfl) (by simp only [go_sem]; try rfl) (eqV_struct Tryz.underlying26 (by kernel_rfl) (eqFs_cons (by decide) (a := (.int .i64 a2)) (b := (.int .i64 b2)) (by simp only [go_sem]; try rfl) (by simp only [go_sem]; try rfl) (eqV_int (by simp only [tin3]; rfl)) (eqFs_cons (by decide) (a := (.int .i64 a3)) (b := (.int .i64 b3)) (by simp only [go_sem]; try rfl) (by simp only [go_sem]; try rfl) (eqV_int (by simp only [tin3]; rfl)) (eqFs_cons (by decide) (a := (.int .i64 a4)) (b := (.int .i64 b4)) (by simp only [go_sem]; try rfl) (by simp only [go_sem]; try rfl) (eqV_int (by simp only [tin3]; rfl)) (eqFs_cons (by decide) (a := (.int .i64 a5)) (b := (.int .i64 b5)) (by simp only [go_sem]; try rfl) (by simp only [go_sem]; try rfl) (eqV_int (by simp only [tin3]; rfl)) eqFs_nil))))) eqFs_nil))))
theorem tgd28 : Tryz.prog.eqGuardType Tryz.prog.depth 28 = false := by kernel_rfl
attribute [go_sem] teq28 tgd28
set_option maxRecDepth 100000 in
theorem teq49 {a0 : Int} {b0 : Int} {a1 : Int} {b1 : Int} {a2 : Int} {b2 : Int} {a3 : Int} {b3 : Int} {a4 : Int} {b4 : Int} : eqV Tryz.prog Op.maxDepth 49 (.agg [(.int .i64 a0), (.int .i64 a1), (.int .i64 a2), (.int .i64 a3), (.int .i64 a4)]) (.agg [(.int .i64 b0), (.int .i64 b1), (.int .i64 b2), (.int .i64 b3), (.int .i64 b4)]) = some ((decide (a0 = b0)) && ((decide (a1 = b1)) && ((decide (a2 = b2)) && ((decide (a3 = b3)) && ((decide (a4 = b4)) && true))))) := (eqV_struct Tryz.underlying49 (by kernel_rfl) (eqFs_cons (by decide) (a := (.int .i64 a0)) (b := (.int .i64 b0)) (by simp only [go_sem]; try rfl) (by simp only [go_sem]; try rfl) (eqV_int (by simp only [tin3]; rfl)) (eqFs_cons (by decide) (a := (.int .i64 a1)) (b := (.int .i64 b1)) (by simp only [go_sem]; try rfl) (by simp only [go_sem]; try rfl) (eqV_int (by simp only [tin3]; rfl)) (eqFs_cons (by decide) (a := (.int .i64 a2)) (b := (.int .i64 b2)) (by simp only [go_sem]; try rfl) (by simp only [go_sem]; try rfl) (eqV_int (by simp only [tin3]; rfl)) (eqFs_cons (by decide) (a := (.int .i64 a3)) (b := (.int .i64 b3)) (by simp only [go_sem]; try rfl) (by simp only [go_sem]; try rfl) (eqV_int (by simp only [tin3]; rfl)) (eqFs_cons (by decide) (a := (.int .i64 a4)) (b := (.int .i64 b4)) (by simp only [go_sem]; try rfl) (by simp only [go_sem]; try rfl) (eqV_int (by simp only [tin3]; rfl)) eqFs_nil))))))
theorem tgd49 : Tryz.prog.eqGuardType Tryz.prog.depth 49 = false := by kernel_rfl
attribute [go_sem] teq49 tgd49
set_option maxRecDepth 100000 in
theorem teq53 {a0 : Int} {b0 : Int} {a1 : Bool} {b1 : Bool} {a2 : Int} {b2 : Int} {a3 : Int} {b3 : Int} {a4 : Int} {b4 : Int} {a5 : Int} {b5 : Int} {a6 : Int} {b6 : Int} {a7 : Int} {b7 : Int} {a8 : Int} {b8 : Int} {a9 : Int} {b9 : Int} {a10 : Int} {b10 : Int} {a11 : Bool} {b11 : Bool} {a12 : Int} {b12 : Int} {a13 : Int} {b13 : Int} {a14 : Int} {b14 : Int} {a15 : Bool} {b15 : Bool} {a16 : Int} {b16 : Int} {a17 : Int} {b17 : Int} {a18 : Int} {b18 : Int} {a19 : Int} {b19 : Int} {a20 : Int} {b20 : Int} {a21 : Bool} {b21 : Bool} {a22 : Int} {b22 : Int} {a23 : Int} {b23 : Int} {a24 : Int} {b24 : Int} {a25 : Int} {b25 : Int} {a26 : Int} {b26 : Int} {a27 : Int} {b27 : Int} {a28 : Bool} {b28 : Bool} {a29 : Int} {b29 : Int} {a30 : Int} {b30 : Int} {a31 : Int} {b31 : Int} {a32 : Int} {b32 : Int} {a33 : Int} {b33 : Int} {a34 : Int} {b34 : Int} {a35 : Bool} {b35 : Bool} {a36 : Int} {b36 : Int} {a37 : Int} {b37 : Int} {a38 : Int} {b38 : Int} {a39 : Int} {b39 : Int} : eqV Tryz.prog Op.maxDepth 53 (.agg [(.int .i64 a0), (.bool a1), (.int .i64 a2), (.int .i64 a3), (.int .i64 a4), (.int .i64 a5), (.int .i64 a6), (.int .i64 a7), (.int .i64 a8), (.int .i64 a9), (.int .i64 a10), (.bool a11), (.int .i64 a12), (.int .i64 a13), (.int .i64 a14), (.bool a15), (.int .i64 a16), (.int .i64 a17), (.int .i64 a18), (.int .i64 a19), (.int .i64 a20), (.bool a21), (.int .i64 a22), (.int .i64 a23), (.int .i64 a24), (.int .i64 a25), (.int .i64 a26), (.int .i64 a27), (.bool a28), (.int .i64 a29), (.int .i64 a30), (.int .i64 a31), (.int .i64 a32), (.int .i64 a33), (.int .i64 a34), (.bool a35), (.int .i64 a36), (.int .i64 a37), (.int .i64 a38), (.int .i64 a39)]) (.agg [(.int .i64 b0), (.bool b1), (.int .i64 b2), (.int .i64 b3), (.int .i64 b4), (.int .i64 b5), (.int .i64 b6), (.int .i64 b7), (.int .i64 b8), (.int .i64 b9), (.int .i64 b10), (.bool b11), (.int .i64 b12), (.int .i64 b13), (.int .i64 b14), (.bool b15), (.int .i64 b16), (.int .i64 b17), (.int .i64 b18), (.int .i64 b19), (.int .i64 b20), (.bool b21), (.int .i64 b22), (.int .i64 b23), (.int .i64 b24), (.int .i64 b25), (.int .i64 b26), (.int .i64 b27), (.bool b28), (.int .i64 b29), (.int .i64 b30), (.int .i64 b31), (.int .i64 b32), (.int .i64 b33), (.int .i64 b34), (.bool b35), (.int .i64 b36), (.int .i64 b37), (.int .i64 b38), (.int .i64 b39)]) = some (((decide (a0 = b0)) && ((a1 == b1) && (((decide (a2 = b2)) && ((decide (a3 = b3)) && ((decide (a4 = b4)) && ((decide (a5 = b5)) && true)))) && true))) && (((decide (a6 = b6)) && ((decide (a7 = b7)) && ((decide (a8 = b8)) && ((decide (a9 = b9)) && ((decide (a10 = b10)) && true))))) && ((a11 == b11) && (((decide (a12 = b12)) && ((decide (a13 = b13)) && (((decide (a14 = b14)) && ((a15 == b15) && (((decide (a16 = b16)) && ((decide (a17 = b17)) && ((decide (a18 = b18)) && ((decide (a19 = b19)) && true)))) && true))) && (((decide (a20 = b20)) && ((a21 == b21) && (((decide (a22 = b22)) && ((decide (a23 = b23)) && ((decide (a24 = b24)) && ((decide (a25 = b25)) && true)))) && true))) && ((decide (a26 = b26)) && (((decide (a27 = b27)) && ((a28 == b28) && (((decide (a29 = b29)) && ((decide (a30 = b30)) && ((decide (a31 = b31)) && ((decide (a32 = b32)) && true)))) && true))) && ((decide (a33 = b33)) && true))))))) && (((decide (a34 = b34)) && ((a35 == b35) && (((decide (a36 = b36)) && ((decide (a37 = b37)) && ((decide (a38 = b38)) && ((decide (a39 = b39)) && true)))) && true))) && true))))) := (eqV_struct Tryz.underlying53 (by kernel_rfl) (eqFs_cons (by decide) (a := (.agg [(.int .i64 a0), (.bool a1), (.int .i64 a2), (.int .i64 a3), (.int .i64 a4), (.int .i64 a5)])) (b := (.agg [(.int .i64 b0), (.bool b1), (.int .i64 b2), (.int .i64 b3), (.int .i64 b4), (.int .i64 b5)])) (by simp only [go_sem]; try rfl) (by simp only [go_sem]; try rfl) (eqV_struct Tryz.underlying28 (by kernel_rfl) (eqFs_cons (by decide) (a := (.int .i64 a0)) (b := (.int .i64 b0)) (by simp only [go_sem]; try rfl) (by simp only [go_sem]; try rfl) (eqV_int (by simp only [tin3]; rfl)) (eqFs_cons (by decide) (a := (.bool a1)) (b := (.bool b1)) (by simp only [go_sem]; try rfl) (by simp only [go_sem]; try rfl) (eqV_bool tbo4) (eqFs_cons (by decide) (a := (.agg [(.int .i64 a2), (.int .i64 a3), (.int .i64 a4), (.int .i64 a5)])) (b := (.agg [(.int .i64 b2), (.int .i64 b3), (.int .i64 b4), (.int .i64 b5)])) (by simp only [go_sem]; try rfl) (by simp only [go_sem]; try rfl) (eqV_struct Tryz.underlying26 (by kernel_rfl) (eqFs_cons (by decide) (a := (.int .i64 a2)) (b := (.int .i64 b2)) (by simp only [go_sem]; try rfl) (by simp only [go_sem]; try rfl) (eqV_int (by simp only [tin3]; rfl)) (eqFs_cons (by decide) (a := (.int .i64 a3)) (b := (.int .i64 b3)) (by simp only [go_sem]; try rfl) (by simp only [go_sem]; try rfl) (eqV_int (by simp only [tin3]; rfl)) (eqFs_cons (by decide) (a := (.int .i64 a4)) (b := (.int .i64 b4)) (by simp only [go_sem]; try rfl) (by simp only [go_sem]; try rfl) (eqV_int (by simp only [tin3]; rfl)) (eqFs_cons (by decide) (a := (.int .i64 a5)) (b := (.int .i64 b5)) (by simp only [go_sem]; try rfl) (by simp only [go_sem]; try rfl) (eqV_int (by simp only [tin3]; rfl)) eqFs_nil))))) eqFs_nil)))) (eqFs_cons (by decide) (a := (.agg [(.int .i64 a6), (.int .i64 a7), (.int .i64 a8), (.int .i64 a9), (.int .i64 a10)])) (b := (.agg [(.int .i64 b6), (.int .i64 b7), (.int .i64 b8), (.int .i64 b9), (.int .i64 b10)])) (by simp only [go_sem]; try rfl) (by simp only [go_sem]; try rfl) (eqV_struct Tryz.underlying49 (by kernel_rfl) (eqFs_cons (by decide) (a := (.int .i64 a6)) (b := (.int .i64 b6)) (by simp only [go_sem]; try rfl) (by simp only [go_sem]; try rfl) (eqV_int (by simp only [tin3]; rfl)) (eqFs_cons (by decide) (a := (.int .i64 a7)) (b := (.int .i64 b7)) (by simp only [go_sem]; try rfl) (by simp only [go_sem]; try rfl) (eqV_int (by simp only [tin3]; rfl)) (eqFs_cons (by decide) (a := (.int .i64 a8)) (b := (.int .i64 b8)) (by simp only [go_sem]; try rfl) (by simp only [go_sem]; try rfl) (eqV_int (by simp only [tin3]; rfl)) (eqFs_cons (by decide) (a := (.int .i64 a9)) (b := (.int .i64 b9)) (by simp only [go_sem]; try rfl) (by simp only [go_sem]; try rfl) (eqV_int (by simp only [tin3]; rfl)) (eqFs_cons (by decide) (a := (.int .i64 a10)) (b := (.int .i64 b10)) (by simp only [go_sem]; try rfl) (by simp only [go_sem]; try rfl) (eqV_int (by simp only [tin3]; rfl)) eqFs_nil)))))) (eqFs_cons (by decide) (a := (.bool a11)) (b := (.bool b11)) (by simp only [go_sem]; try rfl) (by simp only [go_sem]; try rfl) (eqV_bool tbo4) (eqFs_cons (by decide) (a := (.agg [(.int .i64 a12), (.int .i64 a13), (.int .i64 a14), (.bool a15), (.int .i64 a16), (.int .i64 a17), (.int .i64 a18), (.int .i64 a19), (.int .i64 a20), (.bool a21), (.int .i64 a22), (.int .i64 a23), (.int .i64 a24), (.int .i64 a25), (.int .i64 a26), (.int .i64 a27), (.bool a28), (.int .i64 a29), (.int .i64 a30), (.int .i64 a31), (.int .i64 a32), (.int .i64 a33)])) (b := (.agg [(.int .i64 b12), (.int .i64 b13), (.int .i64 b14), (.bool b15), (.int .i64 b16), (.int .i64 b17), (.int .i64 b18), (.int .i64 b19), (.int .i64 b20), (.bool b21), (.int .i64 b22), (.int .i64 b23), (.int .i64 b24), (.int .i64 b25), (.int .i64 b26), (.int .i64 b27), (.bool b28), (.int .i64 b29), (.int .i64 b30), (.int .i64 b31), (.int .i64 b32), (.int .i64 b33)])) (by simp only [go_sem]; try rfl) (by simp only [go_sem]; try rfl) (eqV_struct Tryz.underlying51 (by kernel_rfl) (eqFs_cons (by decide) (a := (.int .i64 a12)) (b := (.int .i64 b12)) (by simp only [go_sem]; try rfl) (by simp only [go_sem]; try rfl) (eqV_int (by simp only [tin3]; rfl)) (eqFs_cons (by decide) (a := (.int .i64 a13)) (b := (.int .i64 b13)) (by simp only [go_sem]; try rfl) (by simp only [go_sem]; try rfl) (eqV_int (by simp only [tin3]; rfl)) (eqFs_cons (by decide) (a := (.agg [(.int .i64 a14), (.bool a15), (.int .i64 a16), (.int .i64 a17), (.int .i64 a18), (.int .i64 a19)])) (b := (.agg [(.int .i64 b14), (.bool b15), (.int .i64 b16), (.int .i64 b17), (.int .i64 b18), (.int .i64 b19)])) (by simp only [go_sem]; try rfl) (by simp only [go_sem]; try rfl) (eqV_struct Tryz.underlying28 (by kernel_rfl) (eqFs_cons (by decide) (a := (.int .i64 a14)) (b := (.int .i64 b14)) (by simp only [go_sem]; try rfl) (by simp only [go_sem]; try rfl) (eqV_int (by simp only [tin3]; rfl)) (eqFs_cons (by decide) (a := (.bool a15)) (b := (.bool b15)) (by simp only [go_sem]; try rfl) (by simp only [go_sem]; try rfl) (eqV_bool tbo4) (eqFs_cons (by decide) (a := (.agg [(.int .i64 a16), (.int .i64 a17), (.int .i64 a18), (.int .i64 a19)])) (b := (.agg [(.int .i64 b16), (.int .i64 b17), (.int .i64 b18), (.int .i64 b19)])) (by simp only [go_sem]; try rfl) (by simp only [go_sem]; try rfl) (eqV_struct Tryz.underlying26 (by kernel_rfl) (eqFs_cons (by decide) (a := (.int .i64 a16)) (b := (.int .i64 b16)) (by simp only [go_sem]; try rfl) (by simp only [go_sem]; try rfl) (eqV_int (by simp only [tin3]; rfl)) (eqFs_cons (by decide) (a := (.int .i64 a17)) (b := (.int .i64 b17)) (by simp only [go_sem]; try rfl) (by simp only [go_sem]; try rfl) (eqV_int (by simp only [tin3]; rfl)) (eqFs_cons (by decide) (a := (.int .i64 a18)) (b := (.int .i64 b18)) (by simp only [go_sem]; try rfl) (by simp only [go_sem]; try rfl) (eqV_int (by simp only [tin3]; rfl)) (eqFs_cons (by decide) (a := (.int .i64 a19)) (b := (.int .i64 b19)) (by simp only [go_sem]; try rfl) (by simp only [go_sem]; try rfl) (eqV_int (by simp only [tin3]; rfl)) eqFs_nil))))) eqFs_nil)))) (eqFs_cons (by decide) (a := (.agg [(.int .i64 a20), (.bool a21), (.int .i64 a22), (.int .i64 a23), (.int .i64 a24), (.int .i64 a25)])) (b := (.agg [(.int .i64 b20), (.bool b21), (.int .i64 b22), (.int .i64 b23), (.int .i64 b24), (.int .i64 b25)])) (by simp only [go_sem]; try rfl) (by simp only [go_sem]; try rfl) (eqV_struct Tryz.underlying28 (by kernel_rfl) (eqFs_cons (by decide) (a := (.int .i64 a20)) (b := (.int .i64 b20)) (by simp only [go_sem]; try rfl) (by simp only [go_sem]; try rfl) (eqV_int (by simp only [tin3]; rfl)) (eqFs_cons (by decide) (a := (.bool a21)) (b := (.bool b21)) (by simp only [go_sem]; try rfl) (by simp only [go_sem]; try rfl) (eqV_bool tbo4) (eqFs_cons (by decide) (a := (.agg [(.int .i64 a22), (.int .i64 a23), (.int .i64 a24), (.int .i64 a25)])) (b := (.agg [(.int .i64 b22), (.int .i64 b23), (.int .i64 b24), (.int .i64 b25)])) (by simp only [go_sem]; try rfl) (by simp only [go_sem]; try rfl) (eqV_struct Tryz.underlying26 (by kernel_rfl) (eqFs_cons (by decide) (a := (.int .i64 a22)) (b := (.int .i64 b22)) (by simp only [go_sem]; try rfl) (by simp only [go_sem]; try rfl) (eqV_int (by simp only [tin3]; rfl)) (eqFs_cons (by decide) (a := (.int .i64 a23)) (b := (.int .i64 b23)) (by simp only [go_sem]; try rfl) (by simp only [go_sem]; try rfl) (eqV_int (by simp only [tin3]; rfl)) (eqFs_cons (by decide) (a := (.int .i64 a24)) (b := (.int .i64 b24)) (by simp only [go_sem]; try rfl) (by simp only [go_sem]; try rfl) (eqV_int (by simp only [tin3]; rfl)) (eqFs_cons (by decide) (a := (.int .i64 a25)) (b := (.int .i64 b25)) (by simp only [go_sem]; try rfl) (by simp only [go_sem]; try rfl) (eqV_int (by simp only [tin3]; rfl)) eqFs_nil))))) eqFs_nil)))) (eqFs_cons (by decide) (a := (.int .i64 a26)) (b := (.int .i64 b26)) (by simp only [go_sem]; try rfl) (by simp only [go_sem]; try rfl) (eqV_int (by simp only [tin3]; rfl)) (eqFs_cons (by decide) (a := (.agg [(.int .i64 a27), (.bool a28), (.int .i64 a29), (.int .i64 a30), (.int .i64 a31), (.int .i64 a32)])) (b := (.agg [(.int .i64 b27), (.bool b28), (.int .i64 b29), (.int .i64 b30), (.int .i64 b31), (.int .i64 b32)])) (by simp only [go_sem]; try rfl) (by simp only [go_sem]; try rfl) (eqV_struct Tryz.underlying28 (by kernel_rfl) (eqFs_cons (by decide) (a := (.int .i64 a27)) (b := (.int .i64 b27)) (by simp only [go_sem]; try rfl) (by simp only [go_sem]; try rfl) (eqV_int (by simp only [tin3]; rfl)) (eqFs_cons (by decide) (a := (.bool a28)) (b := (.bool b28)) (by simp only [go_sem]; try rfl) (by simp only [go_sem]; try rfl) (eqV_bool tbo4) (eqFs_cons (by decide) (a := (.agg [(.int .i64 a29), (.int .i64 a30), (.int .i64 a31), (.int .i64 a32)])) (b := (.agg [(.int .i64 b29), (.int .i64 b30), (.int .i64 b31), (.int .i64 b32)])) (by simp only [go_sem]; try rfl) (by simp only [go_sem]; try rfl) (eqV_struct Tryz.underlying26 (by kernel_rfl) (eqFs_cons (by decide) (a := (.int .i64 a29)) (b := (.int .i64 b29)) (by simp only [go_sem]; try rfl) (by simp only [go_sem]; try rfl) (eqV_int (by simp only [tin3]; rfl)) (eqFs_cons (by decide) (a := (.int .i64 a30)) (b := (.int .i64 b30)) (by simp only [go_sem]; try rfl) (by simp only [go_sem]; try rfl) (eqV_int (by simp only [tin3]; rfl)) (eqFs_cons (by decide) (a := (.int .i64 a31)) (b := (.int .i64 b31)) (by simp only [go_sem]; try rfl) (by simp only [go_sem]; try rfl) (eqV_int (by simp only [tin3]; rfl)) (eqFs_cons (by decide) (a := (.int .i64 a32)) (b := (.int .i64 b32)) (by simp only [go_sem]; try rfl) (by simp only [go_sem]; try rfl) (eqV_int (by simp only [tin3]; rfl)) eqFs_nil))))) eqFs_nil)))) (eqFs_cons (by decide) (a := (.int .i64 a33)) (b := (.int .i64 b33)) (by simp only [go_sem]; try rfl) (by simp only [go_sem]; try rfl) (eqV_int (by simp only [tin3]; rfl)) eqFs_nil)))))))) (eqFs_cons (by decide) (a := (.agg [(.int .i64 a34), (.bool a35), (.int .i64 a36), (.int .i64 a37), (.int .i64 a38), (.int .i64 a39)])) (b := (.agg [(.int .i64 b34), (.bool b35), (.int .i64 b36), (.int .i64 b37), (.int .i64 b38), (.int .i64 b39)])) (by simp only [go_sem]; try rfl) (by simp only [go_sem]; try rfl) (eqV_struct Tryz.underlying28 (by kernel_rfl) (eqFs_cons (by decide) (a := (.int .i64 a34)) (b := (.int .i64 b34)) (by simp only [go_sem]; try rfl) (by simp only [go_sem]; try rfl) (eqV_int (by simp only [tin3]; rfl)) (eqFs_cons (by decide) (a := (.bool a35)) (b := (.bool b35)) (by simp only [go_sem]; try rfl) (by simp only [go_sem]; try rfl) (eqV_bool tbo4) (eqFs_cons (by decide) (a := (.agg [(.int .i64 a36), (.int .i64 a37), (.int .i64 a38), (.int .i64 a39)])) (b := (.agg [(.int .i64 b36), (.int .i64 b37), (.int .i64 b38), (.int .i64 b39)])) (by simp only [go_sem]; try rfl) (by simp only [go_sem]; try rfl) (eqV_struct Tryz.underlying26 (by kernel_rfl) (eqFs_cons (by decide) (a := (.int .i64 a36)) (b := (.int .i64 b36)) (by simp only [go_sem]; try rfl) (by simp only [go_sem]; try rfl) (eqV_int (by simp only [tin3]; rfl)) (eqFs_cons (by decide) (a := (.int .i64 a37)) (b := (.int .i64 b37)) (by simp only [go_sem]; try rfl) (by simp only [go_sem]; try rfl) (eqV_int (by simp only [tin3]; rfl)) (eqFs_cons (by decide) (a := (.int .i64 a38)) (b := (.int .i64 b38)) (by simp only [go_sem]; try rfl) (by simp only [go_sem]; try rfl) (eqV_int (by simp only [tin3]; rfl)) (eqFs_cons (by decide) (a := (.int .i64 a39)) (b := (.int .i64 b39)) (by simp only [go_sem]; try rfl) (by simp only [go_sem]; try rfl) (eqV_int (by simp only [tin3]; rfl)) eqFs_nil))))) eqFs_nil)))) eqFs_nil))))))
theorem tgd53 : Tryz.prog.eqGuardType Tryz.prog.depth 53 = false := by kernel_rfl
attribute [go_sem] teq53 tgd53
end Go.Proofs.YtdifphcihhbjlaaGreat.AM
