/- What the program's types are. No conditions. -/
import Derived.Test.YtgddflnhibhacaaGreatM4
import Derived.Test.YtgddflnhibhacaaGreatProg
import Derived.KernelRfl
set_option linter.unusedSimpArgs false
set_option linter.unusedVariables false
namespace Go.Proofs.YtgddflnhibhacaaGreat.AM
open Go
theorem mixed : Tryz.prog.follows .mixedOrders = true := by kernel_rfl
theorem tsz3 : tSize Tryz.prog 3 = some 1 := by kernel_rfl
theorem tby3 : tBytes Tryz.prog 3 = some 8 := by kernel_rfl
theorem tag3 : tAgg Tryz.prog 3 = some false := by kernel_rfl
theorem tze3 : tZero Tryz.prog 3 = some [.int .i64 0] := by kernel_rfl
theorem tin3 : tInt Tryz.prog 3 = some .i64 := by kernel_rfl
theorem tis3 : tIs Tryz.prog 3 = true := by kernel_rfl
theorem tsz4 : tSize Tryz.prog 4 = some 1 := by kernel_rfl
theorem tby4 : tBytes Tryz.prog 4 = some 1 := by kernel_rfl
theorem tag4 : tAgg Tryz.prog 4 = some false := by kernel_rfl
theorem tze4 : tZero Tryz.prog 4 = some [.bool false] := by kernel_rfl
theorem tbo4 : tBoo Tryz.prog 4 = true := by kernel_rfl
theorem tis4 : tIs Tryz.prog 4 = true := by kernel_rfl
theorem tsz5 : tSize Tryz.prog 5 = some 1 := by kernel_rfl
theorem tby5 : tBytes Tryz.prog 5 = some 1 := by kernel_rfl
theorem tag5 : tAgg Tryz.prog 5 = some false := by kernel_rfl
theorem tze5 : tZero Tryz.prog 5 = some [.int .u8 0] := by kernel_rfl
theorem tin5 : tInt Tryz.prog 5 = some .u8 := by kernel_rfl
theorem tis5 : tIs Tryz.prog 5 = true := by kernel_rfl
theorem tsz9 : tSize Tryz.prog 9 = some 1 := by kernel_rfl
theorem tby9 : tBytes Tryz.prog 9 = some 16 := by kernel_rfl
theorem tag9 : tAgg Tryz.prog 9 = some false := by kernel_rfl
theorem tze9 : tZero Tryz.prog 9 = some [.str ⟨#[]⟩] := by kernel_rfl
theorem tst9 : tStr Tryz.prog 9 = true := by kernel_rfl
theorem tis9 : tIs Tryz.prog 9 = true := by kernel_rfl
theorem tsz22 : tSize Tryz.prog 22 = some 1 := by kernel_rfl
theorem tby22 : tBytes Tryz.prog 22 = some 24 := by kernel_rfl
theorem tag22 : tAgg Tryz.prog 22 = some false := by kernel_rfl
theorem tze22 : tZero Tryz.prog 22 = some [.nilsl] := by kernel_rfl
theorem tel22 : tElem Tryz.prog 22 = some 76 := by kernel_rfl
theorem tsl22 : tSli Tryz.prog 22 = true := by kernel_rfl
theorem tis22 : tIs Tryz.prog 22 = true := by kernel_rfl
theorem tsz23 : tSize Tryz.prog 23 = some 1 := by kernel_rfl
theorem tby23 : tBytes Tryz.prog 23 = some 24 := by kernel_rfl
theorem tag23 : tAgg Tryz.prog 23 = some false := by kernel_rfl
theorem tze23 : tZero Tryz.prog 23 = some [.nilsl] := by kernel_rfl
theorem tel23 : tElem Tryz.prog 23 = some 27 := by kernel_rfl
theorem tsl23 : tSli Tryz.prog 23 = true := by kernel_rfl
theorem tis23 : tIs Tryz.prog 23 = true := by kernel_rfl
theorem tsz25 : tSize Tryz.prog 25 = some 4 := by kernel_rfl
theorem tby25 : tBytes Tryz.prog 25 = some 32 := by kernel_rfl
theorem tag25 : tAgg Tryz.prog 25 = some true := by kernel_rfl
theorem tze25 : tZero Tryz.prog 25 = some [.int .i64 0, .int .i64 0, .int .i64 0, .int .i64 0] := by kernel_rfl
theorem tsc25 : tSct Tryz.prog 25 = true := by kernel_rfl
theorem tfd25_0 : tField Tryz.prog 25 0 = some (0, 3) := by kernel_rfl
theorem tfd25_1 : tField Tryz.prog 25 1 = some (1, 3) := by kernel_rfl
theorem tfd25_2 : tField Tryz.prog 25 2 = some (2, 3) := by kernel_rfl
theorem tfd25_3 : tField Tryz.prog 25 3 = some (3, 3) := by kernel_rfl
theorem tis25 : tIs Tryz.prog 25 = true := by kernel_rfl
theorem tsz27 : tSize Tryz.prog 27 = some 6 := by kernel_rfl
theorem tby27 : tBytes Tryz.prog 27 = some 48 := by kernel_rfl
theorem tag27 : tAgg Tryz.prog 27 = some true := by kernel_rfl
theorem tze27 : tZero Tryz.prog 27 = some [.int .i64 0, .bool false, .int .i64 0, .int .i64 0, .int .i64 0, .int .i64 0] := by kernel_rfl
theorem tsc27 : tSct Tryz.prog 27 = true := by kernel_rfl
theorem tfd27_0 : tField Tryz.prog 27 0 = some (0, 3) := by kernel_rfl
theorem tfd27_1 : tField Tryz.prog 27 1 = some (1, 4) := by kernel_rfl
theorem tfd27_2 : tField Tryz.prog 27 2 = some (2, 25) := by kernel_rfl
theorem tis27 : tIs Tryz.prog 27 = true := by kernel_rfl
theorem tsz28 : tSize Tryz.prog 28 = some 1 := by kernel_rfl
theorem tby28 : tBytes Tryz.prog 28 = some 24 := by kernel_rfl
theorem tag28 : tAgg Tryz.prog 28 = some false := by kernel_rfl
theorem tze28 : tZero Tryz.prog 28 = some [.nilsl] := by kernel_rfl
theorem tel28 : tElem Tryz.prog 28 = some 4 := by kernel_rfl
theorem tsl28 : tSli Tryz.prog 28 = true := by kernel_rfl
theorem tis28 : tIs Tryz.prog 28 = true := by kernel_rfl
theorem tsz30 : tSize Tryz.prog 30 = some 2 := by kernel_rfl
theorem tby30 : tBytes Tryz.prog 30 = some 48 := by kernel_rfl
theorem tag30 : tAgg Tryz.prog 30 = some true := by kernel_rfl
theorem tze30 : tZero Tryz.prog 30 = some [.nilsl, .nilsl] := by kernel_rfl
theorem tsc30 : tSct Tryz.prog 30 = true := by kernel_rfl
theorem tfd30_0 : tField Tryz.prog 30 0 = some (0, 23) := by kernel_rfl
theorem tfd30_1 : tField Tryz.prog 30 1 = some (1, 28) := by kernel_rfl
theorem tis30 : tIs Tryz.prog 30 = true := by kernel_rfl
theorem tsz32 : tSize Tryz.prog 32 = some 10 := by kernel_rfl
theorem tby32 : tBytes Tryz.prog 32 = some 128 := by kernel_rfl
theorem tag32 : tAgg Tryz.prog 32 = some true := by kernel_rfl
theorem tze32 : tZero Tryz.prog 32 = some [.nilsl, .int .i64 0, .bool false, .int .i64 0, .int .i64 0, .int .i64 0, .int .i64 0, .nilsl, .nilsl, .int .i64 0] := by kernel_rfl
theorem tsc32 : tSct Tryz.prog 32 = true := by kernel_rfl
theorem tfd32_0 : tField Tryz.prog 32 0 = some (0, 23) := by kernel_rfl
theorem tfd32_1 : tField Tryz.prog 32 1 = some (1, 27) := by kernel_rfl
theorem tfd32_2 : tField Tryz.prog 32 2 = some (7, 30) := by kernel_rfl
theorem tfd32_3 : tField Tryz.prog 32 3 = some (9, 3) := by kernel_rfl
theorem tis32 : tIs Tryz.prog 32 = true := by kernel_rfl
theorem tsz35 : tSize Tryz.prog 35 = some 1 := by kernel_rfl
theorem tby35 : tBytes Tryz.prog 35 = some 24 := by kernel_rfl
theorem tag35 : tAgg Tryz.prog 35 = some false := by kernel_rfl
theorem tze35 : tZero Tryz.prog 35 = some [.nilsl] := by kernel_rfl
theorem tel35 : tElem Tryz.prog 35 = some 38 := by kernel_rfl
theorem tsl35 : tSli Tryz.prog 35 = true := by kernel_rfl
theorem tis35 : tIs Tryz.prog 35 = true := by kernel_rfl
theorem tsz36 : tSize Tryz.prog 36 = some 4 := by kernel_rfl
theorem tby36 : tBytes Tryz.prog 36 = some 32 := by kernel_rfl
theorem tag36 : tAgg Tryz.prog 36 = some true := by kernel_rfl
theorem tze36 : tZero Tryz.prog 36 = some [.int .i64 0, .int .i64 0, .int .i64 0, .int .i64 0] := by kernel_rfl
theorem tsc36 : tSct Tryz.prog 36 = true := by kernel_rfl
theorem tfd36_0 : tField Tryz.prog 36 0 = some (0, 3) := by kernel_rfl
theorem tfd36_1 : tField Tryz.prog 36 1 = some (1, 3) := by kernel_rfl
theorem tfd36_2 : tField Tryz.prog 36 2 = some (2, 3) := by kernel_rfl
theorem tfd36_3 : tField Tryz.prog 36 3 = some (3, 3) := by kernel_rfl
theorem tis36 : tIs Tryz.prog 36 = true := by kernel_rfl
theorem tsz38 : tSize Tryz.prog 38 = some 6 := by kernel_rfl
theorem tby38 : tBytes Tryz.prog 38 = some 48 := by kernel_rfl
theorem tag38 : tAgg Tryz.prog 38 = some true := by kernel_rfl
theorem tze38 : tZero Tryz.prog 38 = some [.int .i64 0, .bool false, .int .i64 0, .int .i64 0, .int .i64 0, .int .i64 0] := by kernel_rfl
theorem tsc38 : tSct Tryz.prog 38 = true := by kernel_rfl
theorem tfd38_0 : tField Tryz.prog 38 0 = some (0, 3) := by kernel_rfl
theorem tfd38_1 : tField Tryz.prog 38 1 = some (1, 4) := by kernel_rfl
theorem tfd38_2 : tField Tryz.prog 38 2 = some (2, 36) := by kernel_rfl
theorem tis38 : tIs Tryz.prog 38 = true := by kernel_rfl
theorem tsz40 : tSize Tryz.prog 40 = some 2 := by kernel_rfl
theorem tby40 : tBytes Tryz.prog 40 = some 48 := by kernel_rfl
theorem tag40 : tAgg Tryz.prog 40 = some true := by kernel_rfl
theorem tze40 : tZero Tryz.prog 40 = some [.nilsl, .nilsl] := by kernel_rfl
theorem tsc40 : tSct Tryz.prog 40 = true := by kernel_rfl
theorem tfd40_0 : tField Tryz.prog 40 0 = some (0, 35) := by kernel_rfl
theorem tfd40_1 : tField Tryz.prog 40 1 = some (1, 28) := by kernel_rfl
theorem tis40 : tIs Tryz.prog 40 = true := by kernel_rfl
theorem tsz42 : tSize Tryz.prog 42 = some 10 := by kernel_rfl
theorem tby42 : tBytes Tryz.prog 42 = some 128 := by kernel_rfl
theorem tag42 : tAgg Tryz.prog 42 = some true := by kernel_rfl
theorem tze42 : tZero Tryz.prog 42 = some [.nilsl, .int .i64 0, .bool false, .int .i64 0, .int .i64 0, .int .i64 0, .int .i64 0, .nilsl, .nilsl, .int .i64 0] := by kernel_rfl
theorem tsc42 : tSct Tryz.prog 42 = true := by kernel_rfl
theorem tfd42_0 : tField Tryz.prog 42 0 = some (0, 35) := by kernel_rfl
theorem tfd42_1 : tField Tryz.prog 42 1 = some (1, 38) := by kernel_rfl
theorem tfd42_2 : tField Tryz.prog 42 2 = some (7, 40) := by kernel_rfl
theorem tfd42_3 : tField Tryz.prog 42 3 = some (9, 3) := by kernel_rfl
theorem tis42 : tIs Tryz.prog 42 = true := by kernel_rfl
theorem tsz44 : tSize Tryz.prog 44 = some 1 := by kernel_rfl
theorem tby44 : tBytes Tryz.prog 44 = some 24 := by kernel_rfl
theorem tag44 : tAgg Tryz.prog 44 = some false := by kernel_rfl
theorem tze44 : tZero Tryz.prog 44 = some [.nilsl] := by kernel_rfl
theorem tel44 : tElem Tryz.prog 44 = some 66 := by kernel_rfl
theorem tsl44 : tSli Tryz.prog 44 = true := by kernel_rfl
theorem tis44 : tIs Tryz.prog 44 = true := by kernel_rfl
theorem tsz55 : tSize Tryz.prog 55 = some 1 := by kernel_rfl
theorem tby55 : tBytes Tryz.prog 55 = some 24 := by kernel_rfl
theorem tag55 : tAgg Tryz.prog 55 = some false := by kernel_rfl
theorem tze55 : tZero Tryz.prog 55 = some [.nilsl] := by kernel_rfl
theorem tel55 : tElem Tryz.prog 55 = some 3 := by kernel_rfl
theorem tsl55 : tSli Tryz.prog 55 = true := by kernel_rfl
theorem tis55 : tIs Tryz.prog 55 = true := by kernel_rfl
theorem tsz66 : tSize Tryz.prog 66 = some 5 := by kernel_rfl
theorem tby66 : tBytes Tryz.prog 66 = some 40 := by kernel_rfl
theorem tag66 : tAgg Tryz.prog 66 = some true := by kernel_rfl
theorem tze66 : tZero Tryz.prog 66 = some [.int .i64 0, .int .i64 0, .int .i64 0, .int .i64 0, .int .i64 0] := by kernel_rfl
theorem tsc66 : tSct Tryz.prog 66 = true := by kernel_rfl
theorem tfd66_0 : tField Tryz.prog 66 0 = some (0, 3) := by kernel_rfl
theorem tfd66_1 : tField Tryz.prog 66 1 = some (1, 3) := by kernel_rfl
theorem tfd66_2 : tField Tryz.prog 66 2 = some (2, 3) := by kernel_rfl
theorem tfd66_3 : tField Tryz.prog 66 3 = some (3, 3) := by kernel_rfl
theorem tfd66_4 : tField Tryz.prog 66 4 = some (4, 3) := by kernel_rfl
theorem tis66 : tIs Tryz.prog 66 = true := by kernel_rfl
theorem tsz72 : tSize Tryz.prog 72 = some 22 := by kernel_rfl
theorem tby72 : tBytes Tryz.prog 72 = some 176 := by kernel_rfl
theorem tag72 : tAgg Tryz.prog 72 = some true := by kernel_rfl
theorem tze72 : tZero Tryz.prog 72 = some [.int .i64 0, .int .i64 0, .int .i64 0, .bool false, .int .i64 0, .int .i64 0, .int .i64 0, .int .i64 0, .int .i64 0, .bool false, .int .i64 0, .int .i64 0, .int .i64 0, .int .i64 0, .int .i64 0, .int .i64 0, .bool false, .int .i64 0, .int .i64 0, .int .i64 0, .int .i64 0, .int .i64 0] := by kernel_rfl
theorem tsc72 : tSct Tryz.prog 72 = true := by kernel_rfl
theorem tfd72_0 : tField Tryz.prog 72 0 = some (0, 3) := by kernel_rfl
theorem tfd72_1 : tField Tryz.prog 72 1 = some (1, 3) := by kernel_rfl
theorem tfd72_2 : tField Tryz.prog 72 2 = some (2, 38) := by kernel_rfl
theorem tfd72_3 : tField Tryz.prog 72 3 = some (8, 38) := by kernel_rfl
theorem tfd72_4 : tField Tryz.prog 72 4 = some (14, 3) := by kernel_rfl
theorem tfd72_5 : tField Tryz.prog 72 5 = some (15, 38) := by kernel_rfl
theorem tfd72_6 : tField Tryz.prog 72 6 = some (21, 3) := by kernel_rfl
theorem tis72 : tIs Tryz.prog 72 = true := by kernel_rfl
theorem tsz76 : tSize Tryz.prog 76 = some 5 := by kernel_rfl
theorem tby76 : tBytes Tryz.prog 76 = some 40 := by kernel_rfl
theorem tag76 : tAgg Tryz.prog 76 = some true := by kernel_rfl
theorem tze76 : tZero Tryz.prog 76 = some [.int .i64 0, .int .i64 0, .int .i64 0, .int .i64 0, .int .i64 0] := by kernel_rfl
theorem tsc76 : tSct Tryz.prog 76 = true := by kernel_rfl
theorem tfd76_0 : tField Tryz.prog 76 0 = some (0, 3) := by kernel_rfl
theorem tfd76_1 : tField Tryz.prog 76 1 = some (1, 3) := by kernel_rfl
theorem tfd76_2 : tField Tryz.prog 76 2 = some (2, 3) := by kernel_rfl
theorem tfd76_3 : tField Tryz.prog 76 3 = some (3, 3) := by kernel_rfl
theorem tfd76_4 : tField Tryz.prog 76 4 = some (4, 3) := by kernel_rfl
theorem tis76 : tIs Tryz.prog 76 = true := by kernel_rfl
theorem tsz125 : tSize Tryz.prog 125 = some 1 := by kernel_rfl
theorem tby125 : tBytes Tryz.prog 125 = some 24 := by kernel_rfl
theorem tag125 : tAgg Tryz.prog 125 = some false := by kernel_rfl
theorem tze125 : tZero Tryz.prog 125 = some [.nilsl] := by kernel_rfl
theorem tel125 : tElem Tryz.prog 125 = some 5 := by kernel_rfl
theorem tsl125 : tSli Tryz.prog 125 = true := by kernel_rfl
theorem tis125 : tIs Tryz.prog 125 = true := by kernel_rfl
theorem tsz130 : tSize Tryz.prog 130 = some 3 := by kernel_rfl
theorem tby130 : tBytes Tryz.prog 130 = some 24 := by kernel_rfl
theorem tag130 : tAgg Tryz.prog 130 = some true := by kernel_rfl
theorem tze130 : tZero Tryz.prog 130 = some [.int .i64 0, .int .i64 0, .int .i64 0] := by kernel_rfl
theorem tsc130 : tSct Tryz.prog 130 = true := by kernel_rfl
theorem tfd130_0 : tField Tryz.prog 130 0 = some (0, 3) := by kernel_rfl
theorem tfd130_1 : tField Tryz.prog 130 1 = some (1, 3) := by kernel_rfl
theorem tfd130_2 : tField Tryz.prog 130 2 = some (2, 3) := by kernel_rfl
theorem tis130 : tIs Tryz.prog 130 = true := by kernel_rfl
attribute [go_sem] tsz3 tby3 tag3 tze3 tin3 tis3 tsz4 tby4 tag4 tze4 tbo4 tis4 tsz5 tby5 tag5 tze5 tin5 tis5 tsz9 tby9 tag9 tze9 tst9 tis9 tsz22 tby22 tag22 tze22 tel22 tsl22 tis22 tsz23 tby23 tag23 tze23 tel23 tsl23 tis23 tsz25 tby25 tag25 tze25 tsc25 tfd25_0 tfd25_1 tfd25_2 tfd25_3 tis25 tsz27 tby27 tag27 tze27 tsc27 tfd27_0 tfd27_1 tfd27_2 tis27 tsz28 tby28 tag28 tze28 tel28 tsl28 tis28 tsz30 tby30 tag30 tze30 tsc30 tfd30_0 tfd30_1 tis30 tsz32 tby32 tag32 tze32 tsc32 tfd32_0 tfd32_1 tfd32_2 tfd32_3 tis32 tsz35 tby35 tag35 tze35 tel35 tsl35 tis35 tsz36 tby36 tag36 tze36 tsc36 tfd36_0 tfd36_1 tfd36_2 tfd36_3 tis36 tsz38 tby38 tag38 tze38 tsc38 tfd38_0 tfd38_1 tfd38_2 tis38 tsz40 tby40 tag40 tze40 tsc40 tfd40_0 tfd40_1 tis40 tsz42 tby42 tag42 tze42 tsc42 tfd42_0 tfd42_1 tfd42_2 tfd42_3 tis42 tsz44 tby44 tag44 tze44 tel44 tsl44 tis44 tsz55 tby55 tag55 tze55 tel55 tsl55 tis55 tsz66 tby66 tag66 tze66 tsc66 tfd66_0 tfd66_1 tfd66_2 tfd66_3 tfd66_4 tis66 tsz72 tby72 tag72 tze72 tsc72 tfd72_0 tfd72_1 tfd72_2 tfd72_3 tfd72_4 tfd72_5 tfd72_6 tis72 tsz76 tby76 tag76 tze76 tsc76 tfd76_0 tfd76_1 tfd76_2 tfd76_3 tfd76_4 tis76 tsz125 tby125 tag125 tze125 tel125 tsl125 tis125 tsz130 tby130 tag130 tze130 tsc130 tfd130_0 tfd130_1 tfd130_2 tis130
set_option maxRecDepth 100000 in
theorem teq36 {a0 : Int} {b0 : Int} {a1 : Int} {b1 : Int} {a2 : Int} {b2 : Int} {a3 : Int} {b3 : Int} : eqV Tryz.prog Op.maxDepth 36 (.agg [(.int .i64 a0), (.int .i64 a1), (.int .i64 a2), (.int .i64 a3)]) (.agg [(.int .i64 b0), (.int .i64 b1), (.int .i64 b2), (.int .i64 b3)]) = some ((decide (a0 = b0)) && ((decide (a1 = b1)) && ((decide (a2 = b2)) && ((decide (a3 = b3)) && true)))) := (eqV_struct Tryz.underlying36 (by kernel_rfl) (eqFs_cons (by decide) (a := (.int .i64 a0)) (b := (.int .i64 b0)) (by simp only [go_sem]; try rfl) (by simp only [go_sem]; try rfl) (eqV_int (by simp only [tin3]; rfl)) (eqFs_cons (by decide) (a := (.int .i64 a1)) (b := (.int .i64 b1)) (by simp only [go_sem]; try rfl) (by simp only [go_sem]; try rfl) (eqV_int (by simp only [tin3]; rfl)) (eqFs_cons (by decide) (a := (.int .i64 a2)) (b := (.int .i64 b2)) (by simp only [go_sem]; try rfl) (by simp only [go_sem]; try rfl) (eqV_int (by simp only [tin3]; rfl)) (eqFs_cons (by decide) (a := (.int .i64 a3)) (b := (.int .i64 b3)) (by simp only [go_sem]; try rfl) (by simp only [go_sem]; try rfl) (eqV_int (by simp only [tin3]; rfl)) eqFs_nil)))))
theorem tgd36 : Tryz.prog.eqGuardType Tryz.prog.depth 36 = false := by kernel_rfl
attribute [go_sem] teq36 tgd36
end Go.Proofs.YtgddflnhibhacaaGreat.AM
