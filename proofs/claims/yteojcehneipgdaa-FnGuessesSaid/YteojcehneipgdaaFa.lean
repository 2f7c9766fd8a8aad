/- What the program's types are. No conditions. -/
import Derived.Test.YteojcehneipgdaaM4
import Derived.Test.YteojcehneipgdaaProg
import Derived.KernelRfl
set_option linter.unusedSimpArgs false
set_option linter.unusedVariables false
namespace Go.Proofs.Yteojcehneipgdaa.AM
open Go
set_option maxHeartbeats 8000000
set_option maxRecDepth 100000
theorem mixed : Try.prog.follows .mixedOrders = true := by kernel_rfl
theorem tsz3 : tSize Try.prog 3 = some 1 := by kernel_rfl
theorem tby3 : tBytes Try.prog 3 = some 8 := by kernel_rfl
theorem tag3 : tAgg Try.prog 3 = some false := by kernel_rfl
theorem tze3 : tZero Try.prog 3 = some [.int .i64 0] := by kernel_rfl
theorem tin3 : tInt Try.prog 3 = some .i64 := by kernel_rfl
theorem tis3 : tIs Try.prog 3 = true := by kernel_rfl
theorem tsz4 : tSize Try.prog 4 = some 1 := by kernel_rfl
theorem tby4 : tBytes Try.prog 4 = some 1 := by kernel_rfl
theorem tag4 : tAgg Try.prog 4 = some false := by kernel_rfl
theorem tze4 : tZero Try.prog 4 = some [.bool false] := by kernel_rfl
theorem tbo4 : tBoo Try.prog 4 = true := by kernel_rfl
theorem tis4 : tIs Try.prog 4 = true := by kernel_rfl
theorem tsz5 : tSize Try.prog 5 = some 1 := by kernel_rfl
theorem tby5 : tBytes Try.prog 5 = some 1 := by kernel_rfl
theorem tag5 : tAgg Try.prog 5 = some false := by kernel_rfl
theorem tze5 : tZero Try.prog 5 = some [.int .u8 0] := by kernel_rfl
theorem tin5 : tInt Try.prog 5 = some .u8 := by kernel_rfl
theorem tis5 : tIs Try.prog 5 = true := by kernel_rfl
theorem tsz22 : tSize Try.prog 22 = some 1 := by kernel_rfl
theorem tby22 : tBytes Try.prog 22 = some 24 := by kernel_rfl
theorem tag22 : tAgg Try.prog 22 = some false := by kernel_rfl
theorem tze22 : tZero Try.prog 22 = some [.nilsl] := by kernel_rfl
theorem tel22 : tElem Try.prog 22 = some 5 := by kernel_rfl
theorem tsl22 : tSli Try.prog 22 = true := by kernel_rfl
theorem tis22 : tIs Try.prog 22 = true := by kernel_rfl
theorem tsz24 : tSize Try.prog 24 = some 1 := by kernel_rfl
theorem tby24 : tBytes Try.prog 24 = some 24 := by kernel_rfl
theorem tag24 : tAgg Try.prog 24 = some false := by kernel_rfl
theorem tze24 : tZero Try.prog 24 = some [.nilsl] := by kernel_rfl
theorem tel24 : tElem Try.prog 24 = some 3 := by kernel_rfl
theorem tsl24 : tSli Try.prog 24 = true := by kernel_rfl
theorem tis24 : tIs Try.prog 24 = true := by kernel_rfl
theorem tsz26 : tSize Try.prog 26 = some 4 := by kernel_rfl
theorem tby26 : tBytes Try.prog 26 = some 32 := by kernel_rfl
theorem tag26 : tAgg Try.prog 26 = some true := by kernel_rfl
theorem tze26 : tZero Try.prog 26 = some [.int .i64 0, .int .i64 0, .int .i64 0, .int .i64 0] := by kernel_rfl
theorem tsc26 : tSct Try.prog 26 = true := by kernel_rfl
theorem tfd26_0 : tField Try.prog 26 0 = some (0, 3) := by kernel_rfl
theorem tfd26_1 : tField Try.prog 26 1 = some (1, 3) := by kernel_rfl
theorem tfd26_2 : tField Try.prog 26 2 = some (2, 3) := by kernel_rfl
theorem tfd26_3 : tField Try.prog 26 3 = some (3, 3) := by kernel_rfl
theorem tis26 : tIs Try.prog 26 = true := by kernel_rfl
theorem tsz28 : tSize Try.prog 28 = some 6 := by kernel_rfl
theorem tby28 : tBytes Try.prog 28 = some 48 := by kernel_rfl
theorem tag28 : tAgg Try.prog 28 = some true := by kernel_rfl
theorem tze28 : tZero Try.prog 28 = some [.int .i64 0, .bool false, .int .i64 0, .int .i64 0, .int .i64 0, .int .i64 0] := by kernel_rfl
theorem tsc28 : tSct Try.prog 28 = true := by kernel_rfl
theorem tfd28_0 : tField Try.prog 28 0 = some (0, 3) := by kernel_rfl
theorem tfd28_1 : tField Try.prog 28 1 = some (1, 4) := by kernel_rfl
theorem tfd28_2 : tField Try.prog 28 2 = some (2, 26) := by kernel_rfl
theorem tis28 : tIs Try.prog 28 = true := by kernel_rfl
theorem tsz52 : tSize Try.prog 52 = some 3 := by kernel_rfl
theorem tby52 : tBytes Try.prog 52 = some 40 := by kernel_rfl
theorem tag52 : tAgg Try.prog 52 = some true := by kernel_rfl
theorem tze52 : tZero Try.prog 52 = some [.nilsl, .int .i64 0, .int .i64 0] := by kernel_rfl
theorem tsc52 : tSct Try.prog 52 = true := by kernel_rfl
theorem tfd52_0 : tField Try.prog 52 0 = some (0, 22) := by kernel_rfl
theorem tfd52_1 : tField Try.prog 52 1 = some (1, 3) := by kernel_rfl
theorem tfd52_2 : tField Try.prog 52 2 = some (2, 3) := by kernel_rfl
theorem tis52 : tIs Try.prog 52 = true := by kernel_rfl
theorem tsz59 : tSize Try.prog 59 = some 1 := by kernel_rfl
theorem tby59 : tBytes Try.prog 59 = some 8 := by kernel_rfl
theorem tag59 : tAgg Try.prog 59 = some false := by kernel_rfl
theorem tze59 : tZero Try.prog 59 = some [.int .u64 0] := by kernel_rfl
theorem tin59 : tInt Try.prog 59 = some .u64 := by kernel_rfl
theorem tis59 : tIs Try.prog 59 = true := by kernel_rfl
theorem tsz65 : tSize Try.prog 65 = some 1 := by kernel_rfl
theorem tby65 : tBytes Try.prog 65 = some 4 := by kernel_rfl
theorem tag65 : tAgg Try.prog 65 = some false := by kernel_rfl
theorem tze65 : tZero Try.prog 65 = some [.int .u32 0] := by kernel_rfl
theorem tin65 : tInt Try.prog 65 = some .u32 := by kernel_rfl
theorem tis65 : tIs Try.prog 65 = true := by kernel_rfl
theorem tsz68 : tSize Try.prog 68 = some 1 := by kernel_rfl
theorem tby68 : tBytes Try.prog 68 = some 8 := by kernel_rfl
theorem tag68 : tAgg Try.prog 68 = some false := by kernel_rfl
theorem tze68 : tZero Try.prog 68 = some [.int .u64 0] := by kernel_rfl
theorem tin68 : tInt Try.prog 68 = some .u64 := by kernel_rfl
theorem tis68 : tIs Try.prog 68 = true := by kernel_rfl
theorem tsz76 : tSize Try.prog 76 = some 3 := by kernel_rfl
theorem tby76 : tBytes Try.prog 76 = some 24 := by kernel_rfl
theorem tag76 : tAgg Try.prog 76 = some true := by kernel_rfl
theorem tze76 : tZero Try.prog 76 = some [.int .i64 0, .int .i64 0, .int .i64 0] := by kernel_rfl
theorem tsc76 : tSct Try.prog 76 = true := by kernel_rfl
theorem tfd76_0 : tField Try.prog 76 0 = some (0, 3) := by kernel_rfl
theorem tfd76_1 : tField Try.prog 76 1 = some (1, 3) := by kernel_rfl
theorem tfd76_2 : tField Try.prog 76 2 = some (2, 3) := by kernel_rfl
theorem tis76 : tIs Try.prog 76 = true := by kernel_rfl
attribute [go_sem] tsz3 tby3 tag3 tze3 tin3 tis3 tsz4 tby4 tag4 tze4 tbo4 tis4 tsz5 tby5 tag5 tze5 tin5 tis5 tsz22 tby22 tag22 tze22 tel22 tsl22 tis22 tsz24 tby24 tag24 tze24 tel24 tsl24 tis24 tsz26 tby26 tag26 tze26 tsc26 tfd26_0 tfd26_1 tfd26_2 tfd26_3 tis26 tsz28 tby28 tag28 tze28 tsc28 tfd28_0 tfd28_1 tfd28_2 tis28 tsz52 tby52 tag52 tze52 tsc52 tfd52_0 tfd52_1 tfd52_2 tis52 tsz59 tby59 tag59 tze59 tin59 tis59 tsz65 tby65 tag65 tze65 tin65 tis65 tsz68 tby68 tag68 tze68 tin68 tis68 tsz76 tby76 tag76 tze76 tsc76 tfd76_0 tfd76_1 tfd76_2 tis76
set_option maxRecDepth 100000 in
theorem teq26 {a0 : Int} {b0 : Int} {a1 : Int} {b1 : Int} {a2 : Int} {b2 : Int} {a3 : Int} {b3 : Int} : eqV Try.prog Op.maxDepth 26 (.agg [(.int .i64 a0), (.int .i64 a1), (.int .i64 a2), (.int .i64 a3)]) (.agg [(.int .i64 b0), (.int .i64 b1), (.int .i64 b2), (.int .i64 b3)]) = some ((decide (a0 = b0)) && ((decide (a1 = b1)) && ((decide (a2 = b2)) && ((decide (a3 = b3)) && true)))) := (eqV_struct Try.underlying26 (by kernel_rfl) (eqFs_cons (by decide) (a := (.int .i64 a0)) (b := (.int .i64 b0)) (by simp only [go_sem]; try rfl) (by simp only [go_sem]; try rfl) (eqV_int (by simp only [tin3]; rfl)) (eqFs_cons (by decide) (a := (.int .i64 a1)) (b := (.int .i64 b1)) (by simp only [go_sem]; try rfl) (by simp only [go_sem]; try rfl) (eqV_int (by simp only [tin3]; rfl)) (eqFs_cons (by decide) (a := (.int .i64 a2)) (b := (.int .i64 b2)) (by simp only [go_sem]; try rfl) (by simp only [go_sem]; try rfl) (eqV_int (by simp only [tin3]; rfl)) (eqFs_cons (by decide) (a := (.int .i64 a3)) (b := (.int .i64 b3)) (by simp only [go_sem]; try rfl) (by simp only [go_sem]; try rfl) (eqV_int (by simp only [tin3]; rfl)) eqFs_nil)))))
theorem tgd26 : Try.prog.eqGuardType Try.prog.depth 26 = false := by kernel_rfl
attribute [go_sem] teq26 tgd26
set_option maxRecDepth 100000 in
theorem teq28 {a0 : Int} {b0 : Int} {a1 : Bool} {b1 : Bool} {a2 : Int} {b2 : Int} {a3 : Int} {b3 : Int} {a4 : Int} {b4 : Int} {a5 : Int} {b5 : Int} : eqV Try.prog Op.maxDepth 28 (.agg [(.int .i64 a0), (.bool a1), (.int .i64 a2), (.int .i64 a3), (.int .i64 a4), (.int .i64 a5)]) (.agg [(.int .i64 b0), (.bool b1), (.int .i64 b2), (.int .i64 b3), (.int .i64 b4), (.int .i64 b5)]) = some ((decide (a0 = b0)) && ((a1 == b1) && (((decide (a2 = b2)) && ((decide (a3 = b3)) && ((decide (a4 = b4)) && ((decide (a5 = b5)) && true)))) && true))) := (eqV_struct Try.underlying28 (by kernel_rfl) (eqFs_cons (by decide) (a := (.int .i64 a0)) (b := (.int .i64 b0)) (by simp only [go_sem]; try rfl) (by simp only [go_sem]; try rfl) (eqV_int (by simp only [tin3]; rfl)) (eqFs_cons (by decide) (a := (.bool a1)) (b := (.bool b1)) (by simp only [go_sem]; try rfl) (by simp only [go_sem]; try rfl) (eqV_bool tbo4) (eqFs_cons (by decide) (a := (.agg [(.int .i64 a2), (.int .i64 a3), (.int .i64 a4), (.int .i64 a5)])) (b := (.agg [(.int .i64 b2), (.int .i64 b3), (.int .i64 b4), (.int .i64 b5)])) (by simp only [go_sem]; try rfl) (by simp only [go_sem]; try rfl) (eqV_struct Try.underlying26 (by kernel_rfl) (eqFs_cons (by decide) (a := (.int .i64 a2)) (b := (.int .i64 b2)) (by simp only [go_sem]; try rfl) (by simp only [go_sem]; try rfl) (eqV_int (by simp only [tin3]; rfl)) (eqFs_cons (by decide) (a := (.int .i64 a3)) (b := (.int .i64 b3)) (by simp only [go_sem]; try rfl) (by simp only [go_sem]; try rfl) (eqV_int (by simp only [tin3]; rfl)) (eqFs_cons (by decide) (a := (.int .i64 a4)) (b := (.int .i64 b4)) (by simp only [go_sem]; try rfl) (by simp only [go_sem]; try rfl) (eqV_int (by simp only [tin3]; rfl)) (eqFs_cons (by decide) (a := (.int .i64 a5)) (b := (.int .i64 b5)) (by simp only [go_sem]; try rfl) (by simp only [go_sem]; try rfl) (eqV_int (by simp only [tin3]; rfl)) eqFs_nil))))) eqFs_nil))))
theorem tgd28 : Try.prog.eqGuardType Try.prog.depth 28 = false := by kernel_rfl
attribute [go_sem] teq28 tgd28
end Go.Proofs.Yteojcehneipgdaa.AM
