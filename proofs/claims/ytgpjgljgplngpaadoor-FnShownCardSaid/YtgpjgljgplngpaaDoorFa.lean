/- What the program's types are. No conditions. -/
import Derived.Test.YtgpjgljgplngpaaDoorM4
import Derived.Test.YtgpjgljgplngpaaDoorProg
import Derived.KernelRfl
set_option linter.unusedSimpArgs false
set_option linter.unusedVariables false
namespace Go.Proofs.YtgpjgljgplngpaaDoor.AM
open Go
set_option maxHeartbeats 8000000
set_option maxRecDepth 100000
theorem mixed : Tryd.prog.follows .mixedOrders = true := by kernel_rfl
theorem tsz2 : tSize Tryd.prog 2 = some 1 := by kernel_rfl
theorem tby2 : tBytes Tryd.prog 2 = some 8 := by kernel_rfl
theorem tag2 : tAgg Tryd.prog 2 = some false := by kernel_rfl
theorem tze2 : tZero Tryd.prog 2 = some [.int .i64 0] := by kernel_rfl
theorem tin2 : tInt Tryd.prog 2 = some .i64 := by kernel_rfl
theorem tis2 : tIs Tryd.prog 2 = true := by kernel_rfl
theorem tsz3 : tSize Tryd.prog 3 = some 1 := by kernel_rfl
theorem tby3 : tBytes Tryd.prog 3 = some 8 := by kernel_rfl
theorem tag3 : tAgg Tryd.prog 3 = some false := by kernel_rfl
theorem tze3 : tZero Tryd.prog 3 = some [.int .i64 0] := by kernel_rfl
theorem tin3 : tInt Tryd.prog 3 = some .i64 := by kernel_rfl
theorem tis3 : tIs Tryd.prog 3 = true := by kernel_rfl
theorem tsz4 : tSize Tryd.prog 4 = some 1 := by kernel_rfl
theorem tby4 : tBytes Tryd.prog 4 = some 1 := by kernel_rfl
theorem tag4 : tAgg Tryd.prog 4 = some false := by kernel_rfl
theorem tze4 : tZero Tryd.prog 4 = some [.bool false] := by kernel_rfl
theorem tbo4 : tBoo Tryd.prog 4 = true := by kernel_rfl
theorem tis4 : tIs Tryd.prog 4 = true := by kernel_rfl
theorem tsz5 : tSize Tryd.prog 5 = some 1 := by kernel_rfl
theorem tby5 : tBytes Tryd.prog 5 = some 1 := by kernel_rfl
theorem tag5 : tAgg Tryd.prog 5 = some false := by kernel_rfl
theorem tze5 : tZero Tryd.prog 5 = some [.int .u8 0] := by kernel_rfl
theorem tin5 : tInt Tryd.prog 5 = some .u8 := by kernel_rfl
theorem tis5 : tIs Tryd.prog 5 = true := by kernel_rfl
theorem tsz9 : tSize Tryd.prog 9 = some 1 := by kernel_rfl
theorem tby9 : tBytes Tryd.prog 9 = some 16 := by kernel_rfl
theorem tag9 : tAgg Tryd.prog 9 = some false := by kernel_rfl
theorem tze9 : tZero Tryd.prog 9 = some [.str ⟨#[]⟩] := by kernel_rfl
theorem tst9 : tStr Tryd.prog 9 = true := by kernel_rfl
theorem tis9 : tIs Tryd.prog 9 = true := by kernel_rfl
theorem tsz21 : tSize Tryd.prog 21 = some 1 := by kernel_rfl
theorem tby21 : tBytes Tryd.prog 21 = some 4 := by kernel_rfl
theorem tag21 : tAgg Tryd.prog 21 = some false := by kernel_rfl
theorem tze21 : tZero Tryd.prog 21 = some [.int .i32 0] := by kernel_rfl
theorem tin21 : tInt Tryd.prog 21 = some .i32 := by kernel_rfl
theorem tis21 : tIs Tryd.prog 21 = true := by kernel_rfl
theorem tsz23 : tSize Tryd.prog 23 = some 4 := by kernel_rfl
theorem tby23 : tBytes Tryd.prog 23 = some 32 := by kernel_rfl
theorem tag23 : tAgg Tryd.prog 23 = some true := by kernel_rfl
theorem tze23 : tZero Tryd.prog 23 = some [.int .i64 0, .int .i64 0, .int .i64 0, .int .i64 0] := by kernel_rfl
theorem tsc23 : tSct Tryd.prog 23 = true := by kernel_rfl
theorem tfd23_0 : tField Tryd.prog 23 0 = some (0, 3) := by kernel_rfl
theorem tfd23_1 : tField Tryd.prog 23 1 = some (1, 3) := by kernel_rfl
theorem tfd23_2 : tField Tryd.prog 23 2 = some (2, 3) := by kernel_rfl
theorem tfd23_3 : tField Tryd.prog 23 3 = some (3, 3) := by kernel_rfl
theorem tis23 : tIs Tryd.prog 23 = true := by kernel_rfl
theorem tsz25 : tSize Tryd.prog 25 = some 4 := by kernel_rfl
theorem tby25 : tBytes Tryd.prog 25 = some 32 := by kernel_rfl
theorem tag25 : tAgg Tryd.prog 25 = some true := by kernel_rfl
theorem tze25 : tZero Tryd.prog 25 = some [.int .i64 0, .int .i64 0, .int .i64 0, .int .i64 0] := by kernel_rfl
theorem tsc25 : tSct Tryd.prog 25 = true := by kernel_rfl
theorem tfd25_0 : tField Tryd.prog 25 0 = some (0, 3) := by kernel_rfl
theorem tfd25_1 : tField Tryd.prog 25 1 = some (1, 3) := by kernel_rfl
theorem tfd25_2 : tField Tryd.prog 25 2 = some (2, 3) := by kernel_rfl
theorem tfd25_3 : tField Tryd.prog 25 3 = some (3, 3) := by kernel_rfl
theorem tis25 : tIs Tryd.prog 25 = true := by kernel_rfl
theorem tsz29 : tSize Tryd.prog 29 = some 6 := by kernel_rfl
theorem tby29 : tBytes Tryd.prog 29 = some 48 := by kernel_rfl
theorem tag29 : tAgg Tryd.prog 29 = some true := by kernel_rfl
theorem tze29 : tZero Tryd.prog 29 = some [.int .i64 0, .bool false, .int .i64 0, .int .i64 0, .int .i64 0, .int .i64 0] := by kernel_rfl
theorem tsc29 : tSct Tryd.prog 29 = true := by kernel_rfl
theorem tfd29_0 : tField Tryd.prog 29 0 = some (0, 3) := by kernel_rfl
theorem tfd29_1 : tField Tryd.prog 29 1 = some (1, 4) := by kernel_rfl
theorem tfd29_2 : tField Tryd.prog 29 2 = some (2, 23) := by kernel_rfl
theorem tis29 : tIs Tryd.prog 29 = true := by kernel_rfl
theorem tsz32 : tSize Tryd.prog 32 = some 6 := by kernel_rfl
theorem tby32 : tBytes Tryd.prog 32 = some 48 := by kernel_rfl
theorem tag32 : tAgg Tryd.prog 32 = some true := by kernel_rfl
theorem tze32 : tZero Tryd.prog 32 = some [.int .i64 0, .bool false, .int .i64 0, .int .i64 0, .int .i64 0, .int .i64 0] := by kernel_rfl
theorem tsc32 : tSct Tryd.prog 32 = true := by kernel_rfl
theorem tfd32_0 : tField Tryd.prog 32 0 = some (0, 3) := by kernel_rfl
theorem tfd32_1 : tField Tryd.prog 32 1 = some (1, 4) := by kernel_rfl
theorem tfd32_2 : tField Tryd.prog 32 2 = some (2, 25) := by kernel_rfl
theorem tis32 : tIs Tryd.prog 32 = true := by kernel_rfl
theorem tsz39 : tSize Tryd.prog 39 = some 1 := by kernel_rfl
theorem tby39 : tBytes Tryd.prog 39 = some 24 := by kernel_rfl
theorem tag39 : tAgg Tryd.prog 39 = some false := by kernel_rfl
theorem tze39 : tZero Tryd.prog 39 = some [.nilsl] := by kernel_rfl
theorem tel39 : tElem Tryd.prog 39 = some 5 := by kernel_rfl
theorem tsl39 : tSli Tryd.prog 39 = true := by kernel_rfl
theorem tis39 : tIs Tryd.prog 39 = true := by kernel_rfl
theorem tsz48 : tSize Tryd.prog 48 = some 1 := by kernel_rfl
theorem tby48 : tBytes Tryd.prog 48 = some 24 := by kernel_rfl
theorem tag48 : tAgg Tryd.prog 48 = some false := by kernel_rfl
theorem tze48 : tZero Tryd.prog 48 = some [.nilsl] := by kernel_rfl
theorem tel48 : tElem Tryd.prog 48 = some 9 := by kernel_rfl
theorem tsl48 : tSli Tryd.prog 48 = true := by kernel_rfl
theorem tis48 : tIs Tryd.prog 48 = true := by kernel_rfl
theorem tsz56 : tSize Tryd.prog 56 = some 1 := by kernel_rfl
theorem tby56 : tBytes Tryd.prog 56 = some 16 := by kernel_rfl
theorem tag56 : tAgg Tryd.prog 56 = some false := by kernel_rfl
theorem tze56 : tZero Tryd.prog 56 = some [.nilif] := by kernel_rfl
theorem tif56 : tIfc Tryd.prog 56 = true := by kernel_rfl
theorem tis56 : tIs Tryd.prog 56 = true := by kernel_rfl
theorem tsz71 : tSize Tryd.prog 71 = some 1 := by kernel_rfl
theorem tby71 : tBytes Tryd.prog 71 = some 24 := by kernel_rfl
theorem tag71 : tAgg Tryd.prog 71 = some false := by kernel_rfl
theorem tze71 : tZero Tryd.prog 71 = some [.nilsl] := by kernel_rfl
theorem tel71 : tElem Tryd.prog 71 = some 3 := by kernel_rfl
theorem tsl71 : tSli Tryd.prog 71 = true := by kernel_rfl
theorem tis71 : tIs Tryd.prog 71 = true := by kernel_rfl
theorem tsz73 : tSize Tryd.prog 73 = some 3 := by kernel_rfl
theorem tby73 : tBytes Tryd.prog 73 = some 40 := by kernel_rfl
theorem tag73 : tAgg Tryd.prog 73 = some true := by kernel_rfl
theorem tze73 : tZero Tryd.prog 73 = some [.nilsl, .int .i64 0, .int .i64 0] := by kernel_rfl
theorem tsc73 : tSct Tryd.prog 73 = true := by kernel_rfl
theorem tfd73_0 : tField Tryd.prog 73 0 = some (0, 39) := by kernel_rfl
theorem tfd73_1 : tField Tryd.prog 73 1 = some (1, 3) := by kernel_rfl
theorem tfd73_2 : tField Tryd.prog 73 2 = some (2, 3) := by kernel_rfl
theorem tis73 : tIs Tryd.prog 73 = true := by kernel_rfl
theorem tsz86 : tSize Tryd.prog 86 = some 3 := by kernel_rfl
theorem tby86 : tBytes Tryd.prog 86 = some 24 := by kernel_rfl
theorem tag86 : tAgg Tryd.prog 86 = some true := by kernel_rfl
theorem tze86 : tZero Tryd.prog 86 = some [.int .i64 0, .int .i64 0, .int .i64 0] := by kernel_rfl
theorem tsc86 : tSct Tryd.prog 86 = true := by kernel_rfl
theorem tfd86_0 : tField Tryd.prog 86 0 = some (0, 3) := by kernel_rfl
theorem tfd86_1 : tField Tryd.prog 86 1 = some (1, 3) := by kernel_rfl
theorem tfd86_2 : tField Tryd.prog 86 2 = some (2, 3) := by kernel_rfl
theorem tis86 : tIs Tryd.prog 86 = true := by kernel_rfl
theorem tsz91 : tSize Tryd.prog 91 = some 1 := by kernel_rfl
theorem tby91 : tBytes Tryd.prog 91 = some 8 := by kernel_rfl
theorem tag91 : tAgg Tryd.prog 91 = some false := by kernel_rfl
theorem tze91 : tZero Tryd.prog 91 = some [.int .u64 0] := by kernel_rfl
theorem tin91 : tInt Tryd.prog 91 = some .u64 := by kernel_rfl
theorem tis91 : tIs Tryd.prog 91 = true := by kernel_rfl
theorem tis94 : tIs Tryd.prog 94 = true := by kernel_rfl
theorem tsz95 : tSize Tryd.prog 95 = some 1 := by kernel_rfl
theorem tby95 : tBytes Tryd.prog 95 = some 8 := by kernel_rfl
theorem tag95 : tAgg Tryd.prog 95 = some false := by kernel_rfl
theorem tze95 : tZero Tryd.prog 95 = some [.int .u64 0] := by kernel_rfl
theorem tin95 : tInt Tryd.prog 95 = some .u64 := by kernel_rfl
theorem tis95 : tIs Tryd.prog 95 = true := by kernel_rfl
theorem tsz106 : tSize Tryd.prog 106 = some 3 := by kernel_rfl
theorem tby106 : tBytes Tryd.prog 106 = some 48 := by kernel_rfl
theorem tag106 : tAgg Tryd.prog 106 = some true := by kernel_rfl
theorem tze106 : tZero Tryd.prog 106 = some [.str ⟨#[]⟩, .str ⟨#[]⟩, .nilif] := by kernel_rfl
theorem tsc106 : tSct Tryd.prog 106 = true := by kernel_rfl
theorem tfd106_0 : tField Tryd.prog 106 0 = some (0, 9) := by kernel_rfl
theorem tfd106_1 : tField Tryd.prog 106 1 = some (1, 9) := by kernel_rfl
theorem tfd106_2 : tField Tryd.prog 106 2 = some (2, 56) := by kernel_rfl
theorem tis106 : tIs Tryd.prog 106 = true := by kernel_rfl
theorem tis110 : tIs Tryd.prog 110 = true := by kernel_rfl
theorem tsz111 : tSize Tryd.prog 111 = some 1 := by kernel_rfl
theorem tby111 : tBytes Tryd.prog 111 = some 4 := by kernel_rfl
theorem tag111 : tAgg Tryd.prog 111 = some false := by kernel_rfl
theorem tze111 : tZero Tryd.prog 111 = some [.int .u32 0] := by kernel_rfl
theorem tin111 : tInt Tryd.prog 111 = some .u32 := by kernel_rfl
theorem tis111 : tIs Tryd.prog 111 = true := by kernel_rfl
theorem tis112 : tIs Tryd.prog 112 = true := by kernel_rfl
theorem tsz118 : tSize Tryd.prog 118 = some 1 := by kernel_rfl
theorem tby118 : tBytes Tryd.prog 118 = some 8 := by kernel_rfl
theorem tag118 : tAgg Tryd.prog 118 = some false := by kernel_rfl
theorem tze118 : tZero Tryd.prog 118 = some [.nilp] := by kernel_rfl
theorem tis118 : tIs Tryd.prog 118 = true := by kernel_rfl
theorem tsz121 : tSize Tryd.prog 121 = some 1 := by kernel_rfl
theorem tby121 : tBytes Tryd.prog 121 = some 16 := by kernel_rfl
theorem tag121 : tAgg Tryd.prog 121 = some true := by kernel_rfl
theorem tze121 : tZero Tryd.prog 121 = some [.str ⟨#[]⟩] := by kernel_rfl
theorem tsc121 : tSct Tryd.prog 121 = true := by kernel_rfl
theorem tfd121_0 : tField Tryd.prog 121 0 = some (0, 9) := by kernel_rfl
theorem tis121 : tIs Tryd.prog 121 = true := by kernel_rfl
theorem tis123 : tIs Tryd.prog 123 = true := by kernel_rfl
theorem tis124 : tIs Tryd.prog 124 = true := by kernel_rfl
attribute [go_sem] tsz2 tby2 tag2 tze2 tin2 tis2 tsz3 tby3 tag3 tze3 tin3 tis3 tsz4 tby4 tag4 tze4 tbo4 tis4 tsz5 tby5 tag5 tze5 tin5 tis5 tsz9 tby9 tag9 tze9 tst9 tis9 tsz21 tby21 tag21 tze21 tin21 tis21 tsz23 tby23 tag23 tze23 tsc23 tfd23_0 tfd23_1 tfd23_2 tfd23_3 tis23 tsz25 tby25 tag25 tze25 tsc25 tfd25_0 tfd25_1 tfd25_2 tfd25_3 tis25 tsz29 tby29 tag29 tze29 tsc29 tfd29_0 tfd29_1 tfd29_2 tis29 tsz32 tby32 tag32 tze32 tsc32 tfd32_0 tfd32_1 tfd32_2 tis32 tsz39 tby39 tag39 tze39 tel39 tsl39 tis39 tsz48 tby48 tag48 tze48 tel48 tsl48 tis48 tsz56 tby56 tag56 tze56 tif56 tis56 tsz71 tby71 tag71 tze71 tel71 tsl71 tis71 tsz73 tby73 tag73 tze73 tsc73 tfd73_0 tfd73_1 tfd73_2 tis73 tsz86 tby86 tag86 tze86 tsc86 tfd86_0 tfd86_1 tfd86_2 tis86 tsz91 tby91 tag91 tze91 tin91 tis91 tis94 tsz95 tby95 tag95 tze95 tin95 tis95 tsz106 tby106 tag106 tze106 tsc106 tfd106_0 tfd106_1 tfd106_2 tis106 tis110 tsz111 tby111 tag111 tze111 tin111 tis111 tis112 tsz118 tby118 tag118 tze118 tis118 tsz121 tby121 tag121 tze121 tsc121 tfd121_0 tis121 tis123 tis124
set_option maxRecDepth 100000 in
theorem teq25 {a0 : Int} {b0 : Int} {a1 : Int} {b1 : Int} {a2 : Int} {b2 : Int} {a3 : Int} {b3 : Int} : eqV Tryd.prog Op.maxDepth 25 (.agg [(.int .i64 a0), (.int .i64 a1), (.int .i64 a2), (.int .i64 a3)]) (.agg [(.int .i64 b0), (.int .i64 b1), (.int .i64 b2), (.int .i64 b3)]) = some ((decide (a0 = b0)) && ((decide (a1 = b1)) && ((decide (a2 = b2)) && ((decide (a3 = b3)) && true)))) := (eqV_struct Tryd.underlying25 (by kernel_rfl) (eqFs_cons (by decide) (a := (.int .i64 a0)) (b := (.int .i64 b0)) (by simp only [go_sem]; try rfl) (by simp only [go_sem]; try rfl) (eqV_int (by simp only [tin3]; rfl)) (eqFs_cons (by decide) (a := (.int .i64 a1)) (b := (.int .i64 b1)) (by simp only [go_sem]; try rfl) (by simp only [go_sem]; try rfl) (eqV_int (by simp only [tin3]; rfl)) (eqFs_cons (by decide) (a := (.int .i64 a2)) (b := (.int .i64 b2)) (by simp only [go_sem]; try rfl) (by simp only [go_sem]; try rfl) (eqV_int (by simp only [tin3]; rfl)) (eqFs_cons (by decide) (a := (.int .i64 a3)) (b := (.int .i64 b3)) (by simp only [go_sem]; try rfl) (by simp only [go_sem]; try rfl) (eqV_int (by simp only [tin3]; rfl)) eqFs_nil)))))
theorem tgd25 : Tryd.prog.eqGuardType Tryd.prog.depth 25 = false := by kernel_rfl
attribute [go_sem] teq25 tgd25
end Go.Proofs.YtgpjgljgplngpaaDoor.AM
