/- Desks compared and marked. No conditions but those each theorem bears. -/
import Derived.Test.YtgpjgljgplngpaaGreatDoorFa
import Derived.Test.YtgpjgljgplngpaaGreatDoorCa31
import Derived.Test.YtgpjgljgplngpaaGreatDoorCa22
import Derived.Test.YtgpjgljgplngpaaGreatDoorCa23
import Derived.Test.YtgpjgljgplngpaaGreatDoorCa13
import Derived.Test.YtgpjgljgplngpaaGreatDoorTxB
set_option linter.unusedSimpArgs false
set_option linter.unusedVariables false
namespace Go.Proofs.YtgpjgljgplngpaaGreatDoor.AM
open Go
set_option maxHeartbeats 8000000
set_option maxRecDepth 100000

theorem sat_laws_eqDesk (d : Dsk) (e : Dsk) (hf : d.fit) : Sat Tryz.prog 9 [.agg d.cells, .agg e.cells] [] (.bool (decide (d = e))) [] := by
 have hX := trivial
 refine sat_mk [.tmp 4] 0 23 Tryz.call9 Tryz.func9 Tryz.ntmps9 rfl rfl rfl rfl rfl ?_
 refine zI [0, 1] ?_
 refine zS [2, 3] ?_
 refine zSF [2, 3, 10] (sat_laws_eqInsS d.list e.list (Nat.le_trans hf.1 (by decide))) ?_
 refine zC ?_ ?_
 · intro c1
   refine zS [4] ?_
   refine zR ?_
   try simp only [go_sem, simprocAttr]
   all_goals (rw [decide_eq_false]; rintro rfl; first | exact c1 rfl | exact c2 rfl | exact c3 rfl | exact c4 rfl | exact c5 rfl | exact c6 rfl | exact c7 rfl | (simp at c1; done) | (simp at c2; done) | (simp at c3; done) | (simp at c4; done)| (simp at c5; done))
 · intro c1
   intro ρ hL
   refine awl_skip ?_
   revert ρ hL
   refine zSF [2, 3, 16] (sat_laws_eqCore d.c e.c hf.2.1) ?_
   refine zC ?_ ?_
   · intro c2
     refine zS [4] ?_
     refine zR ?_
     try simp only [go_sem, simprocAttr]
     all_goals (rw [decide_eq_false]; rintro rfl; first | exact c1 rfl | exact c2 rfl | exact c3 rfl | exact c4 rfl | exact c5 rfl | exact c6 rfl | exact c7 rfl | (simp at c1; done) | (simp at c2; done) | (simp at c3; done) | (simp at c4; done)| (simp at c5; done))
   · intro c2
     intro ρ hL
     refine awl_skip ?_
     revert ρ hL
     refine zSF [22] (sat_laws_eqIntS d.order e.order d.order.length e.order.length (Nat.le_trans hf.2.2 (by decide))) ?_
     refine zC ?_ ?_
     · intro c3
       refine zS [4] ?_
       refine zR ?_
       try simp only [go_sem, simprocAttr]
       all_goals (rw [decide_eq_false]; rintro rfl; first | exact c1 rfl | exact c2 rfl | exact c3 rfl | exact c4 rfl | exact c5 rfl | exact c6 rfl | exact c7 rfl | (simp at c1; done) | (simp at c2; done) | (simp at c3; done) | (simp at c4; done)| (simp at c5; done))
     · intro c3
       intro ρ hL
       refine awl_skip ?_
       revert ρ hL
       refine zS [4] ?_
       refine zR ?_
       try simp only [go_sem, simprocAttr]
       all_goals (rw [decide_eq_true]; cases d; cases e; simp_all)
section
attribute [local go_sem] Mem.marked Stt.marked Cor.markedQ Dsk.marked
theorem sat_laws_markDesk (d : Dsk) (t : Int) (hf : d.fit) (ht : 0 ≤ t ∧ t ≤ 1099200000000) : Sat Tryz.prog 10 [.agg (d.own 0 1 2 3 4 5 6), .int .i64 t] d.blks (.int .i64 (t + (d.cost : Nat))) (d.marked t).blks := by
 have hX := trivial
 refine sat_mk [.tmp 4] 7 18 Tryz.call10 Tryz.func10 Tryz.ntmps10 rfl rfl rfl rfl rfl ?_
 refine zI [0, 1] ?_
 refine zG [0, 1, 2, 3, 4, 5, 6, 7] [1, 2] ?_
 intro ρ hL
 refine zA ?_
 intro K hK
 refine zFI [0] (sat_laws_markInsS d.list t 0 (Nat.le_trans hf.1 (by decide)) (by omega)) ?_
 refine zEG [0, 1, 2, 3, 4, 5, 6, 7] [1, 2] ?_
 clear hK K hL
 intro ρ hL
 refine zA ?_
 intro K hK
 refine zFI [1, 2, 3, 4, 5] (sat_laws_markCore d.c (t + (5 * d.list.length : Nat)) hf.2.1 (by have := Cor.cost_le hf.2.1; have := hf.1; omega)) ?_
 refine zEG [0, 1, 2, 3, 4, 5, 6, 7] [1, 2] ?_
 clear hK K hL
 intro ρ hL
 refine zA ?_
 intro K hK
 refine zFI [6] (sat_laws_markIntS d.order (t + (5 * d.list.length : Nat) + (d.c.cost : Nat)) 0 (Nat.le_trans hf.2.2 (by decide)) (by have := Cor.cost_le hf.2.1; have := hf.1; omega)) ?_
 refine zEG [0, 1, 2, 3, 4, 5, 6] [1] ?_
 clear hK K hL
 refine zG [0, 1, 2, 3, 4, 5, 6] [4] ?_
 refine zK [] [0, 1, 2, 3, 4, 5, 6] ?_ ?_
 all_goals try simp only [go_sem, simprocAttr, hX]
 all_goals (first | done | rfl | (congr 1; simp only [Dsk.cost]; omega))
end
section
attribute [local go_sem] Mem.marked Stt.marked Cor.markedQ Dsk.marked mrow_len marks_len
theorem sat_laws_heldDesk (d : Dsk) (t : Int) (hf : d.fit) (ht : 0 ≤ t ∧ t ≤ 1099200000000) : Sat Tryz.prog 11 [.agg (Dsk.cells (d.marked t)), .int .i64 t] [] (.int .i64 (t + (d.cost : Nat))) [] := by
 have hX := trivial
 refine sat_mk [.tmp 4] 0 24 Tryz.call11 Tryz.func11 Tryz.ntmps11 rfl rfl rfl rfl rfl ?_
 refine zI [0, 1] ?_
 refine zS [1, 2] ?_
 refine zSF [1, 2] (sat_laws_heldInsS d.list.length t d.list.length (Nat.le_trans hf.1 (by decide)) (by omega)) ?_
 refine zS [1, 2, 10] ?_
 refine zQ ?_ ?_
 · intro c1
   try simp only [cnd] at c1
   omega
 · intro c1
   try simp only [cnd] at c1
   intro ρ hL
   refine awl_skip ?_
   revert ρ hL
   refine zSF [1, 2] (sat_laws_heldCore d.c (t + (5 * d.list.length : Nat)) hf.2.1 (by have := Cor.cost_le hf.2.1; have := hf.1; omega)) ?_
   refine zS [1, 2, 16] ?_
   refine zQ ?_ ?_
   · intro c2
     try simp only [cnd] at c2
     omega
   · intro c2
     try simp only [cnd] at c2
     intro ρ hL
     refine awl_skip ?_
     revert ρ hL
     refine zSF [1] (sat_laws_heldIntS d.order.length (t + (5 * d.list.length : Nat) + (d.c.cost : Nat)) d.order.length (Nat.le_trans hf.2.2 (by decide)) (by have := Cor.cost_le hf.2.1; have := hf.1; omega)) ?_
     refine zS [1, 22] ?_
     refine zQ ?_ ?_
     · intro c3
       try simp only [cnd] at c3
       omega
     · intro c3
       try simp only [cnd] at c3
       intro ρ hL
       refine awl_skip ?_
       revert ρ hL
       refine zS [4] ?_
       refine zR ?_
       try simp only [go_sem, simprocAttr]
       all_goals (first | done | rfl | (congr 1; simp only [Dsk.cost]; omega))
end
end Go.Proofs.YtgpjgljgplngpaaGreatDoor.AM
