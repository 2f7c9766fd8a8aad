/- What the command at a place comes to. No conditions but those each theorem bears. -/
import Derived.Test.YteojcehneipgdaaGreatFa
import Derived.Test.YteojcehneipgdaaGreatCa24
import Derived.Test.YteojcehneipgdaaGreatCa15
set_option linter.unusedSimpArgs false
set_option linter.unusedVariables false
namespace Go.Proofs.YteojcehneipgdaaGreat.AM
open Go
set_option maxHeartbeats 8000000
set_option maxRecDepth 100000

theorem sat_spec_l9Mem (m : Mem) (x : Ins) (a : Word) (b : Word) (hf : m.fit) : Sat Tryz.prog 74 [.agg m.cells, .agg x.cells, .agg a.cells, .agg b.cells] [] (.tuple [.agg (Word.cells (memOf m x a b).1), .int .i64 (memOf m x a b).2]) [] := by
 have hX := trivial
 refine sat_mk [.cell 8 29, .tmp 9] 0 42 Tryz.call74 Tryz.func74 Tryz.ntmps74 rfl rfl rfl rfl rfl ?_
 refine zI [0, 1, 2, 3] ?_
 refine zS [4, 5, 6, 7, 8] ?_
 refine zS [4, 5, 6, 7, 8, 13] ?_
 intro ρ hL
 refine awl_block fun R1 hw1 hR1 => ?_
 revert ρ hL
 refine zS [4, 5, 6, 7, 8, 13, 14] ?_
 refine zC ?_ ?_
 · intro c1
   refine zSF [8, 10, 11] (sat_spec_Read _ _ _ ?hp0) ?_
   case hp0 => first | assumption | omega | (simp; done)
   refine zS [8, 9] ?_
   refine zR ?_
   try simp only [go_sem, simprocAttr]
   all_goals try clear hR1
   all_goals (rw [mem_load c1] <;> rfl)
 · intro c1
   refine zS [4, 5, 6, 7, 8, 29] ?_
   refine zC ?_ ?_
   · intro c2
     refine zSF [8, 9] (sat_spec_l8Write _ _ _ _ ?hp0) ?_
     case hp0 => first | assumption | omega | (simp; done)
     refine zR ?_
     try simp only [go_sem, simprocAttr]
     all_goals try clear hR1
     all_goals (rw [mem_store c1 c2] <;> rfl)
   · intro c2
     intro ρ hL
     refine awl_skip ?_
     refine awl_nil ?_
     refine blk_normal (hR1 _ _ (.mk ?_))
     revert ρ hL
     refine zS [8, 9] ?_
     refine zR ?_
     try simp only [go_sem, simprocAttr]
     all_goals try clear hR1
     all_goals (rw [mem_none c1 c2] <;> rfl)
theorem sat_impl_effectOf (l : List Ins) (s : Stt) (hl : l.length ≤ 1048576) (hf : s.fit) (hk : sttOk s = true) : Sat Tryz.prog 68 [.sl l.length l.length (rows l), .agg s.cells] [] (.agg (Fx.cells (fxOf l s))) [] := by
 have hX := trivial
 refine sat_mk [.cell 4 61] 0 77 Tryz.call68 Tryz.func68 Tryz.ntmps68 rfl rfl rfl rfl rfl ?_
 refine zI [0, 1] ?_
 refine zS [0, 3, 4] ?_
 refine zSF [3, 4, 5, 6] (sat_impl_Fetch l s.pc hl) ?_
 refine zS [3, 4, 5, 6, 18] ?_
 refine zC ?_ ?_
 · intro c1
   refine zSF [4] (sat_impl_trapped _ _) ?_
   refine zR ?_
   try simp only [go_sem, simprocAttr]
   all_goals (rw [fx_fetch c1] <;> rfl)
 · intro c1
   intro ρ hL
   refine awl_skip ?_
   have hx := fetch_regs c1
   have h8 := (sttOk_parts hk).2.1
   have hna : (fetch l s.pc).1.a.toNat < s.regs.length := by omega
   have hnb : (fetch l s.pc).1.b.toNat < s.regs.length := by omega
   have hX0 := hX
   replace hX := And.intro hna (And.intro hnb hX)
   revert ρ hL
   refine zD [0, 1, 0, 4, 15, 31, 0, 64, 0, 256, 960, 1984, 0, 0, 12351, 32767] [3, 4, 5, 6, 7, 8] ?_
   clear hX
   have hX := hX0
   clear hX0
   refine zS [3, 4, 5, 6, 7, 8, 9] ?_
   refine zS [3, 4, 5, 6, 7, 8, 9, 37] ?_
   intro ρ hL
   refine awl_block fun R1 hw1 hR1 => ?_
   revert ρ hL
   refine zS [3, 4, 5, 6, 7, 8, 9, 37, 38] ?_
   refine zC ?_ ?_
   · intro c2
     refine zSF [3, 4, 5, 6, 7, 8, 9] (sat_impl_Read s.mem _ _ hf.2) ?_
     intro ρ hL
     refine awl_nil ?_
     refine blk_normal (hR1 _ _ (.mk ?_))
     revert ρ hL
     refine zS [3, 4, 5, 6, 7, 8, 9, 65] ?_
     refine zC ?_ ?_
     · intro c3
       refine zSF [4] (sat_impl_trapped _ _) ?_
       refine zR ?_
       try simp only [go_sem, simprocAttr]
       all_goals try clear hR1
       all_goals (rw [fx_mem c1 (by rw [mem_load c2]; exact c3), mem_load c2] <;> rfl)
     · intro c3
       intro ρ hL
       refine awl_skip ?_
       revert ρ hL
       refine zSF [4] (sat_impl_Work _ _ _ _ _) ?_
       refine zR ?_
       try simp only [go_sem, simprocAttr]
       all_goals try clear hR1
       all_goals (rw [fx_work c1 (by rw [mem_load c2]; exact c3), mem_load c2] <;> rfl)
   · intro c2
     refine zS [3, 4, 5, 6, 7, 8, 9, 52] ?_
     refine zC ?_ ?_
     · intro c4
       refine zSF [3, 4, 5, 6, 7, 8, 9] (sat_impl_writeCode s.mem _ _ _ hf.2) ?_
       intro ρ hL
       refine awl_nil ?_
       refine blk_normal (hR1 _ _ (.mk ?_))
       revert ρ hL
       refine zS [3, 4, 5, 6, 7, 8, 9, 65] ?_
       refine zC ?_ ?_
       · intro c5
         refine zSF [4] (sat_impl_trapped _ _) ?_
         refine zR ?_
         try simp only [go_sem, simprocAttr]
         all_goals try clear hR1
         all_goals (rw [fx_mem c1 (by rw [mem_store c2 c4]; exact c5), mem_store c2 c4] <;> rfl)
       · intro c5
         intro ρ hL
         refine awl_skip ?_
         revert ρ hL
         refine zSF [4] (sat_impl_Work (fetch l s.pc).1 s.pc (reg s (fetch l s.pc).1.a) (reg s (fetch l s.pc).1.b) noWord) ?_
         refine zR ?_
         try simp only [go_sem, simprocAttr]
         all_goals try clear hR1
         all_goals (rw [fx_work c1 (by rw [mem_store c2 c4]; exact c5), mem_store c2 c4] <;> rfl)
     · intro c4
       intro ρ hL
       refine awl_skip ?_
       refine awl_nil ?_
       refine blk_normal (hR1 _ _ (.mk ?_))
       revert ρ hL
       refine zS [3, 4, 5, 6, 7, 8, 9, 65] ?_
       refine zQ ?_ ?_
       · intro c6
         try simp only [cnd] at c6
         exact absurd c1 c6
       · intro c6
         try simp only [cnd] at c6
         intro ρ hL
         refine awl_skip ?_
         revert ρ hL
         refine zSF [4] (sat_impl_Work (fetch l s.pc).1 s.pc (reg s (fetch l s.pc).1.a) (reg s (fetch l s.pc).1.b) noWord) ?_
         refine zR ?_
         try simp only [go_sem, simprocAttr]
         all_goals try clear hR1
         all_goals (rw [fx_work c1 (by rw [mem_none c2 c4]), mem_none c2 c4] <;> rfl)
end Go.Proofs.YteojcehneipgdaaGreat.AM
