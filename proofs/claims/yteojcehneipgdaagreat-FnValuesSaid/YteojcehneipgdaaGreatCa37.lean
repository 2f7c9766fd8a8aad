/- What an entry that is ready comes to. No conditions but those each theorem bears. -/
import Derived.Test.YteojcehneipgdaaGreatFa
import Derived.Test.YteojcehneipgdaaGreatM5
import Derived.Test.YteojcehneipgdaaGreatCa14b
import Derived.Test.YteojcehneipgdaaGreatCa15
import Derived.Test.YteojcehneipgdaaGreatCa17
import Derived.Test.YteojcehneipgdaaGreatCa24
import Derived.Test.YteojcehneipgdaaGreatCa20f
import Derived.Test.YteojcehneipgdaaGreatCa34
set_option linter.unusedSimpArgs false
set_option linter.unusedVariables false
namespace Go.Proofs.YteojcehneipgdaaGreat.AM
open Go
set_option maxHeartbeats 8000000
set_option maxRecDepth 100000

theorem sat_spec_l14Effect (c : Cor) (i : Int) (hf : c.fit) (hr : ready c i = true) : Sat Tryz.prog 123 [.agg c.cells, .int .i64 i] [] (.agg (Fx.cells (doneBy c i (c.rob.getD i.toNat noEnt)))) [] := by
 have hX := trivial
 refine sat_mk [.cell 4 61] 0 82 Tryz.call123 Tryz.func123 Tryz.ntmps123 rfl rfl rfl rfl rfl ?_
 refine zI [0, 1] ?_
 refine zS [1, 2, 4] ?_
 have hp := ready_parts hr
 have hw := inR_iff.1 hp.2.1
 have hn2 : i.toNat < c.rob.length := by omega
 have hk := ent_regs hp.1 hn2
 have hva := value_ok (i := i) hp.1 hk.2.1
 have hvb := value_ok (i := i) hp.1 hk.2.2
 have hX0 := hX
 replace hX := And.intro hn2 hX
 refine zS [1, 2, 4, 5] ?_
 clear hX
 have hX := hX0
 clear hX0
 have hX0 := hX
 replace hX := And.intro hn2 hX
 refine zS [1, 2, 4, 5, 6] ?_
 clear hX
 have hX := hX0
 clear hX0
 refine zSF [1, 2, 4, 5, 6, 7] (sat_spec_l12Value c i (c.rob.getD i.toNat noEnt).x.a hf (corOk_reg hp.1 hk.2.1)) ?_
 refine zSF [1, 2, 4, 5, 6, 7, 9] (sat_spec_l12Value c i (c.rob.getD i.toNat noEnt).x.b hf (corOk_reg hp.1 hk.2.2)) ?_
 refine zS [1, 2, 4, 5, 6, 7, 9, 11, 12] ?_
 refine zS [1, 2, 4, 5, 6, 7, 9, 11, 12, 43] ?_
 intro ρ hL
 refine awl_block fun R1 hw1 hR1 => ?_
 revert ρ hL
 refine zS [1, 2, 4, 5, 6, 7, 9, 11, 12, 43, 44] ?_
 refine zC ?_ ?_
 · intro c1
   refine zSF [4, 5, 6, 7, 9, 11, 12] (sat_spec_Found c i (valueRaw c i (c.rob.getD i.toNat noEnt).x.a).1 (wadd (valueRaw c i (c.rob.getD i.toNat noEnt).x.a).1.n (c.rob.getD i.toNat noEnt).x.n) hf) ?_
   intro ρ hL
   refine awl_nil ?_
   refine blk_normal (hR1 _ _ (.mk ?_))
   revert ρ hL
   refine zS [4, 5, 6, 7, 9, 11, 12, 72] ?_
   refine zC ?_ ?_
   · intro c2
     refine zSF [4] (sat_spec_l9Trap _ _) ?_
     refine zR ?_
     try simp only [go_sem, simprocAttr]
     all_goals try clear hR1
     all_goals (rw [doneBy, fxAt_trap (by rw [at_load c1]; exact c2), at_load c1] <;> rfl)
   · intro c2
     intro ρ hL
     refine awl_skip ?_
     revert ρ hL
     refine zSF [4] (sat_spec_Work (c.rob.getD i.toNat noEnt).x (c.rob.getD i.toNat noEnt).pc (valueRaw c i (c.rob.getD i.toNat noEnt).x.a).1 (valueRaw c i (c.rob.getD i.toNat noEnt).x.b).1 (found c i (valueRaw c i (c.rob.getD i.toNat noEnt).x.a).1 (wadd (valueRaw c i (c.rob.getD i.toNat noEnt).x.a).1.n (c.rob.getD i.toNat noEnt).x.n)).1) ?_
     refine zR ?_
     try simp only [go_sem, simprocAttr]
     all_goals try clear hR1
     all_goals (rw [doneBy, fxAt_go (by rw [at_load c1]; exact c2), at_load c1] <;> rfl)
 · intro c1
   refine zS [2, 4, 5, 6, 7, 9, 11, 12, 58] ?_
   refine zC ?_ ?_
   · intro c3
     refine zSF [4, 5, 6, 7, 9, 11, 12] (sat_spec_l8Write c.s.mem (valueRaw c i (c.rob.getD i.toNat noEnt).x.a).1 (wadd (valueRaw c i (c.rob.getD i.toNat noEnt).x.a).1.n (c.rob.getD i.toNat noEnt).x.n) (valueRaw c i (c.rob.getD i.toNat noEnt).x.b).1 hf.1.2) ?_
     intro ρ hL
     refine awl_nil ?_
     refine blk_normal (hR1 _ _ (.mk ?_))
     revert ρ hL
     refine zS [4, 5, 6, 7, 9, 11, 12, 72] ?_
     refine zC ?_ ?_
     · intro c4
       refine zSF [4] (sat_spec_l9Trap _ _) ?_
       refine zR ?_
       try simp only [go_sem, simprocAttr]
       all_goals try clear hR1
       all_goals (rw [doneBy, fxAt_trap (by rw [at_store c1 c3]; exact c4), at_store c1 c3] <;> rfl)
     · intro c4
       intro ρ hL
       refine awl_skip ?_
       revert ρ hL
       refine zSF [4] (sat_spec_Work (c.rob.getD i.toNat noEnt).x (c.rob.getD i.toNat noEnt).pc (valueRaw c i (c.rob.getD i.toNat noEnt).x.a).1 (valueRaw c i (c.rob.getD i.toNat noEnt).x.b).1 noWord) ?_
       refine zR ?_
       try simp only [go_sem, simprocAttr]
       all_goals try clear hR1
       all_goals (rw [doneBy, fxAt_go (by rw [at_store c1 c3]; exact c4), at_store c1 c3] <;> rfl)
   · intro c3
     intro ρ hL
     refine awl_skip ?_
     refine awl_nil ?_
     refine blk_normal (hR1 _ _ (.mk ?_))
     revert ρ hL
     refine zS [4, 5, 6, 7, 9, 11, 12, 72] ?_
     refine zQ ?_ ?_
     · intro c5
       try simp only [cnd] at c5
       first | done | simp at c5
     · intro c5
       try simp only [cnd] at c5
       intro ρ hL
       refine awl_skip ?_
       revert ρ hL
       refine zSF [4] (sat_spec_Work (c.rob.getD i.toNat noEnt).x (c.rob.getD i.toNat noEnt).pc (valueRaw c i (c.rob.getD i.toNat noEnt).x.a).1 (valueRaw c i (c.rob.getD i.toNat noEnt).x.b).1 noWord) ?_
       refine zR ?_
       try simp only [go_sem, simprocAttr]
       all_goals try clear hR1
       all_goals (rw [doneBy, fxAt_go (by rw [at_none c1 c3]), at_none c1 c3] <;> rfl)
theorem sat_impl_doneBy (c : Cor) (i : Int) (hf : c.fit) (hr : ready c i = true) : Sat Tryz.prog 122 [.agg c.cells, .int .i64 i] [] (.agg (Fx.cells (doneBy c i (c.rob.getD i.toNat noEnt)))) [] := by
 have hX := trivial
 refine sat_mk [.cell 4 61] 0 82 Tryz.call122 Tryz.func122 Tryz.ntmps122 rfl rfl rfl rfl rfl ?_
 refine zI [0, 1] ?_
 refine zS [1, 2, 4] ?_
 have hp := ready_parts hr
 have hw := inR_iff.1 hp.2.1
 have hn2 : i.toNat < c.rob.length := by omega
 have hk := ent_regs hp.1 hn2
 have hva := value_ok (i := i) hp.1 hk.2.1
 have hvb := value_ok (i := i) hp.1 hk.2.2
 have hX0 := hX
 replace hX := And.intro hn2 hX
 refine zD [0, 1, 0, 7, 15, 31, 0, 64, 0, 448, 960, 1984, 0, 0, 12351, 32767] [1, 2, 4, 5, 6] ?_
 clear hX
 have hX := hX0
 clear hX0
 have hX0 := hX
 replace hX := And.intro hva hX
 refine zSF [1, 2, 4, 5, 6, 7] (sat_impl_Value c i (c.rob.getD i.toNat noEnt).x.a hf) ?_
 clear hX
 have hX := hX0
 clear hX0
 have hX0 := hX
 replace hX := And.intro hvb hX
 refine zSF [1, 2, 4, 5, 6, 7, 9] (sat_impl_Value c i (c.rob.getD i.toNat noEnt).x.b hf) ?_
 clear hX
 have hX := hX0
 clear hX0
 refine zS [1, 2, 4, 5, 6, 7, 9, 11, 12] ?_
 refine zS [1, 2, 4, 5, 6, 7, 9, 11, 12, 43] ?_
 intro ρ hL
 refine awl_block fun R1 hw1 hR1 => ?_
 revert ρ hL
 refine zS [1, 2, 4, 5, 6, 7, 9, 11, 12, 43, 44] ?_
 refine zC ?_ ?_
 · intro c1
   refine zSF [4, 5, 6, 7, 9, 11, 12] (sat_impl_Found c i (valueRaw c i (c.rob.getD i.toNat noEnt).x.a).1 (wadd (valueRaw c i (c.rob.getD i.toNat noEnt).x.a).1.n (c.rob.getD i.toNat noEnt).x.n) hf) ?_
   intro ρ hL
   refine awl_nil ?_
   refine blk_normal (hR1 _ _ (.mk ?_))
   revert ρ hL
   refine zS [4, 5, 6, 7, 9, 11, 12, 72] ?_
   refine zC ?_ ?_
   · intro c2
     refine zSF [4] (sat_impl_trapped _ _) ?_
     refine zR ?_
     try simp only [go_sem, simprocAttr]
     all_goals try clear hR1
     all_goals (rw [doneBy, fxAt_trap (by rw [at_load c1]; exact c2), at_load c1] <;> rfl)
   · intro c2
     intro ρ hL
     refine awl_skip ?_
     revert ρ hL
     refine zSF [4] (sat_impl_Work (c.rob.getD i.toNat noEnt).x (c.rob.getD i.toNat noEnt).pc (valueRaw c i (c.rob.getD i.toNat noEnt).x.a).1 (valueRaw c i (c.rob.getD i.toNat noEnt).x.b).1 (found c i (valueRaw c i (c.rob.getD i.toNat noEnt).x.a).1 (wadd (valueRaw c i (c.rob.getD i.toNat noEnt).x.a).1.n (c.rob.getD i.toNat noEnt).x.n)).1) ?_
     refine zR ?_
     try simp only [go_sem, simprocAttr]
     all_goals try clear hR1
     all_goals (rw [doneBy, fxAt_go (by rw [at_load c1]; exact c2), at_load c1] <;> rfl)
 · intro c1
   refine zS [2, 4, 5, 6, 7, 9, 11, 12, 58] ?_
   refine zC ?_ ?_
   · intro c3
     refine zSF [4, 5, 6, 7, 9, 11, 12] (sat_impl_writeCode c.s.mem (valueRaw c i (c.rob.getD i.toNat noEnt).x.a).1 (wadd (valueRaw c i (c.rob.getD i.toNat noEnt).x.a).1.n (c.rob.getD i.toNat noEnt).x.n) (valueRaw c i (c.rob.getD i.toNat noEnt).x.b).1 hf.1.2) ?_
     intro ρ hL
     refine awl_nil ?_
     refine blk_normal (hR1 _ _ (.mk ?_))
     revert ρ hL
     refine zS [4, 5, 6, 7, 9, 11, 12, 72] ?_
     refine zC ?_ ?_
     · intro c4
       refine zSF [4] (sat_impl_trapped _ _) ?_
       refine zR ?_
       try simp only [go_sem, simprocAttr]
       all_goals try clear hR1
       all_goals (rw [doneBy, fxAt_trap (by rw [at_store c1 c3]; exact c4), at_store c1 c3] <;> rfl)
     · intro c4
       intro ρ hL
       refine awl_skip ?_
       revert ρ hL
       refine zSF [4] (sat_impl_Work (c.rob.getD i.toNat noEnt).x (c.rob.getD i.toNat noEnt).pc (valueRaw c i (c.rob.getD i.toNat noEnt).x.a).1 (valueRaw c i (c.rob.getD i.toNat noEnt).x.b).1 noWord) ?_
       refine zR ?_
       try simp only [go_sem, simprocAttr]
       all_goals try clear hR1
       all_goals (rw [doneBy, fxAt_go (by rw [at_store c1 c3]; exact c4), at_store c1 c3] <;> rfl)
   · intro c3
     intro ρ hL
     refine awl_skip ?_
     refine awl_nil ?_
     refine blk_normal (hR1 _ _ (.mk ?_))
     revert ρ hL
     refine zS [4, 5, 6, 7, 9, 11, 12, 72] ?_
     refine zQ ?_ ?_
     · intro c5
       try simp only [cnd] at c5
       first | done | simp at c5
     · intro c5
       try simp only [cnd] at c5
       intro ρ hL
       refine awl_skip ?_
       revert ρ hL
       refine zSF [4] (sat_impl_Work (c.rob.getD i.toNat noEnt).x (c.rob.getD i.toNat noEnt).pc (valueRaw c i (c.rob.getD i.toNat noEnt).x.a).1 (valueRaw c i (c.rob.getD i.toNat noEnt).x.b).1 noWord) ?_
       refine zR ?_
       try simp only [go_sem, simprocAttr]
       all_goals try clear hR1
       all_goals (rw [doneBy, fxAt_go (by rw [at_none c1 c3]), at_none c1 c3] <;> rfl)
end Go.Proofs.YteojcehneipgdaaGreat.AM
