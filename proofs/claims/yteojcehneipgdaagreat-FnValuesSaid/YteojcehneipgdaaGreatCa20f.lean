/- Fetching; what traps. No conditions but those each theorem bears. -/
import Derived.Test.YteojcehneipgdaaGreatFa
import Derived.Test.YteojcehneipgdaaGreatM5
import Derived.Test.YteojcehneipgdaaGreatCa5b
import Derived.Test.YteojcehneipgdaaGreatCa10
set_option linter.unusedSimpArgs false
set_option linter.unusedVariables false
namespace Go.Proofs.YteojcehneipgdaaGreat.AM
open Go
set_option maxHeartbeats 8000000
set_option maxRecDepth 100000

theorem sat_spec_l8Write (m : Mem) (by_ : Word) (n : Int) (w : Word) (hf : m.fit) : Sat Tryz.prog 147 [.agg m.cells, .agg by_.cells, .int .i64 n, .agg w.cells] [] (.int .i64 (writeT m by_ n w)) [] := by
 have hX := trivial
 refine sat_mk [.tmp 8] 0 30 Tryz.call147 Tryz.func147 Tryz.ntmps147 rfl rfl rfl rfl rfl ?_
 refine zI [0, 1, 2, 3] ?_
 refine zS [2, 4, 5, 7] ?_
 refine zSF [2, 4, 5, 7, 9] (sat_spec_Try _ _ _) ?_
 intro ρ hL
 refine awl_seq ?_
 refine awl_block fun R1 hw1 hR1 => ?_
 revert ρ hL
 refine zS [2, 4, 5, 7, 9, 13] ?_
 refine zC ?_ ?_
 · intro c1
   refine zS [8] ?_
   refine zR ?_
   try simp only [go_sem, simprocAttr]
   all_goals try clear hR1
   all_goals (rw [writeT, if_pos c1])
 · intro c1
   have hg := hf.1
   have w0 : IntKind.i64.wrap ((m.words.length : Int) - 1) = (m.words.length : Int) - 1 := wrap64 (by omega)
   have hX0 := hX
   replace hX := And.intro w0 hX
   refine zSF [5, 7, 17] (sat_spec_l1In _ _ _) ?_
   clear hX
   have hX := hX0
   clear hX0
   refine zC ?_ ?_
   · intro c2
     refine zS [8] ?_
     refine zR ?_
     try simp only [go_sem, simprocAttr]
     all_goals try clear hR1
     all_goals (rw [writeT, if_neg (fun h => h c1), if_pos c2])
   · intro c2
     refine zSF [25] (sat_spec_MayPut _ _) ?_
     refine zC ?_ ?_
     · intro c3
       refine zS [8] ?_
       refine zR ?_
       try simp only [go_sem, simprocAttr]
       all_goals try clear hR1
       all_goals (rw [writeT, if_neg (fun h => h c1), if_neg (by rw [c2]; exact Bool.noConfusion), if_pos c3])
     · intro c3
       intro ρ hL
       refine awl_skip ?_
       refine awl_nil ?_
       refine blk_normal (hR1 _ _ (.mk ?_))
       revert ρ hL
       refine zS [8] ?_
       refine zR ?_
       try simp only [go_sem, simprocAttr]
       all_goals try clear hR1
       all_goals (rw [writeT, if_neg (fun h => h c1), if_neg (by rw [c2]; exact Bool.noConfusion), if_neg (by rw [c3]; exact Bool.noConfusion)])
theorem sat_impl_writeCode (m : Mem) (by_ : Word) (n : Int) (w : Word) (hf : m.fit) : Sat Tryz.prog 142 [.agg m.cells, .agg by_.cells, .int .i64 n, .agg w.cells] [] (.int .i64 (writeT m by_ n w)) [] := by
 have hX := trivial
 refine sat_mk [.tmp 8] 0 30 Tryz.call142 Tryz.func142 Tryz.ntmps142 rfl rfl rfl rfl rfl ?_
 refine zI [0, 1, 2, 3] ?_
 refine zS [2, 4, 5, 7] ?_
 refine zSF [2, 4, 5, 7, 9] (sat_impl_Try _ _ _ ?hp0) ?_
 case hp0 => first | assumption | omega | (simp; done)
 intro ρ hL
 refine awl_seq ?_
 refine awl_block fun R1 hw1 hR1 => ?_
 revert ρ hL
 refine zS [2, 4, 5, 7, 9, 13] ?_
 refine zC ?_ ?_
 · intro c1
   refine zS [8] ?_
   refine zR ?_
   try simp only [go_sem, simprocAttr]
   all_goals try clear hR1
   all_goals (rw [writeT, if_pos c1])
 · intro c1
   have hg := hf.1
   have w0 : IntKind.i64.wrap ((m.words.length : Int) - 1) = (m.words.length : Int) - 1 := wrap64 (by omega)
   have hX0 := hX
   replace hX := And.intro w0 hX
   refine zSF [5, 7, 17] (sat_impl_in _ _ _) ?_
   clear hX
   have hX := hX0
   clear hX0
   refine zC ?_ ?_
   · intro c2
     refine zS [8] ?_
     refine zR ?_
     try simp only [go_sem, simprocAttr]
     all_goals try clear hR1
     all_goals (rw [writeT, if_neg (fun h => h c1), if_pos c2])
   · intro c2
     refine zSF [25] (sat_impl_MayPut _ _) ?_
     refine zC ?_ ?_
     · intro c3
       refine zS [8] ?_
       refine zR ?_
       try simp only [go_sem, simprocAttr]
       all_goals try clear hR1
       all_goals (rw [writeT, if_neg (fun h => h c1), if_neg (by rw [c2]; exact Bool.noConfusion), if_pos c3])
     · intro c3
       intro ρ hL
       refine awl_skip ?_
       refine awl_nil ?_
       refine blk_normal (hR1 _ _ (.mk ?_))
       revert ρ hL
       refine zS [8] ?_
       refine zR ?_
       try simp only [go_sem, simprocAttr]
       all_goals try clear hR1
       all_goals (rw [writeT, if_neg (fun h => h c1), if_neg (by rw [c2]; exact Bool.noConfusion), if_neg (by rw [c3]; exact Bool.noConfusion)])
theorem sat_spec_Fetch (l : List Ins) (w : Word) (hl : l.length ≤ 1048576) : Sat Tryz.prog 73 [.sl l.length l.length (rows l), .agg w.cells] [] (.tuple [.agg (Ins.cells (fetch l w).1), .int .i64 (fetch l w).2]) [] := by
 have hX := trivial
 refine sat_mk [.cell 4 59, .tmp 5] 0 37 Tryz.call73 Tryz.func73 Tryz.ntmps73 rfl rfl rfl rfl rfl ?_
 refine zI [0, 1] ?_
 refine zS [0, 3, 4] ?_
 refine zSF [0, 3, 4, 6] (sat_spec_Try _ _ _) ?_
 refine zS [0, 3, 4, 6, 12] ?_
 refine zC ?_ ?_
 · intro c1
   refine zS [4, 5] ?_
   refine zR ?_
   try simp only [go_sem, simprocAttr]
   all_goals (rw [fetch, if_pos c1] <;> rfl)
 · intro c1
   intro ρ hL
   refine awl_skip ?_
   have w0 : IntKind.i64.wrap ((l.length : Int) - 1) = (l.length : Int) - 1 := wrap64 (by omega)
   have hX0 := hX
   replace hX := And.intro w0 hX
   refine zA ?_
   intro K hK
   refine zF (sat_spec_l1In _ _ _) ?_
   refine zL [0, 3, 4, 22] ?_
   clear hL
   intro ρ hL
   refine grp_orN (tc := 22) (tv := 29) (td := 30) (v := ?v1) 7 rfl [0, 3, 4] hL.2.2.2 rfl (fun hb K1 hK1 => ?run) (fun hb => ?skip) (fun ρ hP hM => ?_)
   case skip => exact skA (want := false) (b := _) (by rw [hb]; rfl) hL.2.2.2 rfl
   case run =>
    simp only [List.take_succ_cons, List.take_zero]
    rw [hb] at hL
    have hw := inR_iff.1 (show inR w.n 0 ((l.length : Int) - 1) = true by revert hb; cases inR w.n 0 ((l.length : Int) - 1) <;> simp)
    have hn2 : w.n.toNat < l.length := by omega
    try simp only [go_sem, simprocAttr, hL, hX, hn2]
    repeat' refine And.intro (by first | rfl | omega | (simp; done)) ?_
    refine opS_call_ro rfl (sat_spec_InsOk ?_) ?ha ?hv ?hh ?_
    case ha => simp only [go_sem, simprocAttr, hL, hX, hn2]; first | done | rfl
    case hv => first | rfl | (simp only [go_sem]; done)
    case hh => first | rfl | (simp only [go_sem]; done)
    try simp only [go_sem, simprocAttr, hL, hX, hn2]
    repeat' refine And.intro (by first | rfl | omega | (simp; done)) ?_
    refine hK1 _ ?_ ?_ ?_ <;> simp only [go_sem, simprocAttr, hL, hX, hn2] <;> exact rfl
   simp only [List.drop_succ_cons, List.drop_zero]
   try simp only [go_sem, simprocAttr, hL, hX] at hM
   replace hL := And.intro hP hM
   clear hP hM
   try simp only [go_sem, simprocAttr, hL, hX]
   repeat' refine And.intro (by first | rfl | omega | (simp; done)) ?_
   refine zE [0, 3, 4, 30] ?_
   clear hK K hL
   clear hX
   have hX := hX0
   clear hX0
   refine zC ?_ ?_
   · intro c2
     refine zS [4, 5] ?_
     refine zR ?_
     try simp only [go_sem, simprocAttr]
     all_goals (rw [fetch, if_neg (fun h => h c1), if_neg (by rintro ⟨a, b⟩; rw [a, b] at c2; simp at c2)] <;> rfl)
   · intro c2
     intro ρ hL
     refine awl_skip ?_
     have hw := inR_iff.1 c2.1
     have hn2 : w.n.toNat < l.length := by omega
     have hX0 := hX
     replace hX := And.intro hn2 hX
     revert ρ hL
     refine zS [4, 5] ?_
     clear hX
     have hX := hX0
     clear hX0
     refine zR ?_
     try simp only [go_sem, simprocAttr]
     all_goals (rw [fetch, if_neg (fun h => h c1), if_pos c2] <;> rfl)
theorem sat_impl_Fetch (l : List Ins) (w : Word) (hl : l.length ≤ 1048576) : Sat Tryz.prog 95 [.sl l.length l.length (rows l), .agg w.cells] [] (.tuple [.agg (Ins.cells (fetch l w).1), .int .i64 (fetch l w).2]) [] := by
 have hX := trivial
 refine sat_mk [.cell 4 59, .tmp 5] 0 39 Tryz.call95 Tryz.func95 Tryz.ntmps95 rfl rfl rfl rfl rfl ?_
 refine zI [0, 1] ?_
 refine zS [0, 3, 4] ?_
 refine zSF [0, 3, 4, 6] (sat_impl_Try _ _ _ ?hp0) ?_
 case hp0 => first | assumption | omega | (simp; done)
 intro ρ hL
 refine awl_seq ?_
 refine awl_block fun R1 hw1 hR1 => ?_
 revert ρ hL
 refine zS [0, 3, 4, 6, 11] ?_
 refine zC ?_ ?_
 · intro c1
   refine zS [4, 5] ?_
   refine zR ?_
   try simp only [go_sem, simprocAttr]
   all_goals try clear hR1
   all_goals (rw [fetch, if_pos c1] <;> rfl)
 · intro c1
   have w0 : IntKind.i64.wrap ((l.length : Int) - 1) = (l.length : Int) - 1 := wrap64 (by omega)
   have hX0 := hX
   replace hX := And.intro w0 hX
   intro ρ hL
   refine zA ?_
   intro K hK
   refine zF (sat_impl_in _ _ _) ?_
   refine zL [0, 3, 4, 24] ?_
   clear hL
   intro ρ hL
   refine grp_orN (tc := 24) (tv := 31) (td := 32) (v := ?v1) 7 rfl [0, 3, 4] hL.2.2.2 rfl (fun hb K1 hK1 => ?run) (fun hb => ?skip) (fun ρ hP hM => ?_)
   case skip => exact skA (want := false) (b := _) (by rw [hb]; rfl) hL.2.2.2 rfl
   case run =>
    simp only [List.take_succ_cons, List.take_zero]
    rw [hb] at hL
    have hw := inR_iff.1 (show inR w.n 0 ((l.length : Int) - 1) = true by revert hb; cases inR w.n 0 ((l.length : Int) - 1) <;> simp)
    have hn2 : w.n.toNat < l.length := by omega
    try simp only [go_sem, simprocAttr, hL, hX, hn2]
    repeat' refine And.intro (by first | rfl | omega | (simp; done)) ?_
    refine opS_call_ro rfl (sat_impl_InsOk ?_) ?ha ?hv ?hh ?_
    case ha => simp only [go_sem, simprocAttr, hL, hX, hn2]; first | done | rfl
    case hv => first | rfl | (simp only [go_sem]; done)
    case hh => first | rfl | (simp only [go_sem]; done)
    try simp only [go_sem, simprocAttr, hL, hX, hn2]
    repeat' refine And.intro (by first | rfl | omega | (simp; done)) ?_
    refine hK1 _ ?_ ?_ ?_ <;> simp only [go_sem, simprocAttr, hL, hX, hn2] <;> exact rfl
   simp only [List.drop_succ_cons, List.drop_zero]
   try simp only [go_sem, simprocAttr, hL, hX] at hM
   replace hL := And.intro hP hM
   clear hP hM
   try simp only [go_sem, simprocAttr, hL, hX]
   repeat' refine And.intro (by first | rfl | omega | (simp; done)) ?_
   refine zE [0, 3, 4, 16] ?_
   clear hK K hL
   clear hX
   have hX := hX0
   clear hX0
   refine zC ?_ ?_
   · intro c2
     refine zS [4, 5] ?_
     refine zR ?_
     try simp only [go_sem, simprocAttr]
     all_goals try clear hR1
     all_goals (rw [fetch, if_neg (fun h => h c1), if_neg (by rintro ⟨a, b⟩; rw [a, b] at c2; simp at c2)] <;> rfl)
   · intro c2
     intro ρ hL
     refine awl_skip ?_
     refine awl_nil ?_
     refine blk_normal (hR1 _ _ (.mk ?_))
     have hw := inR_iff.1 c2.1
     have hn2 : w.n.toNat < l.length := by omega
     have hX0 := hX
     replace hX := And.intro hn2 hX
     revert ρ hL
     refine zS [4, 5] ?_
     clear hX
     have hX := hX0
     clear hX0
     refine zR ?_
     try simp only [go_sem, simprocAttr]
     all_goals try clear hR1
     all_goals (rw [fetch, if_neg (fun h => h c1), if_pos c2] <;> rfl)
theorem sat_spec_l9Trap (t : Int) (w : Word)  : Sat Tryz.prog 99 [.int .i64 t, .agg w.cells] [] (.agg (Fx.cells (fxTrap t w))) [] := by
 have hX := trivial
 refine sat_mk [.cell 4 61] 0 8 Tryz.call99 Tryz.func99 Tryz.ntmps99 rfl rfl rfl rfl rfl ?_
 refine zI [0, 1] ?_
 refine zS [0, 3, 4] ?_
 refine zS [4] ?_
 refine zR ?_
 try simp only [go_sem, simprocAttr]
 all_goals (rfl)
theorem sat_impl_trapped (t : Int) (w : Word)  : Sat Tryz.prog 96 [.int .i64 t, .agg w.cells] [] (.agg (Fx.cells (fxTrap t w))) [] := by
 have hX := trivial
 refine sat_mk [.cell 4 61] 0 8 Tryz.call96 Tryz.func96 Tryz.ntmps96 rfl rfl rfl rfl rfl ?_
 refine zI [0, 1] ?_
 refine zS [0, 3, 4] ?_
 refine zS [4] ?_
 refine zR ?_
 try simp only [go_sem, simprocAttr]
 all_goals (rfl)
end Go.Proofs.YteojcehneipgdaaGreat.AM
