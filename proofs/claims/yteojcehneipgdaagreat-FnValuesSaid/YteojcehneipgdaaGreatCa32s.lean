/- Sweeps. No conditions but those each theorem bears. -/
import Derived.Test.YteojcehneipgdaaGreatFa
import Derived.Test.YteojcehneipgdaaGreatM5
import Derived.Test.YteojcehneipgdaaGreatCa15
import Derived.Test.YteojcehneipgdaaGreatCa28
import Derived.Test.YteojcehneipgdaaGreatCa9
set_option linter.unusedSimpArgs false
set_option linter.unusedVariables false
namespace Go.Proofs.YteojcehneipgdaaGreat.AM
open Go
set_option maxHeartbeats 8000000
set_option maxRecDepth 100000

theorem sat_spec_Sweep (m : Mem) (n : Int) (hf : m.fit) : Sat Tryz.prog 89 [.agg m.cells, .int .i64 n] [] (.agg ((sweep m n).own 0 1)) (sweep m n).blks := by
 have hX := trivial
 refine sat_mk [.cell 4 32] 0 26 Tryz.call89 Tryz.func89 Tryz.ntmps89 rfl rfl rfl rfl rfl ?_
 refine zI [0, 1] ?_
 refine zS [1, 2, 4] ?_
 refine zSF [1, 2, 4, 8] (sat_spec_MemoryOk m) ?_
 refine zC ?_ ?_
 · intro c1
   refine zS [4] ?_
   intro ρ hL
   refine awl_ret ?_
   refine retN (v := .agg [.nilsl, .nilsl]) [6, 1] [2, 3] [2, 3] rfl (by simp only [go_sem, simprocAttr, hL, hX]; exact rfl) (by first | rfl | (simp only [go_sem, simprocAttr, hL, hX]; first | done | rfl)) (Ref.agg (RefL.cons (Ref.nil 2 ⟨Nat.le_of_ble_eq_true rfl, Nat.le_of_ble_eq_true rfl⟩) (RefL.cons (Ref.nil 3 ⟨Nat.le_of_ble_eq_true rfl, Nat.le_of_ble_eq_true rfl⟩) (RefL.same [])))) rfl (by decide) rfl rfl ?_ ?_
   all_goals try simp only [go_sem, simprocAttr, hL, hX]
   all_goals (rw [sweep_no c1] <;> rfl)
 · intro c1
   intro ρ hL
   refine awl_skip ?_
   revert ρ hL
   refine zSF [1, 2, 4, 5] (sat_spec_l8Copy m hf) ?_
   refine zSF [1, 2, 4, 5, 13] (sat_spec_l1In _ _ _) ?_
   refine zC ?_ ?_
   · intro c2
     have hr := inR_iff.1 c2
     have h24 := (memOk_parts c1).1
     have hn2 : n.toNat < m.words.length := by omega
     intro ρ hL
     repeat refine awl_seq ?_
     refine awl_regD mixed _ rfl fun K hK => ?_
     try simp only [go_sem, simprocAttr, hL, hX, hn2, words_put hn2]
     repeat' refine And.intro (by first | omega | (exact ⟨[0, 1, 0, 0, 0, 16, 0, 112, 240, 504, 1023, 2047], by kernel_rfl⟩) | kernel_rfl) ?_
     refine dS_call_ro rfl (sat_spec_Filter m (m.words.getD n.toNat noWord) hf) ?ha ?hv ?hh ?_
     case ha => simp only [go_sem, simprocAttr, hL, hX, hn2, words_put hn2]; first | done | rfl
     case hv => first | rfl | (simp only [go_sem]; done)
     case hh => first | rfl | (simp only [go_sem]; done)
     try simp only [go_sem, simprocAttr, hL, hX, hn2, words_put hn2]
     repeat' refine And.intro (by first | omega | (exact ⟨[0, 1, 0, 0, 0, 16, 0, 112, 240, 504, 1023, 2047], by kernel_rfl⟩) | kernel_rfl) ?_
     refine hK _ _ (.mk (awl_live' [4, 5] fun ρ hM => ?_))
     try simp only [go_sem, simprocAttr, hL, hX, hn2, words_put hn2] at hM
     clear hK K hL
     revert ρ hM
     refine zS [4] ?_
     refine zK [2, 3] [2, 3] ?_ ?_
     all_goals try simp only [go_sem, simprocAttr, hX]
     all_goals ((rw [sweep_in c1 c2] <;> (try simp only [List.length_set])) <;> first | done | rfl)
   · intro c2
     intro ρ hL
     refine awl_skip ?_
     revert ρ hL
     refine zS [4] ?_
     refine zK [2, 3] [2, 3] ?_ ?_
     all_goals try simp only [go_sem, simprocAttr, hX]
     all_goals (rw [sweep_out c1 c2] <;> rfl)
theorem sat_impl_Sweep (m : Mem) (n : Int) (hf : m.fit) : Sat Tryz.prog 88 [.agg m.cells, .int .i64 n] [] (.agg ((sweep m n).own 0 1)) (sweep m n).blks := by
 have hX := trivial
 refine sat_mk [.cell 4 32] 0 26 Tryz.call88 Tryz.func88 Tryz.ntmps88 rfl rfl rfl rfl rfl ?_
 refine zI [0, 1] ?_
 refine zS [1, 2, 4] ?_
 refine zSF [1, 2, 4, 8] (sat_impl_MemoryOk m hf) ?_
 refine zC ?_ ?_
 · intro c1
   refine zS [4] ?_
   intro ρ hL
   refine awl_ret ?_
   refine retN (v := .agg [.nilsl, .nilsl]) [6, 1] [2, 3] [2, 3] rfl (by simp only [go_sem, simprocAttr, hL, hX]; exact rfl) (by first | rfl | (simp only [go_sem, simprocAttr, hL, hX]; first | done | rfl)) (Ref.agg (RefL.cons (Ref.nil 2 ⟨Nat.le_of_ble_eq_true rfl, Nat.le_of_ble_eq_true rfl⟩) (RefL.cons (Ref.nil 3 ⟨Nat.le_of_ble_eq_true rfl, Nat.le_of_ble_eq_true rfl⟩) (RefL.same [])))) rfl (by decide) rfl rfl ?_ ?_
   all_goals try simp only [go_sem, simprocAttr, hL, hX]
   all_goals (rw [sweep_no c1] <;> rfl)
 · intro c1
   intro ρ hL
   refine awl_skip ?_
   revert ρ hL
   refine zSF [1, 2, 4, 5] (sat_impl_cloneMemory m hf) ?_
   refine zSF [1, 2, 4, 5, 13] (sat_impl_in _ _ _) ?_
   refine zC ?_ ?_
   · intro c2
     have hr := inR_iff.1 c2
     have h24 := (memOk_parts c1).1
     have hn2 : n.toNat < m.words.length := by omega
     intro ρ hL
     repeat refine awl_seq ?_
     refine awl_regD mixed _ rfl fun K hK => ?_
     try simp only [go_sem, simprocAttr, hL, hX, hn2, words_put hn2]
     repeat' refine And.intro (by first | omega | (exact ⟨[0, 1, 0, 0, 0, 16, 0, 112, 240, 504, 1023, 2047], by kernel_rfl⟩) | kernel_rfl) ?_
     refine dS_call_ro rfl (sat_impl_Filter m (m.words.getD n.toNat noWord) hf) ?ha ?hv ?hh ?_
     case ha => simp only [go_sem, simprocAttr, hL, hX, hn2, words_put hn2]; first | done | rfl
     case hv => first | rfl | (simp only [go_sem]; done)
     case hh => first | rfl | (simp only [go_sem]; done)
     try simp only [go_sem, simprocAttr, hL, hX, hn2, words_put hn2]
     repeat' refine And.intro (by first | omega | (exact ⟨[0, 1, 0, 0, 0, 16, 0, 112, 240, 504, 1023, 2047], by kernel_rfl⟩) | kernel_rfl) ?_
     refine hK _ _ (.mk (awl_live' [4, 5] fun ρ hM => ?_))
     try simp only [go_sem, simprocAttr, hL, hX, hn2, words_put hn2] at hM
     clear hK K hL
     revert ρ hM
     refine zS [4] ?_
     refine zK [2, 3] [2, 3] ?_ ?_
     all_goals try simp only [go_sem, simprocAttr, hX]
     all_goals ((rw [sweep_in c1 c2] <;> (try simp only [List.length_set])) <;> first | done | rfl)
   · intro c2
     intro ρ hL
     refine awl_skip ?_
     revert ρ hL
     refine zS [4] ?_
     refine zK [2, 3] [2, 3] ?_ ?_
     all_goals try simp only [go_sem, simprocAttr, hX]
     all_goals (rw [sweep_out c1 c2] <;> rfl)
end Go.Proofs.YteojcehneipgdaaGreat.AM
