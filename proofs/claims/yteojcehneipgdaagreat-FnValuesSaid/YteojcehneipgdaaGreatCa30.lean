/- A step; steps in order. No conditions but those each theorem bears. -/
import Derived.Test.YteojcehneipgdaaGreatFa
import Derived.Test.YteojcehneipgdaaGreatM5
import Derived.Test.YteojcehneipgdaaGreatCa25
import Derived.Test.YteojcehneipgdaaGreatCa29x
set_option linter.unusedSimpArgs false
set_option linter.unusedVariables false
namespace Go.Proofs.YteojcehneipgdaaGreat.AM
open Go
set_option maxHeartbeats 8000000
set_option maxRecDepth 100000

theorem sat_spec_Step (l : List Ins) (s : Stt) (hl : l.length ≤ 1048576) (hf : s.fit) : Sat Tryz.prog 15 [.sl l.length l.length (rows l), .agg s.cells] [] (.agg ((step l s).own 0 1 2)) (step l s).blks := by
 have hX := trivial
 refine sat_mk [.cell 4 34] 0 73 Tryz.call15 Tryz.func15 Tryz.ntmps15 rfl rfl rfl rfl rfl ?_
 refine zI [0, 1] ?_
 refine zS [0, 3, 4] ?_
 refine zSF [0, 3, 4, 15] (sat_spec_StateOk s hf) ?_
 refine zC ?_ ?_
 · intro c1
   refine zS [4] ?_
   intro ρ hL
   refine awl_ret ?_
   refine retN (v := .agg [.nilsl, .int .i64 0, .bool false, .int .i64 0, .int .i64 0, .int .i64 0, .int .i64 0, .nilsl, .nilsl, .int .i64 0]) [6, 6, 1] [2, 3, 4] [2, 3, 4] rfl (by simp only [go_sem, simprocAttr, hL, hX]; exact rfl) (by first | rfl | (simp only [go_sem, simprocAttr, hL, hX]; first | done | rfl)) (Ref.agg (RefL.cons (Ref.nil 2 ⟨Nat.le_of_ble_eq_true rfl, Nat.le_of_ble_eq_true rfl⟩) (RefL.cons (Ref.refl _) (RefL.cons (Ref.refl _) (RefL.cons (Ref.refl _) (RefL.cons (Ref.refl _) (RefL.cons (Ref.refl _) (RefL.cons (Ref.refl _) (RefL.cons (Ref.nil 3 ⟨Nat.le_of_ble_eq_true rfl, Nat.le_of_ble_eq_true rfl⟩) (RefL.cons (Ref.nil 4 ⟨Nat.le_of_ble_eq_true rfl, Nat.le_of_ble_eq_true rfl⟩) (RefL.cons (Ref.refl _) (RefL.same [])))))))))))) rfl (by decide) rfl rfl ?_ ?_
   all_goals try simp only [go_sem, simprocAttr, hL, hX]
   all_goals (rw [step_no c1] <;> rfl)
 · intro c1
   intro ρ hL
   refine awl_skip ?_
   revert ρ hL
   refine zSF [0, 3, 4, 5] (sat_spec_l9Copy s hf) ?_
   refine zS [0, 3, 4, 5, 21] ?_
   refine zC ?_ ?_
   · intro c2
     refine zS [4] ?_
     refine zK [2, 3, 4] [2, 3, 4] ?_ ?_
     all_goals try simp only [go_sem, simprocAttr, hX]
     all_goals (rw [step_trap c1 c2] <;> rfl)
   · intro c2
     intro ρ hL
     refine awl_skip ?_
     revert ρ hL
     refine zSF [3, 4, 5, 6, 7] (sat_spec_Fetch l s.pc hl) ?_
     refine zS [3, 4, 5, 6, 7, 31] ?_
     refine zC ?_ ?_
     · intro c3
       have hk := c1
       have hx := fetch_regs c3
       have h8 := (sttOk_parts hk).2.1
       have hna : (fetch l s.pc).1.a.toNat < s.regs.length := by omega
       have hnb : (fetch l s.pc).1.b.toNat < s.regs.length := by omega
       have hX0 := hX
       replace hX := And.intro hna (And.intro hnb hX)
       refine zD [0, 1, 0, 4, 15, 31, 0, 64, 0, 256, 960, 1984, 0, 0, 12351, 32767] [3, 4, 5, 6, 8, 9] ?_
       clear hX
       have hX := hX0
       clear hX0
       refine zSF [3, 4, 5, 6, 8, 9, 10, 11] (sat_spec_l9Mem s.mem (fetch l s.pc).1 (reg s (fetch l s.pc).1.a) (reg s (fetch l s.pc).1.b) hf.2) ?_
       refine zSF [4, 5, 11, 12] (sat_spec_Work (fetch l s.pc).1 s.pc (reg s (fetch l s.pc).1.a) (reg s (fetch l s.pc).1.b) (memOf s.mem (fetch l s.pc).1 (reg s (fetch l s.pc).1.a) (reg s (fetch l s.pc).1.b)).1) ?_
       refine zS [4, 5, 7, 12] ?_
       refine zS [4, 5, 7, 12, 62] ?_
       refine zC ?_ ?_
       · intro c4
         refine zS [4, 5, 7, 12] ?_
         refine zS [4, 5, 7, 12, 66] ?_
         refine zC ?_ ?_
         · intro c5
           intro ρ hL
           refine zA ?_
           intro K hK
           refine zFI [2, 3, 4] (sat_spec_l9Apply s (work (fetch l s.pc).1 s.pc (reg s (fetch l s.pc).1.a) (reg s (fetch l s.pc).1.b) (memOf s.mem (fetch l s.pc).1 (reg s (fetch l s.pc).1.a) (reg s (fetch l s.pc).1.b)).1) c1) ?_
           refine zE [4] ?_
           clear hK K hL
           refine zK [2, 3, 4] [2, 3, 4] ?_ ?_
           all_goals try simp only [go_sem, simprocAttr, hX]
           all_goals (rw [step_go c1 c2 (by rw [fx_work c3 c4]; exact c5), fx_work c3 c4] <;> rfl)
         · intro c5
           intro ρ hL
           refine awl_skip ?_
           revert ρ hL
           refine zS [4, 5] ?_
           refine zS [4] ?_
           refine zK [2, 3, 4] [2, 3, 4] ?_ ?_
           all_goals try simp only [go_sem, simprocAttr, hX]
           all_goals (rw [step_stop c1 c2 (t := (work (fetch l s.pc).1 s.pc (reg s (fetch l s.pc).1.a) (reg s (fetch l s.pc).1.b) (memOf s.mem (fetch l s.pc).1 (reg s (fetch l s.pc).1.a) (reg s (fetch l s.pc).1.b)).1).trap) (by rw [fx_work c3 c4]) c5] <;> rfl)
       · intro c4
         intro ρ hL
         refine awl_skip ?_
         revert ρ hL
         refine zS [4, 5, 7, 12, 66] ?_
         refine zQ ?_ ?_
         · intro c6
           try simp only [cnd] at c6
           exact absurd c6 c4
         · intro c6
           try simp only [cnd] at c6
           intro ρ hL
           refine awl_skip ?_
           revert ρ hL
           refine zS [4, 5] ?_
           refine zS [4] ?_
           refine zK [2, 3, 4] [2, 3, 4] ?_ ?_
           all_goals try simp only [go_sem, simprocAttr, hX]
           all_goals (rw [step_stop c1 c2 (t := (memOf s.mem (fetch l s.pc).1 (reg s (fetch l s.pc).1.a) (reg s (fetch l s.pc).1.b)).2) (by rw [fx_mem c3 c4]; rfl) c4] <;> rfl)
     · intro c3
       intro ρ hL
       refine awl_skip ?_
       revert ρ hL
       refine zS [4, 5] ?_
       refine zS [4] ?_
       refine zK [2, 3, 4] [2, 3, 4] ?_ ?_
       all_goals try simp only [go_sem, simprocAttr, hX]
       all_goals (rw [step_stop c1 c2 (t := (fetch l s.pc).2) (by rw [fx_fetch c3]; rfl) c3] <;> rfl)
theorem sat_impl_Step (l : List Ins) (s : Stt) (hl : l.length ≤ 1048576) (hf : s.fit) : Sat Tryz.prog 13 [.sl l.length l.length (rows l), .agg s.cells] [] (.agg ((step l s).own 0 1 2)) (step l s).blks := by
 have hX := trivial
 refine sat_mk [.cell 4 34] 0 30 Tryz.call13 Tryz.func13 Tryz.ntmps13 rfl rfl rfl rfl rfl ?_
 refine zI [0, 1] ?_
 refine zS [0, 3, 4] ?_
 refine zSF [0, 3, 4, 9] (sat_impl_StateOk s hf) ?_
 refine zC ?_ ?_
 · intro c1
   refine zS [4] ?_
   intro ρ hL
   refine awl_ret ?_
   refine retN (v := .agg [.nilsl, .int .i64 0, .bool false, .int .i64 0, .int .i64 0, .int .i64 0, .int .i64 0, .nilsl, .nilsl, .int .i64 0]) [6, 6, 1] [2, 3, 4] [2, 3, 4] rfl (by simp only [go_sem, simprocAttr, hL, hX]; exact rfl) (by first | rfl | (simp only [go_sem, simprocAttr, hL, hX]; first | done | rfl)) (Ref.agg (RefL.cons (Ref.nil 2 ⟨Nat.le_of_ble_eq_true rfl, Nat.le_of_ble_eq_true rfl⟩) (RefL.cons (Ref.refl _) (RefL.cons (Ref.refl _) (RefL.cons (Ref.refl _) (RefL.cons (Ref.refl _) (RefL.cons (Ref.refl _) (RefL.cons (Ref.refl _) (RefL.cons (Ref.nil 3 ⟨Nat.le_of_ble_eq_true rfl, Nat.le_of_ble_eq_true rfl⟩) (RefL.cons (Ref.nil 4 ⟨Nat.le_of_ble_eq_true rfl, Nat.le_of_ble_eq_true rfl⟩) (RefL.cons (Ref.refl _) (RefL.same [])))))))))))) rfl (by decide) rfl rfl ?_ ?_
   all_goals try simp only [go_sem, simprocAttr, hL, hX]
   all_goals (rw [step_no c1] <;> rfl)
 · intro c1
   intro ρ hL
   refine awl_skip ?_
   revert ρ hL
   refine zSF [0, 3, 4, 5] (sat_impl_cloneState s hf) ?_
   refine zS [0, 3, 4, 5, 15] ?_
   refine zC ?_ ?_
   · intro c2
     refine zS [4] ?_
     refine zK [2, 3, 4] [2, 3, 4] ?_ ?_
     all_goals try simp only [go_sem, simprocAttr, hX]
     all_goals (rw [step_trap c1 c2] <;> rfl)
   · intro c2
     intro ρ hL
     refine awl_skip ?_
     revert ρ hL
     refine zSF [4, 5, 6] (sat_impl_effectOf l s hl hf c1) ?_
     refine zS [4, 5, 6, 22] ?_
     refine zC ?_ ?_
     · intro c3
       refine zS [4, 5] ?_
       refine zS [4] ?_
       refine zK [2, 3, 4] [2, 3, 4] ?_ ?_
       all_goals try simp only [go_sem, simprocAttr, hX]
       all_goals (rw [step_stop c1 c2 (t := (fxOf l s).trap) rfl c3] <;> rfl)
     · intro c3
       intro ρ hL
       refine awl_skip ?_
       refine zA ?_
       intro K hK
       refine zFI [5, 2, 3, 4] (sat_impl_State_put s (fxOf l s) c1) ?_
       refine zE [4, 5] ?_
       clear hK K hL
       refine zS [4] ?_
       refine zK [2, 3, 4] [2, 3, 4] ?_ ?_
       all_goals try simp only [go_sem, simprocAttr, hX]
       all_goals (rw [step_go c1 c2 c3] <;> rfl)
end Go.Proofs.YteojcehneipgdaaGreat.AM
