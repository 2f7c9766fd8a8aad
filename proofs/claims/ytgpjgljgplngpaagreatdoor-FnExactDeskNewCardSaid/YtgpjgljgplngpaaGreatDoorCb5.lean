/- Applying what a command comes to. A step; steps in order. Sweeps. A new core. Fetching into a core. Committing. No conditions but those each theorem bears. -/
import Derived.Test.YtgpjgljgplngpaaGreatDoorFa
import Derived.Test.YtgpjgljgplngpaaGreatDoorM5
import Derived.Test.YtgpjgljgplngpaaGreatDoorCb1
import Derived.Test.YtgpjgljgplngpaaGreatDoorCb3
import Derived.Test.YtgpjgljgplngpaaGreatDoorCb4
import Derived.Test.YtgpjgljgplngpaaGreatDoorCb2
set_option linter.unusedSimpArgs false
set_option linter.unusedVariables false
namespace Go.Proofs.YtgpjgljgplngpaaGreatDoor.AM
open Go
set_option maxHeartbeats 8000000
set_option maxRecDepth 100000

theorem sat_spec_CoreNew (s : Stt) (hf : s.fit) : Sat Tryz.prog 25 [.agg s.cells] [] (.agg ((corNew s).own 0 1 2 3 4)) (corNew s).blks := by
 have hX := trivial
 refine sat_mk [.cell 2 36] 0 13 Tryz.call25 Tryz.func25 Tryz.ntmps25 rfl rfl rfl rfl rfl ?_
 refine zI [0] ?_
 refine zS [1, 2] ?_
 refine zSF [1, 2, 5] (sat_spec_StateOk s hf) ?_
 refine zC ?_ ?_
 · intro c1
   refine zS [2] ?_
   intro ρ hL
   refine awl_ret ?_
   refine retN (v := .agg [.nilsl, .int .i64 0, .bool false, .int .i64 0, .int .i64 0, .int .i64 0, .int .i64 0, .nilsl, .nilsl, .int .i64 0, .nilsl, .int .i64 0, .bool false, .int .i64 0, .int .i64 0, .int .i64 0, .int .i64 0, .bool false, .nilsl]) [6, 6, 1, 40, 1] [2, 3, 4, 5, 6] [2, 3, 4, 5, 6] rfl (by simp only [go_sem, simprocAttr, hL, hX]; exact rfl) (by first | rfl | (simp only [go_sem, simprocAttr, hL, hX]; first | done | rfl)) (Ref.agg (RefL.cons (Ref.nil 2 ⟨Nat.le_of_ble_eq_true rfl, Nat.le_of_ble_eq_true rfl⟩) (RefL.cons (Ref.refl _) (RefL.cons (Ref.refl _) (RefL.cons (Ref.refl _) (RefL.cons (Ref.refl _) (RefL.cons (Ref.refl _) (RefL.cons (Ref.refl _) (RefL.cons (Ref.nil 3 ⟨Nat.le_of_ble_eq_true rfl, Nat.le_of_ble_eq_true rfl⟩) (RefL.cons (Ref.nil 4 ⟨Nat.le_of_ble_eq_true rfl, Nat.le_of_ble_eq_true rfl⟩) (RefL.cons (Ref.refl _) (RefL.cons (Ref.nil 5 ⟨Nat.le_of_ble_eq_true rfl, Nat.le_of_ble_eq_true rfl⟩) (RefL.cons (Ref.refl _) (RefL.cons (Ref.refl _) (RefL.cons (Ref.refl _) (RefL.cons (Ref.refl _) (RefL.cons (Ref.refl _) (RefL.cons (Ref.refl _) (RefL.cons (Ref.refl _) (RefL.cons (Ref.nil 6 ⟨Nat.le_of_ble_eq_true rfl, Nat.le_of_ble_eq_true rfl⟩) (RefL.same []))))))))))))))))))))) rfl (by decide) rfl rfl ?_ ?_
   all_goals try simp only [go_sem, simprocAttr, hL, hX]
   all_goals (rw [corNew_no c1] <;> rfl)
 · intro c1
   intro ρ hL
   refine awl_skip ?_
   refine zAD [0, 1, 0, 4, 3, 31, 63] ?_
   intro K hK
   refine zFD [0, 1, 0, 4, 3, 31, 63] (sat_spec_l9Copy s hf) ?_
   refine zFD [0, 1, 0, 4, 3, 31, 63] (sat_spec_GuessNew) ?_
   refine zE [2] ?_
   clear hK K hL
   intro ρ hL
   refine awl_ret ?_
   refine retN (v := .agg [.slice 2 0 s.regs.length 0, .int .i64 s.pc.n, .bool s.pc.is, .int .i64 s.pc.key.base, .int .i64 s.pc.key.top, .int .i64 s.pc.key.perms, .int .i64 s.pc.key.lock, .slice 3 0 s.mem.words.length 0, .slice 4 0 s.mem.gone.length 0, .int .i64 s.trap, .nilsl, .int .i64 s.pc.n, .bool s.pc.is, .int .i64 s.pc.key.base, .int .i64 s.pc.key.top, .int .i64 s.pc.key.perms, .int .i64 s.pc.key.lock, .bool false, .slice 5 0 48 0]) [40] [2, 3, 4, 6, 5] [2, 3, 4, 6, 5] rfl (by simp only [go_sem, simprocAttr, hL, hX]; exact rfl) (by first | rfl | (simp only [go_sem, simprocAttr, hL, hX]; first | done | rfl)) (Ref.agg (RefL.cons (Ref.refl _) (RefL.cons (Ref.refl _) (RefL.cons (Ref.refl _) (RefL.cons (Ref.refl _) (RefL.cons (Ref.refl _) (RefL.cons (Ref.refl _) (RefL.cons (Ref.refl _) (RefL.cons (Ref.refl _) (RefL.cons (Ref.refl _) (RefL.cons (Ref.refl _) (RefL.cons (Ref.nil 6 ⟨Nat.le_of_ble_eq_true rfl, Nat.le_of_ble_eq_true rfl⟩) (RefL.cons (Ref.refl _) (RefL.cons (Ref.refl _) (RefL.cons (Ref.refl _) (RefL.cons (Ref.refl _) (RefL.cons (Ref.refl _) (RefL.cons (Ref.refl _) (RefL.cons (Ref.refl _) (RefL.cons (Ref.refl _) (RefL.same []))))))))))))))))))))) rfl (by decide) rfl rfl ?_ ?_
   all_goals try simp only [go_sem, simprocAttr, hL, hX]
   all_goals (rw [corNew_go c1] <;> rfl)
theorem sat_impl_CoreNew (s : Stt) (hf : s.fit) : Sat Tryz.prog 28 [.agg s.cells] [] (.agg ((corNew s).own 0 1 2 3 4)) (corNew s).blks := by
 have hX := trivial
 refine sat_mk [.cell 2 36] 0 13 Tryz.call28 Tryz.func28 Tryz.ntmps28 rfl rfl rfl rfl rfl ?_
 refine zI [0] ?_
 refine zS [1, 2] ?_
 refine zSF [1, 2, 5] (sat_impl_StateOk s hf) ?_
 refine zC ?_ ?_
 · intro c1
   refine zS [2] ?_
   intro ρ hL
   refine awl_ret ?_
   refine retN (v := .agg [.nilsl, .int .i64 0, .bool false, .int .i64 0, .int .i64 0, .int .i64 0, .int .i64 0, .nilsl, .nilsl, .int .i64 0, .nilsl, .int .i64 0, .bool false, .int .i64 0, .int .i64 0, .int .i64 0, .int .i64 0, .bool false, .nilsl]) [6, 6, 1, 40, 1] [2, 3, 4, 5, 6] [2, 3, 4, 5, 6] rfl (by simp only [go_sem, simprocAttr, hL, hX]; exact rfl) (by first | rfl | (simp only [go_sem, simprocAttr, hL, hX]; first | done | rfl)) (Ref.agg (RefL.cons (Ref.nil 2 ⟨Nat.le_of_ble_eq_true rfl, Nat.le_of_ble_eq_true rfl⟩) (RefL.cons (Ref.refl _) (RefL.cons (Ref.refl _) (RefL.cons (Ref.refl _) (RefL.cons (Ref.refl _) (RefL.cons (Ref.refl _) (RefL.cons (Ref.refl _) (RefL.cons (Ref.nil 3 ⟨Nat.le_of_ble_eq_true rfl, Nat.le_of_ble_eq_true rfl⟩) (RefL.cons (Ref.nil 4 ⟨Nat.le_of_ble_eq_true rfl, Nat.le_of_ble_eq_true rfl⟩) (RefL.cons (Ref.refl _) (RefL.cons (Ref.nil 5 ⟨Nat.le_of_ble_eq_true rfl, Nat.le_of_ble_eq_true rfl⟩) (RefL.cons (Ref.refl _) (RefL.cons (Ref.refl _) (RefL.cons (Ref.refl _) (RefL.cons (Ref.refl _) (RefL.cons (Ref.refl _) (RefL.cons (Ref.refl _) (RefL.cons (Ref.refl _) (RefL.cons (Ref.nil 6 ⟨Nat.le_of_ble_eq_true rfl, Nat.le_of_ble_eq_true rfl⟩) (RefL.same []))))))))))))))))))))) rfl (by decide) rfl rfl ?_ ?_
   all_goals try simp only [go_sem, simprocAttr, hL, hX]
   all_goals (rw [corNew_no c1] <;> rfl)
 · intro c1
   intro ρ hL
   refine awl_skip ?_
   refine zAD [0, 1, 0, 4, 3, 31, 63] ?_
   intro K hK
   refine zFD [0, 1, 0, 4, 3, 31, 63] (sat_impl_cloneState s hf) ?_
   refine zFD [0, 1, 0, 4, 3, 31, 63] (sat_impl_GuessNew) ?_
   refine zE [2] ?_
   clear hK K hL
   intro ρ hL
   refine awl_ret ?_
   refine retN (v := .agg [.slice 2 0 s.regs.length 0, .int .i64 s.pc.n, .bool s.pc.is, .int .i64 s.pc.key.base, .int .i64 s.pc.key.top, .int .i64 s.pc.key.perms, .int .i64 s.pc.key.lock, .slice 3 0 s.mem.words.length 0, .slice 4 0 s.mem.gone.length 0, .int .i64 s.trap, .nilsl, .int .i64 s.pc.n, .bool s.pc.is, .int .i64 s.pc.key.base, .int .i64 s.pc.key.top, .int .i64 s.pc.key.perms, .int .i64 s.pc.key.lock, .bool false, .slice 5 0 48 0]) [40] [2, 3, 4, 6, 5] [2, 3, 4, 6, 5] rfl (by simp only [go_sem, simprocAttr, hL, hX]; exact rfl) (by first | rfl | (simp only [go_sem, simprocAttr, hL, hX]; first | done | rfl)) (Ref.agg (RefL.cons (Ref.refl _) (RefL.cons (Ref.refl _) (RefL.cons (Ref.refl _) (RefL.cons (Ref.refl _) (RefL.cons (Ref.refl _) (RefL.cons (Ref.refl _) (RefL.cons (Ref.refl _) (RefL.cons (Ref.refl _) (RefL.cons (Ref.refl _) (RefL.cons (Ref.refl _) (RefL.cons (Ref.nil 6 ⟨Nat.le_of_ble_eq_true rfl, Nat.le_of_ble_eq_true rfl⟩) (RefL.cons (Ref.refl _) (RefL.cons (Ref.refl _) (RefL.cons (Ref.refl _) (RefL.cons (Ref.refl _) (RefL.cons (Ref.refl _) (RefL.cons (Ref.refl _) (RefL.cons (Ref.refl _) (RefL.cons (Ref.refl _) (RefL.same []))))))))))))))))))))) rfl (by decide) rfl rfl ?_ ?_
   all_goals try simp only [go_sem, simprocAttr, hL, hX]
   all_goals (rw [corNew_go c1] <;> rfl)
end Go.Proofs.YtgpjgljgplngpaaGreatDoor.AM
