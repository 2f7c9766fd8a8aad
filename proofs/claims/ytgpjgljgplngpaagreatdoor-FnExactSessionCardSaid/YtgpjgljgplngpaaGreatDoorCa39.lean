/- Picks. No conditions but those each theorem bears. -/
import Derived.Test.YtgpjgljgplngpaaGreatDoorFa
import Derived.Test.YtgpjgljgplngpaaGreatDoorM5
import Derived.Test.YtgpjgljgplngpaaGreatDoorCb6
import Derived.Test.YtgpjgljgplngpaaGreatDoorCb5
set_option linter.unusedSimpArgs false
set_option linter.unusedVariables false
namespace Go.Proofs.YtgpjgljgplngpaaGreatDoor.AM
open Go
set_option maxHeartbeats 8000000
set_option maxRecDepth 100000
theorem sat_spec_CorePick (l : List Ins) (c : Cor) (p : Pik) (hl : l.length ≤ 1048576) (hf : c.fit) : Sat Tryz.prog 51 [.sl l.length l.length (rows l), .agg c.cells, .agg p.cells] [] (.tuple [.agg ((corPick l c p).1.own 0 1 2 3 4), .bool (corPick l c p).2]) (corPick l c p).1.blks := by
 have hX := trivial
 refine sat_mk [.cell 6 36, .tmp 7] 0 69 Tryz.call51 Tryz.func51 Tryz.ntmps51 rfl rfl rfl rfl rfl ?_
 refine zI [0, 1, 2] ?_
 refine zS [0, 4, 5, 6] ?_
 refine zSF [0, 4, 5, 6, 17] (sat_spec_CoreOk c hf) ?_
 refine zC ?_ ?_
 ·intro c1
  refine zS [6, 7] ?_
  intro ρ hL
  refine awl_ret ?_
  refine retN (v := .tuple [.agg [.nilsl, .int .i64 0, .bool false, .int .i64 0, .int .i64 0, .int .i64 0, .int .i64 0, .nilsl, .nilsl, .int .i64 0, .nilsl, .int .i64 0, .bool false, .int .i64 0, .int .i64 0, .int .i64 0, .int .i64 0, .bool false, .nilsl], .bool false]) [6, 6, 1, 40, 1] [3, 4, 5, 6, 7] [3, 4, 5, 6, 7] rfl (by simp only [go_sem, simprocAttr, hL, hX]; exact rfl) (by first | rfl | (simp only [go_sem, simprocAttr, hL, hX]; first | done | rfl)) (Ref.tuple (RefL.cons (Ref.agg (RefL.cons (Ref.nil 3 ⟨Nat.le_of_ble_eq_true rfl, Nat.le_of_ble_eq_true rfl⟩) (RefL.cons (Ref.refl _) (RefL.cons (Ref.refl _) (RefL.cons (Ref.refl _) (RefL.cons (Ref.refl _) (RefL.cons (Ref.refl _) (RefL.cons (Ref.refl _) (RefL.cons (Ref.nil 4 ⟨Nat.le_of_ble_eq_true rfl, Nat.le_of_ble_eq_true rfl⟩) (RefL.cons (Ref.nil 5 ⟨Nat.le_of_ble_eq_true rfl, Nat.le_of_ble_eq_true rfl⟩) (RefL.cons (Ref.refl _) (RefL.cons (Ref.nil 6 ⟨Nat.le_of_ble_eq_true rfl, Nat.le_of_ble_eq_true rfl⟩) (RefL.cons (Ref.refl _) (RefL.cons (Ref.refl _) (RefL.cons (Ref.refl _) (RefL.cons (Ref.refl _) (RefL.cons (Ref.refl _) (RefL.cons (Ref.refl _) (RefL.cons (Ref.refl _) (RefL.cons (Ref.nil 7 ⟨Nat.le_of_ble_eq_true rfl, Nat.le_of_ble_eq_true rfl⟩) (RefL.same []))))))))))))))))))))) (RefL.same _))) rfl (by decide) rfl rfl ?_ ?_
  all_goals try simp only [go_sem, simprocAttr, hL, hX]
  all_goals (rw [pick_no c1] <;> rfl)
 ·intro c1 ρ hL
  refine awl_skip ?_
  revert ρ hL
  refine zS [0, 4, 5, 6, 20] ?_
  intro ρ hL
  refine awl_block fun R1 hw1 hR1 => ?_
  revert ρ hL
  refine zS [0, 4, 5, 6, 20, 21] ?_
  refine zC ?_ ?_
  ·intro c2
   refine zSF [6, 8, 9] (sat_spec_Pull l c hl hf) ?_
   refine zS [6, 7] ?_
   refine zK [3, 4, 5, 6, 7] [3, 4, 5, 6, 7] ?_ ?_
   all_goals try simp only [go_sem, simprocAttr, hX]
   all_goals ((try clear hR1); rw [pick_1 c1 c2] <;> rfl)
  ·intro c2
   refine zS [4, 5, 6, 20, 31] ?_
   refine zC ?_ ?_
   ·intro c3
    refine zSF [6, 10, 11] (sat_spec_Do c p.n hf) ?_
    refine zS [6, 7] ?_
    refine zK [3, 4, 5, 6, 7] [3, 4, 5, 6, 7] ?_ ?_
    all_goals try simp only [go_sem, simprocAttr, hX]
    all_goals ((try clear hR1); rw [pick_2 c1 c3] <;> rfl)
   ·intro c3
    refine zS [4, 5, 6, 20, 42] ?_
    refine zC ?_ ?_
    ·intro c4
     refine zSF [6, 12, 13] (sat_spec_Commit c hf) ?_
     refine zS [6, 7] ?_
     refine zK [3, 4, 5, 6, 7] [3, 4, 5, 6, 7] ?_ ?_
     all_goals try simp only [go_sem, simprocAttr, hX]
     all_goals ((try clear hR1); rw [pick_3 c1 c4] <;> rfl)
    ·intro c4
     refine zS [4, 5, 6, 51] ?_
     refine zC ?_ ?_
     ·intro c5
      refine zSF [4, 5, 6, 14] (sat_spec_l12Copy c hf) ?_
      refine zSF [5, 6, 14] (sat_spec_Sweep c.s.mem p.n hf.1.2) ?_
      intro ρ hL
      refine zAD [0, 0, 2, 6, 15, 31] ?_
      intro K hK
      refine zFD [0, 0, 2, 6, 15, 31] (sat_spec_l1In _ _ _) ?_
      refine zE [6, 7] ?_
      clear hK K hL
      refine zK [3, 9, 10, 6, 7] [3, 9, 10, 6, 7] ?_ ?_
      all_goals try simp only [go_sem, simprocAttr, hX]
      all_goals ((try clear hR1); rw [pick_4 c1 c5] <;> rfl)
     ·intro c5 ρ hL
      refine awl_skip (awl_nil (blk_normal (hR1 _ _ (.mk ?_))))
      revert ρ hL
      refine zSF [6, 7] (sat_spec_l12Copy c hf) ?_
      refine zK [3, 4, 5, 6, 7] [3, 4, 5, 6, 7] ?_ ?_
      all_goals try simp only [go_sem, simprocAttr, hX]
      all_goals ((try clear hR1); rw [pick_5 c1 c2 c3 c4 c5] <;> rfl)
theorem sat_impl_CorePick (l : List Ins) (c : Cor) (p : Pik) (hl : l.length ≤ 1048576) (hf : c.fit) : Sat Tryz.prog 160 [.sl l.length l.length (rows l), .agg c.cells, .agg p.cells] [] (.tuple [.agg ((corPick l c p).1.own 0 1 2 3 4), .bool (corPick l c p).2]) (corPick l c p).1.blks := by
 have hX := trivial
 refine sat_mk [.cell 6 36, .tmp 7] 0 57 Tryz.call160 Tryz.func160 Tryz.ntmps160 rfl rfl rfl rfl rfl ?_
 refine zI [0, 1, 2] ?_
 refine zS [0, 4, 5, 6] ?_
 refine zSF [0, 4, 5, 6, 11] (sat_impl_CoreOk c hf) ?_
 refine zC ?_ ?_
 ·intro c1
  refine zS [6, 7] ?_
  intro ρ hL
  refine awl_ret ?_
  refine retN (v := .tuple [.agg [.nilsl, .int .i64 0, .bool false, .int .i64 0, .int .i64 0, .int .i64 0, .int .i64 0, .nilsl, .nilsl, .int .i64 0, .nilsl, .int .i64 0, .bool false, .int .i64 0, .int .i64 0, .int .i64 0, .int .i64 0, .bool false, .nilsl], .bool false]) [6, 6, 1, 40, 1] [3, 4, 5, 6, 7] [3, 4, 5, 6, 7] rfl (by simp only [go_sem, simprocAttr, hL, hX]; exact rfl) (by first | rfl | (simp only [go_sem, simprocAttr, hL, hX]; first | done | rfl)) (Ref.tuple (RefL.cons (Ref.agg (RefL.cons (Ref.nil 3 ⟨Nat.le_of_ble_eq_true rfl, Nat.le_of_ble_eq_true rfl⟩) (RefL.cons (Ref.refl _) (RefL.cons (Ref.refl _) (RefL.cons (Ref.refl _) (RefL.cons (Ref.refl _) (RefL.cons (Ref.refl _) (RefL.cons (Ref.refl _) (RefL.cons (Ref.nil 4 ⟨Nat.le_of_ble_eq_true rfl, Nat.le_of_ble_eq_true rfl⟩) (RefL.cons (Ref.nil 5 ⟨Nat.le_of_ble_eq_true rfl, Nat.le_of_ble_eq_true rfl⟩) (RefL.cons (Ref.refl _) (RefL.cons (Ref.nil 6 ⟨Nat.le_of_ble_eq_true rfl, Nat.le_of_ble_eq_true rfl⟩) (RefL.cons (Ref.refl _) (RefL.cons (Ref.refl _) (RefL.cons (Ref.refl _) (RefL.cons (Ref.refl _) (RefL.cons (Ref.refl _) (RefL.cons (Ref.refl _) (RefL.cons (Ref.refl _) (RefL.cons (Ref.nil 7 ⟨Nat.le_of_ble_eq_true rfl, Nat.le_of_ble_eq_true rfl⟩) (RefL.same []))))))))))))))))))))) (RefL.same _))) rfl (by decide) rfl rfl ?_ ?_
  all_goals try simp only [go_sem, simprocAttr, hL, hX]
  all_goals (rw [pick_no c1] <;> rfl)
 ·intro c1 ρ hL
  refine awl_skip ?_
  revert ρ hL
  refine zS [0, 4, 5, 6, 14] ?_
  intro ρ hL
  refine awl_block fun R1 hw1 hR1 => ?_
  revert ρ hL
  refine zS [0, 4, 5, 6, 14, 15] ?_
  refine zC ?_ ?_
  ·intro c2
   refine zSF [6, 7] (sat_impl_Pull l c hl hf) ?_
   refine zK [3, 4, 5, 6, 7] [3, 4, 5, 6, 7] ?_ ?_
   all_goals try simp only [go_sem, simprocAttr, hX]
   all_goals ((try clear hR1); rw [pick_1 c1 c2] <;> rfl)
  ·intro c2
   refine zS [4, 5, 6, 14, 22] ?_
   refine zC ?_ ?_
   ·intro c3
    refine zSF [6, 7] (sat_impl_Do c p.n hf) ?_
    refine zK [3, 4, 5, 6, 7] [3, 4, 5, 6, 7] ?_ ?_
    all_goals try simp only [go_sem, simprocAttr, hX]
    all_goals ((try clear hR1); rw [pick_2 c1 c3] <;> rfl)
   ·intro c3
    refine zS [4, 5, 6, 30] ?_
    refine zC ?_ ?_
    ·intro c4
     refine zSF [6, 7] (sat_impl_Commit c hf) ?_
     refine zK [3, 4, 5, 6, 7] [3, 4, 5, 6, 7] ?_ ?_
     all_goals try simp only [go_sem, simprocAttr, hX]
     all_goals ((try clear hR1); rw [pick_3 c1 c4] <;> rfl)
    ·intro c4 ρ hL
     refine awl_skip (awl_nil (blk_normal (hR1 _ _ (.mk ?_))))
     revert ρ hL
     refine zSF [4, 5, 6, 8] (sat_impl_cloneCore c hf) ?_
     intro ρ hL
     refine zA ?_
     intro K hK
     refine zL [4, 5, 6, 8, 41] ?_
     clear hL
     intro ρ hL
     refine grp_orN (v := ?v1) 4 rfl [4, 5, 6, 8] hL.2.2.2.2 rfl (fun hb K1 hK1 => ?run) (fun hb => skA (want := false) (b := _) (by rw [hb]; rfl) hL.2.2.2.2 rfl) (fun ρ hP hM => ?_)
     case run =>
      refine zRn ?_
      intro hL
      refine zF (sat_impl_in _ _ _) ?_
      exact zK1
     refine zPp ?_
     clear hL hP hM
     intro hL
     refine zE [4, 5, 6, 8, 46] ?_
     clear hK K hL
     refine zC ?_ ?_
     ·intro c5
      refine zS [6, 7] ?_
      refine zK [3, 4, 5, 6, 7] [3, 4, 5, 6, 7] ?_ ?_
      all_goals try simp only [go_sem, simprocAttr, hX]
      all_goals ((try clear hR1); rw [pick_idle c1 c2 c3 c4 c5] <;> rfl)
     ·intro c5 ρ hL
      refine awl_skip ?_
      revert ρ hL
      refine zSF [6, 8] (sat_impl_Sweep c.s.mem p.n hf.1.2) ?_
      refine zS [6, 7] ?_
      refine zK [3, 9, 10, 6, 7] [3, 9, 10, 6, 7] ?_ ?_
      all_goals try simp only [go_sem, simprocAttr, hX]
      all_goals ((try clear hR1); rw [pick_in c1 (by omega) c5.2] <;> rfl)
end Go.Proofs.YtgpjgljgplngpaaGreatDoor.AM
