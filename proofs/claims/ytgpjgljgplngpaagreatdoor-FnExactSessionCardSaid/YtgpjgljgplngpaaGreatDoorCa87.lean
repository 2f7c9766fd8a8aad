/- New desks. No conditions but those each theorem bears. -/
import Derived.Test.YtgpjgljgplngpaaGreatDoorFa
import Derived.Test.YtgpjgljgplngpaaGreatDoorCa86
import Derived.Test.YtgpjgljgplngpaaGreatDoorCb7
import Derived.Test.YtgpjgljgplngpaaGreatDoorCb5
import Derived.Test.YtgpjgljgplngpaaGreatDoorX3
set_option linter.unusedSimpArgs false
set_option linter.unusedVariables false
namespace Go.Proofs.YtgpjgljgplngpaaGreatDoor.AM
open Go
set_option maxHeartbeats 8000000
set_option maxRecDepth 100000
theorem sat_impl_KeyWord (k : Key) (n : Int)  : Sat Tryz.prog 76 [.agg k.cells, .int .i64 n] [] (.agg (keyWord k n).cells) [] := by
 have hX := trivial
 refine sat_mk [.cell 4 27] 0 14 Tryz.call76 Tryz.func76 Tryz.ntmps76 rfl rfl rfl rfl rfl ?_
 refine zI [0, 1] ?_
 refine zS [1, 2, 4] ?_
 refine zSF [2, 4, 5] (sat_impl_Plain _) ?_
 refine zSF [2, 4, 5, 9] (sat_impl_KeyOk _) ?_
 refine zC ?_ ?_
 ·intro c1
  refine zD [0, 0, 2, 7, 15] [4, 5] ?_
  refine zS [4] ?_
  refine zR ?_
  try simp only [go_sem, simprocAttr]
  all_goals (rw [keyWord, if_pos c1] <;> rfl)
 ·intro c1 ρ hL
  refine awl_skip ?_
  revert ρ hL
  refine zS [4] ?_
  refine zR ?_
  try simp only [go_sem, simprocAttr]
  all_goals (rw [keyWord, if_neg (by rw [c1]; exact Bool.noConfusion)] <;> rfl)
theorem sat_impl_MemoryNew   : Sat Tryz.prog 75 [] [] (.agg (memNew.own 0 1)) memNew.blks := by
 have hX := trivial
 refine sat_mk [.cell 0 30] 0 4 Tryz.call75 Tryz.func75 Tryz.ntmps75 rfl rfl rfl rfl rfl ?_
 refine awl_live' [] fun ρ hL => ?_
 clear hL
 have hL := trivial
 refine zA ?_
 intro K hK
 refine zE [0] ?_
 clear hK K hL
 refine zD [0, 0, 3, 7] [0] ?_
 intro ρ hL
 refine awl_ret ?_
 refine retN (v := .agg [.slice 1 0 24 24, .slice 2 0 24 24]) [] [1, 2] [1, 2] rfl (by simp only [go_sem, simprocAttr, hL, hX]; exact rfl) (by first | rfl | (simp only [go_sem, simprocAttr, hL, hX]; first | done | rfl)) (Ref.agg (RefL.cons (Ref.cap _ _ _ _ 0 (Nat.zero_le _)) (RefL.cons (Ref.cap _ _ _ _ 0 (Nat.zero_le _)) (RefL.same [])))) rfl (by decide) rfl rfl ?_ ?_
 all_goals try simp only [go_sem, simprocAttr, hL, hX]
 all_goals (rfl)
theorem sat_spec_StateNewX   : ∃ (s : Stt), (s = sttNew) ∧ Sat Tryz.prog 26 [] [] (.agg (s.own 0 1 2)) s.blks := by
 suffices hE : ∃ zv zh, (∃ (s : Stt), (s = sttNew) ∧ zv = (.agg (s.own 0 1 2)) ∧ zh = s.blks) ∧ Sat Tryz.prog 26 [] [] zv zh from by
  obtain ⟨_, _, ⟨s, hq, rfl, rfl⟩, hs⟩ := hE
  exact ⟨s, hq, hs⟩
 have hX := trivial
 refine sat_ex [.cell 0 32] 0 14 Tryz.call26 Tryz.func26 Tryz.ntmps26 rfl rfl rfl rfl rfl ?_
 refine awl_live' [] fun ρ hL => ?_
 clear hL
 have hL := trivial
 refine zA ?_
 intro K hK
 refine zE [0] ?_
 clear hK K hL
 intro ρ hL
 refine zAD [0, 0, 3, 0, 15] ?_
 intro K hK
 refine zFDJ [0, 0, 3, 0, 15] [] (sat_spec_MemoryNew) ?_
 refine zE [0, 1] ?_
 clear hK K hL
 obtain ⟨z, hz, hz8⟩ : ∃ z : List Word, z = List.replicate 8 noWord ∧ z.length = 8 := ⟨_, rfl, rfl⟩
 intro ρ hL
 rw [show (⟨6, [[.int .i64 0, .bool false, .int .i64 0, .int .i64 0, .int .i64 0, .int .i64 0], [.int .i64 0, .bool false, .int .i64 0, .int .i64 0, .int .i64 0, .int .i64 0], [.int .i64 0, .bool false, .int .i64 0, .int .i64 0, .int .i64 0, .int .i64 0], [.int .i64 0, .bool false, .int .i64 0, .int .i64 0, .int .i64 0, .int .i64 0], [.int .i64 0, .bool false, .int .i64 0, .int .i64 0, .int .i64 0, .int .i64 0], [.int .i64 0, .bool false, .int .i64 0, .int .i64 0, .int .i64 0, .int .i64 0], [.int .i64 0, .bool false, .int .i64 0, .int .i64 0, .int .i64 0, .int .i64 0], [.int .i64 0, .bool false, .int .i64 0, .int .i64 0, .int .i64 0, .int .i64 0]].flatten, true, false⟩ : Blk) = ⟨6, rows z, true, false⟩ by rw [hz]; rfl]
 have hn9 : 0 < z.length := by omega
 repeat refine awl_seq ?_
 refine awl_regD mixed _ rfl fun K hK => ?_
 try simp only [go_sem, simprocAttr, hL, hX, hn9, hz8, words_put0 hn9]
 repeat' refine And.intro (by first | omega | (exact ⟨[0, 1, 0, 4, 15, 31], by kernel_rfl⟩) | kernel_rfl) ?_
 refine dS_call_ro rfl (sat_spec_KeyWord ⟨0, 24, 59, 0⟩ 0) ?ha ?hv ?hh ?_
 case ha => simp only [go_sem, simprocAttr, hL, hX, hn9, hz8, words_put0 hn9]; first | done | rfl
 case hv => first | rfl | (simp only [go_sem]; done)
 case hh => first | rfl | (simp only [go_sem]; done)
 try simp only [go_sem, simprocAttr, hL, hX, hn9, hz8, words_put0 hn9]
 repeat' refine And.intro (by first | omega | (exact ⟨[0, 1, 0, 4, 15, 31], by kernel_rfl⟩) | kernel_rfl) ?_
 refine hK _ _ (.mk (awl_live' [0, 1] fun ρ hM => ?_))
 try simp only [go_sem, simprocAttr, hL, hX, hn9, hz8, words_put0 hn9] at hM
 clear hK K hL
 revert ρ hM
 refine zSF [0, 1] (sat_spec_KeyWord ⟨0, 48, 4, 0⟩ 0) ?_
 refine zS [0] ?_
 intro ρ hL
 refine awl_ret ?_
 refine retNE (v := .agg [.slice 1 0 8 8, .int .i64 (keyWord ⟨0, 48, 4, 0⟩ 0).n, .bool (keyWord ⟨0, 48, 4, 0⟩ 0).is, .int .i64 (keyWord ⟨0, 48, 4, 0⟩ 0).key.base, .int .i64 (keyWord ⟨0, 48, 4, 0⟩ 0).key.top, .int .i64 (keyWord ⟨0, 48, 4, 0⟩ 0).key.perms, .int .i64 (keyWord ⟨0, 48, 4, 0⟩ 0).key.lock, .slice 2 0 memNew.words.length 0, .slice 3 0 memNew.gone.length 0, .int .i64 0]) [] [1, 2, 3] [1, 2, 3] rfl (by simp only [go_sem, simprocAttr, hL, hX]; exact rfl) (by first | rfl | (simp only [go_sem, simprocAttr, hL, hX]; first | done | rfl)) (Ref.agg (RefL.cons (Ref.cap _ _ _ _ 0 (Nat.zero_le _)) (RefL.cons (Ref.refl _) (RefL.cons (Ref.refl _) (RefL.cons (Ref.refl _) (RefL.cons (Ref.refl _) (RefL.cons (Ref.refl _) (RefL.cons (Ref.refl _) (RefL.cons (Ref.refl _) (RefL.cons (Ref.refl _) (RefL.cons (Ref.refl _) (RefL.same [])))))))))))) rfl (by decide) rfl rfl rfl rfl ?_
 refine ⟨⟨z.set 0 (keyWord ⟨0, 24, 59, 0⟩ 0), keyWord ⟨0, 48, 4, 0⟩ 0, memNew, 0⟩, ?hq1, ?hv1, ?hh1⟩
 case hv1 => (try simp only [go_sem, simprocAttr, hX, List.length_set,  hz8]); first | done | rfl
 case hh1 => (try simp only [go_sem, simprocAttr, hX, List.length_set,  hz8]); first | done | rfl
 all_goals (subst hz; rfl)
theorem sat_impl_StateNew   : ∃ (s : Stt), (s = sttNew) ∧ Sat Tryz.prog 29 [] [] (.agg (s.own 0 1 2)) s.blks := by
 suffices hE : ∃ zv zh, (∃ (s : Stt), (s = sttNew) ∧ zv = (.agg (s.own 0 1 2)) ∧ zh = s.blks) ∧ Sat Tryz.prog 29 [] [] zv zh from by
  obtain ⟨_, _, ⟨s, hq, rfl, rfl⟩, hs⟩ := hE
  exact ⟨s, hq, hs⟩
 have hX := trivial
 refine sat_ex [.cell 0 32] 0 14 Tryz.call29 Tryz.func29 Tryz.ntmps29 rfl rfl rfl rfl rfl ?_
 refine awl_live' [] fun ρ hL => ?_
 clear hL
 have hL := trivial
 refine zA ?_
 intro K hK
 refine zE [0] ?_
 clear hK K hL
 intro ρ hL
 refine zAD [0, 0, 3, 0, 15] ?_
 intro K hK
 refine zFDJ [0, 0, 3, 0, 15] [] (sat_impl_MemoryNew) ?_
 refine zE [0, 1] ?_
 clear hK K hL
 obtain ⟨z, hz, hz8⟩ : ∃ z : List Word, z = List.replicate 8 noWord ∧ z.length = 8 := ⟨_, rfl, rfl⟩
 intro ρ hL
 rw [show (⟨6, [[.int .i64 0, .bool false, .int .i64 0, .int .i64 0, .int .i64 0, .int .i64 0], [.int .i64 0, .bool false, .int .i64 0, .int .i64 0, .int .i64 0, .int .i64 0], [.int .i64 0, .bool false, .int .i64 0, .int .i64 0, .int .i64 0, .int .i64 0], [.int .i64 0, .bool false, .int .i64 0, .int .i64 0, .int .i64 0, .int .i64 0], [.int .i64 0, .bool false, .int .i64 0, .int .i64 0, .int .i64 0, .int .i64 0], [.int .i64 0, .bool false, .int .i64 0, .int .i64 0, .int .i64 0, .int .i64 0], [.int .i64 0, .bool false, .int .i64 0, .int .i64 0, .int .i64 0, .int .i64 0], [.int .i64 0, .bool false, .int .i64 0, .int .i64 0, .int .i64 0, .int .i64 0]].flatten, true, false⟩ : Blk) = ⟨6, rows z, true, false⟩ by rw [hz]; rfl]
 have hn9 : 0 < z.length := by omega
 repeat refine awl_seq ?_
 refine awl_regD mixed _ rfl fun K hK => ?_
 try simp only [go_sem, simprocAttr, hL, hX, hn9, hz8, words_put0 hn9]
 repeat' refine And.intro (by first | omega | (exact ⟨[0, 1, 0, 4, 15, 31], by kernel_rfl⟩) | kernel_rfl) ?_
 refine dS_call_ro rfl (sat_impl_KeyWord ⟨0, 24, 59, 0⟩ 0) ?ha ?hv ?hh ?_
 case ha => simp only [go_sem, simprocAttr, hL, hX, hn9, hz8, words_put0 hn9]; first | done | rfl
 case hv => first | rfl | (simp only [go_sem]; done)
 case hh => first | rfl | (simp only [go_sem]; done)
 try simp only [go_sem, simprocAttr, hL, hX, hn9, hz8, words_put0 hn9]
 repeat' refine And.intro (by first | omega | (exact ⟨[0, 1, 0, 4, 15, 31], by kernel_rfl⟩) | kernel_rfl) ?_
 refine hK _ _ (.mk (awl_live' [0, 1] fun ρ hM => ?_))
 try simp only [go_sem, simprocAttr, hL, hX, hn9, hz8, words_put0 hn9] at hM
 clear hK K hL
 revert ρ hM
 refine zSF [0, 1] (sat_impl_KeyWord ⟨0, 48, 4, 0⟩ 0) ?_
 refine zS [0] ?_
 intro ρ hL
 refine awl_ret ?_
 refine retNE (v := .agg [.slice 1 0 8 8, .int .i64 (keyWord ⟨0, 48, 4, 0⟩ 0).n, .bool (keyWord ⟨0, 48, 4, 0⟩ 0).is, .int .i64 (keyWord ⟨0, 48, 4, 0⟩ 0).key.base, .int .i64 (keyWord ⟨0, 48, 4, 0⟩ 0).key.top, .int .i64 (keyWord ⟨0, 48, 4, 0⟩ 0).key.perms, .int .i64 (keyWord ⟨0, 48, 4, 0⟩ 0).key.lock, .slice 2 0 memNew.words.length 0, .slice 3 0 memNew.gone.length 0, .int .i64 0]) [] [1, 2, 3] [1, 2, 3] rfl (by simp only [go_sem, simprocAttr, hL, hX]; exact rfl) (by first | rfl | (simp only [go_sem, simprocAttr, hL, hX]; first | done | rfl)) (Ref.agg (RefL.cons (Ref.cap _ _ _ _ 0 (Nat.zero_le _)) (RefL.cons (Ref.refl _) (RefL.cons (Ref.refl _) (RefL.cons (Ref.refl _) (RefL.cons (Ref.refl _) (RefL.cons (Ref.refl _) (RefL.cons (Ref.refl _) (RefL.cons (Ref.refl _) (RefL.cons (Ref.refl _) (RefL.cons (Ref.refl _) (RefL.same [])))))))))))) rfl (by decide) rfl rfl rfl rfl ?_
 refine ⟨⟨z.set 0 (keyWord ⟨0, 24, 59, 0⟩ 0), keyWord ⟨0, 48, 4, 0⟩ 0, memNew, 0⟩, ?hq1, ?hv1, ?hh1⟩
 case hv1 => (try simp only [go_sem, simprocAttr, hX, List.length_set,  hz8]); first | done | rfl
 case hh1 => (try simp only [go_sem, simprocAttr, hX, List.length_set,  hz8]); first | done | rfl
 all_goals (subst hz; rfl)
theorem sat_spec_DeskNew (l : Bs) (hl : l.length ≤ 1048576) : Sat Tryz.prog 7 [.str (bt l)] [] (.tuple [.agg ((dskNew l).1.own 0 1 2 3 4 5 6), .bool (dskNew l).2]) (dskNew l).1.blks := by
 have hX := trivial
 refine sat_mk [.cell 2 38, .tmp 3] 0 18 Tryz.call7 Tryz.func7 Tryz.ntmps7 rfl rfl rfl rfl rfl ?_
 refine zI [0] ?_
 refine zS [0, 2] ?_
 refine zSF [2, 4, 5] (sat_spec_CodeRead l hl) ?_
 refine zS [2, 4, 12] ?_
 refine zC ?_ ?_
 ·intro c1
  refine zS [2, 3] ?_
  intro ρ hL
  refine awl_ret ?_
  refine retN (v := .tuple [.agg [.nilsl, .nilsl, .int .i64 0, .bool false, .int .i64 0, .int .i64 0, .int .i64 0, .int .i64 0, .nilsl, .nilsl, .int .i64 0, .nilsl, .int .i64 0, .bool false, .int .i64 0, .int .i64 0, .int .i64 0, .int .i64 0, .bool false, .nilsl, .nilsl], .bool false]) [5, 6, 6, 1, 40, 1, 1] [2, 3, 4, 5, 6, 7, 8] [2, 3, 4, 5, 6, 7, 8] rfl (by simp only [go_sem, simprocAttr, hL, hX]; exact rfl) (by first | rfl | (simp only [go_sem, simprocAttr, hL, hX]; first | done | rfl)) (Ref.tuple (RefL.cons (Ref.agg (RefL.cons (Ref.nil 2 ⟨Nat.le_of_ble_eq_true rfl, Nat.le_of_ble_eq_true rfl⟩) (RefL.cons (Ref.nil 3 ⟨Nat.le_of_ble_eq_true rfl, Nat.le_of_ble_eq_true rfl⟩) (RefL.cons (Ref.refl _) (RefL.cons (Ref.refl _) (RefL.cons (Ref.refl _) (RefL.cons (Ref.refl _) (RefL.cons (Ref.refl _) (RefL.cons (Ref.refl _) (RefL.cons (Ref.nil 4 ⟨Nat.le_of_ble_eq_true rfl, Nat.le_of_ble_eq_true rfl⟩) (RefL.cons (Ref.nil 5 ⟨Nat.le_of_ble_eq_true rfl, Nat.le_of_ble_eq_true rfl⟩) (RefL.cons (Ref.refl _) (RefL.cons (Ref.nil 6 ⟨Nat.le_of_ble_eq_true rfl, Nat.le_of_ble_eq_true rfl⟩) (RefL.cons (Ref.refl _) (RefL.cons (Ref.refl _) (RefL.cons (Ref.refl _) (RefL.cons (Ref.refl _) (RefL.cons (Ref.refl _) (RefL.cons (Ref.refl _) (RefL.cons (Ref.refl _) (RefL.cons (Ref.nil 7 ⟨Nat.le_of_ble_eq_true rfl, Nat.le_of_ble_eq_true rfl⟩) (RefL.cons (Ref.nil 8 ⟨Nat.le_of_ble_eq_true rfl, Nat.le_of_ble_eq_true rfl⟩) (RefL.same []))))))))))))))))))))))) (RefL.same _))) rfl (by decide) rfl rfl ?_ ?_
  all_goals try simp only [go_sem, simprocAttr, hL, hX]
  all_goals (rw [dskNew_no (by simpa using c1)]; try rfl)
 ·intro c1 ρ hL
  refine awl_skip ?_
  obtain ⟨s, hs0, hs1⟩ := sat_spec_StateNewX
  have hsf : s.fit := by rw [hs0]; simp [Stt.fit, Mem.fit, sttNew, memNew]
  refine zA ?_
  intro K hK
  refine zFJ [] (hs1) ?_
  refine zF (sat_spec_CoreNew s hsf) ?_
  refine zE [2, 3] ?_
  clear hK K hL
  intro ρ hL
  refine awl_ret ?_
  refine retN (v := .tuple [.agg [.slice 1 0 (codeRead l).1.length 0, .slice 5 0 (corNew s).s.regs.length 0, .int .i64 (corNew s).s.pc.n, .bool (corNew s).s.pc.is, .int .i64 (corNew s).s.pc.key.base, .int .i64 (corNew s).s.pc.key.top, .int .i64 (corNew s).s.pc.key.perms, .int .i64 (corNew s).s.pc.key.lock, .slice 6 0 (corNew s).s.mem.words.length 0, .slice 7 0 (corNew s).s.mem.gone.length 0, .int .i64 (corNew s).s.trap, .slice 8 0 (corNew s).rob.length 0, .int .i64 (corNew s).next.n, .bool (corNew s).next.is, .int .i64 (corNew s).next.key.base, .int .i64 (corNew s).next.key.top, .int .i64 (corNew s).next.key.perms, .int .i64 (corNew s).next.key.lock, .bool (corNew s).stop, .slice 9 0 (corNew s).guesses.length 0, .nilsl], .bool true]) [1] [1, 5, 6, 7, 8, 9, 10] [1, 5, 6, 7, 8, 9, 10] rfl (by simp only [go_sem, simprocAttr, hL, hX]; exact rfl) (by first | rfl | (simp only [go_sem, simprocAttr, hL, hX]; first | done | rfl)) (Ref.tuple (RefL.cons (Ref.agg (RefL.cons (Ref.refl _) (RefL.cons (Ref.refl _) (RefL.cons (Ref.refl _) (RefL.cons (Ref.refl _) (RefL.cons (Ref.refl _) (RefL.cons (Ref.refl _) (RefL.cons (Ref.refl _) (RefL.cons (Ref.refl _) (RefL.cons (Ref.refl _) (RefL.cons (Ref.refl _) (RefL.cons (Ref.refl _) (RefL.cons (Ref.refl _) (RefL.cons (Ref.refl _) (RefL.cons (Ref.refl _) (RefL.cons (Ref.refl _) (RefL.cons (Ref.refl _) (RefL.cons (Ref.refl _) (RefL.cons (Ref.refl _) (RefL.cons (Ref.refl _) (RefL.cons (Ref.refl _) (RefL.cons (Ref.nil 10 ⟨Nat.le_of_ble_eq_true rfl, Nat.le_of_ble_eq_true rfl⟩) (RefL.same []))))))))))))))))))))))) (RefL.same _))) rfl (by decide) rfl rfl ?_ ?_
  all_goals try simp only [go_sem, simprocAttr, hL, hX]
  all_goals (rw [dskNew_yes (by simpa using c1), hs0]; try rfl)
theorem sat_impl_DeskNew (l : Bs) (hl : l.length ≤ 1048576) : Sat Tryz.prog 8 [.str (bt l)] [] (.tuple [.agg ((dskNew l).1.own 0 1 2 3 4 5 6), .bool (dskNew l).2]) (dskNew l).1.blks := by
 have hX := trivial
 refine sat_mk [.cell 2 38, .tmp 3] 0 18 Tryz.call8 Tryz.func8 Tryz.ntmps8 rfl rfl rfl rfl rfl ?_
 refine zI [0] ?_
 refine zS [0, 2] ?_
 refine zSF [2, 4, 5] (sat_impl_CodeRead l hl) ?_
 refine zS [2, 4, 12] ?_
 refine zC ?_ ?_
 ·intro c1
  refine zS [2, 3] ?_
  intro ρ hL
  refine awl_ret ?_
  refine retN (v := .tuple [.agg [.nilsl, .nilsl, .int .i64 0, .bool false, .int .i64 0, .int .i64 0, .int .i64 0, .int .i64 0, .nilsl, .nilsl, .int .i64 0, .nilsl, .int .i64 0, .bool false, .int .i64 0, .int .i64 0, .int .i64 0, .int .i64 0, .bool false, .nilsl, .nilsl], .bool false]) [5, 6, 6, 1, 40, 1, 1] [2, 3, 4, 5, 6, 7, 8] [2, 3, 4, 5, 6, 7, 8] rfl (by simp only [go_sem, simprocAttr, hL, hX]; exact rfl) (by first | rfl | (simp only [go_sem, simprocAttr, hL, hX]; first | done | rfl)) (Ref.tuple (RefL.cons (Ref.agg (RefL.cons (Ref.nil 2 ⟨Nat.le_of_ble_eq_true rfl, Nat.le_of_ble_eq_true rfl⟩) (RefL.cons (Ref.nil 3 ⟨Nat.le_of_ble_eq_true rfl, Nat.le_of_ble_eq_true rfl⟩) (RefL.cons (Ref.refl _) (RefL.cons (Ref.refl _) (RefL.cons (Ref.refl _) (RefL.cons (Ref.refl _) (RefL.cons (Ref.refl _) (RefL.cons (Ref.refl _) (RefL.cons (Ref.nil 4 ⟨Nat.le_of_ble_eq_true rfl, Nat.le_of_ble_eq_true rfl⟩) (RefL.cons (Ref.nil 5 ⟨Nat.le_of_ble_eq_true rfl, Nat.le_of_ble_eq_true rfl⟩) (RefL.cons (Ref.refl _) (RefL.cons (Ref.nil 6 ⟨Nat.le_of_ble_eq_true rfl, Nat.le_of_ble_eq_true rfl⟩) (RefL.cons (Ref.refl _) (RefL.cons (Ref.refl _) (RefL.cons (Ref.refl _) (RefL.cons (Ref.refl _) (RefL.cons (Ref.refl _) (RefL.cons (Ref.refl _) (RefL.cons (Ref.refl _) (RefL.cons (Ref.nil 7 ⟨Nat.le_of_ble_eq_true rfl, Nat.le_of_ble_eq_true rfl⟩) (RefL.cons (Ref.nil 8 ⟨Nat.le_of_ble_eq_true rfl, Nat.le_of_ble_eq_true rfl⟩) (RefL.same []))))))))))))))))))))))) (RefL.same _))) rfl (by decide) rfl rfl ?_ ?_
  all_goals try simp only [go_sem, simprocAttr, hL, hX]
  all_goals (rw [dskNew_no (by simpa using c1)]; try rfl)
 ·intro c1 ρ hL
  refine awl_skip ?_
  obtain ⟨s, hs0, hs1⟩ := sat_impl_StateNew
  have hsf : s.fit := by rw [hs0]; simp [Stt.fit, Mem.fit, sttNew, memNew]
  refine zA ?_
  intro K hK
  refine zFJ [] (hs1) ?_
  refine zF (sat_impl_CoreNew s hsf) ?_
  refine zE [2, 3] ?_
  clear hK K hL
  intro ρ hL
  refine awl_ret ?_
  refine retN (v := .tuple [.agg [.slice 1 0 (codeRead l).1.length 0, .slice 5 0 (corNew s).s.regs.length 0, .int .i64 (corNew s).s.pc.n, .bool (corNew s).s.pc.is, .int .i64 (corNew s).s.pc.key.base, .int .i64 (corNew s).s.pc.key.top, .int .i64 (corNew s).s.pc.key.perms, .int .i64 (corNew s).s.pc.key.lock, .slice 6 0 (corNew s).s.mem.words.length 0, .slice 7 0 (corNew s).s.mem.gone.length 0, .int .i64 (corNew s).s.trap, .slice 8 0 (corNew s).rob.length 0, .int .i64 (corNew s).next.n, .bool (corNew s).next.is, .int .i64 (corNew s).next.key.base, .int .i64 (corNew s).next.key.top, .int .i64 (corNew s).next.key.perms, .int .i64 (corNew s).next.key.lock, .bool (corNew s).stop, .slice 9 0 (corNew s).guesses.length 0, .nilsl], .bool true]) [1] [1, 5, 6, 7, 8, 9, 10] [1, 5, 6, 7, 8, 9, 10] rfl (by simp only [go_sem, simprocAttr, hL, hX]; exact rfl) (by first | rfl | (simp only [go_sem, simprocAttr, hL, hX]; first | done | rfl)) (Ref.tuple (RefL.cons (Ref.agg (RefL.cons (Ref.refl _) (RefL.cons (Ref.refl _) (RefL.cons (Ref.refl _) (RefL.cons (Ref.refl _) (RefL.cons (Ref.refl _) (RefL.cons (Ref.refl _) (RefL.cons (Ref.refl _) (RefL.cons (Ref.refl _) (RefL.cons (Ref.refl _) (RefL.cons (Ref.refl _) (RefL.cons (Ref.refl _) (RefL.cons (Ref.refl _) (RefL.cons (Ref.refl _) (RefL.cons (Ref.refl _) (RefL.cons (Ref.refl _) (RefL.cons (Ref.refl _) (RefL.cons (Ref.refl _) (RefL.cons (Ref.refl _) (RefL.cons (Ref.refl _) (RefL.cons (Ref.refl _) (RefL.cons (Ref.nil 10 ⟨Nat.le_of_ble_eq_true rfl, Nat.le_of_ble_eq_true rfl⟩) (RefL.same []))))))))))))))))))))))) (RefL.same _))) rfl (by decide) rfl rfl ?_ ?_
  all_goals try simp only [go_sem, simprocAttr, hL, hX]
  all_goals (rw [dskNew_yes (by simpa using c1), hs0]; try rfl)
end Go.Proofs.YtgpjgljgplngpaaGreatDoor.AM
