/- What a core holds. No conditions but those each theorem bears. -/
import Derived.Test.YtdifphcihhbjlaaGreatFa
import Derived.Test.YtdifphcihhbjlaaGreatM5
import Derived.Test.YtdifphcihhbjlaaGreatCa18
set_option linter.unusedSimpArgs false
set_option linter.unusedVariables false
namespace Go.Proofs.YtdifphcihhbjlaaGreat.AM
open Go
set_option maxHeartbeats 8000000
set_option maxRecDepth 100000

theorem sat_impl_Held (c : Cor) (hf : c.fit) : Sat Tryz.prog 51 [.agg c.cells] [] (.slice 0 0 (held c).length 0) [⟨6, rows (held c), true, false⟩] := by
 have hX := trivial
 refine sat_mk [.tmp 2] 0 40 Tryz.call51 Tryz.func51 Tryz.ntmps51 rfl rfl rfl rfl rfl ?_
 refine zI [0] ?_
 have hf1 := hf.2.1
 refine zS [1] ?_
 refine zSF [1, 3] (sat_impl_Keys c.s hf.1) ?_
 refine zS [1, 3, 10, 11, 12] ?_
 intro ρ hL
 have e1 := hL
 refine awl_loopH (fun H0 n σ G => ∃ (i : Nat), n = c.rob.length - i ∧ (i ≤ c.rob.length) ∧ (liveE [1, 10, 11] σ ρ ∧ σ 3 = .slice 1 0 (heldUp c i).length 0 ∧ σ 12 = .int .i64 (i : Int)) ∧ G = [⟨19, c.cells, true, false⟩, ⟨6, rows (heldUp c i), true, false⟩]) (fun H0 σ G => (liveE [1] σ ρ ∧ σ 3 = .slice 1 0 (heldUp c c.rob.length).length 0) ∧ G = [⟨19, c.cells, true, false⟩, ⟨6, rows (heldUp c c.rob.length), true, false⟩]) ((fun (i : Nat) => c.rob.length - i) 0) ?init1 (fun n ρ G hI => ?round1) (fun ρ G hJ => ?after1)
 case init1 => exact ⟨0, rfl, (Nat.zero_le _), ⟨liveE_refl _ _, (by rw [heldUp_zero]; exact hL.2.1), (hL.2.2.2.2)⟩, by rw [heldUp_zero]; rfl⟩
 case round1 =>
  clear hL
  obtain ⟨i, hn, i1_0, hL, hG⟩ := hI
  subst hG
  try simp only [go_sem, simprocAttr, e1, hX] at hL
  revert ρ hL
  refine zS [1, 3, 10, 11, 12, 13] ?_
  refine zC ?_ ?_
  · intro c1
    have hi1 : i < c.rob.length := by omega
    replace hX := And.intro hi1 hX
    intro ρ hL
    refine awl_skip ?_
    refine awl_seq ?_
    refine awl_block fun R1 hw1 hR1 => ?_
    revert ρ hL
    refine zS [1, 3, 5, 10, 11, 12] ?_
    have hq1 := heldUp_len hf (i := i) (by omega)
    have hq2 : (keysOf (five (c.rob.getD i noEnt))).length ≤ 5 := keysOf_len
    refine zSF [1, 3, 10, 11, 12] (sat_impl_keysOf (five (c.rob.getD i noEnt)) (by rw [five_len]; omega)) ?_
    intro ρ hL
    refine awl_nil ?_
    refine blk_normal (hR1 _ _ (.mk ?_))
    have w1 : IntKind.i64.wrap ((i : Int) + 1) = ((i + 1 : Nat) : Int) := by rw [wrap64 (by omega)]; omega
    replace hX := And.intro w1 hX
    revert ρ hL
    refine zS [1, 3, 10, 11, 12] ?_
    intro ρ hL
    refine awl_nil ?_
    refine loop_againW (Wk.keep [0, 5] rfl) _ ?meas ⟨i + 1, rfl, (by omega), ⟨(by simp only [go_sem, simprocAttr, hL, hX, e1]), (by simp only [go_sem, simprocAttr, hL, hX, e1]; rw [heldUp_succ hi1, List.length_append]), (by simp only [go_sem, simprocAttr, hL, hX, e1]; first | done | rfl)⟩, (by simp only [go_sem, simprocAttr, hL, hX, e1]; rw [heldUp_succ hi1, rows_append])⟩
    case meas => subst hn; omega
  · intro c1
    intro ρ hL
    refine awl_exit ?_
    refine loop_break ?_
    have h3 := hL.2.1
    exact ⟨⟨(by simp only [go_sem, simprocAttr, hL, hX, e1]), (by rw [h3, show i = c.rob.length by omega])⟩, by rw [show i = c.rob.length by omega]; rfl⟩
 case after1 =>
  clear hL
  obtain ⟨hL, hG⟩ := hJ
  subst hG
  try simp only [go_sem, simprocAttr, e1, hX] at hL
  have hq1 := heldUp_len hf (Nat.le_refl _)
  have hq2 : (keysOf [c.next]).length ≤ 1 := keysOf_len
  revert ρ hL
  refine zSF [2] (sat_impl_keysOf [c.next] (by simp)) ?_
  refine zK [4] [4] ?_ ?_
  all_goals try simp only [go_sem, simprocAttr, hX]
  all_goals try clear hR1
  all_goals (rw [held_eq] <;> simp only [List.length_append, rows_append])
theorem sat_spec_Held (c : Cor) (hf : c.fit) : Sat Tryz.prog 68 [.agg c.cells] [] (.slice 0 0 (held c).length 0) [⟨6, rows (held c), true, false⟩] := by
 have hX := trivial
 refine sat_mk [.tmp 2] 0 64 Tryz.call68 Tryz.func68 Tryz.ntmps68 rfl rfl rfl rfl rfl ?_
 refine zI [0] ?_
 have hf1 := hf.2.1
 refine zS [1] ?_
 refine zSF [1, 3] (sat_spec_Keys c.s hf.1) ?_
 refine zS [1, 3, 4] ?_
 intro ρ hL
 have e1 := hL
 refine awl_loopH (fun H0 n σ G => ∃ (i : Nat), n = c.rob.length - i ∧ (i ≤ c.rob.length) ∧ (liveE [1] σ ρ ∧ σ 3 = .slice 1 0 (heldUp c i).length 0 ∧ σ 4 = .int .i64 (i : Int)) ∧ G = [⟨19, c.cells, true, false⟩, ⟨6, rows (heldUp c i), true, false⟩]) (fun H0 σ G => (liveE [1] σ ρ ∧ σ 3 = .slice 1 0 (heldUp c c.rob.length).length 0) ∧ G = [⟨19, c.cells, true, false⟩, ⟨6, rows (heldUp c c.rob.length), true, false⟩]) ((fun (i : Nat) => c.rob.length - i) 0) ?init1 (fun n ρ G hI => ?round1) (fun ρ G hJ => ?after1)
 case init1 => exact ⟨0, rfl, (Nat.zero_le _), ⟨liveE_refl _ _, (by rw [heldUp_zero]; exact hL.2.1), (hL.2.2)⟩, by rw [heldUp_zero]; rfl⟩
 case round1 =>
  clear hL
  obtain ⟨i, hn, i1_0, hL, hG⟩ := hI
  subst hG
  try simp only [go_sem, simprocAttr, e1, hX] at hL
  revert ρ hL
  refine zS [1, 3, 4, 15] ?_
  refine zC ?_ ?_
  · intro c1
    have hi1 : i < c.rob.length := by omega
    replace hX := And.intro hi1 hX
    intro ρ hL
    refine awl_skip ?_
    refine awl_seq ?_
    refine awl_block fun R1 hw1 hR1 => ?_
    revert ρ hL
    refine zS [1, 3, 4, 5] ?_
    refine zS [1, 3, 4, 6] ?_
    refine zS [1, 3, 4, 6, 7] ?_
    intro ρ hL
    have e2 := hL
    refine awl_loopH (fun H0 n σ G => ∃ (k : Nat), n = 5 - k ∧ (k ≤ 5) ∧ (liveE [1, 4, 6] σ ρ ∧ σ 3 = .slice 1 0 (heldUp c i ++ keysOf ((five (c.rob.getD i noEnt)).take k)).length 0 ∧ σ 7 = .int .i64 (k : Int)) ∧ G = [⟨19, c.cells, true, false⟩, ⟨6, rows (heldUp c i ++ keysOf ((five (c.rob.getD i noEnt)).take k)), true, false⟩, ⟨40, Ent.cells (c.rob.getD i noEnt), true, false⟩, ⟨6, rows (five (c.rob.getD i noEnt)), true, false⟩]) (fun H0 σ G => (liveE [1, 4] σ ρ ∧ σ 3 = .slice 1 0 (heldUp c i ++ keysOf (five (c.rob.getD i noEnt))).length 0) ∧ G = [⟨19, c.cells, true, false⟩, ⟨6, rows (heldUp c i ++ keysOf (five (c.rob.getD i noEnt))), true, false⟩, ⟨40, Ent.cells (c.rob.getD i noEnt), true, false⟩, ⟨6, rows (five (c.rob.getD i noEnt)), true, false⟩]) ((fun (k : Nat) => 5 - k) 0) ?init2 (fun n ρ G hI => ?round2) (fun ρ G hJ => ?after2)
    case init2 => exact ⟨0, rfl, (Nat.zero_le _), ⟨liveE_refl _ _, (by rw [List.take_zero, show keysOf [] = [] from rfl, List.append_nil]; exact hL.2.1), (hL.2.2.2.2)⟩, by rw [List.take_zero, show keysOf [] = [] from rfl, List.append_nil]; rfl⟩
    case round2 =>
     clear hL
     obtain ⟨k, hn, i2_0, hL, hG⟩ := hI
     subst hG
     try simp only [go_sem, simprocAttr, e2, hX] at hL
     revert ρ hL
     refine zS [1, 3, 4, 6, 7, 40] ?_
     refine zC ?_ ?_
     · intro c2
       have hi2 : k < 5 := by omega
       replace hX := And.intro hi2 hX
       intro ρ hL
       refine awl_skip ?_
       refine awl_seq ?_
       refine awl_block fun R2 hw2 hR2 => ?_
       have hk5 : k < (five (c.rob.getD i noEnt)).length := hi2
       repeat refine awl_seq ?_
       refine awl_regS _ rfl fun K hK => ?_
       try simp only [go_sem, simprocAttr, hL, hX, words_atO hk5]
       repeat' refine And.intro (by first | rfl | omega | (simp; done)) ?_
       refine hK _ _ (.mk (awl_live' [1, 3, 4, 6, 7, 47] fun ρ hM => ?_))
       try simp only [go_sem, simprocAttr, hL, hX, words_atO hk5] at hM
       clear hK K hL
       revert ρ hM
       refine zC ?_ ?_
       · intro c3
         have hq1 := heldUp_len hf (i := i) (by omega)
         have hq2 : (keysOf ((five (c.rob.getD i noEnt)).take k)).length ≤ 5 := Nat.le_trans keysOf_len (by rw [List.length_take, five_len]; omega)
         have hq3 : (heldUp c i ++ keysOf ((five (c.rob.getD i noEnt)).take k)).length ≤ 16777216 := by rw [List.length_append]; omega
         intro ρ hL
         repeat refine awl_seq ?_
         refine awl_regS _ rfl fun K hK => ?_
         try simp only [go_sem, simprocAttr, hL, hX, words_at hk5]
         repeat' refine And.intro (by first | rfl | omega | (simp; done)) ?_
         refine hK _ _ (.mk (awl_live' [1, 3, 4, 6, 7] fun ρ hM => ?_))
         try simp only [go_sem, simprocAttr, hL, hX, words_at hk5] at hM
         clear hK K hL
         revert ρ hM
         intro ρ hL
         refine awl_nil ?_
         refine blk_normal (hR2 _ _ (.mk ?_))
         have w2 : IntKind.i64.wrap ((k : Int) + 1) = ((k + 1 : Nat) : Int) := by rw [wrap64 (by omega)]; omega
         replace hX := And.intro w2 hX
         revert ρ hL
         refine zS [1, 3, 4, 6, 7] ?_
         intro ρ hL
         refine awl_nil ?_
         refine loop_againW (Wk.keep [0, 5, 2, 3] rfl) _ ?meas ⟨k + 1, rfl, (by omega), ⟨(by simp only [go_sem, simprocAttr, hL, hX, e2]), (by simp only [go_sem, simprocAttr, hL, hX, e2]; rw [keysOf_snoc hk5, if_pos c3]; simp only [List.length_append, List.length_cons, List.length_nil, Nat.add_assoc]), (by simp only [go_sem, simprocAttr, hL, hX, e2]; first | done | rfl)⟩, (by simp only [go_sem, simprocAttr, hL, hX, e2]; rw [keysOf_snoc hk5, if_pos c3, ← List.append_assoc, ← words_snoc] <;> rfl)⟩
         case meas => subst hn; omega
       · intro c3
         intro ρ hL
         refine awl_skip ?_
         refine awl_nil ?_
         refine blk_normal (hR2 _ _ (.mk ?_))
         have w2 : IntKind.i64.wrap ((k : Int) + 1) = ((k + 1 : Nat) : Int) := by rw [wrap64 (by omega)]; omega
         replace hX := And.intro w2 hX
         revert ρ hL
         refine zS [1, 3, 4, 6, 7] ?_
         intro ρ hL
         refine awl_nil ?_
         refine loop_againW (Wk.keep [0, 1, 2, 3] rfl) _ ?meas ⟨k + 1, rfl, (by omega), ⟨(by simp only [go_sem, simprocAttr, hL, hX, e2]), (by simp only [go_sem, simprocAttr, hL, hX, e2]; rw [keysOf_snoc hk5, if_neg (by rw [c3]; exact Bool.noConfusion), List.append_nil]), (by simp only [go_sem, simprocAttr, hL, hX, e2]; first | done | rfl)⟩, (by simp only [go_sem, simprocAttr, hL, hX, e2]; rw [keysOf_snoc hk5, if_neg (by rw [c3]; exact Bool.noConfusion), List.append_nil])⟩
         case meas => subst hn; omega
     · intro c2
       intro ρ hL
       refine awl_exit ?_
       refine loop_break ?_
       have h3 := hL.2.1
       exact ⟨⟨(by simp only [go_sem, simprocAttr, hL, hX, e2]), (by rw [h3, List.take_of_length_le (by rw [five_len]; omega)])⟩, by rw [List.take_of_length_le (by rw [five_len]; omega)]; rfl⟩
    case after2 =>
     clear hL
     obtain ⟨hL, hG⟩ := hJ
     subst hG
     try simp only [go_sem, simprocAttr, e2, hX] at hL
     refine awl_nil ?_
     refine blk_normal (hR1 _ _ (.mk ?_))
     have w1 : IntKind.i64.wrap ((i : Int) + 1) = ((i + 1 : Nat) : Int) := by rw [wrap64 (by omega)]; omega
     replace hX := And.intro w1 hX
     revert ρ hL
     refine zS [1, 3, 4] ?_
     intro ρ hL
     refine awl_nil ?_
     refine loop_againW (Wk.keep [0, 1] rfl) _ ?meas ⟨i + 1, rfl, (by omega), ⟨(by simp only [go_sem, simprocAttr, hL, hX, e1]), (by simp only [go_sem, simprocAttr, hL, hX, e1]; rw [heldUp_succ hi1]), (by simp only [go_sem, simprocAttr, hL, hX, e1]; first | done | rfl)⟩, (by simp only [go_sem, simprocAttr, hL, hX, e1]; rw [heldUp_succ hi1])⟩
     case meas => subst hn; omega
  · intro c1
    intro ρ hL
    refine awl_exit ?_
    refine loop_break ?_
    have h3 := hL.2.1
    exact ⟨⟨(by simp only [go_sem, simprocAttr, hL, hX, e1]), (by rw [h3, show i = c.rob.length by omega])⟩, by rw [show i = c.rob.length by omega]; rfl⟩
 case after1 =>
  clear hL
  obtain ⟨hL, hG⟩ := hJ
  subst hG
  try simp only [go_sem, simprocAttr, e1, hX] at hL
  revert ρ hL
  refine zS [1, 3, 57] ?_
  refine zC ?_ ?_
  · intro c4
    have hq1 := heldUp_len hf (Nat.le_refl _)
    refine zS [3] ?_
    refine zS [2] ?_
    refine zK [3] [3] ?_ ?_
    all_goals try simp only [go_sem, simprocAttr, hX]
    all_goals try clear hR1
    all_goals try clear hR2
    all_goals (rw [held_yes c4] <;> simp only [List.length_append, List.length_cons, List.length_nil, words_snoc])
  · intro c4
    intro ρ hL
    refine awl_skip ?_
    revert ρ hL
    refine zS [2] ?_
    refine zK [1] [1] ?_ ?_
    all_goals try simp only [go_sem, simprocAttr, hX]
    all_goals try clear hR1
    all_goals try clear hR2
    all_goals (rw [held_no c4])
end Go.Proofs.YtdifphcihhbjlaaGreat.AM
