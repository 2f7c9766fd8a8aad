/- Keys as texts. No conditions but those each theorem bears. -/
import Derived.Test.YtgpjgljgplngpaaGreatDoorFa
import Derived.Test.YtgpjgljgplngpaaGreatDoorTx6
import Derived.Test.YtgpjgljgplngpaaGreatDoorLb2
import Derived.Test.YtgpjgljgplngpaaGreatDoorCb2
import Derived.Test.YtgpjgljgplngpaaGreatDoorCb1
set_option linter.unusedSimpArgs false
set_option linter.unusedVariables false
namespace Go.Proofs.YtgpjgljgplngpaaGreatDoor.AM
open Go
set_option maxHeartbeats 8000000
set_option maxRecDepth 100000

section
attribute [local go_sem] mk_bt bt_app bt_fits bytes_one
theorem sat_spec_l7Digits (a : Int) (ha : -9223372036854775808 ≤ a ∧ a ≤ 9223372036854775807) : Sat Tryz.prog 49 [.int .i64 a] [] (.str (bt (itoa a))) [] := by
 have hX := trivial
 refine sat_mk [.tmp 2] 0 31 Tryz.call49 Tryz.func49 Tryz.ntmps49 rfl rfl rfl rfl rfl ?_
 refine zI [0] ?_
 refine zS [0] ?_
 refine zS [0, 7] ?_
 refine zC ?_ ?_
 · intro c1
   refine zS [2] ?_
   refine zR ?_
   try simp only [go_sem, simprocAttr]
   all_goals (simp [c1, itoa_zero, bt])
 · intro c1
   intro ρ hL
   refine awl_skip ?_
   revert ρ hL
   refine zS [0, 3] ?_
   refine zS [0, 3, 4] ?_
   intro ρ hL
   refine awl_seq ?_
   have e1 := hL
   refine awl_loopH (fun H0 n σ G => ∃ (m : Int) (o : Bs), n = m.natAbs ∧ (decP m.natAbs ++ o = decP a.natAbs) ∧ (-9223372036854775808 ≤ m ∧ m ≤ 9223372036854775807) ∧ (liveE [3] σ ρ ∧ σ 0 = .int .i64 m ∧ σ 4 = .str (bt o)) ∧ G = H0) (fun H0 σ G => (liveE [3] σ ρ ∧ σ 4 = .str (bt (decP a.natAbs))) ∧ G = H0) ((fun (m : Int) (o : Bs) => m.natAbs) a  []) ?init1 (fun n ρ G hI => ?round1) (fun ρ G hJ => ?after1)
   case init1 => exact ⟨a, [], rfl, (List.append_nil _), (ha), ⟨liveE_refl _ _, (hL.1), (hL.2.2)⟩, rfl⟩
   case round1 =>
    clear hL
    obtain ⟨m, o, hn, i1_0, i1_1, hL, hG⟩ := hI
    subst hG
    try simp only [go_sem, simprocAttr, e1, hX] at hL
    revert ρ hL
    refine zS [0, 3, 4, 11] ?_
    refine zC ?_ ?_
    · intro c2
      intro ρ hL
      refine awl_skip ?_
      refine awl_block fun R1 hw1 hR1 => ?_
      have hq := dig_facts i1_1
      have hlo := dig_fits c2 i1_0 ha
      have hm := digI_range m
      revert ρ hL
      refine zS [0, 3, 4, 5] ?_
      refine zS [0, 3, 4, 5, 15] ?_
      intro ρ hL
      have j2 := hL
      refine awl_joinH (fun H0 σ G => (liveE [0, 3, 4] σ ρ ∧ σ 5 = .int .i64 (digI m)) ∧ G = H0) ?inner2 (fun ρ G hJ => ?after2)
      case inner2 =>
       refine zN [0, 3, 4, 5, 15] ?_
       clear hL
       refine zC ?_ ?_
       · intro c3
         refine zS [0, 3, 4, 5] ?_
         intro ρ hL
         refine awl_nil ?_
         show wkQ _ _ _ _
         refine .mk ⟨⟨(by simp only [go_sem, simprocAttr, hL, hX, j2]), (by rw [hL.2.2.2]; congr 1; unfold digI; split <;> omega)⟩, rfl⟩
       · intro c3
         intro ρ hL
         refine awl_skip ?_
         refine awl_nil ?_
         show wkQ _ _ _ _
         refine .mk ⟨⟨(by simp only [go_sem, simprocAttr, hL, hX, j2]), (by rw [hL.2.2.2.1]; congr 1; unfold digI; split <;> omega)⟩, rfl⟩
      case after2 =>
       clear hL
       obtain ⟨hL, hG⟩ := hJ
       subst hG
       try simp only [go_sem, simprocAttr, j2, hX] at hL
       repeat refine awl_seq ?_
       refine awl_regS _ rfl fun K hK => ?_
       try simp only [go_sem, simprocAttr, hL, hX, hq.1, hq.2.1, hlo]
       repeat' refine And.intro (by first | rfl | omega | (simp; done)) ?_
       refine hK _ _ (.mk (awl_live' [0, 3, 4] fun ρ hM => ?_))
       try simp only [go_sem, simprocAttr, hL, hX, hq.1, hq.2.1, hlo] at hM
       clear hK K hL
       revert ρ hM
       intro ρ hL
       repeat refine awl_seq ?_
       refine awl_regS _ rfl fun K hK => ?_
       try simp only [go_sem, simprocAttr, hL, hX, hq.2.2]
       repeat' refine And.intro (by first | rfl | omega | (simp; done)) ?_
       refine hK _ _ (.mk (awl_live' [0, 3, 4] fun ρ hM => ?_))
       try simp only [go_sem, simprocAttr, hL, hX, hq.2.2] at hM
       clear hK K hL
       revert ρ hM
       intro ρ hL
       refine awl_nil ?_
       refine blk_normal (hR1 _ _ (.mk ?_))
       refine awl_nil ?_
       refine loop_againW (Wk.keep [] rfl) _ ?meas ⟨(m.tdiv 10), ([UInt8.ofNat (48 + digI m).toNat] ++ o), rfl, (by exact dig_step c2 i1_0), (by have := tdiv_abs m; omega), ⟨(by simp only [go_sem, simprocAttr, hL, hX, e1]), (by simp only [go_sem, simprocAttr, hL, hX, e1]; first | done | rfl), (by simp only [go_sem, simprocAttr, hL, hX, e1]; first | done | rfl)⟩, (by simp only [go_sem, simprocAttr, hL, hX, e1]; first | done | rfl)⟩
       case meas => subst hn; have := tdiv_abs m; omega
    · intro c2
      intro ρ hL
      refine awl_exit ?_
      refine loop_break ?_
      exact ⟨⟨(by simp only [go_sem, simprocAttr, hL, hX, e1]), (by rw [hL.2.2.1]; congr 2; exact dig_end c2 i1_0)⟩, rfl⟩
   case after1 =>
    clear hL
    obtain ⟨hL, hG⟩ := hJ
    subst hG
    try simp only [go_sem, simprocAttr, e1, hX] at hL
    revert ρ hL
    refine zS [4, 27] ?_
    refine zC ?_ ?_
    · intro c4
      have hl2 : lenOk [45] (decP a.natAbs) = true := lenOk_of (by have := decP_len ha; simp only [List.length_cons, List.length_nil]; omega)
      have hX0 := hX
      replace hX := And.intro hl2 hX
      refine zS [2] ?_
      clear hX
      have hX := hX0
      clear hX0
      refine zR ?_
      try simp only [go_sem, simprocAttr]
      all_goals try clear hR1
      all_goals (rw [itoa_neg (by omega) rfl]; try rfl)
    · intro c4
      intro ρ hL
      refine awl_skip ?_
      revert ρ hL
      refine zS [2] ?_
      refine zR ?_
      try simp only [go_sem, simprocAttr]
      all_goals try clear hR1
      all_goals (rw [itoa_pos (by omega) rfl])
end
end Go.Proofs.YtgpjgljgplngpaaGreatDoor.AM
