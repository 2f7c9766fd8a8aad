/- The law Settled, of what is drawn. No conditions but those each theorem bears. -/
import Derived.Test.YtdifphcihhbjlaaGreatFa
import Derived.Test.YtdifphcihhbjlaaGreatM7
import Derived.Test.YtdifphcihhbjlaaGreatCa63
import Derived.Test.YtdifphcihhbjlaaGreatCb6
import Derived.Test.YtdifphcihhbjlaaGreatCb8
import Derived.Test.YtdifphcihhbjlaaGreatCa8
set_option linter.unusedSimpArgs false
set_option linter.unusedVariables false
namespace Go.Proofs.YtdifphcihhbjlaaGreat.AM
open Go
set_option maxHeartbeats 8000000
set_option maxRecDepth 100000

theorem set_len : ∀ (n : Nat) {c : Cor} {m : Int}, (settleGo n c m).1.rob.length ≤ c.rob.length
  | 0, _, _ => by rw [settleGo]; exact Nat.le_refl _
  | n + 1, c, m => by
    rw [settleGo]
    split
    · exact Nat.le_refl _
    · exact Nat.le_trans (set_len n) (Nat.le_trans commit_len (all_len 7))
theorem settle_len {c : Cor} (h : corOk c = true) : (settle c).1.rob.length ≤ c.rob.length := by rw [settle_go h]; exact set_len 600
section
attribute [local go_sem] word_deq decide_true
theorem sat_laws_FnSettled (bs : List UInt8) (hs : bs.length ≤ 9223372036854775807) : Sat Tryz.prog 4 [.sl bs.length bs.length (bytesV bs)] [] (.bool true) [] := by
 have hX := trivial
 refine sat_mk [.tmp 2] 0 163 Tryz.call4 Tryz.func4 Tryz.ntmps4 rfl rfl rfl rfl rfl ?_
 refine zI [0] ?_
 refine zG [] [0] ?_
 intro ρ hL
 refine zA ?_
 intro K hK
 refine zF (sat_laws_big _) ?_
 refine zEG [] [0, 24] ?_
 clear hK K hL
 refine zC ?_ ?_
 · intro c1
   refine zG [] [2] ?_
   refine zR ?_
   try simp only [go_sem, simprocAttr]
   all_goals (rfl)
 · intro c1
   have hb : bs.length ≤ 1048576 := by omega
   intro ρ hL
   refine awl_skip ?_
   obtain ⟨l, k, rs, ws, gs, p, o, g, hk9, hs1⟩ := sat_spec_DrawSettle bs hb
   obtain ⟨hl, hsc, hcr, hcw, hci⟩ := hk9
   have hl9 : l.length ≤ 1048576 := by omega
   have hf := smallC_fit hsc
   have hq1 := hcr.1
   have hq2 := hcw.1
   have hq3 := hci.1
   have hd9 := settle_fit hf
   replace hX := And.intro hq1 (And.intro hq2 (And.intro hq3 hX))
   refine zA ?_
   intro K hK
   refine zFJ [] (hs1) ?_
   refine zEG [0, 6, 1, 2, 3, 4, 5] [0, 3, 4] ?_
   clear hK K hL
   intro ρ hL
   refine zA ?_
   intro K hK
   refine zF (sat_impl_Settle l k hf) ?_
   refine zEG [0, 1, 2, 3, 4, 5, 6, 12, 7, 8, 9, 10, 11] [0, 3, 4, 5, 6] ?_
   clear hK K hL
   intro ρ hL
   refine zA ?_
   intro K hK
   refine zF (sat_spec_Settle l k hf) ?_
   refine zEG [1, 2, 3, 4, 5, 6, 7, 8, 9, 10, 11, 12, 18, 13, 14, 15, 16, 17] [0, 4, 5, 6, 7, 8] ?_
   clear hK K hL
   have kA : alike (settle k).1.s (settle k).1.s = true := alike_refl
   intro ρ hL
   replace hX := And.intro kA hX
   refine zA ?_
   intro K hK
   refine zF (sat_impl_Alike (settle k).1.s (settle k).1.s hd9.1) ?_
   refine zEG [0, 1, 2, 3, 4, 5, 6, 7, 8, 9, 10, 11] [0, 4, 5, 6, 61] ?_
   clear hK K hL
   refine zQ ?_ ?_
   · intro c2
     try simp only [cnd] at c2
     first | done | cases c2 | (simp at c2)
   · intro c2
     try simp only [cnd] at c2
     intro ρ hL
     refine awl_skip ?_
     obtain ⟨l2, k2, pk, rs2, ws2, gs2, p2, o2, g2, hk7, hs2⟩ := sat_spec_DrawCorePick bs hb
     obtain ⟨hl2, hsc2, hcr2, hcw2, hci2⟩ := hk7
     have hl29 : l2.length ≤ 1048576 := by omega
     have hf2 := smallC_fit hsc2
     have hq21 := hcr2.1
     have hq22 := hcw2.1
     have hq23 := hci2.1
     have hd29 := pick_fit (l := l2) (p := pk) hf2
     replace hX := And.intro hq21 (And.intro hq22 (And.intro hq23 hX))
     refine zA ?_
     intro K hK
     refine zFJ [] (hs2) ?_
     refine zEG [0, 1, 2, 3, 4, 5, 6, 7, 8, 9, 10, 11, 12, 18, 13, 14, 15, 16, 17, 19] [0, 4, 5, 6, 9, 10, 11] ?_
     clear hK K hL
     intro ρ hL
     refine zA ?_
     intro K hK
     refine zF (sat_impl_CorePick l2 k2 pk hl29 hf2) ?_
     refine zEG [0, 1, 2, 3, 4, 5, 6, 7, 8, 9, 10, 11, 12, 13, 14, 15, 16, 17, 18, 19, 25, 20, 21, 22, 23, 24] [0, 4, 5, 6, 9, 10, 11, 12, 13] ?_
     clear hK K hL
     intro ρ hL
     refine zA ?_
     intro K hK
     refine zF (sat_spec_CorePick l2 k2 pk hl29 hf2) ?_
     refine zEG [0, 1, 2, 3, 4, 5, 6, 7, 8, 9, 10, 11, 20, 21, 22, 23, 24, 25, 31, 26, 27, 28, 29, 30] [0, 4, 5, 6, 12, 13, 14, 15] ?_
     clear hK K hL
     have kB : alike (corPick l2 k2 pk).1.s (corPick l2 k2 pk).1.s = true := alike_refl
     intro ρ hL
     replace hX := And.intro kB hX
     refine zA ?_
     intro K hK
     refine zF (sat_impl_Alike (corPick l2 k2 pk).1.s (corPick l2 k2 pk).1.s hd29.1) ?_
     refine zEG [0, 1, 2, 3, 4, 5, 6, 7, 8, 9, 10, 11] [0, 4, 5, 6, 101] ?_
     clear hK K hL
     refine zQ ?_ ?_
     · intro c3
       try simp only [cnd] at c3
       first | done | cases c3 | (simp at c3)
     · intro c3
       try simp only [cnd] at c3
       intro ρ hL
       refine awl_skip ?_
       obtain ⟨l3, s, rs3, ws3, p3, o3, ps, hk6, hs3⟩ := sat_spec_DrawCoreRun bs hb
       obtain ⟨⟨hl3, hcr3, hcw3, hsm3⟩, hps⟩ := hk6
       have hl39 : l3.length ≤ 1048576 := by omega
       have hf3 := small_fit hsm3
       have hps9 : ps.length ≤ 1048576 := by omega
       have hq31 := hcr3.1
       have hq32 := hcw3.1
       have hd39 := runC_fit (l := l3) (ps := ps) hf3
       replace hX := And.intro hq31 (And.intro hq32 hX)
       refine zA ?_
       intro K hK
       refine zFJ [] (hs3) ?_
       refine zEG [0, 1, 2, 3, 4, 5, 6, 7, 8, 9, 10, 11, 12, 17, 13, 14, 15, 16] [4, 5, 6, 16, 17, 18] ?_
       clear hK K hL
       intro ρ hL
       refine zA ?_
       intro K hK
       refine zF (sat_impl_CoreRun l3 s ps hl39 hf3 hps9) ?_
       refine zEG [0, 1, 2, 3, 4, 5, 6, 7, 8, 9, 10, 11, 12, 13, 14, 15, 16, 17, 24, 18, 19, 20, 21, 22, 23] [4, 5, 6, 16, 17, 18, 19, 20] ?_
       clear hK K hL
       intro ρ hL
       refine zA ?_
       intro K hK
       refine zF (sat_spec_CoreRun l3 s ps hl39 hf3 hps9) ?_
       refine zEG [0, 1, 2, 3, 4, 5, 6, 7, 8, 9, 10, 11, 18, 19, 20, 21, 22, 23, 24, 31, 25, 26, 27, 28, 29, 30] [4, 5, 6, 19, 20, 21, 22] ?_
       clear hK K hL
       have kI : decide ((corRun l3 s ps).2 = (corRun l3 s ps).2) = true := decide_eq_true rfl
       have kC : alike (corRun l3 s ps).1.s (corRun l3 s ps).1.s = true := alike_refl
       intro ρ hL
       replace hX := And.intro kI (And.intro kC hX)
       refine zA ?_
       intro K hK
       refine zF (sat_laws_sameInts (corRun l3 s ps).2 (corRun l3 s ps).2 (Nat.le_trans runC_len (by decide))) ?_
       refine zF (sat_impl_Alike (corRun l3 s ps).1.s (corRun l3 s ps).1.s hd39.1) ?_
       refine zEG [0, 1, 2, 3, 4, 5, 6, 7, 8, 9, 10, 11] [4, 5, 6, 133] ?_
       clear hK K hL
       refine zQ ?_ ?_
       · intro c4
         try simp only [cnd] at c4
         first | done | cases c4 | (simp at c4)
       · intro c4
         try simp only [cnd] at c4
         intro ρ hL
         refine awl_skip ?_
         refine zA ?_
         intro K hK
         refine zF (sat_spec_CoreOk k hf) ?_
         refine zEG [0, 1, 2, 3, 4, 5, 6, 7, 8, 9, 10, 11] [4, 5, 6, 136] ?_
         clear hK K hL
         refine zC ?_ ?_
         · intro c5
           intro ρ hL
           refine zA ?_
           intro K hK
           refine zL [5, 139] ?_
           clear hL
           intro ρ hL
           refine grp_andN (tc := 139) (tv := 144) (td := 145) (v := ?v1) 5 rfl [] hL.2 rfl (fun hb K1 hK1 => ?run) (fun hb => ?skip) (fun ρ hP hM => ?_)
           case skip => exact skA (want := true) (b := _) (by rw [hb]; rfl) hL.2 rfl
           case run =>
            simp only [List.take_succ_cons, List.take_zero]
            rw [hb] at hL
            try simp only [go_sem, simprocAttr, hL, hX]
            repeat' refine And.intro (by first | rfl | omega | (simp; done)) ?_
            refine hK1 _ ?_ ?_ ?_ <;> simp only [go_sem, simprocAttr, hL, hX] <;> exact rfl
           simp only [List.drop_succ_cons, List.drop_zero]
           clear hM hL
           have hL := hP
           clear hP
           try simp only [go_sem, simprocAttr, hL, hX]
           repeat' refine And.intro (by first | rfl | omega | (simp; done)) ?_
           refine zEG [] [2] ?_
           clear hK K hL
           refine zR ?_
           try simp only [go_sem, simprocAttr]
           all_goals (rw [settle_no c5]; rfl)
         · intro c5
           intro ρ hL
           refine awl_skip ?_
           refine zA ?_
           intro K hK
           refine zL [4, 5, 148] ?_
           clear hL
           intro ρ hL
           refine grp_andN (tc := 148) (tv := 161) (td := 162) (v := ?v2) 13 rfl [] hL.2.2 rfl (fun hb K1 hK1 => ?run) (fun hb => ?skip) (fun ρ hP hM => ?_)
           case skip => exact skA (want := true) (b := _) (by rw [hb]; rfl) hL.2.2 rfl
           case run =>
            simp only [List.take_succ_cons, List.take_zero]
            rw [hb] at hL
            have g3 := hL
            have hK1_3 := hK1
            try simp only [go_sem, simprocAttr, hL, hX]
            repeat' refine And.intro (by first | rfl | omega | (simp; done)) ?_
            refine zL [4, 5, 148, 153] ?_
            clear hL
            intro ρ hL
            refine grp_orGN (tc := 153) (tv := 160) (td := 161) (v := ?v4) 7 148 true rfl hL.2.2.1 [148] rfl hL.2.2.2 rfl (fun hb K1 hK1 => ?run) (fun hb => ?skip) (fun ρ hP hM => ?_)
            case skip => exact skA (want := false) (b := _) (by rw [hb]; rfl) hL.2.2.2 rfl
            case run =>
             simp only [List.take_succ_cons, List.take_zero]
             rw [hb] at hL
             try simp only [go_sem, simprocAttr, hL, hX]
             repeat' refine And.intro (by first | rfl | omega | (simp; done)) ?_
             refine hK1 _ ?_ ?_ ?_ <;> simp only [go_sem, simprocAttr, hL, hX] <;> exact rfl
            simp only [List.drop_succ_cons, List.drop_zero]
            try simp only [go_sem, simprocAttr, hL, hX] at hM
            replace hL := And.intro hP hM
            clear hP hM
            try simp only [go_sem, simprocAttr, hL, hX]
            repeat' refine And.intro (by first | rfl | omega | (simp; done)) ?_
            refine hK1_3 _ ?_ ?_ ?_ <;> simp only [go_sem, simprocAttr, hL, hX, g3] <;> exact rfl
           simp only [List.drop_succ_cons, List.drop_zero]
           clear hM hL
           have hL := hP
           clear hP
           try simp only [go_sem, simprocAttr, hL, hX]
           repeat' refine And.intro (by first | rfl | omega | (simp; done)) ?_
           refine zEG [] [2] ?_
           clear hK K hL
           refine zR ?_
           try simp only [go_sem, simprocAttr]
           all_goals (have hza := settle_many (c := k); have hzb := settle_len c5; simp; exact ⟨hza.1, Or.inr hzb⟩)
end
end Go.Proofs.YtdifphcihhbjlaaGreat.AM
