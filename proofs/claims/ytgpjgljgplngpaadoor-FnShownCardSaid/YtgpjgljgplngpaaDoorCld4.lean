/- The law Shown. No conditions but those each theorem bears. -/
import Derived.Test.YtgpjgljgplngpaaDoorFa
import Derived.Test.YtgpjgljgplngpaaDoorCa74
set_option linter.unusedSimpArgs false
set_option linter.unusedVariables false
namespace Go.Proofs.YtgpjgljgplngpaaDoor.AM
open Go
set_option maxHeartbeats 8000000
set_option maxRecDepth 100000

section
attribute [local go_sem] mk_bt decide_true Bool.not_not Bool.not_true Bool.not_false
theorem sat_laws_FnShown (bs : List UInt8) (hs : bs.length ≤ 9223372036854775807) : Sat Tryd.prog 6 [.sl bs.length bs.length (bytesV bs)] [] (.bool true) [] := by
 have hX := trivial
 refine sat_mk [.tmp 2] 0 104 Tryd.call6 Tryd.func6 Tryd.ntmps6 rfl rfl rfl rfl rfl ?_
 refine zI [0] ?_
 refine zG [] [0] ?_
 intro ρ hL
 refine zA ?_
 intro K hK
 refine zF (sat_laws_big _) ?_
 refine zEG [] [0, 15] ?_
 clear hK K hL
 refine zC ?_ ?_
 · intro c1
   refine zG [] [2] ?_
   refine zR ?_
   try simp only [go_sem, simprocAttr]
   all_goals (rfl)
 · intro c1
   have hb : bs.length ≤ 1048576 := by omega
   intro ρ hL
   refine awl_skip ?_
   obtain ⟨kb, kt, kp, kl, hk, hs1⟩ := sat_spec_DrawKeyText bs hb
   refine zA ?_
   intro K hK
   refine zFJ [] (hs1) ?_
   refine zEG [0] [0, 3] ?_
   clear hK K hL
   intro ρ hL
   refine zA ?_
   intro K hK
   refine zF (sat_impl_KeyText (⟨kb, kt, kp, kl⟩ : Key)) ?_
   refine zEG [0] [0, 3, 4] ?_
   clear hK K hL
   have kA : decide (bt (keyT (⟨kb, kt, kp, kl⟩ : Key)) = bt (keyT (⟨kb, kt, kp, kl⟩ : Key))) = true := decide_eq_true rfl
   have kE : decide (bt (keyT (⟨kb, kt, kp, kl⟩ : Key)) = bt []) = !keyOk (⟨kb, kt, kp, kl⟩ : Key) := keyT_ne
   intro ρ hL
   replace hX := And.intro kA (And.intro kE (hX))
   refine zA ?_
   intro K hK
   refine zF (sat_spec_KeyText (⟨kb, kt, kp, kl⟩ : Key)) ?_
   refine zF (sat_impl_KeyOk (⟨kb, kt, kp, kl⟩ : Key)) ?_
   refine zEG [0] [0, 3, 4, 30] ?_
   clear hK K hL
   refine zQ ?_ ?_
   · intro c2
     try simp only [cnd] at c2
     first | done | cases c2 | (simp at c2; done) | (simp at c2)
   · intro c2
     try simp only [cnd] at c2
     intro ρ hL
     refine awl_skip ?_
     revert ρ hL
     refine zG [0] [0, 3, 4, 32] ?_
     refine zC ?_ ?_
     · intro c3
       have kR : keyRead (keyT (⟨kb, kt, kp, kl⟩ : Key)) = ((⟨kb, kt, kp, kl⟩ : Key), true) := keyRead_back (by simpa using c3)
       intro ρ hL
       replace hX := And.intro kR (hX)
       refine zA ?_
       intro K hK
       refine zF (sat_impl_KeyRead (keyT (⟨kb, kt, kp, kl⟩ : Key)) (by have := keyT_len (k := (⟨kb, kt, kp, kl⟩ : Key)); omega)) ?_
       refine zEG [0, 1] [0, 3, 5, 6] ?_
       clear hK K hL
       intro ρ hL
       refine zA ?_
       intro K hK
       refine zEG [] [0, 44] ?_
       clear hK K hL
       refine zQ ?_ ?_
       · intro c4
         try simp only [cnd] at c4
         first | done | cases c4 | (simp at c4; done) | (simp at c4)
       · intro c4
         try simp only [cnd] at c4
         intro ρ hL
         refine awl_skip ?_
         obtain ⟨y, hy, hs2⟩ := sat_spec_DrawKeyRead bs hb
         refine zA ?_
         intro K hK
         refine zFJ [] (hs2) ?_
         refine zEG [] [0, 7] ?_
         clear hK K hL
         intro ρ hL
         refine zA ?_
         intro K hK
         refine zF (sat_impl_KeyRead y hy) ?_
         refine zEG [0] [0, 7, 8, 9] ?_
         clear hK K hL
         intro ρ hL
         refine zA ?_
         intro K hK
         refine zF (sat_spec_KeyRead y hy) ?_
         refine zEG [0] [0, 7, 8, 9, 11] ?_
         clear hK K hL
         obtain ⟨w, hw, hs3⟩ := sat_spec_DrawWordText bs hb
         intro ρ hL
         refine zA ?_
         intro K hK
         refine zFJ [] (hs3) ?_
         refine zEG [0, 1] [0, 7, 8, 9, 11, 12] ?_
         clear hK K hL
         obtain ⟨x, hx0, hs4⟩ := sat_spec_DrawTrapText bs hb
         intro ρ hL
         refine zA ?_
         intro K hK
         refine zFJ [] (hs4) ?_
         refine zEG [0, 1] [7, 8, 9, 11, 12, 13] ?_
         clear hK K hL
         intro ρ hL
         refine awl_seq ?_
         have kW : decide (bt (wordT w) = bt (wordT w)) = true := decide_eq_true rfl
         have kV : decide (bt (wordT w) = bt []) = !wordOk w := wordT_ne
         have kT : decide (trapText x = trapText x) = true := decide_eq_true rfl
         have kB : decide (wordOk w = wordOk w) = true := decide_eq_true rfl
         have kQ : decide ((keyRead y).2 = (keyRead y).2) = true := decide_eq_true rfl
         replace hX := And.intro kW (And.intro kV (And.intro kT (And.intro kB (And.intro kQ (hX)))))
         have j1 := hL
         refine awl_regDJ mixed _ rfl (fun H0 σ G => (σ 2 = .bool true) ∧ G = H0) (fun K hK => ?inner1) (fun ρ G hJ => ?after1)
         case inner1 =>
          try simp only [go_sem, simprocAttr, hL, hX]
          repeat' refine And.intro (by first | omega | (exact ⟨[0, 1, 0, 7, 15, 31, 63, 127, 255, 63, 767, 2047, 4095, 8191, 16383, 32767, 16383, 131071, 262143, 524287, 1048575, 2097151, 2097151, 8388607, 16777215, 33554431, 67108863, 134217727, 268435455, 536870911, 536870911, 2147483647, 4294967295, 8589934591, 17179869183, 34359738367, 68719476735, 137438953471, 68719476735, 549755813887, 1099511627775, 2199023255551, 4398046511103, 8796093022207], by kernel_rfl⟩) | kernel_rfl) ?_
          refine zFD [0, 1, 0, 7, 15, 31, 63, 127, 255, 63, 767, 2047, 4095, 8191, 16383, 32767, 16383, 131071, 262143, 524287, 1048575, 2097151, 2097151, 8388607, 16777215, 33554431, 67108863, 134217727, 268435455, 536870911, 536870911, 2147483647, 4294967295, 8589934591, 17179869183, 34359738367, 68719476735, 137438953471, 68719476735, 549755813887, 1099511627775, 2199023255551, 4398046511103, 8796093022207] (sat_impl_WordText w) ?_
          refine zFD [0, 1, 0, 7, 15, 31, 63, 127, 255, 63, 767, 2047, 4095, 8191, 16383, 32767, 16383, 131071, 262143, 524287, 1048575, 2097151, 2097151, 8388607, 16777215, 33554431, 67108863, 134217727, 268435455, 536870911, 536870911, 2147483647, 4294967295, 8589934591, 17179869183, 34359738367, 68719476735, 137438953471, 68719476735, 549755813887, 1099511627775, 2199023255551, 4398046511103, 8796093022207] (sat_spec_WordText w) ?_
          refine zFD [0, 1, 0, 7, 15, 31, 63, 127, 255, 63, 767, 2047, 4095, 8191, 16383, 32767, 16383, 131071, 262143, 524287, 1048575, 2097151, 2097151, 8388607, 16777215, 33554431, 67108863, 134217727, 268435455, 536870911, 536870911, 2147483647, 4294967295, 8589934591, 17179869183, 34359738367, 68719476735, 137438953471, 68719476735, 549755813887, 1099511627775, 2199023255551, 4398046511103, 8796093022207] (sat_impl_WordText w) ?_
          refine zFD [0, 1, 0, 7, 15, 31, 63, 127, 255, 63, 767, 2047, 4095, 8191, 16383, 32767, 16383, 131071, 262143, 524287, 1048575, 2097151, 2097151, 8388607, 16777215, 33554431, 67108863, 134217727, 268435455, 536870911, 536870911, 2147483647, 4294967295, 8589934591, 17179869183, 34359738367, 68719476735, 137438953471, 68719476735, 549755813887, 1099511627775, 2199023255551, 4398046511103, 8796093022207] (sat_impl_WordOk w) ?_
          refine zFD [0, 1, 0, 7, 15, 31, 63, 127, 255, 63, 767, 2047, 4095, 8191, 16383, 32767, 16383, 131071, 262143, 524287, 1048575, 2097151, 2097151, 8388607, 16777215, 33554431, 67108863, 134217727, 268435455, 536870911, 536870911, 2147483647, 4294967295, 8589934591, 17179869183, 34359738367, 68719476735, 137438953471, 68719476735, 549755813887, 1099511627775, 2199023255551, 4398046511103, 8796093022207] (sat_impl_TrapText x) ?_
          refine zFD [0, 1, 0, 7, 15, 31, 63, 127, 255, 63, 767, 2047, 4095, 8191, 16383, 32767, 16383, 131071, 262143, 524287, 1048575, 2097151, 2097151, 8388607, 16777215, 33554431, 67108863, 134217727, 268435455, 536870911, 536870911, 2147483647, 4294967295, 8589934591, 17179869183, 34359738367, 68719476735, 137438953471, 68719476735, 549755813887, 1099511627775, 2199023255551, 4398046511103, 8796093022207] (sat_spec_TrapText x) ?_
          refine awpDS_split (b := ?b1) 89 (by simp only [go_sem, simprocAttr, hL, hX]; exact rfl) (fun hb1 => ?_) (fun hb1 => ?_)
          ·
           replace hX := And.intro hb1 hX
           have kS : (keyRead y).2 = false := by simpa using hb1
           have kF : (keyRead y).1 = noKey := (keyRead_is y).elim (fun h => h.2) (fun h => absurd h.1 (by rw [kS]; exact Bool.noConfusion))
           replace hX := And.intro kS (And.intro kF hX)
           try simp only [go_sem, simprocAttr, hL, hX, nk1, nk2, nk3, nk4]
           repeat' refine And.intro (by first | omega | (exact ⟨[0, 1, 0, 7, 15, 31, 63, 127, 255, 63, 767, 2047, 4095, 8191, 16383, 32767, 16383, 131071, 262143, 524287, 1048575, 2097151, 2097151, 8388607, 16777215, 33554431, 67108863, 134217727, 268435455, 536870911, 536870911, 2147483647, 4294967295, 8589934591, 17179869183, 34359738367, 68719476735, 137438953471, 68719476735, 549755813887, 1099511627775, 2199023255551, 4398046511103, 8796093022207], by kernel_rfl⟩) | kernel_rfl) ?_
           exact hK _ _ ⟨(by simp only [go_sem, simprocAttr, hL, hX, nk1, nk2, nk3, nk4, j1]; first | done | rfl), (by first | rfl | (simp only [hX]; done) | (simp only [hX]; rfl))⟩
          ·
           replace hX := And.intro hb1 hX
           have kS : (keyRead y).2 = true := by simpa using hb1
           have kF : keyT (keyRead y).1 = y := (keyRead_is y).elim (fun h => absurd h.1 (by rw [kS]; exact Bool.noConfusion)) (fun h => h.2)
           replace hX := And.intro kS (And.intro kF hX)
           try simp only [go_sem, simprocAttr, hL, hX]
           repeat' refine And.intro (by first | omega | (exact ⟨[0, 1, 0, 7, 15, 31, 63, 127, 255, 63, 767, 2047, 4095, 8191, 16383, 32767, 16383, 131071, 262143, 524287, 1048575, 2097151, 2097151, 8388607, 16777215, 33554431, 67108863, 134217727, 268435455, 536870911, 536870911, 2147483647, 4294967295, 8589934591, 17179869183, 34359738367, 68719476735, 137438953471, 68719476735, 549755813887, 1099511627775, 2199023255551, 4398046511103, 8796093022207], by kernel_rfl⟩) | kernel_rfl) ?_
           refine zFD [0, 1, 0, 7, 15, 31, 63, 127, 255, 63, 767, 2047, 4095, 8191, 16383, 32767, 16383, 131071, 262143, 524287, 1048575, 2097151, 2097151, 8388607, 16777215, 33554431, 67108863, 134217727, 268435455, 536870911, 536870911, 2147483647, 4294967295, 8589934591, 17179869183, 34359738367, 68719476735, 137438953471, 68719476735, 549755813887, 1099511627775, 2199023255551, 4398046511103, 8796093022207] (sat_impl_KeyText (keyRead y).1) ?_
           exact hK _ _ ⟨(by simp only [go_sem, simprocAttr, hL, hX, j1]; first | done | rfl), (by first | rfl | (simp only [hX]; done) | (simp only [hX]; rfl))⟩
         case after1 =>
          clear hL
          obtain ⟨hL, hG⟩ := hJ
          subst hG
          revert ρ hL
          refine zR ?_
          try simp only [go_sem, simprocAttr]
          all_goals (rfl)
     · intro c3
       intro ρ hL
       refine awl_skip ?_
       obtain ⟨y, hy, hs5⟩ := sat_spec_DrawKeyRead bs hb
       refine zA ?_
       intro K hK
       refine zFJ [] (hs5) ?_
       refine zEG [] [0, 7] ?_
       clear hK K hL
       intro ρ hL
       refine zA ?_
       intro K hK
       refine zF (sat_impl_KeyRead y hy) ?_
       refine zEG [0] [0, 7, 8, 9] ?_
       clear hK K hL
       intro ρ hL
       refine zA ?_
       intro K hK
       refine zF (sat_spec_KeyRead y hy) ?_
       refine zEG [0] [0, 7, 8, 9, 11] ?_
       clear hK K hL
       obtain ⟨w, hw, hs6⟩ := sat_spec_DrawWordText bs hb
       intro ρ hL
       refine zA ?_
       intro K hK
       refine zFJ [] (hs6) ?_
       refine zEG [0, 1] [0, 7, 8, 9, 11, 12] ?_
       clear hK K hL
       obtain ⟨x, hx0, hs7⟩ := sat_spec_DrawTrapText bs hb
       intro ρ hL
       refine zA ?_
       intro K hK
       refine zFJ [] (hs7) ?_
       refine zEG [0, 1] [7, 8, 9, 11, 12, 13] ?_
       clear hK K hL
       intro ρ hL
       refine awl_seq ?_
       have kW : decide (bt (wordT w) = bt (wordT w)) = true := decide_eq_true rfl
       have kV : decide (bt (wordT w) = bt []) = !wordOk w := wordT_ne
       have kT : decide (trapText x = trapText x) = true := decide_eq_true rfl
       have kB : decide (wordOk w = wordOk w) = true := decide_eq_true rfl
       have kQ : decide ((keyRead y).2 = (keyRead y).2) = true := decide_eq_true rfl
       replace hX := And.intro kW (And.intro kV (And.intro kT (And.intro kB (And.intro kQ (hX)))))
       have j2 := hL
       refine awl_regDJ mixed _ rfl (fun H0 σ G => (σ 2 = .bool true) ∧ G = H0) (fun K hK => ?inner2) (fun ρ G hJ => ?after2)
       case inner2 =>
        try simp only [go_sem, simprocAttr, hL, hX]
        repeat' refine And.intro (by first | omega | (exact ⟨[0, 1, 0, 7, 15, 31, 63, 127, 255, 63, 767, 2047, 4095, 8191, 16383, 32767, 16383, 131071, 262143, 524287, 1048575, 2097151, 2097151, 8388607, 16777215, 33554431, 67108863, 134217727, 268435455, 536870911, 536870911, 2147483647, 4294967295, 8589934591, 17179869183, 34359738367, 68719476735, 137438953471, 68719476735, 549755813887, 1099511627775, 2199023255551, 4398046511103, 8796093022207], by kernel_rfl⟩) | kernel_rfl) ?_
        refine zFD [0, 1, 0, 7, 15, 31, 63, 127, 255, 63, 767, 2047, 4095, 8191, 16383, 32767, 16383, 131071, 262143, 524287, 1048575, 2097151, 2097151, 8388607, 16777215, 33554431, 67108863, 134217727, 268435455, 536870911, 536870911, 2147483647, 4294967295, 8589934591, 17179869183, 34359738367, 68719476735, 137438953471, 68719476735, 549755813887, 1099511627775, 2199023255551, 4398046511103, 8796093022207] (sat_impl_WordText w) ?_
        refine zFD [0, 1, 0, 7, 15, 31, 63, 127, 255, 63, 767, 2047, 4095, 8191, 16383, 32767, 16383, 131071, 262143, 524287, 1048575, 2097151, 2097151, 8388607, 16777215, 33554431, 67108863, 134217727, 268435455, 536870911, 536870911, 2147483647, 4294967295, 8589934591, 17179869183, 34359738367, 68719476735, 137438953471, 68719476735, 549755813887, 1099511627775, 2199023255551, 4398046511103, 8796093022207] (sat_spec_WordText w) ?_
        refine zFD [0, 1, 0, 7, 15, 31, 63, 127, 255, 63, 767, 2047, 4095, 8191, 16383, 32767, 16383, 131071, 262143, 524287, 1048575, 2097151, 2097151, 8388607, 16777215, 33554431, 67108863, 134217727, 268435455, 536870911, 536870911, 2147483647, 4294967295, 8589934591, 17179869183, 34359738367, 68719476735, 137438953471, 68719476735, 549755813887, 1099511627775, 2199023255551, 4398046511103, 8796093022207] (sat_impl_WordText w) ?_
        refine zFD [0, 1, 0, 7, 15, 31, 63, 127, 255, 63, 767, 2047, 4095, 8191, 16383, 32767, 16383, 131071, 262143, 524287, 1048575, 2097151, 2097151, 8388607, 16777215, 33554431, 67108863, 134217727, 268435455, 536870911, 536870911, 2147483647, 4294967295, 8589934591, 17179869183, 34359738367, 68719476735, 137438953471, 68719476735, 549755813887, 1099511627775, 2199023255551, 4398046511103, 8796093022207] (sat_impl_WordOk w) ?_
        refine zFD [0, 1, 0, 7, 15, 31, 63, 127, 255, 63, 767, 2047, 4095, 8191, 16383, 32767, 16383, 131071, 262143, 524287, 1048575, 2097151, 2097151, 8388607, 16777215, 33554431, 67108863, 134217727, 268435455, 536870911, 536870911, 2147483647, 4294967295, 8589934591, 17179869183, 34359738367, 68719476735, 137438953471, 68719476735, 549755813887, 1099511627775, 2199023255551, 4398046511103, 8796093022207] (sat_impl_TrapText x) ?_
        refine zFD [0, 1, 0, 7, 15, 31, 63, 127, 255, 63, 767, 2047, 4095, 8191, 16383, 32767, 16383, 131071, 262143, 524287, 1048575, 2097151, 2097151, 8388607, 16777215, 33554431, 67108863, 134217727, 268435455, 536870911, 536870911, 2147483647, 4294967295, 8589934591, 17179869183, 34359738367, 68719476735, 137438953471, 68719476735, 549755813887, 1099511627775, 2199023255551, 4398046511103, 8796093022207] (sat_spec_TrapText x) ?_
        refine awpDS_split (b := ?b2) 89 (by simp only [go_sem, simprocAttr, hL, hX]; exact rfl) (fun hb2 => ?_) (fun hb2 => ?_)
        ·
         replace hX := And.intro hb2 hX
         have kS : (keyRead y).2 = false := by simpa using hb2
         have kF : (keyRead y).1 = noKey := (keyRead_is y).elim (fun h => h.2) (fun h => absurd h.1 (by rw [kS]; exact Bool.noConfusion))
         replace hX := And.intro kS (And.intro kF hX)
         try simp only [go_sem, simprocAttr, hL, hX, nk1, nk2, nk3, nk4]
         repeat' refine And.intro (by first | omega | (exact ⟨[0, 1, 0, 7, 15, 31, 63, 127, 255, 63, 767, 2047, 4095, 8191, 16383, 32767, 16383, 131071, 262143, 524287, 1048575, 2097151, 2097151, 8388607, 16777215, 33554431, 67108863, 134217727, 268435455, 536870911, 536870911, 2147483647, 4294967295, 8589934591, 17179869183, 34359738367, 68719476735, 137438953471, 68719476735, 549755813887, 1099511627775, 2199023255551, 4398046511103, 8796093022207], by kernel_rfl⟩) | kernel_rfl) ?_
         exact hK _ _ ⟨(by simp only [go_sem, simprocAttr, hL, hX, nk1, nk2, nk3, nk4, j2]; first | done | rfl), (by first | rfl | (simp only [hX]; done) | (simp only [hX]; rfl))⟩
        ·
         replace hX := And.intro hb2 hX
         have kS : (keyRead y).2 = true := by simpa using hb2
         have kF : keyT (keyRead y).1 = y := (keyRead_is y).elim (fun h => absurd h.1 (by rw [kS]; exact Bool.noConfusion)) (fun h => h.2)
         replace hX := And.intro kS (And.intro kF hX)
         try simp only [go_sem, simprocAttr, hL, hX]
         repeat' refine And.intro (by first | omega | (exact ⟨[0, 1, 0, 7, 15, 31, 63, 127, 255, 63, 767, 2047, 4095, 8191, 16383, 32767, 16383, 131071, 262143, 524287, 1048575, 2097151, 2097151, 8388607, 16777215, 33554431, 67108863, 134217727, 268435455, 536870911, 536870911, 2147483647, 4294967295, 8589934591, 17179869183, 34359738367, 68719476735, 137438953471, 68719476735, 549755813887, 1099511627775, 2199023255551, 4398046511103, 8796093022207], by kernel_rfl⟩) | kernel_rfl) ?_
         refine zFD [0, 1, 0, 7, 15, 31, 63, 127, 255, 63, 767, 2047, 4095, 8191, 16383, 32767, 16383, 131071, 262143, 524287, 1048575, 2097151, 2097151, 8388607, 16777215, 33554431, 67108863, 134217727, 268435455, 536870911, 536870911, 2147483647, 4294967295, 8589934591, 17179869183, 34359738367, 68719476735, 137438953471, 68719476735, 549755813887, 1099511627775, 2199023255551, 4398046511103, 8796093022207] (sat_impl_KeyText (keyRead y).1) ?_
         exact hK _ _ ⟨(by simp only [go_sem, simprocAttr, hL, hX, j2]; first | done | rfl), (by first | rfl | (simp only [hX]; done) | (simp only [hX]; rfl))⟩
       case after2 =>
        clear hL
        obtain ⟨hL, hG⟩ := hJ
        subst hG
        revert ρ hL
        refine zR ?_
        try simp only [go_sem, simprocAttr]
        all_goals (rfl)
end
end Go.Proofs.YtgpjgljgplngpaaDoor.AM
