/- The law Run, of what is drawn. No conditions but those each theorem bears. -/
import Derived.Test.YteojcehneipgdaaGreatFa
import Derived.Test.YteojcehneipgdaaGreatSp25
import Derived.Test.YteojcehneipgdaaGreatCa57
import Derived.Test.YteojcehneipgdaaGreatCa8
set_option linter.unusedSimpArgs false
set_option linter.unusedVariables false
namespace Go.Proofs.YteojcehneipgdaaGreat.AM
open Go
set_option maxHeartbeats 8000000
set_option maxRecDepth 100000

section
attribute [local go_sem] ints_takeN ints_dropN List.length_take List.length_drop List.take_length
theorem sat_laws_FnRun (bs : List UInt8) (hs : bs.length ≤ 9223372036854775807) : Sat Tryz.prog 4 [.sl bs.length bs.length (bytesV bs)] [] (.bool true) [] := by
 have hX := trivial
 refine sat_mk [.tmp 2] 0 72 Tryz.call4 Tryz.func4 Tryz.ntmps4 rfl rfl rfl rfl rfl ?_
 refine zI [0] ?_
 refine zG [] [0] ?_
 intro ρ hL
 refine zA ?_
 intro K hK
 refine zF (sat_laws_big _) ?_
 refine zEG [] [0, 10] ?_
 clear hK K hL
 refine zC ?_ ?_
 · intro c1
   refine zG [] [2] ?_
   refine zR ?_
   try simp only [go_sem, simprocAttr]
   all_goals (rfl)
 · intro c1
   have hb : bs.length ≤ 1048576 := by omega
   intro ρ hL
   refine awl_skip ?_
   obtain ⟨l, s, rs, ws, p, o, ns, hls, hs1⟩ := sat_spec_DrawRun bs hb
   obtain ⟨⟨hl, hcr, hcw, hsm⟩, hns⟩ := hls
   have hf := small_fit hsm
   have hl9 : l.length ≤ 1048576 := by omega
   have hn9 : ns.length ≤ 1048576 := by omega
   have hq1 := hcr.1
   have hq2 := hcw.1
   replace hX := And.intro hq1 (And.intro hq2 hX)
   refine zA ?_
   intro K hK
   refine zFJ [] (hs1) ?_
   refine zEG [0, 5, 1, 2, 3, 4] [0, 3, 4, 5] ?_
   clear hK K hL
   intro ρ hL
   refine zA ?_
   intro K hK
   refine zF (sat_impl_Run l s ns hl9 hf hn9) ?_
   refine zEG [0, 1, 2, 3, 4, 5, 9, 6, 7, 8] [0, 3, 4, 5, 6] ?_
   clear hK K hL
   intro ρ hL
   refine zAD [0, 0, 0, 0, 14, 31, 63] ?_
   intro K hK
   refine zFD [0, 0, 0, 0, 14, 31, 63] (sat_spec_Run l s ns hl9 hf hn9) ?_
   refine zFD [0, 0, 0, 0, 14, 31, 63] (sat_impl_Alike (run l s ns) (run l s ns) (run_fit hf)) ?_
   refine zEG [0, 1, 2, 3, 4, 5, 6, 7, 8, 9] [0, 3, 4, 5, 6, 27] ?_
   clear hK K hL
   refine zC ?_ ?_
   · intro c2
     first | done | (rw [alike_refl] at c2; cases c2; done) | (simp at c2; done) | omega
   · intro c2
     intro ρ hL
     refine awl_skip ?_
     obtain ⟨s2, rs2, ws2, p2, o2, hks, hs2⟩ := sat_spec_DrawKeys bs hb
     obtain ⟨hcr2, hcw2, hsm2⟩ := hks
     have hf2 := small_fit hsm2
     have hq3 := hcr2.1
     have hq4 := hcw2.1
     replace hX := And.intro hq3 (And.intro hq4 hX)
     refine zA ?_
     intro K hK
     refine zFJ [] (hs2) ?_
     refine zEG [0, 1, 2, 3, 4, 5, 6, 7, 8, 9, 13, 10, 11, 12] [0, 3, 4, 5, 6, 7] ?_
     clear hK K hL
     intro ρ hL
     refine zAD [0, 1, 0, 7, 15, 31] ?_
     intro K hK
     refine zFD [0, 1, 0, 7, 15, 31] (sat_impl_Keys s2 hf2) ?_
     refine zFD [0, 1, 0, 7, 15, 31] (sat_spec_Keys s2 hf2) ?_
     refine zFD [0, 1, 0, 7, 15, 31] (sat_laws_sameWords (keys s2) (keys s2) (Nat.le_trans (keys_len hf2) (by decide))) ?_
     refine zEG [0, 1, 2, 3, 4, 5, 6, 7, 8, 9] [0, 3, 4, 5, 6, 35] ?_
     clear hK K hL
     refine zC ?_ ?_
     · intro c3
       first | done | (rw [alike_refl] at c3; cases c3; done) | (simp at c3; done) | omega
     · intro c3
       intro ρ hL
       refine awl_skip ?_
       refine zA ?_
       intro K hK
       refine zF (sat_spec_StateOk s hf) ?_
       refine zL [0, 3, 4, 5, 6, 39] ?_
       clear hL
       intro ρ hL
       refine grp_orN (tc := 39) (tv := 42) (td := 43) (v := ?v1) 3 rfl [0, 3, 4, 5, 6] hL.2.2.2.2.2 rfl (fun hb K1 hK1 => ?run) (fun hb => ?skip) (fun ρ hP hM => ?_)
       case skip => exact skA (want := false) (b := _) (by rw [hb]; rfl) hL.2.2.2.2.2 rfl
       case run =>
        simp only [List.take_succ_cons, List.take_zero]
        rw [hb] at hL
        try simp only [go_sem, simprocAttr, hL, hX]
        repeat' refine And.intro (by first | rfl | omega | (simp; done)) ?_
        refine hK1 _ ?_ ?_ ?_ <;> simp only [go_sem, simprocAttr, hL, hX] <;> exact rfl
       simp only [List.drop_succ_cons, List.drop_zero]
       try simp only [go_sem, simprocAttr, hL, hX] at hM
       replace hL := And.intro hP hM
       clear hP hM
       try simp only [go_sem, simprocAttr, hL, hX]
       repeat' refine And.intro (by first | rfl | omega | (simp; done)) ?_
       refine zEG [0, 1, 2, 3, 4, 5, 6, 7, 8, 9] [0, 3, 4, 5, 6, 43] ?_
       clear hK K hL
       refine zC ?_ ?_
       · intro c4
         intro ρ hL
         refine zA ?_
         intro K hK
         refine zL [4, 6, 48] ?_
         clear hL
         intro ρ hL
         refine grp_orN (tc := 48) (tv := 51) (td := 52) (v := ?v2) 3 rfl [] hL.2.2 rfl (fun hb K1 hK1 => ?run) (fun hb => ?skip) (fun ρ hP hM => ?_)
         case skip => exact skA (want := false) (b := _) (by rw [hb]; rfl) hL.2.2 rfl
         case run =>
          simp only [List.take_succ_cons, List.take_zero]
          rw [hb] at hL
          try simp only [go_sem, simprocAttr, hL, hX]
          repeat' refine And.intro (by first | rfl | omega | (simp; done)) ?_
          refine zF (sat_impl_Alike (run l s ns) s (run_fit hf)) ?_
          refine hK1 _ ?_ ?_ ?_ <;> simp only [go_sem, simprocAttr, hL, hX] <;> exact rfl
         simp only [List.drop_succ_cons, List.drop_zero]
         clear hM hL
         have hL := hP
         clear hP
         try simp only [go_sem, simprocAttr, hL, hX]
         repeat' refine And.intro (by first | rfl | omega | (simp; done)) ?_
         refine zEG [] [2] ?_
         clear hK K hL
         refine zR ?_
         try simp only [go_sem, simprocAttr]
         all_goals (rcases c4 with c4 | c4; (rw [run_no c4]; rfl); by_cases hok : sttOk s = true; (rw [run_long hok (by omega), alike_refl, Bool.or_true]); (rw [run_no (by simpa using hok)]; rfl))
       · intro c4
         have hok := c4.1
         intro ρ hL
         refine awl_skip ?_
         obtain ⟨x, hx, hs3⟩ := sat_laws_at bs hb
         have w1 : IntKind.i64.wrap ((ns.length : Int) + 1) = (ns.length : Int) + 1 := wrap64 (by omega)
         have hn0 : ¬ (ns.length : Int) + 1 = 0 := by omega
         have hr0 := Int.tmod_nonneg ((ns.length : Int) + 1) hx
         have hr1 := Int.tmod_lt_of_pos x (show (0 : Int) < (ns.length : Int) + 1 by omega)
         obtain ⟨k, hk⟩ : ∃ k : Nat, x.tmod ((ns.length : Int) + 1) = (k : Int) := ⟨_, (Int.toNat_of_nonneg hr0).symm⟩
         have hkl : k ≤ ns.length := by omega
         have hk1 : (ns.take k).length ≤ 1048576 := by rw [List.length_take]; omega
         have hk2 : (ns.drop k).length ≤ 1048576 := by rw [List.length_drop]; omega
         have hmin : min k ns.length = k := by omega
         have htk : (ns.drop k).take (ns.length - k) = ns.drop k := List.take_of_length_le (by rw [List.length_drop]; omega)
         replace hX := And.intro hmin (And.intro htk (And.intro hkl hX))
         have hX0 := hX
         replace hX := And.intro w1 (And.intro hn0 (And.intro hk hX))
         refine zA ?_
         intro K hK
         refine zFJ [] (hs3) ?_
         refine zEG [0, 1, 2, 3, 4, 5, 6, 7, 8, 9] [3, 4, 5, 6, 8] ?_
         clear hK K hL
         clear hX
         have hX := hX0
         clear hX0
         have kz0 : (0 : Int) ≤ (k : Int) := by omega
         have kz1 : (k : Int) ≤ (ns.length : Int) := by omega
         intro ρ hL
         repeat refine awl_seq ?_
         refine awl_regD mixed _ rfl fun K hK => ?_
         try simp only [go_sem, simprocAttr, hL, hX, kz0, kz1, Nat.sub_zero, Nat.sub_self, Nat.max_zero, Nat.zero_max, Nat.max_self, Option.isSome_none, Option.isNone_some, Option.isNone_none]
         repeat' refine And.intro (by first | omega | (exact ⟨[0, 0, 0, 0, 0, 24, 62, 0, 0, 384, 1023, 0, 4095, 8191], by kernel_rfl⟩) | kernel_rfl) ?_
         refine dS_call_ro rfl (sat_impl_Run l s (ns.take k) hl9 hf hk1) ?ha ?hv ?hh ?_
         case ha => simp only [go_sem, simprocAttr, hL, hX, kz0, kz1, Nat.sub_zero, Nat.sub_self, Nat.max_zero, Nat.zero_max, Nat.max_self, Option.isSome_none, Option.isNone_some, Option.isNone_none]; first | done | rfl
         case hv => first | rfl | (simp only [go_sem]; done)
         case hh => first | rfl | (simp only [go_sem]; done)
         try simp only [go_sem, simprocAttr, hL, hX, kz0, kz1, Nat.sub_zero, Nat.sub_self, Nat.max_zero, Nat.zero_max, Nat.max_self, Option.isSome_none, Option.isNone_some, Option.isNone_none]
         repeat' refine And.intro (by first | omega | (exact ⟨[0, 0, 0, 0, 0, 24, 62, 0, 0, 384, 1023, 0, 4095, 8191], by kernel_rfl⟩) | kernel_rfl) ?_
         refine dS_call_ro rfl (sat_impl_Run l (run l s (ns.take k)) (ns.drop k) hl9 (run_fit hf) hk2) ?ha ?hv ?hh ?_
         case ha => simp only [go_sem, simprocAttr, hL, hX, kz0, kz1, Nat.sub_zero, Nat.sub_self, Nat.max_zero, Nat.zero_max, Nat.max_self, Option.isSome_none, Option.isNone_some, Option.isNone_none]; first | done | rfl
         case hv => first | rfl | (simp only [go_sem]; done)
         case hh => first | rfl | (simp only [go_sem]; done)
         try simp only [go_sem, simprocAttr, hL, hX, kz0, kz1, Nat.sub_zero, Nat.sub_self, Nat.max_zero, Nat.zero_max, Nat.max_self, Option.isSome_none, Option.isNone_some, Option.isNone_none]
         repeat' refine And.intro (by first | omega | (exact ⟨[0, 0, 0, 0, 0, 24, 62, 0, 0, 384, 1023, 0, 4095, 8191], by kernel_rfl⟩) | kernel_rfl) ?_
         refine dS_call_ro rfl (sat_impl_Alike (run l (run l s (ns.take k)) (ns.drop k)) (run l s ns) (run_fit (run_fit hf))) ?ha ?hv ?hh ?_
         case ha => simp only [go_sem, simprocAttr, hL, hX, kz0, kz1, Nat.sub_zero, Nat.sub_self, Nat.max_zero, Nat.zero_max, Nat.max_self, Option.isSome_none, Option.isNone_some, Option.isNone_none]; first | done | rfl
         case hv => first | rfl | (simp only [go_sem]; done)
         case hh => first | rfl | (simp only [go_sem]; done)
         try simp only [go_sem, simprocAttr, hL, hX, kz0, kz1, Nat.sub_zero, Nat.sub_self, Nat.max_zero, Nat.zero_max, Nat.max_self, Option.isSome_none, Option.isNone_some, Option.isNone_none]
         repeat' refine And.intro (by first | omega | (exact ⟨[0, 0, 0, 0, 0, 24, 62, 0, 0, 384, 1023, 0, 4095, 8191], by kernel_rfl⟩) | kernel_rfl) ?_
         refine hK _ _ ⟨_, _, Wk.keep [] rfl, awl_live' [2] fun ρ hM => ?_⟩
         try simp only [go_sem, simprocAttr, hL, hX, kz0, kz1, Nat.sub_zero, Nat.sub_self, Nat.max_zero, Nat.zero_max, Nat.max_self, Option.isSome_none, Option.isNone_some, Option.isNone_none] at hM
         clear hK K hL
         try simp only [go_sem, simprocAttr, hX]
         revert ρ hM
         refine zR ?_
         try simp only [go_sem, simprocAttr]
         all_goals (rw [run_parts hok (by omega), alike_refl])
end
end Go.Proofs.YteojcehneipgdaaGreat.AM
