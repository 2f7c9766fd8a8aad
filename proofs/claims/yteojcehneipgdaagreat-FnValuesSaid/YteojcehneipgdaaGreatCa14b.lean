/- Where an entry's words come from. No conditions but those each theorem bears. -/
import Derived.Test.YteojcehneipgdaaGreatFa
import Derived.Test.YteojcehneipgdaaGreatM5
import Derived.Test.YteojcehneipgdaaGreatCa14
set_option linter.unusedSimpArgs false
set_option linter.unusedVariables false
namespace Go.Proofs.YteojcehneipgdaaGreat.AM
open Go
set_option maxHeartbeats 8000000
set_option maxRecDepth 100000

theorem sat_impl_setBy (x : Ent)  : Sat Tryz.prog 118 [.agg x.cells] [] (.int .i64 (setBy x)) [] := by
 have hX := trivial
 refine sat_mk [.tmp 2] 0 11 Tryz.call118 Tryz.func118 Tryz.ntmps118 rfl rfl rfl rfl rfl ?_
 refine zI [0] ?_
 refine zS [1] ?_
 refine zS [1, 4] ?_
 refine zC ?_ ?_
 · intro c1
   refine zS [2] ?_
   refine zR ?_
   try simp only [go_sem, simprocAttr]
   all_goals (rw [setBy, if_pos c1])
 · intro c1
   intro ρ hL
   refine awl_skip ?_
   revert ρ hL
   refine zSF [2] (sat_impl_Sets _) ?_
   refine zR ?_
   try simp only [go_sem, simprocAttr]
   all_goals (rw [setBy, if_neg (by simpa using c1)])
theorem sat_spec_Source (c : Cor) (i : Int) (r : Int) (hf : c.fit) : Sat Tryz.prog 52 [.agg c.cells, .int .i64 i, .int .i64 r] [] (.int .i64 (source c.rob i r)) [] := by
 have hX := trivial
 refine sat_mk [.tmp 6] 0 50 Tryz.call52 Tryz.func52 Tryz.ntmps52 rfl rfl rfl rfl rfl ?_
 refine zI [0, 1, 2] ?_
 have hf1 := hf.2.1
 refine zS [1, 2, 3] ?_
 intro ρ hL
 refine zA ?_
 intro K hK
 refine zL [1, 2, 3, 11] ?_
 clear hL
 intro ρ hL
 refine grp_orN (tc := 11) (tv := 13) (td := 14) (v := ?v1) 2 rfl [1, 2, 3] hL.2.2.2 rfl (fun hb K1 hK1 => ?run) (fun hb => ?skip) (fun ρ hP hM => ?_)
 case skip => exact skA (want := false) (b := _) (by rw [hb]; rfl) hL.2.2.2 rfl
 case run =>
  simp only [List.take_succ_cons, List.take_zero]
  rw [hb] at hL
  try simp only [go_sem, simprocAttr, hL, hX]
  repeat' refine And.intro (by first | rfl | omega | (simp; done)) ?_
  refine hK1 _ ?_ ?_ ?_ <;> simp only [go_sem, simprocAttr, hL, hX] <;> exact rfl
 simp only [List.drop_succ_cons, List.drop_zero]
 try simp only [go_sem, simprocAttr, hL, hX] at hM
 replace hL := And.intro hP hM
 clear hP hM
 try simp only [go_sem, simprocAttr, hL, hX]
 repeat' refine And.intro (by first | rfl | omega | (simp; done)) ?_
 refine zE [1, 2, 3, 14] ?_
 clear hK K hL
 refine zC ?_ ?_
 · intro c1
   refine zS [6] ?_
   refine zR ?_
   try simp only [go_sem, simprocAttr]
   all_goals (rw [source_neg (by omega)])
 · intro c1
   intro ρ hL
   refine awl_skip ?_
   have w0 : IntKind.i64.wrap (min i (c.rob.length : Int) - 1) = min i (c.rob.length : Int) - 1 := wrap64 (by omega)
   have hX0 := hX
   replace hX := And.intro w0 hX
   revert ρ hL
   refine zSF [2, 3, 7] (sat_spec_l1Min _ _) ?_
   clear hX
   have hX := hX0
   clear hX0
   intro ρ hL
   have e1 := hL
   refine awl_loopH (fun H0 n σ G => ∃ (m : Nat), n = m ∧ (m ≤ c.rob.length) ∧ (lastAt (fun x => decide (setBy x = r)) noEnt c.rob m = source c.rob i r) ∧ (liveE [2, 3] σ ρ ∧ σ 7 = .int .i64 ((m : Int) - 1)) ∧ G = H0) (fun H0 σ G => (source c.rob i r = -1) ∧ (True) ∧ G = H0) ((fun (m : Nat) => m) (upTo i c.rob.length)) ?init1 (fun n ρ G hI => ?round1) (fun ρ G hJ => ?after1)
   case init1 => exact ⟨(upTo i c.rob.length), rfl, (upTo_le _ _), (by rw [source, if_neg (by omega)]), ⟨liveE_refl _ _, (by rw [hL.2.2]; congr 1; unfold upTo; omega)⟩, rfl⟩
   case round1 =>
    clear hL
    obtain ⟨m, hn, i1_0, i1_1, hL, hG⟩ := hI
    subst hG
    try simp only [go_sem, simprocAttr, e1, hX] at hL
    revert ρ hL
    refine zS [2, 3, 7, 22] ?_
    refine zC ?_ ?_
    · intro c2
      intro ρ hL
      refine awl_skip ?_
      refine awl_seq ?_
      refine awl_block fun R1 hw1 hR1 => ?_
      obtain ⟨q, rfl⟩ : ∃ q : Nat, m = q + 1 := ⟨m - 1, by omega⟩
      have hq : (((q + 1 : Nat) : Int)) - 1 = (q : Int) := by omega
      rw [hq] at hL
      have hq2 : q < c.rob.length := by omega
      have hX0 := hX
      replace hX := And.intro hq2 hX
      revert ρ hL
      refine zS [2, 3, 7, 8] ?_
      clear hX
      have hX := hX0
      clear hX0
      have hX0 := hX
      replace hX := And.intro hq2 hX
      refine zS [2, 3, 7, 8, 38] ?_
      clear hX
      have hX := hX0
      clear hX0
      intro ρ hL
      have j2 := hL
      refine awl_joinH (fun H0 σ G => (liveE [2, 3, 7] σ ρ ∧ σ 8 = .int .i64 (setBy (c.rob.getD q noEnt))) ∧ G = H0) ?inner2 (fun ρ G hJ => ?after2)
      case inner2 =>
       refine zN [2, 3, 7, 8, 38] ?_
       clear hL
       refine zC ?_ ?_
       · intro c3
         have hX0 := hX
         replace hX := And.intro hq2 hX
         refine zSF [2, 3, 7, 8] (sat_spec_Sets (c.rob.getD q noEnt).x) ?_
         clear hX
         have hX := hX0
         clear hX0
         intro ρ hL
         refine awl_nil ?_
         show wkQ _ _ _ _
         refine .mk ⟨⟨(by simp only [go_sem, simprocAttr, hL, hX, j2]), (by rw [hL.2.2.2]; simp_all [setBy])⟩, rfl⟩
       · intro c3
         intro ρ hL
         refine awl_skip ?_
         refine awl_nil ?_
         show wkQ _ _ _ _
         refine .mk ⟨⟨(by simp only [go_sem, simprocAttr, hL, hX, j2]), (by rw [hL.2.2.2.1]; simp_all [setBy])⟩, rfl⟩
      case after2 =>
       clear hL
       obtain ⟨hL, hG⟩ := hJ
       subst hG
       try simp only [go_sem, simprocAttr, j2, hX] at hL
       revert ρ hL
       refine zS [2, 3, 7, 48] ?_
       refine zC ?_ ?_
       · intro c4
         refine zS [6] ?_
         refine zR ?_
         try simp only [go_sem, simprocAttr]
         all_goals try clear hR1
         all_goals (rw [← i1_1, lastAt_hit (by simpa using c4)])
       · intro c4
         intro ρ hL
         refine awl_skip ?_
         refine awl_nil ?_
         refine blk_normal (hR1 _ _ (.mk ?_))
         have wq : IntKind.i64.wrap ((q : Int) - 1) = (q : Int) - 1 := wrap64 (by omega)
         have hX0 := hX
         replace hX := And.intro wq hX
         revert ρ hL
         refine zS [2, 3, 7] ?_
         clear hX
         have hX := hX0
         clear hX0
         intro ρ hL
         refine awl_nil ?_
         refine loop_again _ ?meas ⟨q, rfl, (by omega), (by rw [← i1_1, lastAt_miss (by simpa using c4)]), ⟨(by simp only [go_sem, simprocAttr, hL, hX, e1]), (hL.2.2)⟩, rfl⟩
         case meas => subst hn; omega
    · intro c2
      intro ρ hL
      refine awl_exit ?_
      refine loop_break ?_
      exact ⟨(by rw [← i1_1, show m = 0 by omega]; rfl), trivial, rfl⟩
   case after1 =>
    clear hL
    obtain ⟨j1_0, hL, hG⟩ := hJ
    subst hG
    refine zA ?_
    intro K hK
    refine zE [6] ?_
    clear hK K hL
    refine zR ?_
    try simp only [go_sem, simprocAttr]
    all_goals try clear hR1
    all_goals (rw [j1_0])
theorem sat_impl_Source (c : Cor) (i : Int) (r : Int) (hf : c.fit) : Sat Tryz.prog 51 [.agg c.cells, .int .i64 i, .int .i64 r] [] (.int .i64 (source c.rob i r)) [] := by
 have hX := trivial
 refine sat_mk [.tmp 6] 0 32 Tryz.call51 Tryz.func51 Tryz.ntmps51 rfl rfl rfl rfl rfl ?_
 refine zI [0, 1, 2] ?_
 have hf1 := hf.2.1
 refine zS [1, 2, 3] ?_
 refine zS [2, 3, 7] ?_
 intro ρ hL
 have e1 := hL
 refine awl_loopH (fun H0 n σ G => ∃ (k : Int), n = k.toNat ∧ (k ≤ c.rob.length) ∧ (0 ≤ r → lastAt (fun x => decide (setBy x = r)) noEnt c.rob k.toNat = source c.rob i r) ∧ (liveE [2, 3] σ ρ ∧ σ 7 = .int .i64 k) ∧ G = H0) (fun H0 σ G => (source c.rob i r = -1) ∧ (True) ∧ G = H0) ((fun (k : Int) => k.toNat) (min (c.rob.length : Int) i)) ?init1 (fun n ρ G hI => ?round1) (fun ρ G hJ => ?after1)
 case init1 => exact ⟨(min (c.rob.length : Int) i), rfl, (by omega), (fun hr => by rw [source, if_neg (by omega), upTo]; congr 1; omega), ⟨liveE_refl _ _, (hL.2.2)⟩, rfl⟩
 case round1 =>
  clear hL
  obtain ⟨k, hn, i1_0, i1_1, hL, hG⟩ := hI
  subst hG
  try simp only [go_sem, simprocAttr, e1, hX] at hL
  refine zA ?_
  intro K hK
  refine zL [2, 3, 7, 15] ?_
  clear hL
  intro ρ hL
  refine grp_andN (tc := 15) (tv := 17) (td := 18) (v := ?v1) 2 rfl [2, 3, 7] hL.2.2.2 rfl (fun hb K1 hK1 => ?run) (fun hb => ?skip) (fun ρ hP hM => ?_)
  case skip => exact skA (want := true) (b := _) (by rw [hb]; rfl) hL.2.2.2 rfl
  case run =>
   simp only [List.take_succ_cons, List.take_zero]
   rw [hb] at hL
   try simp only [go_sem, simprocAttr, hL, hX]
   repeat' refine And.intro (by first | rfl | omega | (simp; done)) ?_
   refine hK1 _ ?_ ?_ ?_ <;> simp only [go_sem, simprocAttr, hL, hX] <;> exact rfl
  simp only [List.drop_succ_cons, List.drop_zero]
  try simp only [go_sem, simprocAttr, hL, hX] at hM
  replace hL := And.intro hP hM
  clear hP hM
  try simp only [go_sem, simprocAttr, hL, hX]
  repeat' refine And.intro (by first | rfl | omega | (simp; done)) ?_
  refine zE [2, 3, 7, 18] ?_
  clear hK K hL
  refine zC ?_ ?_
  · intro c1
    intro ρ hL
    refine awl_skip ?_
    refine awl_seq ?_
    refine awl_block fun R1 hw1 hR1 => ?_
    obtain ⟨q, rfl⟩ : ∃ q : Nat, k = (q : Int) + 1 := ⟨(k - 1).toNat, by omega⟩
    have hq2 : q < c.rob.length := by omega
    have wq : IntKind.i64.wrap ((q : Int) + 1 - 1) = (q : Int) := by rw [wrap64 (by omega)]; omega
    rw [show ((q : Int) + 1).toNat = q + 1 by omega] at i1_1
    have hX0 := hX
    replace hX := And.intro hq2 (And.intro wq hX)
    revert ρ hL
    refine zSF [2, 3, 7, 29] (sat_impl_setBy (c.rob.getD q noEnt)) ?_
    clear hX
    have hX := hX0
    clear hX0
    refine zC ?_ ?_
    · intro c2
      have hX0 := hX
      replace hX := And.intro wq hX
      refine zS [6] ?_
      clear hX
      have hX := hX0
      clear hX0
      refine zR ?_
      try simp only [go_sem, simprocAttr]
      all_goals try clear hR1
      all_goals (rw [← i1_1 (by omega), lastAt_hit (by simpa using c2)])
    · intro c2
      intro ρ hL
      refine awl_skip ?_
      refine awl_nil ?_
      refine blk_normal (hR1 _ _ (.mk ?_))
      have hX0 := hX
      replace hX := And.intro wq hX
      revert ρ hL
      refine zS [2, 3, 7] ?_
      clear hX
      have hX := hX0
      clear hX0
      intro ρ hL
      refine awl_nil ?_
      refine loop_again _ ?meas ⟨(q : Int), rfl, (by omega), (by exact fun hr => by rw [← i1_1 hr, lastAt_miss (by simpa using c2), Int.toNat_natCast]), ⟨(by simp only [go_sem, simprocAttr, hL, hX, e1]), (hL.2.2)⟩, rfl⟩
      case meas => subst hn; omega
  · intro c1
    intro ρ hL
    refine awl_exit ?_
    refine loop_break ?_
    exact ⟨(by exact (Classical.em (0 ≤ r)).elim (fun hr => by rw [← i1_1 hr, show k.toNat = 0 by omega]; rfl) (fun hr => source_neg (by omega))), trivial, rfl⟩
 case after1 =>
  clear hL
  obtain ⟨j1_0, hL, hG⟩ := hJ
  subst hG
  refine zA ?_
  intro K hK
  refine zE [6] ?_
  clear hK K hL
  refine zR ?_
  try simp only [go_sem, simprocAttr]
  all_goals try clear hR1
  all_goals (rw [j1_0])
theorem sat_spec_l12Value (c : Cor) (i : Int) (r : Int) (hf : c.fit) (hr : 0 ≤ r ∧ r < c.s.regs.length) : Sat Tryz.prog 117 [.agg c.cells, .int .i64 i, .int .i64 r] [] (.tuple [.agg (Word.cells (valueRaw c i r).1), .bool (valueRaw c i r).2]) [] := by
 have hX := trivial
 refine sat_mk [.cell 6 29, .tmp 7] 0 36 Tryz.call117 Tryz.func117 Tryz.ntmps117 rfl rfl rfl rfl rfl ?_
 refine zI [0, 1, 2] ?_
 have hr2 : r.toNat < c.s.regs.length := by omega
 refine zS [1, 2, 3, 6] ?_
 refine zSF [2, 3, 6, 8] (sat_spec_Source _ _ _ ?hp0) ?_
 case hp0 => first | assumption | omega | (simp; done)
 refine zS [2, 3, 6, 8, 14] ?_
 refine zC ?_ ?_
 · intro c1
   have hX0 := hX
   replace hX := And.intro hr2 hX
   refine zS [6, 7] ?_
   clear hX
   have hX := hX0
   clear hX0
   refine zR ?_
   try simp only [go_sem, simprocAttr]
   all_goals (rw [raw_reg c1] <;> rfl)
 · intro c1
   intro ρ hL
   refine awl_skip ?_
   obtain ⟨m, hm, hm2⟩ := source_nat c1
   rw [hm] at hL
   have hX0 := hX
   replace hX := And.intro hm2 hX
   revert ρ hL
   refine zS [3, 6, 8, 27] ?_
   clear hX
   have hX := hX0
   clear hX0
   refine zC ?_ ?_
   · intro c2
     refine zS [6, 7] ?_
     refine zR ?_
     try simp only [go_sem, simprocAttr]
     all_goals (rw [raw_wait hm (by simpa using c2)] <;> rfl)
   · intro c2
     intro ρ hL
     refine awl_skip ?_
     have hX0 := hX
     replace hX := And.intro hm2 hX
     revert ρ hL
     refine zS [6, 7] ?_
     clear hX
     have hX := hX0
     clear hX0
     refine zR ?_
     try simp only [go_sem, simprocAttr]
     all_goals (rw [raw_done hm (by simpa using c2)] <;> rfl)
theorem sat_spec_Value (c : Cor) (i : Int) (r : Int) (hf : c.fit) : Sat Tryz.prog 49 [.agg c.cells, .int .i64 i, .int .i64 r] [] (.tuple [.agg (Word.cells (value c i r).1), .bool (value c i r).2]) [] := by
 have hX := trivial
 refine sat_mk [.cell 6 29, .tmp 7] 0 28 Tryz.call49 Tryz.func49 Tryz.ntmps49 rfl rfl rfl rfl rfl ?_
 refine zI [0, 1, 2] ?_
 refine zS [1, 2, 3, 6] ?_
 intro ρ hL
 refine zA ?_
 intro K hK
 refine zF (sat_spec_l1In _ _ _) ?_
 refine zL [1, 2, 3, 6, 13] ?_
 clear hL
 intro ρ hL
 refine grp_orN (tc := 13) (tv := 16) (td := 17) (v := ?v1) 3 rfl [1, 2, 3, 6] hL.2.2.2.2 rfl (fun hb K1 hK1 => ?run) (fun hb => ?skip) (fun ρ hP hM => ?_)
 case skip => exact skA (want := false) (b := _) (by rw [hb]; rfl) hL.2.2.2.2 rfl
 case run =>
  simp only [List.take_succ_cons, List.take_zero]
  rw [hb] at hL
  try simp only [go_sem, simprocAttr, hL, hX]
  repeat' refine And.intro (by first | rfl | omega | (simp; done)) ?_
  refine zF (sat_spec_CoreOk _ ?hp0) ?_
  case hp0 => first | assumption | omega | (simp; done)
  refine hK1 _ ?_ ?_ ?_ <;> simp only [go_sem, simprocAttr, hL, hX] <;> exact rfl
 simp only [List.drop_succ_cons, List.drop_zero]
 try simp only [go_sem, simprocAttr, hL, hX] at hM
 replace hL := And.intro hP hM
 clear hP hM
 try simp only [go_sem, simprocAttr, hL, hX]
 repeat' refine And.intro (by first | rfl | omega | (simp; done)) ?_
 refine zE [1, 2, 3, 6, 17] ?_
 clear hK K hL
 refine zC ?_ ?_
 · intro c1
   refine zS [6, 7] ?_
   refine zR ?_
   try simp only [go_sem, simprocAttr]
   all_goals (rw [value_no (by rintro ⟨a, b⟩; simp [a, b] at c1)] <;> rfl)
 · intro c1
   intro ρ hL
   refine awl_skip ?_
   have hv : inR r 0 7 = true ∧ corOk c = true := by simpa using c1
   revert ρ hL
   refine zSF [6, 8, 9] (sat_spec_l12Value c i r hf (corOk_reg hv.2 hv.1)) ?_
   refine zS [6, 7] ?_
   refine zR ?_
   try simp only [go_sem, simprocAttr]
   all_goals (rw [value_ok hv.2 hv.1])
theorem sat_impl_Value (c : Cor) (i : Int) (r : Int) (hf : c.fit) : Sat Tryz.prog 48 [.agg c.cells, .int .i64 i, .int .i64 r] [] (.tuple [.agg (Word.cells (value c i r).1), .bool (value c i r).2]) [] := by
 have hX := trivial
 refine sat_mk [.cell 6 29, .tmp 7] 0 47 Tryz.call48 Tryz.func48 Tryz.ntmps48 rfl rfl rfl rfl rfl ?_
 refine zI [0, 1, 2] ?_
 refine zS [1, 2, 3, 6] ?_
 intro ρ hL
 refine zA ?_
 intro K hK
 refine zF (sat_impl_in _ _ _) ?_
 refine zL [1, 2, 3, 6, 12] ?_
 clear hL
 intro ρ hL
 refine grp_orN (tc := 12) (tv := 15) (td := 16) (v := ?v1) 3 rfl [1, 2, 3, 6] hL.2.2.2.2 rfl (fun hb K1 hK1 => ?run) (fun hb => ?skip) (fun ρ hP hM => ?_)
 case skip => exact skA (want := false) (b := _) (by rw [hb]; rfl) hL.2.2.2.2 rfl
 case run =>
  simp only [List.take_succ_cons, List.take_zero]
  rw [hb] at hL
  try simp only [go_sem, simprocAttr, hL, hX]
  repeat' refine And.intro (by first | rfl | omega | (simp; done)) ?_
  refine zF (sat_impl_CoreOk _ ?hp0) ?_
  case hp0 => first | assumption | omega | (simp; done)
  refine hK1 _ ?_ ?_ ?_ <;> simp only [go_sem, simprocAttr, hL, hX] <;> exact rfl
 simp only [List.drop_succ_cons, List.drop_zero]
 try simp only [go_sem, simprocAttr, hL, hX] at hM
 replace hL := And.intro hP hM
 clear hP hM
 try simp only [go_sem, simprocAttr, hL, hX]
 repeat' refine And.intro (by first | rfl | omega | (simp; done)) ?_
 refine zE [1, 2, 3, 6, 16] ?_
 clear hK K hL
 refine zC ?_ ?_
 · intro c1
   refine zS [6, 7] ?_
   refine zR ?_
   try simp only [go_sem, simprocAttr]
   all_goals (rw [value_no (by rintro ⟨a, b⟩; simp [a, b] at c1)] <;> rfl)
 · intro c1
   intro ρ hL
   refine awl_skip ?_
   have hv : inR r 0 7 = true ∧ corOk c = true := by simpa using c1
   have hr0 := corOk_reg hv.2 hv.1
   have hr2 : r.toNat < c.s.regs.length := by omega
   revert ρ hL
   refine zSF [2, 3, 6, 8] (sat_impl_Source c i r hf) ?_
   intro ρ hL
   refine awl_seq ?_
   refine awl_block fun R1 hw1 hR1 => ?_
   revert ρ hL
   refine zS [2, 3, 6, 8, 22] ?_
   refine zC ?_ ?_
   · intro c2
     have hX0 := hX
     replace hX := And.intro hr2 hX
     refine zS [6, 7] ?_
     clear hX
     have hX := hX0
     clear hX0
     refine zR ?_
     try simp only [go_sem, simprocAttr]
     all_goals try clear hR1
     all_goals (rw [value_ok hv.2 hv.1, raw_reg c2] <;> rfl)
   · intro c2
     obtain ⟨m, hm, hm2⟩ := source_nat c2
     intro ρ hL
     rw [hm] at hL
     have hX0 := hX
     replace hX := And.intro hm2 hX
     revert ρ hL
     refine zS [3, 6, 8, 31] ?_
     clear hX
     have hX := hX0
     clear hX0
     refine zC ?_ ?_
     · intro c3
       refine zS [6, 7] ?_
       refine zR ?_
       try simp only [go_sem, simprocAttr]
       all_goals try clear hR1
       all_goals (rw [value_ok hv.2 hv.1, raw_wait hm (by simpa using c3)] <;> rfl)
     · intro c3
       intro ρ hL
       refine awl_skip ?_
       refine awl_nil ?_
       refine blk_normal (hR1 _ _ (.mk ?_))
       have hX0 := hX
       replace hX := And.intro hm2 hX
       revert ρ hL
       refine zS [6, 7] ?_
       clear hX
       have hX := hX0
       clear hX0
       refine zR ?_
       try simp only [go_sem, simprocAttr]
       all_goals try clear hR1
       all_goals (rw [value_ok hv.2 hv.1, raw_done hm (by simpa using c3)] <;> rfl)
end Go.Proofs.YteojcehneipgdaaGreat.AM
