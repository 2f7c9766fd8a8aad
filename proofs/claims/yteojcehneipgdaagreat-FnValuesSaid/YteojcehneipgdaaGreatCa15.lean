/- Reading memory, finding, and what is ready. No conditions but those each theorem bears. -/
import Derived.Test.YteojcehneipgdaaGreatFa
import Derived.Test.YteojcehneipgdaaGreatM5
import Derived.Test.YteojcehneipgdaaGreatCa5b
import Derived.Test.YteojcehneipgdaaGreatCa7
set_option linter.unusedSimpArgs false
set_option linter.unusedVariables false
namespace Go.Proofs.YteojcehneipgdaaGreat.AM
open Go
set_option maxHeartbeats 8000000
set_option maxRecDepth 100000

theorem sat_spec_Filter (m : Mem) (w : Word) (hf : m.fit) : Sat Tryz.prog 131 [.agg m.cells, .agg w.cells] [] (.agg (Word.cells (filt m w))) [] := by
 have hX := trivial
 refine sat_mk [.cell 4 29] 0 29 Tryz.call131 Tryz.func131 Tryz.ntmps131 rfl rfl rfl rfl rfl ?_
 refine zI [0, 1] ?_
 refine zS [2, 3, 4] ?_
 have hg := hf.2
 have w0 : IntKind.i64.wrap ((m.gone.length : Int) - 1) = (m.gone.length : Int) - 1 := wrap64 (by omega)
 have hX0 := hX
 replace hX := And.intro w0 hX
 intro ρ hL
 refine zA ?_
 intro K hK
 refine zL [2, 3, 4, 7] ?_
 clear hL
 intro ρ hL
 refine grp_andN (tc := 7) (tv := 15) (td := 16) (v := ?v1) 8 rfl [2, 3, 4] hL.2.2.2 rfl (fun hb K1 hK1 => ?run) (fun hb => ?skip) (fun ρ hP hM => ?_)
 case skip => exact skA (want := true) (b := _) (by rw [hb]; rfl) hL.2.2.2 rfl
 case run =>
  simp only [List.take_succ_cons, List.take_zero]
  rw [hb] at hL
  try simp only [go_sem, simprocAttr, hL, hX]
  repeat' refine And.intro (by first | rfl | omega | (simp; done)) ?_
  refine zF (sat_spec_l1In _ _ _) ?_
  refine hK1 _ ?_ ?_ ?_ <;> simp only [go_sem, simprocAttr, hL, hX] <;> exact rfl
 simp only [List.drop_succ_cons, List.drop_zero]
 try simp only [go_sem, simprocAttr, hL, hX] at hM
 replace hL := And.intro hP hM
 clear hP hM
 try simp only [go_sem, simprocAttr, hL, hX]
 repeat' refine And.intro (by first | rfl | omega | (simp; done)) ?_
 refine zL [2, 3, 4, 17] ?_
 clear hL
 intro ρ hL
 refine grp_andN (tc := 17) (tv := 24) (td := 25) (v := ?v2) 7 rfl [3, 4] hL.2.2.2 rfl (fun hb K1 hK1 => ?run) (fun hb => ?skip) (fun ρ hP hM => ?_)
 case skip => exact skA (want := true) (b := _) (by rw [hb]; rfl) hL.2.2.2 rfl
 case run =>
  simp only [List.take_succ_cons, List.take_zero]
  rw [hb] at hL
  have hw := inR_iff.1 (Bool.and_eq_true_iff.1 hb).2
  have hn2 : w.key.base.toNat < m.gone.length := by omega
  try simp only [go_sem, simprocAttr, hL, hX, hn2]
  repeat' refine And.intro (by first | rfl | omega | (simp; done)) ?_
  refine hK1 _ ?_ ?_ ?_ <;> simp only [go_sem, simprocAttr, hL, hX, hn2] <;> exact rfl
 simp only [List.drop_succ_cons, List.drop_zero]
 try simp only [go_sem, simprocAttr, hL, hX] at hM
 replace hL := And.intro hP hM
 clear hP hM
 try simp only [go_sem, simprocAttr, hL, hX]
 repeat' refine And.intro (by first | rfl | omega | (simp; done)) ?_
 refine zE [3, 4, 25] ?_
 clear hK K hL
 clear hX
 have hX := hX0
 clear hX0
 refine zC ?_ ?_
 · intro c1
   refine zSF [4] (sat_spec_Bare _) ?_
   refine zR ?_
   try simp only [go_sem, simprocAttr]
   all_goals (rw [filt, if_pos ⟨c1.1.1, c1.1.2, c1.2⟩] <;> rfl)
 · intro c1
   intro ρ hL
   refine awl_skip ?_
   revert ρ hL
   refine zS [4] ?_
   refine zR ?_
   try simp only [go_sem, simprocAttr]
   all_goals (rw [filt, if_neg (by rintro ⟨a, b, d⟩; rw [a, b, d] at c1; simp at c1)])
theorem sat_spec_Read (m : Mem) (by_ : Word) (n : Int) (hf : m.fit) : Sat Tryz.prog 129 [.agg m.cells, .agg by_.cells, .int .i64 n] [] (.tuple [.agg (Word.cells (read m by_ n).1), .int .i64 (read m by_ n).2]) [] := by
 have hX := trivial
 refine sat_mk [.cell 6 29, .tmp 7] 0 36 Tryz.call129 Tryz.func129 Tryz.ntmps129 rfl rfl rfl rfl rfl ?_
 refine zI [0, 1, 2] ?_
 refine zS [2, 3, 4, 6] ?_
 refine zSF [2, 3, 4, 6, 8] (sat_spec_Try by_ n 1) ?_
 have hg := hf.1
 have w0 : IntKind.i64.wrap ((m.words.length : Int) - 1) = (m.words.length : Int) - 1 := wrap64 (by omega)
 have hX0 := hX
 replace hX := And.intro w0 hX
 intro ρ hL
 refine zA ?_
 intro K hK
 refine zL [2, 3, 4, 6, 8, 14] ?_
 clear hL
 intro ρ hL
 refine grp_andN (tc := 14) (tv := 21) (td := 22) (v := ?v1) 7 rfl [2, 3, 4, 6, 8] hL.2.2.2.2.2 rfl (fun hb K1 hK1 => ?run) (fun hb => ?skip) (fun ρ hP hM => ?_)
 case skip => exact skA (want := true) (b := _) (by rw [hb]; rfl) hL.2.2.2.2.2 rfl
 case run =>
  simp only [List.take_succ_cons, List.take_zero]
  rw [hb] at hL
  try simp only [go_sem, simprocAttr, hL, hX]
  repeat' refine And.intro (by first | rfl | omega | (simp; done)) ?_
  refine zF (sat_spec_l1In _ _ _) ?_
  refine hK1 _ ?_ ?_ ?_ <;> simp only [go_sem, simprocAttr, hL, hX] <;> exact rfl
 simp only [List.drop_succ_cons, List.drop_zero]
 try simp only [go_sem, simprocAttr, hL, hX] at hM
 replace hL := And.intro hP hM
 clear hP hM
 try simp only [go_sem, simprocAttr, hL, hX]
 repeat' refine And.intro (by first | rfl | omega | (simp; done)) ?_
 refine zE [2, 3, 4, 6, 8, 22] ?_
 clear hK K hL
 clear hX
 have hX := hX0
 clear hX0
 intro ρ hL
 have j1 := hL
 refine awl_joinH (fun H0 σ G => (liveE [2, 3, 4, 6] σ ρ ∧ σ 8 = .int .i64 (readT m by_ n)) ∧ G = H0) ?inner1 (fun ρ G hJ => ?after1)
 case inner1 =>
  refine zN [2, 3, 4, 6, 8, 22] ?_
  clear hL
  refine zC ?_ ?_
  · intro c1
    refine zS [2, 3, 4, 6, 8] ?_
    intro ρ hL
    refine awl_nil ?_
    show wkQ _ _ _ _
    refine .mk ⟨⟨(by simp only [go_sem, simprocAttr, hL, hX, j1]), (by rw [hL.2.2.2.2]; congr 1; unfold readT; split <;> simp_all)⟩, rfl⟩
  · intro c1
    intro ρ hL
    refine awl_skip ?_
    refine awl_nil ?_
    show wkQ _ _ _ _
    refine .mk ⟨⟨(by simp only [go_sem, simprocAttr, hL, hX, j1]), (by rw [hL.2.2.2.2.1]; congr 1; unfold readT; split <;> simp_all)⟩, rfl⟩
 case after1 =>
  clear hL
  obtain ⟨hL, hG⟩ := hJ
  subst hG
  try simp only [go_sem, simprocAttr, j1, hX] at hL
  revert ρ hL
  refine zS [2, 3, 4, 6, 8, 24] ?_
  refine zC ?_ ?_
  · intro c2
    refine zS [6, 7] ?_
    refine zR ?_
    try simp only [go_sem, simprocAttr]
    all_goals (rw [read_no (by omega)]; rfl)
  · intro c2
    intro ρ hL
    refine awl_skip ?_
    have hr0 : readT m by_ n = 0 := by omega
    have hr := inR_iff.1 (read_in hr0)
    have hn2 : n.toNat < m.words.length := by omega
    have hX0 := hX
    replace hX := And.intro hn2 hX
    refine zAD [0, 0, 0, 4, 0, 28, 60, 126, 255, 511, 1023] ?_
    intro K hK
    refine zFD [0, 0, 0, 4, 0, 28, 60, 126, 255, 511, 1023] (sat_spec_Taken by_ (m.words.getD n.toNat noWord)) ?_
    refine zFD [0, 0, 0, 4, 0, 28, 60, 126, 255, 511, 1023] (sat_spec_Filter m (taken by_ (m.words.getD n.toNat noWord)) hf) ?_
    refine zE [6, 7] ?_
    clear hK K hL
    clear hX
    have hX := hX0
    clear hX0
    refine zR ?_
    try simp only [go_sem, simprocAttr]
    all_goals (rw [read_ok hr0])
theorem sat_impl_Filter (m : Mem) (w : Word) (hf : m.fit) : Sat Tryz.prog 127 [.agg m.cells, .agg w.cells] [] (.agg (Word.cells (filt m w))) [] := by
 have hX := trivial
 refine sat_mk [.cell 4 29] 0 29 Tryz.call127 Tryz.func127 Tryz.ntmps127 rfl rfl rfl rfl rfl ?_
 refine zI [0, 1] ?_
 refine zS [2, 3, 4] ?_
 have hg := hf.2
 have w0 : IntKind.i64.wrap ((m.gone.length : Int) - 1) = (m.gone.length : Int) - 1 := wrap64 (by omega)
 have hX0 := hX
 replace hX := And.intro w0 hX
 intro ρ hL
 refine zA ?_
 intro K hK
 refine zL [2, 3, 4, 7] ?_
 clear hL
 intro ρ hL
 refine grp_andN (tc := 7) (tv := 15) (td := 16) (v := ?v1) 8 rfl [2, 3, 4] hL.2.2.2 rfl (fun hb K1 hK1 => ?run) (fun hb => ?skip) (fun ρ hP hM => ?_)
 case skip => exact skA (want := true) (b := _) (by rw [hb]; rfl) hL.2.2.2 rfl
 case run =>
  simp only [List.take_succ_cons, List.take_zero]
  rw [hb] at hL
  try simp only [go_sem, simprocAttr, hL, hX]
  repeat' refine And.intro (by first | rfl | omega | (simp; done)) ?_
  refine zF (sat_impl_in _ _ _) ?_
  refine hK1 _ ?_ ?_ ?_ <;> simp only [go_sem, simprocAttr, hL, hX] <;> exact rfl
 simp only [List.drop_succ_cons, List.drop_zero]
 try simp only [go_sem, simprocAttr, hL, hX] at hM
 replace hL := And.intro hP hM
 clear hP hM
 try simp only [go_sem, simprocAttr, hL, hX]
 repeat' refine And.intro (by first | rfl | omega | (simp; done)) ?_
 refine zL [2, 3, 4, 17] ?_
 clear hL
 intro ρ hL
 refine grp_andN (tc := 17) (tv := 24) (td := 25) (v := ?v2) 7 rfl [3, 4] hL.2.2.2 rfl (fun hb K1 hK1 => ?run) (fun hb => ?skip) (fun ρ hP hM => ?_)
 case skip => exact skA (want := true) (b := _) (by rw [hb]; rfl) hL.2.2.2 rfl
 case run =>
  simp only [List.take_succ_cons, List.take_zero]
  rw [hb] at hL
  have hw := inR_iff.1 (Bool.and_eq_true_iff.1 hb).2
  have hn2 : w.key.base.toNat < m.gone.length := by omega
  try simp only [go_sem, simprocAttr, hL, hX, hn2]
  repeat' refine And.intro (by first | rfl | omega | (simp; done)) ?_
  refine hK1 _ ?_ ?_ ?_ <;> simp only [go_sem, simprocAttr, hL, hX, hn2] <;> exact rfl
 simp only [List.drop_succ_cons, List.drop_zero]
 try simp only [go_sem, simprocAttr, hL, hX] at hM
 replace hL := And.intro hP hM
 clear hP hM
 try simp only [go_sem, simprocAttr, hL, hX]
 repeat' refine And.intro (by first | rfl | omega | (simp; done)) ?_
 refine zE [3, 4, 25] ?_
 clear hK K hL
 clear hX
 have hX := hX0
 clear hX0
 refine zC ?_ ?_
 · intro c1
   refine zSF [4] (sat_impl_Bare _) ?_
   refine zR ?_
   try simp only [go_sem, simprocAttr]
   all_goals (rw [filt, if_pos ⟨c1.1.1, c1.1.2, c1.2⟩] <;> rfl)
 · intro c1
   intro ρ hL
   refine awl_skip ?_
   revert ρ hL
   refine zS [4] ?_
   refine zR ?_
   try simp only [go_sem, simprocAttr]
   all_goals (rw [filt, if_neg (by rintro ⟨a, b, d⟩; rw [a, b, d] at c1; simp at c1)])
theorem sat_impl_Read (m : Mem) (by_ : Word) (n : Int) (hf : m.fit) : Sat Tryz.prog 126 [.agg m.cells, .agg by_.cells, .int .i64 n] [] (.tuple [.agg (Word.cells (read m by_ n).1), .int .i64 (read m by_ n).2]) [] := by
 have hX := trivial
 refine sat_mk [.cell 6 29, .tmp 7] 0 36 Tryz.call126 Tryz.func126 Tryz.ntmps126 rfl rfl rfl rfl rfl ?_
 refine zI [0, 1, 2] ?_
 refine zS [2, 3, 4, 6] ?_
 refine zSF [2, 3, 4, 6, 8] (sat_impl_Try by_ n 1 (by decide)) ?_
 have hg := hf.1
 have w0 : IntKind.i64.wrap ((m.words.length : Int) - 1) = (m.words.length : Int) - 1 := wrap64 (by omega)
 have hX0 := hX
 replace hX := And.intro w0 hX
 intro ρ hL
 refine zA ?_
 intro K hK
 refine zL [2, 3, 4, 6, 8, 14] ?_
 clear hL
 intro ρ hL
 refine grp_andN (tc := 14) (tv := 21) (td := 22) (v := ?v1) 7 rfl [2, 3, 4, 6, 8] hL.2.2.2.2.2 rfl (fun hb K1 hK1 => ?run) (fun hb => ?skip) (fun ρ hP hM => ?_)
 case skip => exact skA (want := true) (b := _) (by rw [hb]; rfl) hL.2.2.2.2.2 rfl
 case run =>
  simp only [List.take_succ_cons, List.take_zero]
  rw [hb] at hL
  try simp only [go_sem, simprocAttr, hL, hX]
  repeat' refine And.intro (by first | rfl | omega | (simp; done)) ?_
  refine zF (sat_impl_in _ _ _) ?_
  refine hK1 _ ?_ ?_ ?_ <;> simp only [go_sem, simprocAttr, hL, hX] <;> exact rfl
 simp only [List.drop_succ_cons, List.drop_zero]
 try simp only [go_sem, simprocAttr, hL, hX] at hM
 replace hL := And.intro hP hM
 clear hP hM
 try simp only [go_sem, simprocAttr, hL, hX]
 repeat' refine And.intro (by first | rfl | omega | (simp; done)) ?_
 refine zE [2, 3, 4, 6, 8, 22] ?_
 clear hK K hL
 clear hX
 have hX := hX0
 clear hX0
 intro ρ hL
 have j1 := hL
 refine awl_joinH (fun H0 σ G => (liveE [2, 3, 4, 6] σ ρ ∧ σ 8 = .int .i64 (readT m by_ n)) ∧ G = H0) ?inner1 (fun ρ G hJ => ?after1)
 case inner1 =>
  refine zN [2, 3, 4, 6, 8, 22] ?_
  clear hL
  refine zC ?_ ?_
  · intro c1
    refine zS [2, 3, 4, 6, 8] ?_
    intro ρ hL
    refine awl_nil ?_
    show wkQ _ _ _ _
    refine .mk ⟨⟨(by simp only [go_sem, simprocAttr, hL, hX, j1]), (by rw [hL.2.2.2.2]; congr 1; unfold readT; split <;> simp_all)⟩, rfl⟩
  · intro c1
    intro ρ hL
    refine awl_skip ?_
    refine awl_nil ?_
    show wkQ _ _ _ _
    refine .mk ⟨⟨(by simp only [go_sem, simprocAttr, hL, hX, j1]), (by rw [hL.2.2.2.2.1]; congr 1; unfold readT; split <;> simp_all)⟩, rfl⟩
 case after1 =>
  clear hL
  obtain ⟨hL, hG⟩ := hJ
  subst hG
  try simp only [go_sem, simprocAttr, j1, hX] at hL
  revert ρ hL
  refine zS [2, 3, 4, 6, 8, 24] ?_
  refine zC ?_ ?_
  · intro c2
    refine zS [6, 7] ?_
    refine zR ?_
    try simp only [go_sem, simprocAttr]
    all_goals (rw [read_no (by omega)]; rfl)
  · intro c2
    intro ρ hL
    refine awl_skip ?_
    have hr0 : readT m by_ n = 0 := by omega
    have hr := inR_iff.1 (read_in hr0)
    have hn2 : n.toNat < m.words.length := by omega
    have hX0 := hX
    replace hX := And.intro hn2 hX
    refine zAD [0, 0, 0, 4, 0, 28, 60, 126, 255, 511, 1023] ?_
    intro K hK
    refine zFD [0, 0, 0, 4, 0, 28, 60, 126, 255, 511, 1023] (sat_impl_Taken by_ (m.words.getD n.toNat noWord)) ?_
    refine zFD [0, 0, 0, 4, 0, 28, 60, 126, 255, 511, 1023] (sat_impl_Filter m (taken by_ (m.words.getD n.toNat noWord)) hf) ?_
    refine zE [6, 7] ?_
    clear hK K hL
    clear hX
    have hX := hX0
    clear hX0
    refine zR ?_
    try simp only [go_sem, simprocAttr]
    all_goals (rw [read_ok hr0])
theorem sat_spec_Found (c : Cor) (i : Int) (by_ : Word) (a : Int) (hf : c.fit) : Sat Tryz.prog 62 [.agg c.cells, .int .i64 i, .agg by_.cells, .int .i64 a] [] (.tuple [.agg (Word.cells (found c i by_ a).1), .int .i64 (found c i by_ a).2]) [] := by
 have hX := trivial
 refine sat_mk [.cell 8 29, .tmp 9] 0 74 Tryz.call62 Tryz.func62 Tryz.ntmps62 rfl rfl rfl rfl rfl ?_
 refine zI [0, 1, 2, 3] ?_
 have hf1 := hf.2.1
 refine zS [1, 3, 4, 6, 8] ?_
 refine zSF [1, 3, 4, 6, 8, 10, 11] (sat_spec_Read c.s.mem by_ a hf.1.2) ?_
 refine zS [1, 3, 4, 6, 8, 10, 11, 24] ?_
 refine zC ?_ ?_
 · intro c1
   refine zS [8, 9] ?_
   refine zR ?_
   try simp only [go_sem, simprocAttr]
   all_goals (rw [found_no c1]; rfl)
 · intro c1
   intro ρ hL
   refine awl_skip ?_
   have w0 : IntKind.i64.wrap (max 0 (min i (c.rob.length : Int)) - 1) = max 0 (min i (c.rob.length : Int)) - 1 := wrap64 (by omega)
   have hX0 := hX
   replace hX := And.intro w0 hX
   refine zA ?_
   intro K hK
   refine zF (sat_spec_l1Min _ _) ?_
   refine zF (sat_spec_l1Max _ _) ?_
   refine zE [3, 4, 6, 8, 10, 12] ?_
   clear hK K hL
   clear hX
   have hX := hX0
   clear hX0
   intro ρ hL
   have e1 := hL
   refine awl_loopH (fun H0 n σ G => ∃ (m : Nat), n = m ∧ (m ≤ c.rob.length) ∧ (lastAt (puts a) noEnt c.rob m = lastAt (puts a) noEnt c.rob (upTo i c.rob.length)) ∧ (liveE [3, 4, 6, 8, 10] σ ρ ∧ σ 12 = .int .i64 ((m : Int) - 1)) ∧ G = H0) (fun H0 σ G => (lastAt (puts a) noEnt c.rob (upTo i c.rob.length) = -1) ∧ (liveE [8, 10] σ ρ) ∧ G = H0) ((fun (m : Nat) => m) (upTo i c.rob.length)) ?init1 (fun n ρ G hI => ?round1) (fun ρ G hJ => ?after1)
   case init1 => exact ⟨(upTo i c.rob.length), rfl, (upTo_le _ _), (rfl), ⟨liveE_refl _ _, (by rw [hL.2.2.2.2.2]; congr 1; unfold upTo; omega)⟩, rfl⟩
   case round1 =>
    clear hL
    obtain ⟨m, hn, i1_0, i1_1, hL, hG⟩ := hI
    subst hG
    try simp only [go_sem, simprocAttr, e1, hX] at hL
    revert ρ hL
    refine zS [3, 4, 6, 8, 10, 12, 35] ?_
    refine zC ?_ ?_
    · intro c2
      intro ρ hL
      refine awl_skip ?_
      refine awl_seq ?_
      refine awl_block fun R1 hw1 hR1 => ?_
      obtain ⟨q, rfl⟩ : ∃ q : Nat, m = q + 1 := ⟨m - 1, by omega⟩
      have hq : (((q + 1 : Nat) : Int)) - 1 = (q : Int) := by omega
      rw [hq] at hL
      have hq2 : q < c.rob.length := by omega
      have hX0 := hX
      replace hX := And.intro hq2 hX
      revert ρ hL
      refine zS [3, 4, 6, 8, 10, 12, 13] ?_
      clear hX
      have hX := hX0
      clear hX0
      intro ρ hL
      refine zA ?_
      intro K hK
      refine zL [3, 4, 6, 8, 10, 12, 13, 47] ?_
      clear hL
      intro ρ hL
      refine grp_andN (tc := 47) (tv := 49) (td := 50) (v := ?v1) 2 rfl [3, 4, 6, 8, 10, 12, 13] hL.2.2.2.2.2.2.2 rfl (fun hb K1 hK1 => ?run) (fun hb => ?skip) (fun ρ hP hM => ?_)
      case skip => exact skA (want := true) (b := _) (by rw [hb]; rfl) hL.2.2.2.2.2.2.2 rfl
      case run =>
       simp only [List.take_succ_cons, List.take_zero]
       rw [hb] at hL
       try simp only [go_sem, simprocAttr, hL, hX]
       repeat' refine And.intro (by first | rfl | omega | (simp; done)) ?_
       refine hK1 _ ?_ ?_ ?_ <;> simp only [go_sem, simprocAttr, hL, hX] <;> exact rfl
      simp only [List.drop_succ_cons, List.drop_zero]
      try simp only [go_sem, simprocAttr, hL, hX] at hM
      replace hL := And.intro hP hM
      clear hP hM
      try simp only [go_sem, simprocAttr, hL, hX]
      repeat' refine And.intro (by first | rfl | omega | (simp; done)) ?_
      refine zL [3, 4, 6, 8, 10, 12, 13, 51] ?_
      clear hL
      intro ρ hL
      refine grp_andN (tc := 51) (tv := 55) (td := 56) (v := ?v2) 4 rfl [3, 4, 6, 8, 10, 12, 13] hL.2.2.2.2.2.2.2 rfl (fun hb K1 hK1 => ?run) (fun hb => ?skip) (fun ρ hP hM => ?_)
      case skip => exact skA (want := true) (b := _) (by rw [hb]; rfl) hL.2.2.2.2.2.2.2 rfl
      case run =>
       simp only [List.take_succ_cons, List.take_zero]
       rw [hb] at hL
       try simp only [go_sem, simprocAttr, hL, hX]
       repeat' refine And.intro (by first | rfl | omega | (simp; done)) ?_
       refine hK1 _ ?_ ?_ ?_ <;> simp only [go_sem, simprocAttr, hL, hX] <;> exact rfl
      simp only [List.drop_succ_cons, List.drop_zero]
      try simp only [go_sem, simprocAttr, hL, hX] at hM
      replace hL := And.intro hP hM
      clear hP hM
      try simp only [go_sem, simprocAttr, hL, hX]
      repeat' refine And.intro (by first | rfl | omega | (simp; done)) ?_
      refine zL [3, 4, 6, 8, 10, 12, 13, 57] ?_
      clear hL
      intro ρ hL
      refine grp_andN (tc := 57) (tv := 62) (td := 63) (v := ?v3) 5 rfl [3, 4, 6, 8, 10, 12, 13] hL.2.2.2.2.2.2.2 rfl (fun hb K1 hK1 => ?run) (fun hb => ?skip) (fun ρ hP hM => ?_)
      case skip => exact skA (want := true) (b := _) (by rw [hb]; rfl) hL.2.2.2.2.2.2.2 rfl
      case run =>
       simp only [List.take_succ_cons, List.take_zero]
       rw [hb] at hL
       try simp only [go_sem, simprocAttr, hL, hX]
       repeat' refine And.intro (by first | rfl | omega | (simp; done)) ?_
       refine hK1 _ ?_ ?_ ?_ <;> simp only [go_sem, simprocAttr, hL, hX] <;> exact rfl
      simp only [List.drop_succ_cons, List.drop_zero]
      try simp only [go_sem, simprocAttr, hL, hX] at hM
      replace hL := And.intro hP hM
      clear hP hM
      try simp only [go_sem, simprocAttr, hL, hX]
      repeat' refine And.intro (by first | rfl | omega | (simp; done)) ?_
      refine zE [3, 4, 6, 8, 10, 12, 13, 63] ?_
      clear hK K hL
      refine zC ?_ ?_
      · intro c3
        intro ρ hL
        refine zAD [0, 1, 3, 0, 0, 16, 48, 120, 255, 511, 1023] ?_
        intro K hK
        refine zFD [0, 1, 3, 0, 0, 16, 48, 120, 255, 511, 1023] (sat_spec_Taken by_ (c.rob.getD q noEnt).e.put) ?_
        refine zFD [0, 1, 3, 0, 0, 16, 48, 120, 255, 511, 1023] (sat_spec_Filter c.s.mem (taken by_ (c.rob.getD q noEnt).e.put) hf.1.2) ?_
        refine zE [8, 9] ?_
        clear hK K hL
        refine zR ?_
        try simp only [go_sem, simprocAttr]
        all_goals try clear hR1
        all_goals (rw [found_hit (fun h => h c1) (q := q) (by rw [← i1_1, lastAt_hit (by simp only [puts, Bool.and_eq_true, decide_eq_true_eq]; exact c3)])])
      · intro c3
        intro ρ hL
        refine awl_skip ?_
        refine awl_nil ?_
        refine blk_normal (hR1 _ _ (.mk ?_))
        have wq : IntKind.i64.wrap ((q : Int) - 1) = (q : Int) - 1 := wrap64 (by omega)
        have hX0 := hX
        replace hX := And.intro wq hX
        revert ρ hL
        refine zS [3, 4, 6, 8, 10, 12] ?_
        clear hX
        have hX := hX0
        clear hX0
        intro ρ hL
        refine awl_nil ?_
        refine loop_againW (Wk.keep [0, 1, 2, 3] rfl) _ ?meas ⟨q, rfl, (by omega), (by rw [← i1_1, lastAt_miss (puts_no c3)]), ⟨(by simp only [go_sem, simprocAttr, hL, hX, e1]), (by simp only [go_sem, simprocAttr, hL, hX, e1]; first | done | rfl)⟩, (by simp only [go_sem, simprocAttr, hL, hX, e1]; first | done | rfl)⟩
        case meas => subst hn; omega
    · intro c2
      intro ρ hL
      refine awl_exit ?_
      refine loop_break ?_
      exact ⟨(by rw [← i1_1, show m = 0 by omega]; rfl), (by simp only [go_sem, simprocAttr, hL, hX, e1]), rfl⟩
   case after1 =>
    clear hL
    obtain ⟨j1_0, hL, hG⟩ := hJ
    subst hG
    try simp only [go_sem, simprocAttr, e1, hX] at hL
    revert ρ hL
    refine zS [8, 9] ?_
    refine zR ?_
    try simp only [go_sem, simprocAttr]
    all_goals try clear hR1
    all_goals (rw [found_miss (fun h => h c1) j1_0])
theorem sat_impl_Found (c : Cor) (i : Int) (by_ : Word) (a : Int) (hf : c.fit) : Sat Tryz.prog 61 [.agg c.cells, .int .i64 i, .agg by_.cells, .int .i64 a] [] (.tuple [.agg (Word.cells (found c i by_ a).1), .int .i64 (found c i by_ a).2]) [] := by
 have hX := trivial
 refine sat_mk [.cell 8 29, .tmp 9] 0 73 Tryz.call61 Tryz.func61 Tryz.ntmps61 rfl rfl rfl rfl rfl ?_
 refine zI [0, 1, 2, 3] ?_
 have hf1 := hf.2.1
 refine zS [1, 3, 4, 6, 8] ?_
 refine zSF [1, 3, 4, 6, 8, 10, 11] (sat_impl_Read c.s.mem by_ a hf.1.2) ?_
 refine zS [1, 3, 4, 6, 8, 10, 11, 24] ?_
 refine zC ?_ ?_
 · intro c1
   refine zS [8, 9] ?_
   refine zR ?_
   try simp only [go_sem, simprocAttr]
   all_goals (rw [found_no c1, ← read_fst c1])
 · intro c1
   intro ρ hL
   refine awl_skip ?_
   revert ρ hL
   refine zS [3, 4, 6, 8, 10, 12] ?_
   intro ρ hL
   have e1 := hL
   refine awl_loopH (fun H0 n σ G => ∃ (k : Int), n = k.toNat ∧ (k ≤ c.rob.length) ∧ (lastAt (puts a) noEnt c.rob k.toNat = lastAt (puts a) noEnt c.rob (upTo i c.rob.length)) ∧ (liveE [3, 4, 6, 8, 10] σ ρ ∧ σ 12 = .int .i64 k) ∧ G = H0) (fun H0 σ G => (lastAt (puts a) noEnt c.rob (upTo i c.rob.length) = -1) ∧ (liveE [8, 10] σ ρ) ∧ G = H0) ((fun (k : Int) => k.toNat) (min (c.rob.length : Int) i)) ?init1 (fun n ρ G hI => ?round1) (fun ρ G hJ => ?after1)
   case init1 => exact ⟨(min (c.rob.length : Int) i), rfl, (by omega), (by rw [upTo]; congr 1; omega), ⟨liveE_refl _ _, (hL.2.2.2.2.2)⟩, rfl⟩
   case round1 =>
    clear hL
    obtain ⟨k, hn, i1_0, i1_1, hL, hG⟩ := hI
    subst hG
    try simp only [go_sem, simprocAttr, e1, hX] at hL
    revert ρ hL
    refine zS [3, 4, 6, 8, 10, 12, 33] ?_
    refine zC ?_ ?_
    · intro c2
      intro ρ hL
      refine awl_skip ?_
      refine awl_seq ?_
      refine awl_block fun R1 hw1 hR1 => ?_
      obtain ⟨q, rfl⟩ : ∃ q : Nat, k = (q : Int) + 1 := ⟨(k - 1).toNat, by omega⟩
      have hq2 : q < c.rob.length := by omega
      have wq : IntKind.i64.wrap ((q : Int) + 1 - 1) = (q : Int) := by rw [wrap64 (by omega)]; omega
      rw [show ((q : Int) + 1).toNat = q + 1 by omega] at i1_1
      have hX0 := hX
      replace hX := And.intro hq2 (And.intro wq hX)
      revert ρ hL
      refine zS [3, 4, 6, 8, 10, 12, 13] ?_
      clear hX
      have hX := hX0
      clear hX0
      intro ρ hL
      refine zA ?_
      intro K hK
      refine zL [3, 4, 6, 8, 10, 12, 13, 44] ?_
      clear hL
      intro ρ hL
      refine grp_andN (tc := 44) (tv := 48) (td := 49) (v := ?v1) 4 rfl [3, 4, 6, 8, 10, 12, 13] hL.2.2.2.2.2.2.2 rfl (fun hb K1 hK1 => ?run) (fun hb => ?skip) (fun ρ hP hM => ?_)
      case skip => exact skA (want := true) (b := _) (by rw [hb]; rfl) hL.2.2.2.2.2.2.2 rfl
      case run =>
       simp only [List.take_succ_cons, List.take_zero]
       rw [hb] at hL
       try simp only [go_sem, simprocAttr, hL, hX]
       repeat' refine And.intro (by first | rfl | omega | (simp; done)) ?_
       refine hK1 _ ?_ ?_ ?_ <;> simp only [go_sem, simprocAttr, hL, hX] <;> exact rfl
      simp only [List.drop_succ_cons, List.drop_zero]
      try simp only [go_sem, simprocAttr, hL, hX] at hM
      replace hL := And.intro hP hM
      clear hP hM
      try simp only [go_sem, simprocAttr, hL, hX]
      repeat' refine And.intro (by first | rfl | omega | (simp; done)) ?_
      refine zL [3, 4, 6, 8, 10, 12, 13, 50] ?_
      clear hL
      intro ρ hL
      refine grp_andN (tc := 50) (tv := 54) (td := 55) (v := ?v2) 4 rfl [3, 4, 6, 8, 10, 12, 13] hL.2.2.2.2.2.2.2 rfl (fun hb K1 hK1 => ?run) (fun hb => ?skip) (fun ρ hP hM => ?_)
      case skip => exact skA (want := true) (b := _) (by rw [hb]; rfl) hL.2.2.2.2.2.2.2 rfl
      case run =>
       simp only [List.take_succ_cons, List.take_zero]
       rw [hb] at hL
       try simp only [go_sem, simprocAttr, hL, hX]
       repeat' refine And.intro (by first | rfl | omega | (simp; done)) ?_
       refine hK1 _ ?_ ?_ ?_ <;> simp only [go_sem, simprocAttr, hL, hX] <;> exact rfl
      simp only [List.drop_succ_cons, List.drop_zero]
      try simp only [go_sem, simprocAttr, hL, hX] at hM
      replace hL := And.intro hP hM
      clear hP hM
      try simp only [go_sem, simprocAttr, hL, hX]
      repeat' refine And.intro (by first | rfl | omega | (simp; done)) ?_
      refine zL [3, 4, 6, 8, 10, 12, 13, 56] ?_
      clear hL
      intro ρ hL
      refine grp_andN (tc := 56) (tv := 61) (td := 62) (v := ?v3) 5 rfl [3, 4, 6, 8, 10, 12, 13] hL.2.2.2.2.2.2.2 rfl (fun hb K1 hK1 => ?run) (fun hb => ?skip) (fun ρ hP hM => ?_)
      case skip => exact skA (want := true) (b := _) (by rw [hb]; rfl) hL.2.2.2.2.2.2.2 rfl
      case run =>
       simp only [List.take_succ_cons, List.take_zero]
       rw [hb] at hL
       try simp only [go_sem, simprocAttr, hL, hX]
       repeat' refine And.intro (by first | rfl | omega | (simp; done)) ?_
       refine hK1 _ ?_ ?_ ?_ <;> simp only [go_sem, simprocAttr, hL, hX] <;> exact rfl
      simp only [List.drop_succ_cons, List.drop_zero]
      try simp only [go_sem, simprocAttr, hL, hX] at hM
      replace hL := And.intro hP hM
      clear hP hM
      try simp only [go_sem, simprocAttr, hL, hX]
      repeat' refine And.intro (by first | rfl | omega | (simp; done)) ?_
      refine zE [3, 4, 6, 8, 10, 12, 13, 62] ?_
      clear hK K hL
      refine zC ?_ ?_
      · intro c3
        intro ρ hL
        refine zAD [0, 1, 3, 0, 0, 16, 48, 120, 255, 511, 1023] ?_
        intro K hK
        refine zFD [0, 1, 3, 0, 0, 16, 48, 120, 255, 511, 1023] (sat_impl_Taken by_ (c.rob.getD q noEnt).e.put) ?_
        refine zFD [0, 1, 3, 0, 0, 16, 48, 120, 255, 511, 1023] (sat_impl_Filter c.s.mem (taken by_ (c.rob.getD q noEnt).e.put) hf.1.2) ?_
        refine zE [8, 9] ?_
        clear hK K hL
        refine zR ?_
        try simp only [go_sem, simprocAttr]
        all_goals try clear hR1
        all_goals (rw [found_hit (fun h => h c1) (q := q) (by rw [← i1_1, lastAt_hit (by simp only [puts, Bool.and_eq_true, decide_eq_true_eq]; exact ⟨⟨⟨c3.1.1.2, c3.1.1.1⟩, c3.1.2⟩, c3.2⟩)])])
      · intro c3
        intro ρ hL
        refine awl_skip ?_
        refine awl_nil ?_
        refine blk_normal (hR1 _ _ (.mk ?_))
        have hX0 := hX
        replace hX := And.intro wq hX
        revert ρ hL
        refine zS [3, 4, 6, 8, 10, 12] ?_
        clear hX
        have hX := hX0
        clear hX0
        intro ρ hL
        refine awl_nil ?_
        refine loop_againW (Wk.keep [0, 1, 2, 3] rfl) _ ?meas ⟨(q : Int), rfl, (by omega), (by rw [← i1_1, lastAt_miss (puts_no (c3.imp_left (fun h => h.imp_left Or.symm))), Int.toNat_natCast]), ⟨(by simp only [go_sem, simprocAttr, hL, hX, e1]), (by simp only [go_sem, simprocAttr, hL, hX, e1]; first | done | rfl)⟩, (by simp only [go_sem, simprocAttr, hL, hX, e1]; first | done | rfl)⟩
        case meas => subst hn; omega
    · intro c2
      intro ρ hL
      refine awl_exit ?_
      refine loop_break ?_
      exact ⟨(by rw [← i1_1, show k.toNat = 0 by omega]; rfl), (by simp only [go_sem, simprocAttr, hL, hX, e1]), rfl⟩
   case after1 =>
    clear hL
    obtain ⟨j1_0, hL, hG⟩ := hJ
    subst hG
    try simp only [go_sem, simprocAttr, e1, hX] at hL
    revert ρ hL
    refine zS [8, 9] ?_
    refine zR ?_
    try simp only [go_sem, simprocAttr]
    all_goals try clear hR1
    all_goals (rw [found_miss (fun h => h c1) j1_0])
end Go.Proofs.YteojcehneipgdaaGreat.AM
