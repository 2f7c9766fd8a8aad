/- Reading memory, finding, and what is ready. What is ready. Fetching; what traps. What is made of words; what a command comes to. What a command comes to. What the command at a place comes to. No conditions but those each theorem bears. -/
import Derived.Test.YtgpjgljgplngpaaGreatDoorFa
import Derived.Test.YtgpjgljgplngpaaGreatDoorM5
import Derived.Test.YtgpjgljgplngpaaGreatDoorCb2
import Derived.Test.YtgpjgljgplngpaaGreatDoorCb1
import Derived.Test.YtgpjgljgplngpaaGreatDoorCb3
set_option linter.unusedSimpArgs false
set_option linter.unusedVariables false
namespace Go.Proofs.YtgpjgljgplngpaaGreatDoor.AM
open Go
set_option maxHeartbeats 8000000
set_option maxRecDepth 100000
theorem sat_spec_Filter (m : Mem) (w : Word) (hf : m.fit) : Sat Tryz.prog 178 [.agg m.cells, .agg w.cells] [] (.agg (Word.cells (filt m w))) [] := by
 have hX := trivial
 refine sat_mk [.cell 4 27] 0 29 Tryz.call178 Tryz.func178 Tryz.ntmps178 rfl rfl rfl rfl rfl ?_
 refine zI [0, 1] ?_
 refine zS [2, 3, 4] ?_
 have hg := hf.2
 have w0 : IntKind.i64.wrap ((m.gone.length : Int) - 1) = (m.gone.length : Int) - 1 := wrap64 (by omega)
 have hX0 := hX
 replace hX := And.intro w0 hX
 intro ρ hL
 refine zA ?_
 intro K hK
 refine zL [2, 3, 4, 7] ?_
 clear hL
 intro ρ hL
 refine grp_andN (v := ?v1) 8 rfl [2, 3, 4] hL.2.2.2 rfl (fun hb K1 hK1 => ?run) (fun hb => skA (want := true) (b := _) (by rw [hb]; rfl) hL.2.2.2 rfl) (fun ρ hP hM => ?_)
 case run =>
  refine zRn ?_
  intro hL
  refine zF (sat_spec_l1In _ _ _) ?_
  exact zK1
 refine zPp ?_
 clear hL hP hM
 intro hL
 refine zL [2, 3, 4, 17] ?_
 clear hL
 intro ρ hL
 refine grp_andN (v := ?v2) 7 rfl [3, 4] hL.2.2.2 rfl (fun hb K1 hK1 => ?run) (fun hb => skA (want := true) (b := _) (by rw [hb]; rfl) hL.2.2.2 rfl) (fun ρ hP hM => ?_)
 case run =>
  simp only [List.take_succ_cons, List.take_zero]
  rw [hb] at hL
  have hw := inR_iff.1 (Bool.and_eq_true_iff.1 hb).2
  have hn2 : w.key.base.toNat < m.gone.length := by omega
  try simp only [go_sem, simprocAttr, hL, hX, hn2]
  repeat' refine And.intro (by first | rfl | omega | (simp; done)) ?_
  refine hK1 _ ?_ ?_ ?_ <;> simp only [go_sem, simprocAttr, hL, hX, hn2] <;> exact rfl
 refine zPp ?_
 clear hL hP hM
 intro hL
 refine zE [3, 4, 25] ?_
 clear hK K hL
 clear hX
 have hX := hX0
 clear hX0
 refine zC ?_ ?_
 ·intro c1
  refine zSF [4] (sat_spec_Bare _) ?_
  refine zR ?_
  try simp only [go_sem, simprocAttr]
  all_goals (rw [filt, if_pos ⟨c1.1.1, c1.1.2, c1.2⟩] <;> rfl)
 ·intro c1 ρ hL
  refine awl_skip ?_
  revert ρ hL
  refine zS [4] ?_
  refine zR ?_
  try simp only [go_sem, simprocAttr]
  all_goals (rw [filt, if_neg (by rintro ⟨a, b, d⟩; rw [a, b, d] at c1; simp at c1)])
theorem sat_spec_Read (m : Mem) (by_ : Word) (n : Int) (hf : m.fit) : Sat Tryz.prog 257 [.agg m.cells, .agg by_.cells, .int .i64 n] [] (.tuple [.agg (Word.cells (read m by_ n).1), .int .i64 (read m by_ n).2]) [] := by
 have hX := trivial
 refine sat_mk [.cell 6 27, .tmp 7] 0 36 Tryz.call257 Tryz.func257 Tryz.ntmps257 rfl rfl rfl rfl rfl ?_
 refine zI [0, 1, 2] ?_
 refine zS [2, 3, 4, 6] ?_
 refine zSF [2, 3, 4, 6, 8] (sat_spec_Try by_ n 1) ?_
 have hg := hf.1
 have w0 : IntKind.i64.wrap ((m.words.length : Int) - 1) = (m.words.length : Int) - 1 := wrap64 (by omega)
 have hX0 := hX
 replace hX := And.intro w0 hX
 intro ρ hL
 refine zA ?_
 intro K hK
 refine zL [2, 3, 4, 6, 8, 14] ?_
 clear hL
 intro ρ hL
 refine grp_andN (v := ?v1) 7 rfl [2, 3, 4, 6, 8] hL.2.2.2.2.2 rfl (fun hb K1 hK1 => ?run) (fun hb => skA (want := true) (b := _) (by rw [hb]; rfl) hL.2.2.2.2.2 rfl) (fun ρ hP hM => ?_)
 case run =>
  refine zRn ?_
  intro hL
  refine zF (sat_spec_l1In _ _ _) ?_
  exact zK1
 refine zPp ?_
 clear hL hP hM
 intro hL
 refine zE [2, 3, 4, 6, 8, 22] ?_
 clear hK K hL
 clear hX
 have hX := hX0
 clear hX0
 intro ρ hL
 have j1 := hL
 refine awl_joinH (fun H0 σ G => (liveE [2, 3, 4, 6] σ ρ ∧ σ 8 = .int .i64 (readT m by_ n)) ∧ G = H0) ?inner1 (fun ρ G hJ => ?after1)
 case inner1 =>
  refine zN [2, 3, 4, 6, 8, 22] ?_
  clear hL
  refine zC ?_ ?_
  ·intro c1
   refine zS [2, 3, 4, 6, 8] ?_
   intro ρ hL
   refine awl_nil ?_
   show wkQ _ _ _ _
   refine .mk ⟨⟨(by simp only [go_sem, simprocAttr, hL, hX, j1]), (by rw [hL.2.2.2.2]; congr 1; unfold readT; split <;> simp_all)⟩, rfl⟩
  ·intro c1 ρ hL
   refine awl_skip (awl_nil ?_)
   show wkQ _ _ _ _
   refine .mk ⟨⟨(by simp only [go_sem, simprocAttr, hL, hX, j1]), (by rw [hL.2.2.2.2.1]; congr 1; unfold readT; split <;> simp_all)⟩, rfl⟩
 case after1 =>
  clear hL
  obtain ⟨hL, hG⟩ := hJ
  subst hG
  try simp only [go_sem, simprocAttr, j1, hX] at hL
  revert ρ hL
  refine zS [2, 3, 4, 6, 8, 24] ?_
  refine zC ?_ ?_
  ·intro c2
   refine zS [6, 7] ?_
   refine zR ?_
   try simp only [go_sem, simprocAttr]
   all_goals (rw [read_no (by omega)]; rfl)
  ·intro c2 ρ hL
   refine awl_skip ?_
   have hr0 : readT m by_ n = 0 := by omega
   have hr := inR_iff.1 (read_in hr0)
   have hn2 : n.toNat < m.words.length := by omega
   have hX0 := hX
   replace hX := And.intro hn2 hX
   refine zAD [0, 0, 0, 4, 0, 28, 60, 126, 255, 511, 1023] ?_
   intro K hK
   refine zFD [0, 0, 0, 4, 0, 28, 60, 126, 255, 511, 1023] (sat_spec_Taken by_ (m.words.getD n.toNat noWord)) ?_
   refine zFD [0, 0, 0, 4, 0, 28, 60, 126, 255, 511, 1023] (sat_spec_Filter m (taken by_ (m.words.getD n.toNat noWord)) hf) ?_
   refine zE [6, 7] ?_
   clear hK K hL
   clear hX
   have hX := hX0
   clear hX0
   refine zR ?_
   try simp only [go_sem, simprocAttr]
   all_goals (rw [read_ok hr0])
theorem sat_impl_Filter (m : Mem) (w : Word) (hf : m.fit) : Sat Tryz.prog 242 [.agg m.cells, .agg w.cells] [] (.agg (Word.cells (filt m w))) [] := by
 have hX := trivial
 refine sat_mk [.cell 4 27] 0 29 Tryz.call242 Tryz.func242 Tryz.ntmps242 rfl rfl rfl rfl rfl ?_
 refine zI [0, 1] ?_
 refine zS [2, 3, 4] ?_
 have hg := hf.2
 have w0 : IntKind.i64.wrap ((m.gone.length : Int) - 1) = (m.gone.length : Int) - 1 := wrap64 (by omega)
 have hX0 := hX
 replace hX := And.intro w0 hX
 intro ρ hL
 refine zA ?_
 intro K hK
 refine zL [2, 3, 4, 7] ?_
 clear hL
 intro ρ hL
 refine grp_andN (v := ?v1) 8 rfl [2, 3, 4] hL.2.2.2 rfl (fun hb K1 hK1 => ?run) (fun hb => skA (want := true) (b := _) (by rw [hb]; rfl) hL.2.2.2 rfl) (fun ρ hP hM => ?_)
 case run =>
  refine zRn ?_
  intro hL
  refine zF (sat_impl_in _ _ _) ?_
  exact zK1
 refine zPp ?_
 clear hL hP hM
 intro hL
 refine zL [2, 3, 4, 17] ?_
 clear hL
 intro ρ hL
 refine grp_andN (v := ?v2) 7 rfl [3, 4] hL.2.2.2 rfl (fun hb K1 hK1 => ?run) (fun hb => skA (want := true) (b := _) (by rw [hb]; rfl) hL.2.2.2 rfl) (fun ρ hP hM => ?_)
 case run =>
  simp only [List.take_succ_cons, List.take_zero]
  rw [hb] at hL
  have hw := inR_iff.1 (Bool.and_eq_true_iff.1 hb).2
  have hn2 : w.key.base.toNat < m.gone.length := by omega
  try simp only [go_sem, simprocAttr, hL, hX, hn2]
  repeat' refine And.intro (by first | rfl | omega | (simp; done)) ?_
  refine hK1 _ ?_ ?_ ?_ <;> simp only [go_sem, simprocAttr, hL, hX, hn2] <;> exact rfl
 refine zPp ?_
 clear hL hP hM
 intro hL
 refine zE [3, 4, 25] ?_
 clear hK K hL
 clear hX
 have hX := hX0
 clear hX0
 refine zC ?_ ?_
 ·intro c1
  refine zSF [4] (sat_impl_Bare _) ?_
  refine zR ?_
  try simp only [go_sem, simprocAttr]
  all_goals (rw [filt, if_pos ⟨c1.1.1, c1.1.2, c1.2⟩] <;> rfl)
 ·intro c1 ρ hL
  refine awl_skip ?_
  revert ρ hL
  refine zS [4] ?_
  refine zR ?_
  try simp only [go_sem, simprocAttr]
  all_goals (rw [filt, if_neg (by rintro ⟨a, b, d⟩; rw [a, b, d] at c1; simp at c1)])
theorem sat_impl_Read (m : Mem) (by_ : Word) (n : Int) (hf : m.fit) : Sat Tryz.prog 278 [.agg m.cells, .agg by_.cells, .int .i64 n] [] (.tuple [.agg (Word.cells (read m by_ n).1), .int .i64 (read m by_ n).2]) [] := by
 have hX := trivial
 refine sat_mk [.cell 6 27, .tmp 7] 0 36 Tryz.call278 Tryz.func278 Tryz.ntmps278 rfl rfl rfl rfl rfl ?_
 refine zI [0, 1, 2] ?_
 refine zS [2, 3, 4, 6] ?_
 refine zSF [2, 3, 4, 6, 8] (sat_impl_Try by_ n 1 (by decide)) ?_
 have hg := hf.1
 have w0 : IntKind.i64.wrap ((m.words.length : Int) - 1) = (m.words.length : Int) - 1 := wrap64 (by omega)
 have hX0 := hX
 replace hX := And.intro w0 hX
 intro ρ hL
 refine zA ?_
 intro K hK
 refine zL [2, 3, 4, 6, 8, 14] ?_
 clear hL
 intro ρ hL
 refine grp_andN (v := ?v1) 7 rfl [2, 3, 4, 6, 8] hL.2.2.2.2.2 rfl (fun hb K1 hK1 => ?run) (fun hb => skA (want := true) (b := _) (by rw [hb]; rfl) hL.2.2.2.2.2 rfl) (fun ρ hP hM => ?_)
 case run =>
  refine zRn ?_
  intro hL
  refine zF (sat_impl_in _ _ _) ?_
  exact zK1
 refine zPp ?_
 clear hL hP hM
 intro hL
 refine zE [2, 3, 4, 6, 8, 22] ?_
 clear hK K hL
 clear hX
 have hX := hX0
 clear hX0
 intro ρ hL
 have j1 := hL
 refine awl_joinH (fun H0 σ G => (liveE [2, 3, 4, 6] σ ρ ∧ σ 8 = .int .i64 (readT m by_ n)) ∧ G = H0) ?inner1 (fun ρ G hJ => ?after1)
 case inner1 =>
  refine zN [2, 3, 4, 6, 8, 22] ?_
  clear hL
  refine zC ?_ ?_
  ·intro c1
   refine zS [2, 3, 4, 6, 8] ?_
   intro ρ hL
   refine awl_nil ?_
   show wkQ _ _ _ _
   refine .mk ⟨⟨(by simp only [go_sem, simprocAttr, hL, hX, j1]), (by rw [hL.2.2.2.2]; congr 1; unfold readT; split <;> simp_all)⟩, rfl⟩
  ·intro c1 ρ hL
   refine awl_skip (awl_nil ?_)
   show wkQ _ _ _ _
   refine .mk ⟨⟨(by simp only [go_sem, simprocAttr, hL, hX, j1]), (by rw [hL.2.2.2.2.1]; congr 1; unfold readT; split <;> simp_all)⟩, rfl⟩
 case after1 =>
  clear hL
  obtain ⟨hL, hG⟩ := hJ
  subst hG
  try simp only [go_sem, simprocAttr, j1, hX] at hL
  revert ρ hL
  refine zS [2, 3, 4, 6, 8, 24] ?_
  refine zC ?_ ?_
  ·intro c2
   refine zS [6, 7] ?_
   refine zR ?_
   try simp only [go_sem, simprocAttr]
   all_goals (rw [read_no (by omega)]; rfl)
  ·intro c2 ρ hL
   refine awl_skip ?_
   have hr0 : readT m by_ n = 0 := by omega
   have hr := inR_iff.1 (read_in hr0)
   have hn2 : n.toNat < m.words.length := by omega
   have hX0 := hX
   replace hX := And.intro hn2 hX
   refine zAD [0, 0, 0, 4, 0, 28, 60, 126, 255, 511, 1023] ?_
   intro K hK
   refine zFD [0, 0, 0, 4, 0, 28, 60, 126, 255, 511, 1023] (sat_impl_Taken by_ (m.words.getD n.toNat noWord)) ?_
   refine zFD [0, 0, 0, 4, 0, 28, 60, 126, 255, 511, 1023] (sat_impl_Filter m (taken by_ (m.words.getD n.toNat noWord)) hf) ?_
   refine zE [6, 7] ?_
   clear hK K hL
   clear hX
   have hX := hX0
   clear hX0
   refine zR ?_
   try simp only [go_sem, simprocAttr]
   all_goals (rw [read_ok hr0])
theorem sat_spec_Found (c : Cor) (i : Int) (by_ : Word) (a : Int) (hf : c.fit) : Sat Tryz.prog 216 [.agg c.cells, .int .i64 i, .agg by_.cells, .int .i64 a] [] (.tuple [.agg (Word.cells (found c i by_ a).1), .int .i64 (found c i by_ a).2]) [] := by
 have hX := trivial
 refine sat_mk [.cell 8 27, .tmp 9] 0 74 Tryz.call216 Tryz.func216 Tryz.ntmps216 rfl rfl rfl rfl rfl ?_
 refine zI [0, 1, 2, 3] ?_
 have hf1 := hf.2.1
 refine zS [1, 3, 4, 6, 8] ?_
 refine zSF [1, 3, 4, 6, 8, 10, 11] (sat_spec_Read c.s.mem by_ a hf.1.2) ?_
 refine zS [1, 3, 4, 6, 8, 10, 11, 24] ?_
 refine zC ?_ ?_
 ·intro c1
  refine zS [8, 9] ?_
  refine zR ?_
  try simp only [go_sem, simprocAttr]
  all_goals (rw [found_no c1]; rfl)
 ·intro c1 ρ hL
  refine awl_skip ?_
  have w0 : IntKind.i64.wrap (max 0 (min i (c.rob.length : Int)) - 1) = max 0 (min i (c.rob.length : Int)) - 1 := wrap64 (by omega)
  have hX0 := hX
  replace hX := And.intro w0 hX
  refine zA ?_
  intro K hK
  refine zF (sat_spec_l1Min _ _) ?_
  refine zF (sat_spec_l1Max _ _) ?_
  refine zE [3, 4, 6, 8, 10, 12] ?_
  clear hK K hL
  clear hX
  have hX := hX0
  clear hX0
  intro ρ hL
  have e1 := hL
  refine awl_loopH (fun H0 n σ G => ∃ (m : Nat), n = m ∧ (m ≤ c.rob.length) ∧ (lastAt (puts a) noEnt c.rob m = lastAt (puts a) noEnt c.rob (upTo i c.rob.length)) ∧ (liveE [3, 4, 6, 8, 10] σ ρ ∧ σ 12 = .int .i64 ((m : Int) - 1)) ∧ G = H0) (fun H0 σ G => (lastAt (puts a) noEnt c.rob (upTo i c.rob.length) = -1) ∧ (liveE [8, 10] σ ρ) ∧ G = H0) ((fun (m : Nat) => m) (upTo i c.rob.length)) ?init1 (fun n ρ G hI => ?round1) (fun ρ G hJ => ?after1)
  case init1 => exact ⟨(upTo i c.rob.length), rfl, (upTo_le _ _), (rfl), ⟨liveE_refl _ _, (by rw [hL.2.2.2.2.2]; congr 1; unfold upTo; omega)⟩, rfl⟩
  case round1 =>
   clear hL
   obtain ⟨m, hn, i1_0, i1_1, hL, hG⟩ := hI
   subst hG
   try simp only [go_sem, simprocAttr, e1, hX] at hL
   revert ρ hL
   refine zS [3, 4, 6, 8, 10, 12, 35] ?_
   refine zC ?_ ?_
   ·intro c2 ρ hL
    refine awl_skip (awl_seq (awl_block fun R1 hw1 hR1 => ?_))
    obtain ⟨q, rfl⟩ : ∃ q : Nat, m = q + 1 := ⟨m - 1, by omega⟩
    have hq : (((q + 1 : Nat) : Int)) - 1 = (q : Int) := by omega
    rw [hq] at hL
    have hq2 : q < c.rob.length := by omega
    revert ρ hL
    refine zSX [3, 4, 6, 8, 10, 12, 13] (And.intro hq2 hX) ?_
    intro ρ hL
    refine zA ?_
    intro K hK
    refine zL [3, 4, 6, 8, 10, 12, 13, 47] ?_
    clear hL
    intro ρ hL
    refine grp_andN (v := ?v1) 2 rfl [3, 4, 6, 8, 10, 12, 13] hL.2.2.2.2.2.2.2 rfl (fun hb K1 hK1 => ?run) (fun hb => skA (want := true) (b := _) (by rw [hb]; rfl) hL.2.2.2.2.2.2.2 rfl) (fun ρ hP hM => ?_)
    case run => exact zR1
    refine zPp ?_
    clear hL hP hM
    intro hL
    refine zL [3, 4, 6, 8, 10, 12, 13, 51] ?_
    clear hL
    intro ρ hL
    refine grp_andN (v := ?v2) 4 rfl [3, 4, 6, 8, 10, 12, 13] hL.2.2.2.2.2.2.2 rfl (fun hb K1 hK1 => ?run) (fun hb => skA (want := true) (b := _) (by rw [hb]; rfl) hL.2.2.2.2.2.2.2 rfl) (fun ρ hP hM => ?_)
    case run => exact zR1
    refine zPp ?_
    clear hL hP hM
    intro hL
    refine zL [3, 4, 6, 8, 10, 12, 13, 57] ?_
    clear hL
    intro ρ hL
    refine grp_andN (v := ?v3) 5 rfl [3, 4, 6, 8, 10, 12, 13] hL.2.2.2.2.2.2.2 rfl (fun hb K1 hK1 => ?run) (fun hb => skA (want := true) (b := _) (by rw [hb]; rfl) hL.2.2.2.2.2.2.2 rfl) (fun ρ hP hM => ?_)
    case run => exact zR1
    refine zPp ?_
    clear hL hP hM
    intro hL
    refine zE [3, 4, 6, 8, 10, 12, 13, 63] ?_
    clear hK K hL
    refine zC ?_ ?_
    ·intro c3 ρ hL
     refine zAD [0, 1, 3, 0, 0, 16, 48, 120, 255, 511, 1023] ?_
     intro K hK
     refine zFD [0, 1, 3, 0, 0, 16, 48, 120, 255, 511, 1023] (sat_spec_Taken by_ (c.rob.getD q noEnt).e.put) ?_
     refine zFD [0, 1, 3, 0, 0, 16, 48, 120, 255, 511, 1023] (sat_spec_Filter c.s.mem (taken by_ (c.rob.getD q noEnt).e.put) hf.1.2) ?_
     refine zE [8, 9] ?_
     clear hK K hL
     refine zR ?_
     try simp only [go_sem, simprocAttr]
     all_goals ((try clear hR1); rw [found_hit (fun h => h c1) (q := q) (by rw [← i1_1, lastAt_hit (by simp only [puts, Bool.and_eq_true, decide_eq_true_eq]; exact c3)])])
    ·intro c3 ρ hL
     refine awl_skip (awl_nil (blk_normal (hR1 _ _ (.mk ?_))))
     have wq : IntKind.i64.wrap ((q : Int) - 1) = (q : Int) - 1 := wrap64 (by omega)
     revert ρ hL
     refine zSX [3, 4, 6, 8, 10, 12] (And.intro wq hX) ?_
     intro ρ hL
     refine awl_nil ?_
     refine loop_againW (Wk.keep [0, 1, 2, 3] rfl) _ ?meas ⟨q, rfl, (by omega), (by rw [← i1_1, lastAt_miss (puts_no c3)]), ⟨(by simp only [go_sem, simprocAttr, hL, hX, e1]), (by simp only [go_sem, simprocAttr, hL, hX, e1]; first | done | rfl)⟩, (by simp only [go_sem, simprocAttr, hL, hX, e1]; first | done | rfl)⟩
     case meas => subst hn; omega
   ·intro c2 ρ hL
    refine awl_exit (loop_break ?_)
    exact ⟨(by rw [← i1_1, show m = 0 by omega]; rfl), (by simp only [go_sem, simprocAttr, hL, hX, e1]), rfl⟩
  case after1 =>
   clear hL
   obtain ⟨j1_0, hL, hG⟩ := hJ
   subst hG
   try simp only [go_sem, simprocAttr, e1, hX] at hL
   revert ρ hL
   refine zS [8, 9] ?_
   refine zR ?_
   try simp only [go_sem, simprocAttr]
   all_goals ((try clear hR1); rw [found_miss (fun h => h c1) j1_0])
theorem sat_impl_Found (c : Cor) (i : Int) (by_ : Word) (a : Int) (hf : c.fit) : Sat Tryz.prog 246 [.agg c.cells, .int .i64 i, .agg by_.cells, .int .i64 a] [] (.tuple [.agg (Word.cells (found c i by_ a).1), .int .i64 (found c i by_ a).2]) [] := by
 have hX := trivial
 refine sat_mk [.cell 8 27, .tmp 9] 0 73 Tryz.call246 Tryz.func246 Tryz.ntmps246 rfl rfl rfl rfl rfl ?_
 refine zI [0, 1, 2, 3] ?_
 have hf1 := hf.2.1
 refine zS [1, 3, 4, 6, 8] ?_
 refine zSF [1, 3, 4, 6, 8, 10, 11] (sat_impl_Read c.s.mem by_ a hf.1.2) ?_
 refine zS [1, 3, 4, 6, 8, 10, 11, 24] ?_
 refine zC ?_ ?_
 ·intro c1
  refine zS [8, 9] ?_
  refine zR ?_
  try simp only [go_sem, simprocAttr]
  all_goals (rw [found_no c1, ← read_fst c1])
 ·intro c1 ρ hL
  refine awl_skip ?_
  revert ρ hL
  refine zS [3, 4, 6, 8, 10, 12] ?_
  intro ρ hL
  have e1 := hL
  refine awl_loopH (fun H0 n σ G => ∃ (k : Int), n = k.toNat ∧ (k ≤ c.rob.length) ∧ (lastAt (puts a) noEnt c.rob k.toNat = lastAt (puts a) noEnt c.rob (upTo i c.rob.length)) ∧ (liveE [3, 4, 6, 8, 10] σ ρ ∧ σ 12 = .int .i64 k) ∧ G = H0) (fun H0 σ G => (lastAt (puts a) noEnt c.rob (upTo i c.rob.length) = -1) ∧ (liveE [8, 10] σ ρ) ∧ G = H0) ((fun (k : Int) => k.toNat) (min (c.rob.length : Int) i)) ?init1 (fun n ρ G hI => ?round1) (fun ρ G hJ => ?after1)
  case init1 => exact ⟨(min (c.rob.length : Int) i), rfl, (by omega), (by rw [upTo]; congr 1; omega), ⟨liveE_refl _ _, (hL.2.2.2.2.2)⟩, rfl⟩
  case round1 =>
   clear hL
   obtain ⟨k, hn, i1_0, i1_1, hL, hG⟩ := hI
   subst hG
   try simp only [go_sem, simprocAttr, e1, hX] at hL
   revert ρ hL
   refine zS [3, 4, 6, 8, 10, 12, 33] ?_
   refine zC ?_ ?_
   ·intro c2 ρ hL
    refine awl_skip (awl_seq (awl_block fun R1 hw1 hR1 => ?_))
    obtain ⟨q, rfl⟩ : ∃ q : Nat, k = (q : Int) + 1 := ⟨(k - 1).toNat, by omega⟩
    have hq2 : q < c.rob.length := by omega
    have wq : IntKind.i64.wrap ((q : Int) + 1 - 1) = (q : Int) := by rw [wrap64 (by omega)]; omega
    rw [show ((q : Int) + 1).toNat = q + 1 by omega] at i1_1
    revert ρ hL
    refine zSX [3, 4, 6, 8, 10, 12, 13] (And.intro hq2 (And.intro wq hX)) ?_
    intro ρ hL
    refine zA ?_
    intro K hK
    refine zL [3, 4, 6, 8, 10, 12, 13, 44] ?_
    clear hL
    intro ρ hL
    refine grp_andN (v := ?v1) 4 rfl [3, 4, 6, 8, 10, 12, 13] hL.2.2.2.2.2.2.2 rfl (fun hb K1 hK1 => ?run) (fun hb => skA (want := true) (b := _) (by rw [hb]; rfl) hL.2.2.2.2.2.2.2 rfl) (fun ρ hP hM => ?_)
    case run => exact zR1
    refine zPp ?_
    clear hL hP hM
    intro hL
    refine zL [3, 4, 6, 8, 10, 12, 13, 50] ?_
    clear hL
    intro ρ hL
    refine grp_andN (v := ?v2) 4 rfl [3, 4, 6, 8, 10, 12, 13] hL.2.2.2.2.2.2.2 rfl (fun hb K1 hK1 => ?run) (fun hb => skA (want := true) (b := _) (by rw [hb]; rfl) hL.2.2.2.2.2.2.2 rfl) (fun ρ hP hM => ?_)
    case run => exact zR1
    refine zPp ?_
    clear hL hP hM
    intro hL
    refine zL [3, 4, 6, 8, 10, 12, 13, 56] ?_
    clear hL
    intro ρ hL
    refine grp_andN (v := ?v3) 5 rfl [3, 4, 6, 8, 10, 12, 13] hL.2.2.2.2.2.2.2 rfl (fun hb K1 hK1 => ?run) (fun hb => skA (want := true) (b := _) (by rw [hb]; rfl) hL.2.2.2.2.2.2.2 rfl) (fun ρ hP hM => ?_)
    case run => exact zR1
    refine zPp ?_
    clear hL hP hM
    intro hL
    refine zE [3, 4, 6, 8, 10, 12, 13, 62] ?_
    clear hK K hL
    refine zC ?_ ?_
    ·intro c3 ρ hL
     refine zAD [0, 1, 3, 0, 0, 16, 48, 120, 255, 511, 1023] ?_
     intro K hK
     refine zFD [0, 1, 3, 0, 0, 16, 48, 120, 255, 511, 1023] (sat_impl_Taken by_ (c.rob.getD q noEnt).e.put) ?_
     refine zFD [0, 1, 3, 0, 0, 16, 48, 120, 255, 511, 1023] (sat_impl_Filter c.s.mem (taken by_ (c.rob.getD q noEnt).e.put) hf.1.2) ?_
     refine zE [8, 9] ?_
     clear hK K hL
     refine zR ?_
     try simp only [go_sem, simprocAttr]
     all_goals ((try clear hR1); rw [found_hit (fun h => h c1) (q := q) (by rw [← i1_1, lastAt_hit (by simp only [puts, Bool.and_eq_true, decide_eq_true_eq]; exact ⟨⟨⟨c3.1.1.2, c3.1.1.1⟩, c3.1.2⟩, c3.2⟩)])])
    ·intro c3 ρ hL
     refine awl_skip (awl_nil (blk_normal (hR1 _ _ (.mk ?_))))
     revert ρ hL
     refine zSX [3, 4, 6, 8, 10, 12] (And.intro wq hX) ?_
     intro ρ hL
     refine awl_nil ?_
     refine loop_againW (Wk.keep [0, 1, 2, 3] rfl) _ ?meas ⟨(q : Int), rfl, (by omega), (by rw [← i1_1, lastAt_miss (puts_no (c3.imp_left (fun h => h.imp_left Or.symm))), Int.toNat_natCast]), ⟨(by simp only [go_sem, simprocAttr, hL, hX, e1]), (by simp only [go_sem, simprocAttr, hL, hX, e1]; first | done | rfl)⟩, (by simp only [go_sem, simprocAttr, hL, hX, e1]; first | done | rfl)⟩
     case meas => subst hn; omega
   ·intro c2 ρ hL
    refine awl_exit (loop_break ?_)
    exact ⟨(by rw [← i1_1, show k.toNat = 0 by omega]; rfl), (by simp only [go_sem, simprocAttr, hL, hX, e1]), rfl⟩
  case after1 =>
   clear hL
   obtain ⟨j1_0, hL, hG⟩ := hJ
   subst hG
   try simp only [go_sem, simprocAttr, e1, hX] at hL
   revert ρ hL
   refine zS [8, 9] ?_
   refine zR ?_
   try simp only [go_sem, simprocAttr]
   all_goals ((try clear hR1); rw [found_miss (fun h => h c1) j1_0])
theorem sat_spec_Ready (c : Cor) (i : Int) (hf : c.fit) : Sat Tryz.prog 171 [.agg c.cells, .int .i64 i] [] (.bool (ready c i)) [] := by
 have hX := trivial
 refine sat_mk [.tmp 4] 0 104 Tryz.call171 Tryz.func171 Tryz.ntmps171 rfl rfl rfl rfl rfl ?_
 refine zI [0, 1] ?_
 refine zS [1, 2] ?_
 have hf1 := hf.2.1
 have w0 : IntKind.i64.wrap ((c.rob.length : Int) - 1) = (c.rob.length : Int) - 1 := wrap64 (by omega)
 have hX0 := hX
 replace hX := And.intro w0 hX
 intro ρ hL
 refine zA ?_
 intro K hK
 refine zF (sat_spec_CoreOk c hf) ?_
 refine zL [1, 2, 16] ?_
 clear hL
 intro ρ hL
 refine grp_orN (v := ?v1) 7 rfl [1, 2] hL.2.2 rfl (fun hb K1 hK1 => ?run) (fun hb => skA (want := false) (b := _) (by rw [hb]; rfl) hL.2.2 rfl) (fun ρ hP hM => ?_)
 case run =>
  refine zRn ?_
  intro hL
  refine zF (sat_spec_l1In _ _ _) ?_
  exact zK1
 refine zPp ?_
 clear hL hP hM
 intro hL
 refine zL [1, 2, 25] ?_
 clear hL
 intro ρ hL
 refine grp_orN (v := ?v2) 6 rfl [1, 2] hL.2.2 rfl (fun hb K1 hK1 => ?run) (fun hb => skA (want := false) (b := _) (by rw [hb]; rfl) hL.2.2 rfl) (fun ρ hP hM => ?_)
 case run =>
  simp only [List.take_succ_cons, List.take_zero]
  rw [hb] at hL
  have hb2 : inR i 0 ((c.rob.length : Int) - 1) = true := by revert hb; cases inR i 0 ((c.rob.length : Int) - 1) <;> simp
  have hw := inR_iff.1 hb2
  have hn2 : i.toNat < c.rob.length := by omega
  try simp only [go_sem, simprocAttr, hL, hX, hn2]
  repeat' refine And.intro (by first | rfl | omega | (simp; done)) ?_
  refine hK1 _ ?_ ?_ ?_ <;> simp only [go_sem, simprocAttr, hL, hX, hn2] <;> exact rfl
 refine zPp ?_
 clear hL hP hM
 intro hL
 refine zE [1, 2, 32] ?_
 clear hK K hL
 clear hX
 have hX := hX0
 clear hX0
 refine zC ?_ ?_
 ·intro c1
  refine zS [4] ?_
  refine zR ?_
  try simp only [go_sem, simprocAttr]
  all_goals (rw [ready_no (by rintro ⟨a, b, d⟩; rw [a, b, d] at c1; simp at c1)])
 ·intro c1 ρ hL
  refine awl_skip ?_
  have hc0 : corOk c = true ∧ inR i 0 ((c.rob.length : Int) - 1) = true ∧ (c.rob.getD i.toNat noEnt).done = false := by revert c1; cases corOk c <;> cases inR i 0 ((c.rob.length : Int) - 1) <;> cases (c.rob.getD i.toNat noEnt).done <;> simp
  have hw := inR_iff.1 hc0.2.1
  have hn2 : i.toNat < c.rob.length := by omega
  have hk := ent_regs hc0.1 hn2
  revert ρ hL
  refine zSX [1, 2, 5] (And.intro hn2 hX) ?_
  refine zSF [1, 2, 5, 6] (sat_spec_l6Has (c.rob.getD i.toNat noEnt).x.op) ?_
  refine zSF [1, 2, 5, 6, 8] (sat_spec_l12Value c i (c.rob.getD i.toNat noEnt).x.a hf (corOk_reg hc0.1 hk.2.1)) ?_
  refine zSF [1, 2, 5, 6, 8, 10] (sat_spec_l12Value c i (c.rob.getD i.toNat noEnt).x.b hf (corOk_reg hc0.1 hk.2.2)) ?_
  intro ρ hL
  refine zA ?_
  intro K hK
  refine zL [1, 2, 5, 6, 8, 10, 61] ?_
  clear hL
  intro ρ hL
  refine grp_andN (v := ?v3) 2 rfl [1, 2, 5, 6, 10] hL.2.2.2.2.2.2 rfl (fun hb K1 hK1 => ?run) (fun hb => skA (want := true) (b := _) (by rw [hb]; rfl) hL.2.2.2.2.2.2 rfl) (fun ρ hP hM => ?_)
  case run => exact zR1
  refine zPp ?_
  clear hL hP hM
  intro hL
  refine zL [1, 2, 5, 6, 10, 65] ?_
  clear hL
  intro ρ hL
  refine grp_orN (v := ?v4) 7 rfl [1, 2, 5] hL.2.2.2.2.2 rfl (fun hb K1 hK1 => ?run) (fun hb => skA (want := false) (b := _) (by rw [hb]; rfl) hL.2.2.2.2.2 rfl) (fun ρ hP hM => ?_)
  case run =>
   refine zRn ?_
   intro hL
   have g5 := hL
   have hK1_5 := hK1
   refine zL [1, 2, 5, 10, 65, 69] ?_
   clear hL
   intro ρ hL
   refine grp_andGN (v := ?v6) 2 65 false rfl hL.2.2.2.2.1 [1, 2, 5, 65] rfl hL.2.2.2.2.2 rfl (fun hb K1 hK1 => ?run) (fun hb => skA (want := true) (b := _) (by rw [hb]; rfl) hL.2.2.2.2.2 rfl) (fun ρ hP hM => ?_)
   case run => exact zR1
   refine zPp ?_
   clear hL hP hM
   intro hL
   refine hK1_5 _ ?_ ?_ ?_ <;> simp only [go_sem, simprocAttr, hL, hX, g5] <;> exact rfl
  refine zPp ?_
  clear hL hP hM
  intro hL
  refine zE [1, 2, 5, 73] ?_
  clear hK K hL
  refine zC ?_ ?_
  ·intro c2
   refine zS [4] ?_
   refine zR ?_
   try simp only [go_sem, simprocAttr]
   all_goals (rw [ready_eq hc0]; rcases c2 with ⟨a, b⟩ | ⟨a, b⟩ <;> (first | rw [hasA_of a, b] | rw [hasB_of a, b]) <;> simp only [Bool.not_false, Bool.not_true, Bool.or_false, Bool.and_false, Bool.false_and])
  ·intro c2 ρ hL
   refine awl_skip ?_
   revert ρ hL
   refine zS [1, 2, 5, 11] ?_
   intro ρ hL
   have e1 := hL
   refine awl_loopH (fun H0 n σ G => ∃ (k : Nat), n = i.toNat - k ∧ (k ≤ i.toNat) ∧ ((c.rob.take k).any waits = false) ∧ (liveE [1, 2, 5] σ ρ ∧ σ 11 = .int .i64 (k : Int)) ∧ G = H0) (fun H0 σ G => ((c.rob.getD i.toNat noEnt).x.op = 10 → (c.rob.take i.toNat).any waits = false) ∧ (True) ∧ G = H0) ((fun (k : Nat) => i.toNat - k) 0) ?init1 (fun n ρ G hI => ?round1) (fun ρ G hJ => ?after1)
   case init1 => exact ⟨0, rfl, (Nat.zero_le _), (rfl), ⟨liveE_refl _ _, (hL.2.2.2)⟩, rfl⟩
   case round1 =>
    clear hL
    obtain ⟨k, hn, i1_0, i1_1, hL, hG⟩ := hI
    subst hG
    try simp only [go_sem, simprocAttr, e1, hX] at hL
    refine zA ?_
    intro K hK
    refine zL [1, 2, 5, 11, 77] ?_
    clear hL
    intro ρ hL
    refine grp_andN (v := ?v7) 3 rfl [1, 2, 5, 11] hL.2.2.2.2 rfl (fun hb K1 hK1 => ?run) (fun hb => skA (want := true) (b := _) (by rw [hb]; rfl) hL.2.2.2.2 rfl) (fun ρ hP hM => ?_)
    case run => exact zR1
    refine zPp ?_
    clear hL hP hM
    intro hL
    refine zE [1, 2, 5, 11, 81] ?_
    clear hK K hL
    refine zC ?_ ?_
    ·intro c3
     have hi1 : k < i.toNat := by omega
     replace hX := And.intro hi1 hX
     intro ρ hL
     refine awl_skip (awl_seq (awl_block fun R1 hw1 hR1 => ?_))
     have hk2 : k < c.rob.length := by omega
     revert ρ hL
     refine zSX [1, 2, 5, 11, 12] (And.intro hk2 hX) ?_
     intro ρ hL
     refine zA ?_
     intro K hK
     refine zL [1, 2, 5, 11, 12, 93] ?_
     clear hL
     intro ρ hL
     refine grp_andN (v := ?v8) 3 rfl [1, 2, 5, 11, 12] hL.2.2.2.2.2 rfl (fun hb K1 hK1 => ?run) (fun hb => skA (want := true) (b := _) (by rw [hb]; rfl) hL.2.2.2.2.2 rfl) (fun ρ hP hM => ?_)
     case run => exact zR1
     refine zPp ?_
     clear hL hP hM
     intro hL
     refine zL [1, 2, 5, 11, 12, 98] ?_
     clear hL
     intro ρ hL
     refine grp_orN (v := ?v9) 4 rfl [1, 2, 5, 11] hL.2.2.2.2.2 rfl (fun hb K1 hK1 => ?run) (fun hb => skA (want := false) (b := _) (by rw [hb]; rfl) hL.2.2.2.2.2 rfl) (fun ρ hP hM => ?_)
     case run => exact zR1
     refine zPp ?_
     clear hL hP hM
     intro hL
     refine zE [1, 2, 5, 11, 103] ?_
     clear hK K hL
     refine zC ?_ ?_
     ·intro c4
      refine zS [4] ?_
      refine zR ?_
      try simp only [go_sem, simprocAttr]
      all_goals ((try clear hR1); have hy : waits (c.rob.getD k noEnt) = true := (by simp only [waits, Bool.or_eq_true, Bool.and_eq_true, decide_eq_true_eq, Bool.not_eq_true']; exact c4); rw [ready_eq hc0, any_at (d := noEnt) (show k < i.toNat by omega) hk2 hy, decide_eq_true c3.2]; simp only [Bool.not_true, Bool.or_false, Bool.and_false])
     ·intro c4 ρ hL
      refine awl_skip (awl_nil (blk_normal (hR1 _ _ (.mk ?_))))
      have w1 : IntKind.i64.wrap ((k : Int) + 1) = ((k + 1 : Nat) : Int) := by rw [wrap64 (by omega)]; omega
      replace hX := And.intro w1 hX
      revert ρ hL
      refine zS [1, 2, 5, 11] ?_
      intro ρ hL
      refine awl_nil ?_
      refine loop_againW (Wk.keep [0, 1, 2, 3] rfl) _ ?meas ⟨k + 1, rfl, (by omega), (by exact any_take_succ (d := noEnt) hk2 i1_1 (by simp only [waits, Bool.or_eq_false_iff, Bool.and_eq_false_iff, decide_eq_false_iff_not, Bool.not_eq_false']; exact c4)), ⟨(by simp only [go_sem, simprocAttr, hL, hX, e1]), (by simp only [go_sem, simprocAttr, hL, hX, e1]; first | done | rfl)⟩, (by simp only [go_sem, simprocAttr, hL, hX, e1]; first | done | rfl)⟩
      case meas => subst hn; omega
    ·intro c3 ρ hL
     refine awl_exit (loop_break ?_)
     exact ⟨(by exact fun h10 => by rw [show i.toNat = k by omega]; exact i1_1), trivial, rfl⟩
   case after1 =>
    clear hL
    obtain ⟨j1_0, hL, hG⟩ := hJ
    subst hG
    refine zA ?_
    intro K hK
    refine zE [4] ?_
    clear hK K hL
    refine zR ?_
    try simp only [go_sem, simprocAttr]
    all_goals ((try clear hR1); rw [ready_eq hc0, ready_fin c2, ready_third j1_0]; rfl)
theorem sat_impl_known (c : Cor) (i : Int) (p : Int) (hf : c.fit) (hw : 0 ≤ i ∧ i < c.rob.length) : Sat Tryz.prog 243 [.agg c.cells, .int .i64 i, .int .u8 p] [] (.bool (knownB c i p)) [] := by
 have hX := trivial
 refine sat_mk [.tmp 6] 0 30 Tryz.call243 Tryz.func243 Tryz.ntmps243 rfl rfl rfl rfl rfl ?_
 refine zI [0, 1, 2] ?_
 refine zS [1, 2, 3] ?_
 have hn2 : i.toNat < c.rob.length := by omega
 refine zSX [1, 2, 3, 7] (And.intro hn2 hX) ?_
 refine zSF [1, 2, 3, 7, 19] (sat_impl_hasPart (c.rob.getD i.toNat noEnt).x p) ?_
 refine zC ?_ ?_
 ·intro c1
  refine zS [6] ?_
  refine zR ?_
  try simp only [go_sem, simprocAttr]
  all_goals (rw [knownB, c1]; rfl)
 ·intro c1 ρ hL
  refine awl_skip ?_
  refine zAD [0, 0, 0, 0, 12, 31, 63, 127, 127, 0, 767, 2047] ?_
  intro K hK
  refine zFD [0, 0, 0, 0, 12, 31, 63, 127, 127, 0, 767, 2047] (sat_impl_partOf (c.rob.getD i.toNat noEnt).x p) ?_
  refine zFD [0, 0, 0, 0, 12, 31, 63, 127, 127, 0, 767, 2047] (sat_impl_Value c i (partI (c.rob.getD i.toNat noEnt).x p) hf) ?_
  refine zE [9] ?_
  clear hK K hL
  refine zS [6] ?_
  refine zR ?_
  try simp only [go_sem, simprocAttr]
  all_goals (rw [knownB, c1]; rfl)
theorem sat_impl_Ready_1 (x : Ent)  : Sat Tryz.prog 244 [.agg x.cells] [] (.bool (waits x)) [] := by
 have hX := trivial
 refine sat_mk [.tmp 2] 0 18 Tryz.call244 Tryz.func244 Tryz.ntmps244 rfl rfl rfl rfl rfl ?_
 refine zI [0] ?_
 refine zS [1] ?_
 intro ρ hL
 refine zA ?_
 intro K hK
 refine zL [1, 7] ?_
 clear hL
 intro ρ hL
 refine grp_andN (v := ?v1) 3 rfl [1] hL.2 rfl (fun hb K1 hK1 => ?run) (fun hb => skA (want := true) (b := _) (by rw [hb]; rfl) hL.2 rfl) (fun ρ hP hM => ?_)
 case run => exact zR1
 refine zPp ?_
 clear hL hP hM
 intro hL
 refine zL [1, 12] ?_
 clear hL
 intro ρ hL
 refine grp_orN (v := ?v2) 4 rfl [] hL.2 rfl (fun hb K1 hK1 => ?run) (fun hb => skA (want := false) (b := _) (by rw [hb]; rfl) hL.2 rfl) (fun ρ hP hM => ?_)
 case run => exact zR1
 simp only [List.drop_succ_cons, List.drop_zero]
 clear hM hL
 have hL := hP
 clear hP
 try simp only [go_sem, simprocAttr, hL, hX]
 repeat' refine And.intro (by first | rfl | omega | (simp; done)) ?_
 refine zE [2] ?_
 clear hK K hL
 refine zR ?_
 try simp only [go_sem, simprocAttr]
 all_goals (rfl)
theorem sat_impl_Ready (c : Cor) (i : Int) (hf : c.fit) : Sat Tryz.prog 203 [.agg c.cells, .int .i64 i] [] (.bool (ready c i)) [] := by
 have hX := trivial
 refine sat_mk [.tmp 4] 0 53 Tryz.call203 Tryz.func203 Tryz.ntmps203 rfl rfl rfl rfl rfl ?_
 refine zI [0, 1] ?_
 refine zS [1, 2] ?_
 have hf1 := hf.2.1
 have w0 : IntKind.i64.wrap ((c.rob.length : Int) - 1) = (c.rob.length : Int) - 1 := wrap64 (by omega)
 have hX0 := hX
 replace hX := And.intro w0 hX
 intro ρ hL
 refine zA ?_
 intro K hK
 refine zF (sat_impl_CoreOk c hf) ?_
 refine zL [1, 2, 8] ?_
 clear hL
 intro ρ hL
 refine grp_orN (v := ?v1) 7 rfl [1, 2] hL.2.2 rfl (fun hb K1 hK1 => ?run) (fun hb => skA (want := false) (b := _) (by rw [hb]; rfl) hL.2.2 rfl) (fun ρ hP hM => ?_)
 case run =>
  refine zRn ?_
  intro hL
  refine zF (sat_impl_in _ _ _) ?_
  exact zK1
 refine zPp ?_
 clear hL hP hM
 intro hL
 refine zL [1, 2, 17] ?_
 clear hL
 intro ρ hL
 refine grp_orN (v := ?v2) 6 rfl [1, 2] hL.2.2 rfl (fun hb K1 hK1 => ?run) (fun hb => skA (want := false) (b := _) (by rw [hb]; rfl) hL.2.2 rfl) (fun ρ hP hM => ?_)
 case run =>
  simp only [List.take_succ_cons, List.take_zero]
  rw [hb] at hL
  have hb2 : inR i 0 ((c.rob.length : Int) - 1) = true := by revert hb; cases inR i 0 ((c.rob.length : Int) - 1) <;> simp
  have hw := inR_iff.1 hb2
  have hn2 : i.toNat < c.rob.length := by omega
  try simp only [go_sem, simprocAttr, hL, hX, hn2]
  repeat' refine And.intro (by first | rfl | omega | (simp; done)) ?_
  refine hK1 _ ?_ ?_ ?_ <;> simp only [go_sem, simprocAttr, hL, hX, hn2] <;> exact rfl
 refine zPp ?_
 clear hL hP hM
 intro hL
 refine zL [1, 2, 25] ?_
 clear hL
 intro ρ hL
 refine grp_orN (v := ?v3) 4 rfl [1, 2] hL.2.2 rfl (fun hb K1 hK1 => ?run) (fun hb => skA (want := false) (b := _) (by rw [hb]; rfl) hL.2.2 rfl) (fun ρ hP hM => ?_)
 case run =>
  simp only [List.take_succ_cons, List.take_zero]
  rw [hb] at hL
  have hb2 : inR i 0 ((c.rob.length : Int) - 1) = true := by revert hb; cases inR i 0 ((c.rob.length : Int) - 1) <;> simp
  have hw := inR_iff.1 hb2
  have hn2 : i.toNat < c.rob.length := by omega
  try simp only [go_sem, simprocAttr, hL, hX]
  repeat' refine And.intro (by first | rfl | omega | (simp; done)) ?_
  refine zF (sat_impl_known c i 65 hf (by omega)) ?_
  refine hK1 _ ?_ ?_ ?_ <;> simp only [go_sem, simprocAttr, hL, hX] <;> exact rfl
 refine zPp ?_
 clear hL hP hM
 intro hL
 refine zL [1, 2, 31] ?_
 clear hL
 intro ρ hL
 refine grp_orN (v := ?v4) 4 rfl [1, 2] hL.2.2 rfl (fun hb K1 hK1 => ?run) (fun hb => skA (want := false) (b := _) (by rw [hb]; rfl) hL.2.2 rfl) (fun ρ hP hM => ?_)
 case run =>
  simp only [List.take_succ_cons, List.take_zero]
  rw [hb] at hL
  have hb2 : inR i 0 ((c.rob.length : Int) - 1) = true := by revert hb; cases inR i 0 ((c.rob.length : Int) - 1) <;> simp
  have hw := inR_iff.1 hb2
  have hn2 : i.toNat < c.rob.length := by omega
  try simp only [go_sem, simprocAttr, hL, hX]
  repeat' refine And.intro (by first | rfl | omega | (simp; done)) ?_
  refine zF (sat_impl_known c i 66 hf (by omega)) ?_
  refine hK1 _ ?_ ?_ ?_ <;> simp only [go_sem, simprocAttr, hL, hX] <;> exact rfl
 refine zPp ?_
 clear hL hP hM
 intro hL
 refine zE [1, 2, 36] ?_
 clear hK K hL
 clear hX
 have hX := hX0
 clear hX0
 refine zC ?_ ?_
 ·intro c1
  refine zS [4] ?_
  refine zR ?_
  try simp only [go_sem, simprocAttr]
  all_goals (rw [ready_not c1])
 ·intro c1 ρ hL
  refine awl_skip ?_
  have hc0 : corOk c = true ∧ inR i 0 ((c.rob.length : Int) - 1) = true ∧ (c.rob.getD i.toNat noEnt).done = false := by revert c1; cases corOk c <;> cases inR i 0 ((c.rob.length : Int) - 1) <;> cases (c.rob.getD i.toNat noEnt).done <;> simp
  have hw := inR_iff.1 hc0.2.1
  have hn2 : i.toNat < c.rob.length := by omega
  have hmin : min i.toNat c.rob.length = i.toNat := by omega
  have hi0 : 0 ≤ i := hw.1
  have hi9 : i ≤ (c.rob.length : Int) := by omega
  repeat refine awl_seq ?_
  refine awl_regS _ rfl fun K hK => ?_
  try simp only [go_sem, simprocAttr, hL, hX, hn2, ents_takeN, List.length_take, hmin, hi0, hi9, Nat.sub_zero, Option.isSome_none]
  repeat' refine And.intro (by first | rfl | omega | (simp; done)) ?_
  refine awpS_live [1, 2, 45] fun ρ hM => ?_
  try simp only [go_sem, simprocAttr, hL, hX, hn2, ents_takeN, List.length_take, hmin, hi0, hi9, Nat.sub_zero, Option.isSome_none] at hM
  clear hL
  have hL := hM
  clear hM
  refine grp_orN (v := ?v5) 6 rfl [] hL.2.2 rfl (fun hb K1 hK1 => ?run) (fun hb => skA (want := false) (b := _) (by rw [hb]; rfl) hL.2.2 rfl) (fun ρ hP hM => ?_)
  case run =>
   simp only [List.take_succ_cons, List.take_zero]
   rw [hb] at hL
   try simp only [go_sem, simprocAttr, hL, hX, hn2, ents_takeN, List.length_take, hmin, hi0, hi9, Nat.sub_zero, Option.isSome_none]
   repeat' refine And.intro (by first | rfl | omega | (simp; done)) ?_
   refine opS_call_ro rfl (sat_slices_ContainsFunc_impl_Entry_impl_Entry (c.rob.take i.toNat) _ [] waits (by rw [List.length_take]; omega) (fun _ _ _ => rfl) (fun x => sat_impl_Ready_1 x)) ?ha ?hv ?hh ?_
   case ha => simp only [go_sem, simprocAttr, hL, hX, hn2, ents_takeN, List.length_take, hmin, hi0, hi9, Nat.sub_zero, Option.isSome_none]; first | done | rfl
   case hv => first | rfl | (simp only [go_sem]; done)
   case hh => first | rfl | (simp only [go_sem]; done)
   try simp only [go_sem, simprocAttr, hL, hX, hn2, ents_takeN, List.length_take, hmin, hi0, hi9, Nat.sub_zero, Option.isSome_none]
   repeat' refine And.intro (by first | rfl | omega | (simp; done)) ?_
   refine hK1 _ ?_ ?_ ?_ <;> simp only [go_sem, simprocAttr, hL, hX, hn2, ents_takeN, List.length_take, hmin, hi0, hi9, Nat.sub_zero, Option.isSome_none] <;> exact rfl
  simp only [List.drop_succ_cons, List.drop_zero]
  clear hM hL
  have hL := hP
  clear hP
  try simp only [go_sem, simprocAttr, hL, hX, hn2, ents_takeN, List.length_take, hmin, hi0, hi9, Nat.sub_zero, Option.isSome_none]
  repeat' refine And.intro (by first | rfl | omega | (simp; done)) ?_
  refine hK _ _ (.mk (awl_live' [4] fun ρ hM => ?_))
  try simp only [go_sem, simprocAttr, hL, hX, hn2, ents_takeN, List.length_take, hmin, hi0, hi9, Nat.sub_zero, Option.isSome_none] at hM
  clear hK K hL
  revert ρ hM
  refine zR ?_
  try simp only [go_sem, simprocAttr]
  all_goals (rw [ready_is c1])
theorem sat_spec_l8Write (m : Mem) (by_ : Word) (n : Int) (w : Word) (hf : m.fit) : Sat Tryz.prog 217 [.agg m.cells, .agg by_.cells, .int .i64 n, .agg w.cells] [] (.int .i64 (writeT m by_ n w)) [] := by
 have hX := trivial
 refine sat_mk [.tmp 8] 0 30 Tryz.call217 Tryz.func217 Tryz.ntmps217 rfl rfl rfl rfl rfl ?_
 refine zI [0, 1, 2, 3] ?_
 refine zS [2, 4, 5, 7] ?_
 refine zSF [2, 4, 5, 7, 9] (sat_spec_Try _ _ _) ?_
 intro ρ hL
 refine awl_seq (awl_block fun R1 hw1 hR1 => ?_)
 revert ρ hL
 refine zS [2, 4, 5, 7, 9, 13] ?_
 refine zC ?_ ?_
 ·intro c1
  refine zS [8] ?_
  refine zR ?_
  try simp only [go_sem, simprocAttr]
  all_goals ((try clear hR1); rw [writeT, if_pos c1])
 ·intro c1
  have hg := hf.1
  have w0 : IntKind.i64.wrap ((m.words.length : Int) - 1) = (m.words.length : Int) - 1 := wrap64 (by omega)
  refine zSFX [5, 7, 17] (sat_spec_l1In _ _ _) (And.intro w0 hX) ?_
  refine zC ?_ ?_
  ·intro c2
   refine zS [8] ?_
   refine zR ?_
   try simp only [go_sem, simprocAttr]
   all_goals ((try clear hR1); rw [writeT, if_neg (fun h => h c1), if_pos c2])
  ·intro c2
   refine zSF [25] (sat_spec_MayPut _ _) ?_
   refine zC ?_ ?_
   ·intro c3
    refine zS [8] ?_
    refine zR ?_
    try simp only [go_sem, simprocAttr]
    all_goals ((try clear hR1); rw [writeT, if_neg (fun h => h c1), if_neg (by rw [c2]; exact Bool.noConfusion), if_pos c3])
   ·intro c3 ρ hL
    refine awl_skip (awl_nil (blk_normal (hR1 _ _ (.mk ?_))))
    revert ρ hL
    refine zS [8] ?_
    refine zR ?_
    try simp only [go_sem, simprocAttr]
    all_goals ((try clear hR1); rw [writeT, if_neg (fun h => h c1), if_neg (by rw [c2]; exact Bool.noConfusion), if_neg (by rw [c3]; exact Bool.noConfusion)])
theorem sat_impl_writeCode (m : Mem) (by_ : Word) (n : Int) (w : Word) (hf : m.fit) : Sat Tryz.prog 247 [.agg m.cells, .agg by_.cells, .int .i64 n, .agg w.cells] [] (.int .i64 (writeT m by_ n w)) [] := by
 have hX := trivial
 refine sat_mk [.tmp 8] 0 30 Tryz.call247 Tryz.func247 Tryz.ntmps247 rfl rfl rfl rfl rfl ?_
 refine zI [0, 1, 2, 3] ?_
 refine zS [2, 4, 5, 7] ?_
 refine zSF [2, 4, 5, 7, 9] (sat_impl_Try _ _ _ ?hp0) ?_
 case hp0 => first | assumption | omega | (simp; done)
 intro ρ hL
 refine awl_seq (awl_block fun R1 hw1 hR1 => ?_)
 revert ρ hL
 refine zS [2, 4, 5, 7, 9, 13] ?_
 refine zC ?_ ?_
 ·intro c1
  refine zS [8] ?_
  refine zR ?_
  try simp only [go_sem, simprocAttr]
  all_goals ((try clear hR1); rw [writeT, if_pos c1])
 ·intro c1
  have hg := hf.1
  have w0 : IntKind.i64.wrap ((m.words.length : Int) - 1) = (m.words.length : Int) - 1 := wrap64 (by omega)
  refine zSFX [5, 7, 17] (sat_impl_in _ _ _) (And.intro w0 hX) ?_
  refine zC ?_ ?_
  ·intro c2
   refine zS [8] ?_
   refine zR ?_
   try simp only [go_sem, simprocAttr]
   all_goals ((try clear hR1); rw [writeT, if_neg (fun h => h c1), if_pos c2])
  ·intro c2
   refine zSF [25] (sat_impl_MayPut _ _) ?_
   refine zC ?_ ?_
   ·intro c3
    refine zS [8] ?_
    refine zR ?_
    try simp only [go_sem, simprocAttr]
    all_goals ((try clear hR1); rw [writeT, if_neg (fun h => h c1), if_neg (by rw [c2]; exact Bool.noConfusion), if_pos c3])
   ·intro c3 ρ hL
    refine awl_skip (awl_nil (blk_normal (hR1 _ _ (.mk ?_))))
    revert ρ hL
    refine zS [8] ?_
    refine zR ?_
    try simp only [go_sem, simprocAttr]
    all_goals ((try clear hR1); rw [writeT, if_neg (fun h => h c1), if_neg (by rw [c2]; exact Bool.noConfusion), if_neg (by rw [c3]; exact Bool.noConfusion)])
theorem sat_spec_Fetch (l : List Ins) (w : Word) (hl : l.length ≤ 1048576) : Sat Tryz.prog 175 [.sl l.length l.length (rows l), .agg w.cells] [] (.tuple [.agg (Ins.cells (fetch l w).1), .int .i64 (fetch l w).2]) [] := by
 have hX := trivial
 refine sat_mk [.cell 4 92, .tmp 5] 0 37 Tryz.call175 Tryz.func175 Tryz.ntmps175 rfl rfl rfl rfl rfl ?_
 refine zI [0, 1] ?_
 refine zS [0, 3, 4] ?_
 refine zSF [0, 3, 4, 6] (sat_spec_Try _ _ _) ?_
 refine zS [0, 3, 4, 6, 12] ?_
 refine zC ?_ ?_
 ·intro c1
  refine zS [4, 5] ?_
  refine zR ?_
  try simp only [go_sem, simprocAttr]
  all_goals (rw [fetch, if_pos c1] <;> rfl)
 ·intro c1 ρ hL
  refine awl_skip ?_
  have w0 : IntKind.i64.wrap ((l.length : Int) - 1) = (l.length : Int) - 1 := wrap64 (by omega)
  have hX0 := hX
  replace hX := And.intro w0 hX
  refine zA ?_
  intro K hK
  refine zF (sat_spec_l1In _ _ _) ?_
  refine zL [0, 3, 4, 22] ?_
  clear hL
  intro ρ hL
  refine grp_orN (v := ?v1) 7 rfl [0, 3, 4] hL.2.2.2 rfl (fun hb K1 hK1 => ?run) (fun hb => skA (want := false) (b := _) (by rw [hb]; rfl) hL.2.2.2 rfl) (fun ρ hP hM => ?_)
  case run =>
   simp only [List.take_succ_cons, List.take_zero]
   rw [hb] at hL
   have hw := inR_iff.1 (show inR w.n 0 ((l.length : Int) - 1) = true by revert hb; cases inR w.n 0 ((l.length : Int) - 1) <;> simp)
   have hn2 : w.n.toNat < l.length := by omega
   try simp only [go_sem, simprocAttr, hL, hX, hn2]
   repeat' refine And.intro (by first | rfl | omega | (simp; done)) ?_
   refine opS_call_ro rfl (sat_spec_InsOk ?_) ?ha ?hv ?hh ?_
   case ha => simp only [go_sem, simprocAttr, hL, hX, hn2]; first | done | rfl
   case hv => first | rfl | (simp only [go_sem]; done)
   case hh => first | rfl | (simp only [go_sem]; done)
   try simp only [go_sem, simprocAttr, hL, hX, hn2]
   repeat' refine And.intro (by first | rfl | omega | (simp; done)) ?_
   refine hK1 _ ?_ ?_ ?_ <;> simp only [go_sem, simprocAttr, hL, hX, hn2] <;> exact rfl
  refine zPp ?_
  clear hL hP hM
  intro hL
  refine zE [0, 3, 4, 30] ?_
  clear hK K hL
  clear hX
  have hX := hX0
  clear hX0
  refine zC ?_ ?_
  ·intro c2
   refine zS [4, 5] ?_
   refine zR ?_
   try simp only [go_sem, simprocAttr]
   all_goals (rw [fetch, if_neg (fun h => h c1), if_neg (by rintro ⟨a, b⟩; rw [a, b] at c2; simp at c2)] <;> rfl)
  ·intro c2 ρ hL
   refine awl_skip ?_
   have hw := inR_iff.1 c2.1
   have hn2 : w.n.toNat < l.length := by omega
   revert ρ hL
   refine zSX [4, 5] (And.intro hn2 hX) ?_
   refine zR ?_
   try simp only [go_sem, simprocAttr]
   all_goals (rw [fetch, if_neg (fun h => h c1), if_pos c2] <;> rfl)
theorem sat_impl_Fetch (l : List Ins) (w : Word) (hl : l.length ≤ 1048576) : Sat Tryz.prog 239 [.sl l.length l.length (rows l), .agg w.cells] [] (.tuple [.agg (Ins.cells (fetch l w).1), .int .i64 (fetch l w).2]) [] := by
 have hX := trivial
 refine sat_mk [.cell 4 92, .tmp 5] 0 39 Tryz.call239 Tryz.func239 Tryz.ntmps239 rfl rfl rfl rfl rfl ?_
 refine zI [0, 1] ?_
 refine zS [0, 3, 4] ?_
 refine zSF [0, 3, 4, 6] (sat_impl_Try _ _ _ ?hp0) ?_
 case hp0 => first | assumption | omega | (simp; done)
 intro ρ hL
 refine awl_seq (awl_block fun R1 hw1 hR1 => ?_)
 revert ρ hL
 refine zS [0, 3, 4, 6, 11] ?_
 refine zC ?_ ?_
 ·intro c1
  refine zS [4, 5] ?_
  refine zR ?_
  try simp only [go_sem, simprocAttr]
  all_goals ((try clear hR1); rw [fetch, if_pos c1] <;> rfl)
 ·intro c1
  have w0 : IntKind.i64.wrap ((l.length : Int) - 1) = (l.length : Int) - 1 := wrap64 (by omega)
  have hX0 := hX
  replace hX := And.intro w0 hX
  intro ρ hL
  refine zA ?_
  intro K hK
  refine zF (sat_impl_in _ _ _) ?_
  refine zL [0, 3, 4, 24] ?_
  clear hL
  intro ρ hL
  refine grp_orN (v := ?v1) 7 rfl [0, 3, 4] hL.2.2.2 rfl (fun hb K1 hK1 => ?run) (fun hb => skA (want := false) (b := _) (by rw [hb]; rfl) hL.2.2.2 rfl) (fun ρ hP hM => ?_)
  case run =>
   simp only [List.take_succ_cons, List.take_zero]
   rw [hb] at hL
   have hw := inR_iff.1 (show inR w.n 0 ((l.length : Int) - 1) = true by revert hb; cases inR w.n 0 ((l.length : Int) - 1) <;> simp)
   have hn2 : w.n.toNat < l.length := by omega
   try simp only [go_sem, simprocAttr, hL, hX, hn2]
   repeat' refine And.intro (by first | rfl | omega | (simp; done)) ?_
   refine opS_call_ro rfl (sat_impl_InsOk ?_) ?ha ?hv ?hh ?_
   case ha => simp only [go_sem, simprocAttr, hL, hX, hn2]; first | done | rfl
   case hv => first | rfl | (simp only [go_sem]; done)
   case hh => first | rfl | (simp only [go_sem]; done)
   try simp only [go_sem, simprocAttr, hL, hX, hn2]
   repeat' refine And.intro (by first | rfl | omega | (simp; done)) ?_
   refine hK1 _ ?_ ?_ ?_ <;> simp only [go_sem, simprocAttr, hL, hX, hn2] <;> exact rfl
  refine zPp ?_
  clear hL hP hM
  intro hL
  refine zE [0, 3, 4, 16] ?_
  clear hK K hL
  clear hX
  have hX := hX0
  clear hX0
  refine zC ?_ ?_
  ·intro c2
   refine zS [4, 5] ?_
   refine zR ?_
   try simp only [go_sem, simprocAttr]
   all_goals ((try clear hR1); rw [fetch, if_neg (fun h => h c1), if_neg (by rintro ⟨a, b⟩; rw [a, b] at c2; simp at c2)] <;> rfl)
  ·intro c2 ρ hL
   refine awl_skip (awl_nil (blk_normal (hR1 _ _ (.mk ?_))))
   have hw := inR_iff.1 c2.1
   have hn2 : w.n.toNat < l.length := by omega
   revert ρ hL
   refine zSX [4, 5] (And.intro hn2 hX) ?_
   refine zR ?_
   try simp only [go_sem, simprocAttr]
   all_goals ((try clear hR1); rw [fetch, if_neg (fun h => h c1), if_pos c2] <;> rfl)
theorem sat_spec_l9Trap (t : Int) (w : Word)  : Sat Tryz.prog 176 [.int .i64 t, .agg w.cells] [] (.agg (Fx.cells (fxTrap t w))) [] := by
 have hX := trivial
 refine sat_mk [.cell 4 94] 0 8 Tryz.call176 Tryz.func176 Tryz.ntmps176 rfl rfl rfl rfl rfl ?_
 refine zI [0, 1] ?_
 refine zS [0, 3, 4] ?_
 refine zS [4] ?_
 refine zR ?_
 try simp only [go_sem, simprocAttr]
 all_goals (rfl)
theorem sat_impl_trapped (t : Int) (w : Word)  : Sat Tryz.prog 240 [.int .i64 t, .agg w.cells] [] (.agg (Fx.cells (fxTrap t w))) [] := by
 have hX := trivial
 refine sat_mk [.cell 4 94] 0 8 Tryz.call240 Tryz.func240 Tryz.ntmps240 rfl rfl rfl rfl rfl ?_
 refine zI [0, 1] ?_
 refine zS [0, 3, 4] ?_
 refine zS [4] ?_
 refine zR ?_
 try simp only [go_sem, simprocAttr]
 all_goals (rfl)
theorem sat_spec_Narrow (w : Word) (n : Int)  : Sat Tryz.prog 288 [.agg w.cells, .int .i64 n] [] (.agg (Word.cells (narrow w n))) [] := by
 have hX := trivial
 refine sat_mk [.cell 4 27] 0 58 Tryz.call288 Tryz.func288 Tryz.ntmps288 rfl rfl rfl rfl rfl ?_
 refine zI [0, 1] ?_
 refine zS [1, 2, 4] ?_
 intro ρ hL
 refine zA ?_
 intro K hK
 refine zF (sat_spec_l4Open _) ?_
 refine zL [1, 2, 4, 10] ?_
 clear hL
 intro ρ hL
 refine grp_orN (v := ?v1) 3 rfl [1, 2, 4] hL.2.2.2 rfl (fun hb K1 hK1 => ?run) (fun hb => skA (want := false) (b := _) (by rw [hb]; rfl) hL.2.2.2 rfl) (fun ρ hP hM => ?_)
 case run =>
  refine zRn ?_
  intro hL
  refine zF (sat_spec_l1In _ _ _) ?_
  exact zK1
 refine zPp ?_
 clear hL hP hM
 intro hL
 refine zL [1, 2, 4, 15] ?_
 clear hL
 intro ρ hL
 refine grp_orN (v := ?v2) 8 rfl [1, 2, 4] hL.2.2.2 rfl (fun hb K1 hK1 => ?run) (fun hb => skA (want := false) (b := _) (by rw [hb]; rfl) hL.2.2.2 rfl) (fun ρ hP hM => ?_)
 case run =>
  refine zRn ?_
  intro hL
  refine zF (sat_spec_BoundsOk _ _) ?_
  exact zK1
 refine zPp ?_
 clear hL hP hM
 intro hL
 refine zE [1, 2, 4, 24] ?_
 clear hK K hL
 refine zC ?_ ?_
 ·intro c1
  refine zSF [4] (sat_spec_Bare _) ?_
  refine zR ?_
  try simp only [go_sem, simprocAttr]
  all_goals (rw [narrow, if_neg (by simp only [wadd]; rintro ⟨a, b, d, e, f⟩; rw [a, b, d] at c1; simp at c1)] <;> simp only [bare, plain, low, noKey])
 ·intro c1 ρ hL
  refine awl_skip ?_
  revert ρ hL
  refine zSF [2, 4, 5, 6] (sat_spec_Wide _ _) ?_
  intro ρ hL
  refine zA ?_
  intro K hK
  refine zL [2, 4, 5, 6, 42] ?_
  clear hL
  intro ρ hL
  refine grp_orN (v := ?v3) 5 rfl [2, 4, 5, 6] hL.2.2.2.2 rfl (fun hb K1 hK1 => ?run) (fun hb => skA (want := false) (b := _) (by rw [hb]; rfl) hL.2.2.2.2 rfl) (fun ρ hP hM => ?_)
  case run => exact zR1
  refine zPp ?_
  clear hL hP hM
  intro hL
  refine zE [2, 4, 5, 6, 48] ?_
  clear hK K hL
  refine zC ?_ ?_
  ·intro c2
   refine zSF [4] (sat_spec_Bare _) ?_
   refine zR ?_
   try simp only [go_sem, simprocAttr]
   all_goals (rw [narrow, if_neg (by simp only [wadd]; rintro ⟨a, b, d, e, f⟩; omega)] <;> simp only [bare, plain, low, noKey])
  ·intro c2 ρ hL
   refine awl_skip ?_
   revert ρ hL
   refine zS [2, 4, 6] ?_
   refine zS [2, 4] ?_
   refine zS [4] ?_
   refine zR ?_
   try simp only [go_sem, simprocAttr]
   all_goals (rw [narrow, if_pos (by simp only [wadd]; obtain ⟨⟨a, b⟩, d⟩ := c1; exact ⟨a, b, d, by omega, by omega⟩)] <;> rfl)
theorem sat_impl_Narrow (w : Word) (n : Int)  : Sat Tryz.prog 297 [.agg w.cells, .int .i64 n] [] (.agg (Word.cells (narrow w n))) [] := by
 have hX := trivial
 refine sat_mk [.cell 4 27] 0 61 Tryz.call297 Tryz.func297 Tryz.ntmps297 rfl rfl rfl rfl rfl ?_
 refine zI [0, 1] ?_
 refine zS [1, 2, 4] ?_
 intro ρ hL
 refine zA ?_
 intro K hK
 refine zF (sat_impl_open _) ?_
 refine zL [1, 2, 4, 10] ?_
 clear hL
 intro ρ hL
 refine grp_orN (v := ?v1) 2 rfl [1, 2, 4] hL.2.2.2 rfl (fun hb K1 hK1 => ?run) (fun hb => skA (want := false) (b := _) (by rw [hb]; rfl) hL.2.2.2 rfl) (fun ρ hP hM => ?_)
 case run => exact zR1
 refine zPp ?_
 clear hL hP hM
 intro hL
 refine zL [1, 2, 4, 14] ?_
 clear hL
 intro ρ hL
 refine grp_orN (v := ?v2) 2 rfl [1, 2, 4] hL.2.2.2 rfl (fun hb K1 hK1 => ?run) (fun hb => skA (want := false) (b := _) (by rw [hb]; rfl) hL.2.2.2 rfl) (fun ρ hP hM => ?_)
 case run => exact zR1
 refine zPp ?_
 clear hL hP hM
 intro hL
 refine zL [1, 2, 4, 18] ?_
 clear hL
 intro ρ hL
 refine grp_orN (v := ?v3) 8 rfl [1, 2, 4] hL.2.2.2 rfl (fun hb K1 hK1 => ?run) (fun hb => skA (want := false) (b := _) (by rw [hb]; rfl) hL.2.2.2 rfl) (fun ρ hP hM => ?_)
 case run =>
  refine zRn ?_
  intro hL
  refine zF (sat_impl_BoundsOk _ _) ?_
  exact zK1
 refine zPp ?_
 clear hL hP hM
 intro hL
 refine zE [1, 2, 4, 27] ?_
 clear hK K hL
 refine zC ?_ ?_
 ·intro c1
  refine zSF [4] (sat_impl_Bare _) ?_
  refine zR ?_
  try simp only [go_sem, simprocAttr]
  all_goals (rw [narrow, if_neg (by simp only [wadd]; rintro ⟨a, b, d, e, f⟩; have := inR_iff.1 b; rw [a, d] at c1; simp at c1; omega)] <;> simp only [bare, plain, low, noKey])
 ·intro c1 ρ hL
  refine awl_skip ?_
  revert ρ hL
  refine zSF [2, 4, 5, 6] (sat_impl_Wide _ _) ?_
  intro ρ hL
  refine zA ?_
  intro K hK
  refine zL [2, 4, 5, 6, 45] ?_
  clear hL
  intro ρ hL
  refine grp_orN (v := ?v4) 5 rfl [2, 4, 5, 6] hL.2.2.2.2 rfl (fun hb K1 hK1 => ?run) (fun hb => skA (want := false) (b := _) (by rw [hb]; rfl) hL.2.2.2.2 rfl) (fun ρ hP hM => ?_)
  case run => exact zR1
  refine zPp ?_
  clear hL hP hM
  intro hL
  refine zE [2, 4, 5, 6, 51] ?_
  clear hK K hL
  refine zC ?_ ?_
  ·intro c2
   refine zSF [4] (sat_impl_Bare _) ?_
   refine zR ?_
   try simp only [go_sem, simprocAttr]
   all_goals (rw [narrow, if_neg (by simp only [wadd]; rintro ⟨a, b, d, e, f⟩; omega)] <;> simp only [bare, plain, low, noKey])
  ·intro c2 ρ hL
   refine awl_skip ?_
   revert ρ hL
   refine zS [2, 4] ?_
   refine zS [4] ?_
   refine zR ?_
   try simp only [go_sem, simprocAttr]
   all_goals (rw [narrow, if_pos (by simp only [wadd]; obtain ⟨⟨⟨a, b⟩, b2⟩, d⟩ := c1; exact ⟨a, inR_iff.2 (by omega), d, by omega, by omega⟩)] <;> rfl)
theorem sat_spec_l4Sealer (w : Word)  : Sat Tryz.prog 302 [.agg w.cells] [] (.bool (sealer w)) [] := by
 have hX := trivial
 refine sat_mk [.tmp 2] 0 33 Tryz.call302 Tryz.func302 Tryz.ntmps302 rfl rfl rfl rfl rfl ?_
 refine zI [0] ?_
 refine zS [1] ?_
 intro ρ hL
 refine zA ?_
 intro K hK
 refine zF (sat_spec_l4Open _) ?_
 refine zL [1, 5] ?_
 clear hL
 intro ρ hL
 refine grp_andN (v := ?v1) 5 rfl [1] hL.2 rfl (fun hb K1 hK1 => ?run) (fun hb => skA (want := true) (b := _) (by rw [hb]; rfl) hL.2 rfl) (fun ρ hP hM => ?_)
 case run => exact zR1
 refine zPp ?_
 clear hL hP hM
 intro hL
 refine zL [1, 12] ?_
 clear hL
 intro ρ hL
 refine grp_andN (v := ?v2) 6 rfl [1] hL.2 rfl (fun hb K1 hK1 => ?run) (fun hb => skA (want := true) (b := _) (by rw [hb]; rfl) hL.2 rfl) (fun ρ hP hM => ?_)
 case run => exact zR1
 refine zPp ?_
 clear hL hP hM
 intro hL
 refine zL [1, 20] ?_
 clear hL
 intro ρ hL
 refine grp_andN (v := ?v3) 6 rfl [1] hL.2 rfl (fun hb K1 hK1 => ?run) (fun hb => skA (want := true) (b := _) (by rw [hb]; rfl) hL.2 rfl) (fun ρ hP hM => ?_)
 case run => exact zR1
 refine zPp ?_
 clear hL hP hM
 intro hL
 refine zL [1, 28] ?_
 clear hL
 intro ρ hL
 refine grp_andN (v := ?v4) 3 rfl [] hL.2 rfl (fun hb K1 hK1 => ?run) (fun hb => skA (want := true) (b := _) (by rw [hb]; rfl) hL.2 rfl) (fun ρ hP hM => ?_)
 case run =>
  refine zRn ?_
  intro hL
  refine zF (sat_spec_l1In _ _ _) ?_
  exact zK1
 simp only [List.drop_succ_cons, List.drop_zero]
 clear hM hL
 have hL := hP
 clear hP
 try simp only [go_sem, simprocAttr, hL, hX]
 repeat' refine And.intro (by first | rfl | omega | (simp; done)) ?_
 refine zE [2] ?_
 clear hK K hL
 refine zR ?_
 try simp only [go_sem, simprocAttr]
 all_goals (rw [sealer_eq] <;> rfl)
theorem sat_impl_seals (w : Word)  : Sat Tryz.prog 304 [.agg w.cells] [] (.bool (sealer w)) [] := by
 have hX := trivial
 refine sat_mk [.tmp 2] 0 33 Tryz.call304 Tryz.func304 Tryz.ntmps304 rfl rfl rfl rfl rfl ?_
 refine zI [0] ?_
 refine zS [1] ?_
 intro ρ hL
 refine zA ?_
 intro K hK
 refine zF (sat_impl_open _) ?_
 refine zL [1, 5] ?_
 clear hL
 intro ρ hL
 refine grp_andN (v := ?v1) 5 rfl [1] hL.2 rfl (fun hb K1 hK1 => ?run) (fun hb => skA (want := true) (b := _) (by rw [hb]; rfl) hL.2 rfl) (fun ρ hP hM => ?_)
 case run => exact zR1
 refine zPp ?_
 clear hL hP hM
 intro hL
 refine zL [1, 12] ?_
 clear hL
 intro ρ hL
 refine grp_andN (v := ?v2) 6 rfl [1] hL.2 rfl (fun hb K1 hK1 => ?run) (fun hb => skA (want := true) (b := _) (by rw [hb]; rfl) hL.2 rfl) (fun ρ hP hM => ?_)
 case run => exact zR1
 refine zPp ?_
 clear hL hP hM
 intro hL
 refine zL [1, 20] ?_
 clear hL
 intro ρ hL
 refine grp_andN (v := ?v3) 6 rfl [1] hL.2 rfl (fun hb K1 hK1 => ?run) (fun hb => skA (want := true) (b := _) (by rw [hb]; rfl) hL.2 rfl) (fun ρ hP hM => ?_)
 case run => exact zR1
 refine zPp ?_
 clear hL hP hM
 intro hL
 refine zL [1, 28] ?_
 clear hL
 intro ρ hL
 refine grp_andN (v := ?v4) 3 rfl [] hL.2 rfl (fun hb K1 hK1 => ?run) (fun hb => skA (want := true) (b := _) (by rw [hb]; rfl) hL.2 rfl) (fun ρ hP hM => ?_)
 case run =>
  refine zRn ?_
  intro hL
  refine zF (sat_impl_in _ _ _) ?_
  exact zK1
 simp only [List.drop_succ_cons, List.drop_zero]
 clear hM hL
 have hL := hP
 clear hP
 try simp only [go_sem, simprocAttr, hL, hX]
 repeat' refine And.intro (by first | rfl | omega | (simp; done)) ?_
 refine zE [2] ?_
 clear hK K hL
 refine zR ?_
 try simp only [go_sem, simprocAttr]
 all_goals (rw [sealer_eq] <;> rfl)
theorem sat_spec_SealBy (w : Word) (by_ : Word)  : Sat Tryz.prog 289 [.agg w.cells, .agg by_.cells] [] (.agg (Word.cells (sealBy w by_))) [] := by
 have hX := trivial
 refine sat_mk [.cell 4 27] 0 20 Tryz.call289 Tryz.func289 Tryz.ntmps289 rfl rfl rfl rfl rfl ?_
 refine zI [0, 1] ?_
 refine zS [2, 3, 4] ?_
 intro ρ hL
 refine zA ?_
 intro K hK
 refine zF (sat_spec_l4Open _) ?_
 refine zL [2, 3, 4, 8] ?_
 clear hL
 intro ρ hL
 refine grp_orN (v := ?v1) 3 rfl [2, 3, 4] hL.2.2.2 rfl (fun hb K1 hK1 => ?run) (fun hb => skA (want := false) (b := _) (by rw [hb]; rfl) hL.2.2.2 rfl) (fun ρ hP hM => ?_)
 case run =>
  refine zRn ?_
  intro hL
  refine zF (sat_spec_l4Sealer _) ?_
  exact zK1
 refine zPp ?_
 clear hL hP hM
 intro hL
 refine zE [2, 3, 4, 12] ?_
 clear hK K hL
 refine zC ?_ ?_
 ·intro c1
  refine zSF [4] (sat_spec_Bare _) ?_
  refine zR ?_
  try simp only [go_sem, simprocAttr]
  all_goals (rw [sealBy, if_neg (by rintro ⟨a, b⟩; rw [a, b] at c1; simp at c1)] <;> simp only [bare, plain, low, noKey])
 ·intro c1 ρ hL
  refine awl_skip ?_
  revert ρ hL
  refine zS [2, 4] ?_
  refine zS [4] ?_
  refine zR ?_
  try simp only [go_sem, simprocAttr]
  all_goals (rw [sealBy, if_pos c1] <;> rfl)
theorem sat_impl_SealBy (w : Word) (by_ : Word)  : Sat Tryz.prog 298 [.agg w.cells, .agg by_.cells] [] (.agg (Word.cells (sealBy w by_))) [] := by
 have hX := trivial
 refine sat_mk [.cell 4 27] 0 20 Tryz.call298 Tryz.func298 Tryz.ntmps298 rfl rfl rfl rfl rfl ?_
 refine zI [0, 1] ?_
 refine zS [2, 3, 4] ?_
 intro ρ hL
 refine zA ?_
 intro K hK
 refine zF (sat_impl_open _) ?_
 refine zL [2, 3, 4, 8] ?_
 clear hL
 intro ρ hL
 refine grp_orN (v := ?v1) 3 rfl [2, 3, 4] hL.2.2.2 rfl (fun hb K1 hK1 => ?run) (fun hb => skA (want := false) (b := _) (by rw [hb]; rfl) hL.2.2.2 rfl) (fun ρ hP hM => ?_)
 case run =>
  refine zRn ?_
  intro hL
  refine zF (sat_impl_seals _) ?_
  exact zK1
 refine zPp ?_
 clear hL hP hM
 intro hL
 refine zE [2, 3, 4, 12] ?_
 clear hK K hL
 refine zC ?_ ?_
 ·intro c1
  refine zSF [4] (sat_impl_Bare _) ?_
  refine zR ?_
  try simp only [go_sem, simprocAttr]
  all_goals (rw [sealBy, if_neg (by rintro ⟨a, b⟩; rw [a, b] at c1; simp at c1)] <;> simp only [bare, plain, low, noKey])
 ·intro c1 ρ hL
  refine awl_skip ?_
  revert ρ hL
  refine zS [2, 4] ?_
  refine zS [4] ?_
  refine zR ?_
  try simp only [go_sem, simprocAttr]
  all_goals (rw [sealBy, if_pos c1] <;> rfl)
theorem sat_spec_OpenBy (w : Word) (by_ : Word)  : Sat Tryz.prog 290 [.agg w.cells, .agg by_.cells] [] (.agg (Word.cells (openBy w by_))) [] := by
 have hX := trivial
 refine sat_mk [.cell 4 27] 0 31 Tryz.call290 Tryz.func290 Tryz.ntmps290 rfl rfl rfl rfl rfl ?_
 refine zI [0, 1] ?_
 refine zS [2, 3, 4] ?_
 intro ρ hL
 refine zA ?_
 intro K hK
 refine zF (sat_spec_WordOk _) ?_
 refine zL [2, 3, 4, 8] ?_
 clear hL
 intro ρ hL
 refine grp_orN (v := ?v1) 3 rfl [2, 3, 4] hL.2.2.2 rfl (fun hb K1 hK1 => ?run) (fun hb => skA (want := false) (b := _) (by rw [hb]; rfl) hL.2.2.2 rfl) (fun ρ hP hM => ?_)
 case run => exact zR1
 refine zPp ?_
 clear hL hP hM
 intro hL
 refine zL [2, 3, 4, 13] ?_
 clear hL
 intro ρ hL
 refine grp_orN (v := ?v2) 3 rfl [2, 3, 4] hL.2.2.2 rfl (fun hb K1 hK1 => ?run) (fun hb => skA (want := false) (b := _) (by rw [hb]; rfl) hL.2.2.2 rfl) (fun ρ hP hM => ?_)
 case run =>
  refine zRn ?_
  intro hL
  refine zF (sat_spec_l4Sealer _) ?_
  exact zK1
 refine zPp ?_
 clear hL hP hM
 intro hL
 refine zL [2, 3, 4, 18] ?_
 clear hL
 intro ρ hL
 refine grp_orN (v := ?v3) 6 rfl [2, 4] hL.2.2.2 rfl (fun hb K1 hK1 => ?run) (fun hb => skA (want := false) (b := _) (by rw [hb]; rfl) hL.2.2.2 rfl) (fun ρ hP hM => ?_)
 case run => exact zR1
 refine zPp ?_
 clear hL hP hM
 intro hL
 refine zE [2, 4, 25] ?_
 clear hK K hL
 refine zC ?_ ?_
 ·intro c1
  refine zSF [4] (sat_spec_Bare _) ?_
  refine zR ?_
  try simp only [go_sem, simprocAttr]
  all_goals (rw [openBy, if_neg (by rintro ⟨a, b, d, e⟩; rw [a, b, d, e] at c1; simp at c1)] <;> simp only [bare, plain, low, noKey])
 ·intro c1 ρ hL
  refine awl_skip ?_
  revert ρ hL
  refine zS [2, 4] ?_
  refine zS [4] ?_
  refine zR ?_
  try simp only [go_sem, simprocAttr]
  all_goals (rw [openBy, if_pos ⟨c1.1.1.1, c1.1.1.2, c1.1.2, by omega⟩] <;> rfl)
theorem sat_impl_OpenBy (w : Word) (by_ : Word)  : Sat Tryz.prog 299 [.agg w.cells, .agg by_.cells] [] (.agg (Word.cells (openBy w by_))) [] := by
 have hX := trivial
 refine sat_mk [.cell 4 27] 0 31 Tryz.call299 Tryz.func299 Tryz.ntmps299 rfl rfl rfl rfl rfl ?_
 refine zI [0, 1] ?_
 refine zS [2, 3, 4] ?_
 intro ρ hL
 refine zA ?_
 intro K hK
 refine zF (sat_impl_WordOk _) ?_
 refine zL [2, 3, 4, 8] ?_
 clear hL
 intro ρ hL
 refine grp_orN (v := ?v1) 3 rfl [2, 3, 4] hL.2.2.2 rfl (fun hb K1 hK1 => ?run) (fun hb => skA (want := false) (b := _) (by rw [hb]; rfl) hL.2.2.2 rfl) (fun ρ hP hM => ?_)
 case run => exact zR1
 refine zPp ?_
 clear hL hP hM
 intro hL
 refine zL [2, 3, 4, 13] ?_
 clear hL
 intro ρ hL
 refine grp_orN (v := ?v2) 3 rfl [2, 3, 4] hL.2.2.2 rfl (fun hb K1 hK1 => ?run) (fun hb => skA (want := false) (b := _) (by rw [hb]; rfl) hL.2.2.2 rfl) (fun ρ hP hM => ?_)
 case run =>
  refine zRn ?_
  intro hL
  refine zF (sat_impl_seals _) ?_
  exact zK1
 refine zPp ?_
 clear hL hP hM
 intro hL
 refine zL [2, 3, 4, 18] ?_
 clear hL
 intro ρ hL
 refine grp_orN (v := ?v3) 6 rfl [2, 4] hL.2.2.2 rfl (fun hb K1 hK1 => ?run) (fun hb => skA (want := false) (b := _) (by rw [hb]; rfl) hL.2.2.2 rfl) (fun ρ hP hM => ?_)
 case run => exact zR1
 refine zPp ?_
 clear hL hP hM
 intro hL
 refine zE [2, 4, 25] ?_
 clear hK K hL
 refine zC ?_ ?_
 ·intro c1
  refine zSF [4] (sat_impl_Bare _) ?_
  refine zR ?_
  try simp only [go_sem, simprocAttr]
  all_goals (rw [openBy, if_neg (by rintro ⟨a, b, d, e⟩; rw [a, b, d, e] at c1; simp at c1)] <;> simp only [bare, plain, low, noKey])
 ·intro c1 ρ hL
  refine awl_skip ?_
  revert ρ hL
  refine zS [2, 4] ?_
  refine zS [4] ?_
  refine zR ?_
  try simp only [go_sem, simprocAttr]
  all_goals (rw [openBy, if_pos ⟨c1.1.1.1, c1.1.1.2, c1.1.2, by omega⟩] <;> rfl)
theorem sat_spec_l9Value (x : Ins) (a : Word) (b : Word) (g : Word)  : Sat Tryz.prog 263 [.agg x.cells, .agg a.cells, .agg b.cells, .agg g.cells] [] (.agg (Word.cells (valueOf x a b g))) [] := by
 have hX := trivial
 refine sat_mk [.cell 8 27] 0 68 Tryz.call263 Tryz.func263 Tryz.ntmps263 rfl rfl rfl rfl rfl ?_
 refine zI [0, 1, 2, 3] ?_
 refine zS [4, 5, 6, 7, 8] ?_
 refine zS [4, 5, 6, 7, 8, 10] ?_
 intro ρ hL
 refine awl_block fun R1 hw1 hR1 => ?_
 revert ρ hL
 refine zS [4, 5, 6, 7, 8, 10, 11] ?_
 refine zC ?_ ?_
 ·intro c1
  refine zSF [8] (sat_spec_Plain _) ?_
  refine zR ?_
  try simp only [go_sem, simprocAttr]
  all_goals ((try clear hR1); rw [valueOf, if_pos c1] <;> rfl)
 ·intro c1
  refine zS [4, 5, 6, 7, 8, 10, 16] ?_
  refine zC ?_ ?_
  ·intro c2
   refine zSF [8] (sat_spec_Plain _) ?_
   refine zR ?_
   try simp only [go_sem, simprocAttr]
   all_goals ((try clear hR1); rw [valueOf, if_neg c1, if_pos c2] <;> rfl)
  ·intro c2
   refine zS [4, 5, 6, 7, 8, 10, 24] ?_
   refine zC ?_ ?_
   ·intro c3
    refine zS [8] ?_
    refine zR ?_
    try simp only [go_sem, simprocAttr]
    all_goals ((try clear hR1); rw [valueOf, if_neg c1, if_neg c2, if_pos c3] <;> rfl)
   ·intro c3
    refine zS [4, 5, 6, 7, 8, 10, 27] ?_
    refine zC ?_ ?_
    ·intro c4
     refine zSF [8] (sat_spec_Weaken _ _) ?_
     refine zR ?_
     try simp only [go_sem, simprocAttr]
     all_goals ((try clear hR1); rw [valueOf, if_neg c1, if_neg c2, if_neg c3, if_pos c4] <;> rfl)
    ·intro c4
     refine zS [4, 5, 6, 7, 8, 10, 33] ?_
     refine zC ?_ ?_
     ·intro c5
      refine zSF [8] (sat_spec_Narrow _ _) ?_
      refine zR ?_
      try simp only [go_sem, simprocAttr]
      all_goals ((try clear hR1); rw [valueOf, if_neg c1, if_neg c2, if_neg c3, if_neg c4, if_pos c5] <;> rfl)
     ·intro c5
      refine zS [4, 5, 6, 7, 8, 10, 39] ?_
      refine zC ?_ ?_
      ·intro c6
       refine zSF [8] (sat_spec_Point _ _) ?_
       refine zR ?_
       try simp only [go_sem, simprocAttr]
       all_goals ((try clear hR1); rw [valueOf, if_neg c1, if_neg c2, if_neg c3, if_neg c4, if_neg c5, if_pos c6] <;> rfl)
      ·intro c6
       refine zS [5, 6, 7, 8, 10, 51] ?_
       refine zC ?_ ?_
       ·intro c7
        refine zSF [8] (sat_spec_SealBy _ _) ?_
        refine zR ?_
        try simp only [go_sem, simprocAttr]
        all_goals ((try clear hR1); rw [valueOf, if_neg c1, if_neg c2, if_neg c3, if_neg c4, if_neg c5, if_neg c6, if_pos c7] <;> rfl)
       ·intro c7
        refine zS [5, 6, 7, 8, 10, 56] ?_
        refine zC ?_ ?_
        ·intro c8
         refine zSF [8] (sat_spec_OpenBy _ _) ?_
         refine zR ?_
         try simp only [go_sem, simprocAttr]
         all_goals ((try clear hR1); rw [valueOf, if_neg c1, if_neg c2, if_neg c3, if_neg c4, if_neg c5, if_neg c6, if_neg c7, if_pos c8] <;> rfl)
        ·intro c8
         refine zS [5, 7, 8, 61] ?_
         refine zC ?_ ?_
         ·intro c9
          refine zS [8] ?_
          refine zR ?_
          try simp only [go_sem, simprocAttr]
          all_goals ((try clear hR1); rw [valueOf, if_neg c1, if_neg c2, if_neg c3, if_neg c4, if_neg c5, if_neg c6, if_neg c7, if_neg c8, if_pos c9] <;> rfl)
         ·intro c9 ρ hL
          refine awl_skip (awl_nil (blk_normal (hR1 _ _ (.mk ?_))))
          revert ρ hL
          refine zS [8, 65] ?_
          refine zC ?_ ?_
          ·intro c10
           refine zSF [8] (sat_spec_Plain _) ?_
           refine zR ?_
           try simp only [go_sem, simprocAttr]
           all_goals ((try clear hR1); rw [valueOf, if_neg c1, if_neg c2, if_neg c3, if_neg c4, if_neg c5, if_neg c6, if_neg c7, if_neg c8, if_neg c9, isW, if_pos c10] <;> rfl)
          ·intro c10 ρ hL
           refine awl_skip ?_
           revert ρ hL
           refine zSF [8] (sat_spec_Plain _) ?_
           refine zR ?_
           try simp only [go_sem, simprocAttr]
           all_goals ((try clear hR1); rw [valueOf, if_neg c1, if_neg c2, if_neg c3, if_neg c4, if_neg c5, if_neg c6, if_neg c7, if_neg c8, if_neg c9, isW, if_neg (by rw [c10]; exact Bool.noConfusion)] <;> rfl)
theorem sat_impl_made (x : Ins) (a : Word) (b : Word) (g : Word) (ho : 1 ≤ x.op ∧ x.op ≤ 10) : Sat Tryz.prog 281 [.agg x.cells, .agg a.cells, .agg b.cells, .agg g.cells] [] (.agg (Word.cells (valueOf x a b g))) [] := by
 have hX := trivial
 refine sat_mk [.cell 8 27] 0 68 Tryz.call281 Tryz.func281 Tryz.ntmps281 rfl rfl rfl rfl rfl ?_
 refine zI [0, 1, 2, 3] ?_
 refine zS [4, 5, 6, 7, 8] ?_
 refine zS [4, 5, 6, 7, 8, 10] ?_
 intro ρ hL
 refine awl_block fun R1 hw1 hR1 => ?_
 revert ρ hL
 refine zS [4, 5, 6, 7, 8, 10, 11] ?_
 refine zC ?_ ?_
 ·intro c1
  refine zSF [8] (sat_impl_Plain _) ?_
  refine zR ?_
  try simp only [go_sem, simprocAttr]
  all_goals ((try clear hR1); rw [valueOf, if_pos c1] <;> rfl)
 ·intro c1
  refine zS [4, 5, 6, 7, 8, 10, 16] ?_
  refine zC ?_ ?_
  ·intro c2
   refine zSF [8] (sat_impl_Plain _) ?_
   refine zR ?_
   try simp only [go_sem, simprocAttr]
   all_goals ((try clear hR1); rw [valueOf, if_neg c1, if_pos c2] <;> rfl)
  ·intro c2
   refine zS [4, 5, 6, 7, 8, 10, 24] ?_
   refine zC ?_ ?_
   ·intro c3
    refine zS [8] ?_
    refine zR ?_
    try simp only [go_sem, simprocAttr]
    all_goals ((try clear hR1); rw [valueOf, if_neg c1, if_neg c2, if_pos c3] <;> rfl)
   ·intro c3
    refine zS [4, 5, 6, 7, 8, 10, 27] ?_
    refine zC ?_ ?_
    ·intro c4
     refine zSF [8] (sat_impl_Weaken _ _) ?_
     refine zR ?_
     try simp only [go_sem, simprocAttr]
     all_goals ((try clear hR1); rw [valueOf, if_neg c1, if_neg c2, if_neg c3, if_pos c4] <;> rfl)
    ·intro c4
     refine zS [4, 5, 6, 7, 8, 10, 33] ?_
     refine zC ?_ ?_
     ·intro c5
      refine zSF [8] (sat_impl_Narrow _ _) ?_
      refine zR ?_
      try simp only [go_sem, simprocAttr]
      all_goals ((try clear hR1); rw [valueOf, if_neg c1, if_neg c2, if_neg c3, if_neg c4, if_pos c5] <;> rfl)
     ·intro c5
      refine zS [4, 5, 6, 7, 8, 10, 39] ?_
      refine zC ?_ ?_
      ·intro c6
       refine zSF [8] (sat_impl_Point _ _) ?_
       refine zR ?_
       try simp only [go_sem, simprocAttr]
       all_goals ((try clear hR1); rw [valueOf, if_neg c1, if_neg c2, if_neg c3, if_neg c4, if_neg c5, if_pos c6] <;> rfl)
      ·intro c6
       refine zS [5, 6, 7, 8, 10, 51] ?_
       refine zC ?_ ?_
       ·intro c7
        refine zSF [8] (sat_impl_SealBy _ _) ?_
        refine zR ?_
        try simp only [go_sem, simprocAttr]
        all_goals ((try clear hR1); rw [valueOf, if_neg c1, if_neg c2, if_neg c3, if_neg c4, if_neg c5, if_neg c6, if_pos c7] <;> rfl)
       ·intro c7
        refine zS [5, 6, 7, 8, 10, 56] ?_
        refine zC ?_ ?_
        ·intro c8
         refine zSF [8] (sat_impl_OpenBy _ _) ?_
         refine zR ?_
         try simp only [go_sem, simprocAttr]
         all_goals ((try clear hR1); rw [valueOf, if_neg c1, if_neg c2, if_neg c3, if_neg c4, if_neg c5, if_neg c6, if_neg c7, if_pos c8] <;> rfl)
        ·intro c8
         refine zS [5, 7, 8, 61] ?_
         refine zC ?_ ?_
         ·intro c9
          refine zS [8, 64] ?_
          refine zC ?_ ?_
          ·intro c10
           refine zSF [8] (sat_impl_Plain _) ?_
           refine zR ?_
           try simp only [go_sem, simprocAttr]
           all_goals ((try clear hR1); rw [valueOf, if_neg c1, if_neg c2, if_neg c3, if_neg c4, if_neg c5, if_neg c6, if_neg c7, if_neg c8, if_neg (by omega), isW, if_pos c10] <;> rfl)
          ·intro c10 ρ hL
           refine awl_skip ?_
           revert ρ hL
           refine zSF [8] (sat_impl_Plain _) ?_
           refine zR ?_
           try simp only [go_sem, simprocAttr]
           all_goals ((try clear hR1); rw [valueOf, if_neg c1, if_neg c2, if_neg c3, if_neg c4, if_neg c5, if_neg c6, if_neg c7, if_neg c8, if_neg (by omega), isW, if_neg (by rw [c10]; exact Bool.noConfusion)] <;> rfl)
         ·intro c9 ρ hL
          refine awl_skip (awl_nil (blk_normal (hR1 _ _ (.mk ?_))))
          revert ρ hL
          refine zS [8] ?_
          refine zR ?_
          try simp only [go_sem, simprocAttr]
          all_goals ((try clear hR1); rw [valueOf, if_neg c1, if_neg c2, if_neg c3, if_neg c4, if_neg c5, if_neg c6, if_neg c7, if_neg c8, if_pos (by omega)] <;> rfl)
theorem sat_spec_Work (x : Ins) (pc : Word) (a : Word) (b : Word) (g : Word)  : Sat Tryz.prog 218 [.agg x.cells, .agg pc.cells, .agg a.cells, .agg b.cells, .agg g.cells] [] (.agg (Fx.cells (work x pc a b g))) [] := by
 have hX := trivial
 refine sat_mk [.cell 10 94] 0 90 Tryz.call218 Tryz.func218 Tryz.ntmps218 rfl rfl rfl rfl rfl ?_
 refine zI [0, 1, 2, 3, 4] ?_
 refine zS [5, 6, 7, 8, 9, 10] ?_
 refine zSF [5, 6, 7, 8, 9, 10, 11] (sat_spec_Point _ _) ?_
 refine zS [5, 6, 7, 8, 9, 10, 11, 12] ?_
 refine zS [5, 6, 7, 8, 9, 10, 11, 12, 20] ?_
 intro ρ hL
 refine awl_block fun R1 hw1 hR1 => ?_
 revert ρ hL
 refine zS [5, 6, 7, 8, 9, 10, 11, 12, 20, 33] ?_
 refine zC ?_ ?_
 ·intro c1
  refine zS [8, 10, 11] ?_
  refine zS [10, 11] ?_
  refine zS [10] ?_
  refine zR ?_
  try simp only [go_sem, simprocAttr]
  all_goals ((try clear hR1); rw [work, if_pos c1] <;> rfl)
 ·intro c1
  refine zS [5, 6, 7, 8, 9, 10, 11, 12, 20, 44] ?_
  refine zC ?_ ?_
  ·intro c2
   refine zSF [5, 6, 7, 10, 11, 12] (sat_spec_Try _ _ _) ?_
   refine zS [6, 7, 10, 11, 12] ?_
   refine zS [6, 7, 10, 11, 12] ?_
   refine zS [6, 10, 11, 12] ?_
   intro ρ hL
   refine awl_nil (blk_normal (hR1 _ _ (.mk ?_)))
   revert ρ hL
   refine zS [6, 10, 11, 12, 85] ?_
   refine zC ?_ ?_
   ·intro c3
    refine zSF [10] (sat_spec_l9Trap _ _) ?_
    refine zR ?_
    try simp only [go_sem, simprocAttr]
    all_goals ((try clear hR1); rw [work, if_neg c1, if_pos c2, if_pos c3] <;> rfl)
   ·intro c3 ρ hL
    refine awl_skip ?_
    revert ρ hL
    refine zS [10] ?_
    refine zR ?_
    try simp only [go_sem, simprocAttr]
    all_goals ((try clear hR1); rw [work, if_neg c1, if_pos c2, if_neg (fun h => h c3)] <;> rfl)
  ·intro c2
   refine zS [5, 6, 7, 8, 9, 10, 11, 12, 20, 58] ?_
   refine zC ?_ ?_
   ·intro c4
    refine zS [5, 6, 10, 11, 62] ?_
    refine zC ?_ ?_
    ·intro c5
     refine zSF [10, 11] (sat_spec_Point _ _) ?_
     refine zS [10] ?_
     refine zR ?_
     try simp only [go_sem, simprocAttr]
     all_goals ((try clear hR1); rw [work, if_neg c1, if_neg c2, if_pos c4, if_pos c5] <;> rfl)
    ·intro c5 ρ hL
     refine awl_skip ?_
     revert ρ hL
     refine zS [10] ?_
     refine zR ?_
     try simp only [go_sem, simprocAttr]
     all_goals ((try clear hR1); rw [work, if_neg c1, if_neg c2, if_pos c4, if_neg c5] <;> rfl)
   ·intro c4
    refine zS [5, 6, 7, 8, 9, 10, 11, 12, 20, 72] ?_
    refine zC ?_ ?_
    ·intro c6
     refine zSF [6, 7, 10, 11, 12] (sat_spec_Try _ _ _) ?_
     refine zS [6, 10, 11, 12] ?_
     intro ρ hL
     refine awl_nil (blk_normal (hR1 _ _ (.mk ?_)))
     revert ρ hL
     refine zS [6, 10, 11, 12, 85] ?_
     refine zC ?_ ?_
     ·intro c7
      refine zSF [10] (sat_spec_l9Trap _ _) ?_
      refine zR ?_
      try simp only [go_sem, simprocAttr]
      all_goals ((try clear hR1); rw [work, if_neg c1, if_neg c2, if_neg c4, if_pos c6, if_pos c7] <;> rfl)
     ·intro c7 ρ hL
      refine awl_skip ?_
      revert ρ hL
      refine zS [10] ?_
      refine zR ?_
      try simp only [go_sem, simprocAttr]
      all_goals ((try clear hR1); rw [work, if_neg c1, if_neg c2, if_neg c4, if_pos c6, if_neg (fun h => h c7)] <;> rfl)
    ·intro c6
     refine zS [5, 6, 7, 8, 9, 10, 11, 12, 82] ?_
     refine zC ?_ ?_
     ·intro c8
      refine zS [6, 10, 11, 12] ?_
      intro ρ hL
      refine awl_nil (blk_normal (hR1 _ _ (.mk ?_)))
      revert ρ hL
      refine zS [6, 10, 11, 12, 85] ?_
      refine zQ ?_ ?_
      ·intro c9
       try simp only [cnd] at c9
       refine zSF [10] (sat_spec_l9Trap _ _) ?_
       refine zR ?_
       try simp only [go_sem, simprocAttr]
       all_goals ((try clear hR1); rw [work, if_neg c1, if_neg c2, if_neg c4, if_neg c6, if_pos c8] <;> rfl)
      ·intro c9
       try simp only [cnd] at c9
       first | done | simp at c9
     ·intro c8
      refine zSF [5, 6, 7, 8, 9, 10, 11, 12] (sat_spec_Sets _) ?_
      refine zS [5, 6, 7, 8, 9, 10, 11, 12, 26] ?_
      refine zC ?_ ?_
      ·intro c10
       refine zSF [6, 10, 11, 12] (sat_spec_l9Value _ _ _ _) ?_
       intro ρ hL
       refine awl_nil (blk_normal (hR1 _ _ (.mk ?_)))
       revert ρ hL
       refine zS [6, 10, 11, 12, 85] ?_
       refine zQ ?_ ?_
       ·intro c11
        try simp only [cnd] at c11
        first | done | simp at c11
       ·intro c11
        try simp only [cnd] at c11
        intro ρ hL
        refine awl_skip ?_
        revert ρ hL
        refine zS [10] ?_
        refine zR ?_
        try simp only [go_sem, simprocAttr]
        all_goals ((try clear hR1); rw [work, if_neg c1, if_neg c2, if_neg c4, if_neg c6, if_neg c8, if_pos c10] <;> rfl)
      ·intro c10 ρ hL
       refine awl_skip (awl_nil (blk_normal (hR1 _ _ (.mk ?_))))
       revert ρ hL
       refine zS [6, 10, 11, 12, 85] ?_
       refine zQ ?_ ?_
       ·intro c12
        try simp only [cnd] at c12
        first | done | simp at c12
       ·intro c12
        try simp only [cnd] at c12
        intro ρ hL
        refine awl_skip ?_
        revert ρ hL
        refine zS [10] ?_
        refine zR ?_
        try simp only [go_sem, simprocAttr]
        all_goals ((try clear hR1); rw [work, if_neg c1, if_neg c2, if_neg c4, if_neg c6, if_neg c8, if_neg c10] <;> rfl)
theorem sat_impl_Work (x : Ins) (pc : Word) (a : Word) (b : Word) (g : Word)  : Sat Tryz.prog 248 [.agg x.cells, .agg pc.cells, .agg a.cells, .agg b.cells, .agg g.cells] [] (.agg (Fx.cells (work x pc a b g))) [] := by
 have hX := trivial
 refine sat_mk [.cell 10 94] 0 94 Tryz.call248 Tryz.func248 Tryz.ntmps248 rfl rfl rfl rfl rfl ?_
 refine zI [0, 1, 2, 3, 4] ?_
 refine zS [5, 6, 7, 8, 9, 10] ?_
 refine zSF [5, 6, 7, 8, 9, 10, 11] (sat_impl_Point _ _) ?_
 refine zS [5, 6, 7, 8, 9, 10, 11, 19] ?_
 intro ρ hL
 refine awl_block fun R1 hw1 hR1 => ?_
 revert ρ hL
 refine zS [5, 6, 7, 8, 9, 10, 11, 19, 34] ?_
 refine zC ?_ ?_
 ·intro c1
  refine zD [0, 1, 0, 4, 15, 0, 31, 95, 255, 511] [6, 10, 11] ?_
  intro ρ hL
  refine awl_nil (blk_normal (hR1 _ _ (.mk ?_)))
  revert ρ hL
  refine zS [6, 10, 11, 88] ?_
  refine zQ ?_ ?_
  ·intro c2
   try simp only [cnd] at c2
   first | done | simp at c2
  ·intro c2
   try simp only [cnd] at c2
   intro ρ hL
   refine awl_skip ?_
   revert ρ hL
   refine zS [10] ?_
   refine zR ?_
   try simp only [go_sem, simprocAttr]
   all_goals ((try clear hR1); rw [work, if_pos c1] <;> rfl)
 ·intro c1
  refine zS [5, 6, 7, 8, 9, 10, 11, 19, 44] ?_
  refine zC ?_ ?_
  ·intro c3
   refine zSF [5, 6, 7, 10, 11] (sat_impl_Try _ _ _ ?hp0) ?_
   case hp0 => first | assumption | omega | (simp; done)
   refine zD [0, 1, 0, 4, 0, 15, 47, 111, 239, 511, 1023] [6, 10, 11] ?_
   intro ρ hL
   refine awl_nil (blk_normal (hR1 _ _ (.mk ?_)))
   revert ρ hL
   refine zS [6, 10, 11, 88] ?_
   refine zC ?_ ?_
   ·intro c4
    refine zSF [10] (sat_impl_trapped _ _) ?_
    refine zR ?_
    try simp only [go_sem, simprocAttr]
    all_goals ((try clear hR1); rw [work, if_neg c1, if_pos c3, if_pos c4] <;> rfl)
   ·intro c4 ρ hL
    refine awl_skip ?_
    revert ρ hL
    refine zS [10] ?_
    refine zR ?_
    try simp only [go_sem, simprocAttr]
    all_goals ((try clear hR1); rw [work, if_neg c1, if_pos c3, if_neg (fun h => h c4), c4] <;> rfl)
  ·intro c3
   refine zS [5, 6, 7, 8, 9, 10, 11, 19, 59] ?_
   refine zC ?_ ?_
   ·intro c5
    refine zS [5, 6, 10, 11, 63] ?_
    refine zC ?_ ?_
    ·intro c6
     refine zSF [6, 10, 11] (sat_impl_Point _ _) ?_
     intro ρ hL
     refine awl_nil (blk_normal (hR1 _ _ (.mk ?_)))
     revert ρ hL
     refine zS [6, 10, 11, 88] ?_
     refine zQ ?_ ?_
     ·intro c7
      try simp only [cnd] at c7
      first | done | simp at c7
     ·intro c7
      try simp only [cnd] at c7
      intro ρ hL
      refine awl_skip ?_
      revert ρ hL
      refine zS [10] ?_
      refine zR ?_
      try simp only [go_sem, simprocAttr]
      all_goals ((try clear hR1); rw [work, if_neg c1, if_neg c3, if_pos c5, if_pos c6] <;> rfl)
    ·intro c6 ρ hL
     refine awl_skip (awl_nil (blk_normal (hR1 _ _ (.mk ?_))))
     revert ρ hL
     refine zS [6, 10, 11, 88] ?_
     refine zQ ?_ ?_
     ·intro c8
      try simp only [cnd] at c8
      first | done | simp at c8
     ·intro c8
      try simp only [cnd] at c8
      intro ρ hL
      refine awl_skip ?_
      revert ρ hL
      refine zS [10] ?_
      refine zR ?_
      try simp only [go_sem, simprocAttr]
      all_goals ((try clear hR1); rw [work, if_neg c1, if_neg c3, if_pos c5, if_neg c6] <;> rfl)
   ·intro c5
    refine zS [5, 6, 7, 8, 9, 10, 11, 19, 72] ?_
    refine zC ?_ ?_
    ·intro c9
     refine zSF [6, 7, 10, 11] (sat_impl_Try _ _ _ ?hp0) ?_
     case hp0 => first | assumption | omega | (simp; done)
     refine zS [6, 10, 11] ?_
     intro ρ hL
     refine awl_nil (blk_normal (hR1 _ _ (.mk ?_)))
     revert ρ hL
     refine zS [6, 10, 11, 88] ?_
     refine zC ?_ ?_
     ·intro c10
      refine zSF [10] (sat_impl_trapped _ _) ?_
      refine zR ?_
      try simp only [go_sem, simprocAttr]
      all_goals ((try clear hR1); rw [work, if_neg c1, if_neg c3, if_neg c5, if_pos c9, if_pos c10] <;> rfl)
     ·intro c10 ρ hL
      refine awl_skip ?_
      revert ρ hL
      refine zS [10] ?_
      refine zR ?_
      try simp only [go_sem, simprocAttr]
      all_goals ((try clear hR1); rw [work, if_neg c1, if_neg c3, if_neg c5, if_pos c9, if_neg (fun h => h c10), c10] <;> rfl)
    ·intro c9
     refine zS [5, 6, 7, 8, 9, 10, 11, 83] ?_
     refine zC ?_ ?_
     ·intro c11
      refine zS [6, 10, 11] ?_
      intro ρ hL
      refine awl_nil (blk_normal (hR1 _ _ (.mk ?_)))
      revert ρ hL
      refine zS [6, 10, 11, 88] ?_
      refine zQ ?_ ?_
      ·intro c12
       try simp only [cnd] at c12
       refine zSF [10] (sat_impl_trapped _ _) ?_
       refine zR ?_
       try simp only [go_sem, simprocAttr]
       all_goals ((try clear hR1); rw [work, if_neg c1, if_neg c3, if_neg c5, if_neg c9, if_pos c11] <;> rfl)
      ·intro c12
       try simp only [cnd] at c12
       first | done | simp at c12
     ·intro c11
      refine zSF [5, 6, 7, 8, 9, 10, 11, 21] (sat_impl_hasPart _ _) ?_
      refine zC ?_ ?_
      ·intro c13
       refine zS [5, 6, 7, 8, 9, 10, 11] ?_
       refine zS [5, 6, 7, 8, 9, 10, 11, 27] ?_
       refine zC ?_ ?_
       ·intro c14
        have ho := made_op c13 c3
        refine zSF [6, 10, 11] (sat_impl_made x a b g ho) ?_
        intro ρ hL
        refine awl_nil (blk_normal (hR1 _ _ (.mk ?_)))
        revert ρ hL
        refine zS [6, 10, 11, 88] ?_
        refine zQ ?_ ?_
        ·intro c15
         try simp only [cnd] at c15
         first | done | simp at c15
        ·intro c15
         try simp only [cnd] at c15
         intro ρ hL
         refine awl_skip ?_
         revert ρ hL
         refine zS [10] ?_
         refine zR ?_
         try simp only [go_sem, simprocAttr]
         all_goals ((try clear hR1); rw [work, if_neg c1, if_neg c3, if_neg c5, if_neg c9, if_neg c11, sets_yes c13, if_pos c14] <;> rfl)
       ·intro c14 ρ hL
        refine awl_skip (awl_nil (blk_normal (hR1 _ _ (.mk ?_))))
        revert ρ hL
        refine zS [6, 10, 11, 88] ?_
        refine zQ ?_ ?_
        ·intro c16
         try simp only [cnd] at c16
         first | done | simp at c16
        ·intro c16
         try simp only [cnd] at c16
         intro ρ hL
         refine awl_skip ?_
         revert ρ hL
         refine zS [10] ?_
         refine zR ?_
         try simp only [go_sem, simprocAttr]
         all_goals ((try clear hR1); rw [work, if_neg c1, if_neg c3, if_neg c5, if_neg c9, if_neg c11, sets_yes c13, if_neg c14] <;> rfl)
      ·intro c13 ρ hL
       refine awl_skip (awl_nil (blk_normal (hR1 _ _ (.mk ?_))))
       revert ρ hL
       refine zS [6, 10, 11, 88] ?_
       refine zQ ?_ ?_
       ·intro c17
        try simp only [cnd] at c17
        first | done | simp at c17
       ·intro c17
        try simp only [cnd] at c17
        intro ρ hL
        refine awl_skip ?_
        revert ρ hL
        refine zS [10] ?_
        refine zR ?_
        try simp only [go_sem, simprocAttr]
        all_goals ((try clear hR1); rw [work, if_neg c1, if_neg c3, if_neg c5, if_neg c9, if_neg c11, sets_no c13, if_neg (by decide)] <;> rfl)
theorem sat_spec_l9Mem (m : Mem) (x : Ins) (a : Word) (b : Word) (hf : m.fit) : Sat Tryz.prog 255 [.agg m.cells, .agg x.cells, .agg a.cells, .agg b.cells] [] (.tuple [.agg (Word.cells (memOf m x a b).1), .int .i64 (memOf m x a b).2]) [] := by
 have hX := trivial
 refine sat_mk [.cell 8 27, .tmp 9] 0 42 Tryz.call255 Tryz.func255 Tryz.ntmps255 rfl rfl rfl rfl rfl ?_
 refine zI [0, 1, 2, 3] ?_
 refine zS [4, 5, 6, 7, 8] ?_
 refine zS [4, 5, 6, 7, 8, 13] ?_
 intro ρ hL
 refine awl_block fun R1 hw1 hR1 => ?_
 revert ρ hL
 refine zS [4, 5, 6, 7, 8, 13, 14] ?_
 refine zC ?_ ?_
 ·intro c1
  refine zSF [8, 10, 11] (sat_spec_Read _ _ _ ?hp0) ?_
  case hp0 => first | assumption | omega | (simp; done)
  refine zS [8, 9] ?_
  refine zR ?_
  try simp only [go_sem, simprocAttr]
  all_goals ((try clear hR1); rw [mem_load c1] <;> rfl)
 ·intro c1
  refine zS [4, 5, 6, 7, 8, 29] ?_
  refine zC ?_ ?_
  ·intro c2
   refine zSF [8, 9] (sat_spec_l8Write _ _ _ _ ?hp0) ?_
   case hp0 => first | assumption | omega | (simp; done)
   refine zR ?_
   try simp only [go_sem, simprocAttr]
   all_goals ((try clear hR1); rw [mem_store c1 c2] <;> rfl)
  ·intro c2 ρ hL
   refine awl_skip (awl_nil (blk_normal (hR1 _ _ (.mk ?_))))
   revert ρ hL
   refine zS [8, 9] ?_
   refine zR ?_
   try simp only [go_sem, simprocAttr]
   all_goals ((try clear hR1); rw [mem_none c1 c2] <;> rfl)
theorem sat_impl_effectOf (l : List Ins) (s : Stt) (hl : l.length ≤ 1048576) (hf : s.fit) (hk : sttOk s = true) : Sat Tryz.prog 254 [.sl l.length l.length (rows l), .agg s.cells] [] (.agg (Fx.cells (fxOf l s))) [] := by
 have hX := trivial
 refine sat_mk [.cell 4 94] 0 77 Tryz.call254 Tryz.func254 Tryz.ntmps254 rfl rfl rfl rfl rfl ?_
 refine zI [0, 1] ?_
 refine zS [0, 3, 4] ?_
 refine zSF [3, 4, 5, 6] (sat_impl_Fetch l s.pc hl) ?_
 refine zS [3, 4, 5, 6, 18] ?_
 refine zC ?_ ?_
 ·intro c1
  refine zSF [4] (sat_impl_trapped _ _) ?_
  refine zR ?_
  try simp only [go_sem, simprocAttr]
  all_goals (rw [fx_fetch c1] <;> rfl)
 ·intro c1 ρ hL
  refine awl_skip ?_
  have hx := fetch_regs c1
  have h8 := (sttOk_parts hk).2.1
  have hna : (fetch l s.pc).1.a.toNat < s.regs.length := by omega
  have hnb : (fetch l s.pc).1.b.toNat < s.regs.length := by omega
  revert ρ hL
  refine zDX [0, 1, 0, 4, 15, 31, 0, 64, 0, 256, 960, 1984, 0, 0, 12351, 32767] [3, 4, 5, 6, 7, 8] (And.intro hna (And.intro hnb hX)) ?_
  refine zS [3, 4, 5, 6, 7, 8, 9] ?_
  refine zS [3, 4, 5, 6, 7, 8, 9, 37] ?_
  intro ρ hL
  refine awl_block fun R1 hw1 hR1 => ?_
  revert ρ hL
  refine zS [3, 4, 5, 6, 7, 8, 9, 37, 38] ?_
  refine zC ?_ ?_
  ·intro c2
   refine zSF [3, 4, 5, 6, 7, 8, 9] (sat_impl_Read s.mem _ _ hf.2) ?_
   intro ρ hL
   refine awl_nil (blk_normal (hR1 _ _ (.mk ?_)))
   revert ρ hL
   refine zS [3, 4, 5, 6, 7, 8, 9, 65] ?_
   refine zC ?_ ?_
   ·intro c3
    refine zSF [4] (sat_impl_trapped _ _) ?_
    refine zR ?_
    try simp only [go_sem, simprocAttr]
    all_goals ((try clear hR1); rw [fx_mem c1 (by rw [mem_load c2]; exact c3), mem_load c2] <;> rfl)
   ·intro c3 ρ hL
    refine awl_skip ?_
    revert ρ hL
    refine zSF [4] (sat_impl_Work _ _ _ _ _) ?_
    refine zR ?_
    try simp only [go_sem, simprocAttr]
    all_goals ((try clear hR1); rw [fx_work c1 (by rw [mem_load c2]; exact c3), mem_load c2] <;> rfl)
  ·intro c2
   refine zS [3, 4, 5, 6, 7, 8, 9, 52] ?_
   refine zC ?_ ?_
   ·intro c4
    refine zSF [3, 4, 5, 6, 7, 8, 9] (sat_impl_writeCode s.mem _ _ _ hf.2) ?_
    intro ρ hL
    refine awl_nil (blk_normal (hR1 _ _ (.mk ?_)))
    revert ρ hL
    refine zS [3, 4, 5, 6, 7, 8, 9, 65] ?_
    refine zC ?_ ?_
    ·intro c5
     refine zSF [4] (sat_impl_trapped _ _) ?_
     refine zR ?_
     try simp only [go_sem, simprocAttr]
     all_goals ((try clear hR1); rw [fx_mem c1 (by rw [mem_store c2 c4]; exact c5), mem_store c2 c4] <;> rfl)
    ·intro c5 ρ hL
     refine awl_skip ?_
     revert ρ hL
     refine zSF [4] (sat_impl_Work (fetch l s.pc).1 s.pc (reg s (fetch l s.pc).1.a) (reg s (fetch l s.pc).1.b) noWord) ?_
     refine zR ?_
     try simp only [go_sem, simprocAttr]
     all_goals ((try clear hR1); rw [fx_work c1 (by rw [mem_store c2 c4]; exact c5), mem_store c2 c4] <;> rfl)
   ·intro c4 ρ hL
    refine awl_skip (awl_nil (blk_normal (hR1 _ _ (.mk ?_))))
    revert ρ hL
    refine zS [3, 4, 5, 6, 7, 8, 9, 65] ?_
    refine zQ ?_ ?_
    ·intro c6
     try simp only [cnd] at c6
     exact absurd c1 c6
    ·intro c6
     try simp only [cnd] at c6
     intro ρ hL
     refine awl_skip ?_
     revert ρ hL
     refine zSF [4] (sat_impl_Work (fetch l s.pc).1 s.pc (reg s (fetch l s.pc).1.a) (reg s (fetch l s.pc).1.b) noWord) ?_
     refine zR ?_
     try simp only [go_sem, simprocAttr]
     all_goals ((try clear hR1); rw [fx_work c1 (by rw [mem_none c2 c4]), mem_none c2 c4] <;> rfl)
end Go.Proofs.YtgpjgljgplngpaaGreatDoor.AM
