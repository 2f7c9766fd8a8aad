/- What is drawn: picks. No conditions but those each theorem bears. -/
import Derived.Test.YtdifphcihhbjlaaGreatFa
import Derived.Test.YtdifphcihhbjlaaGreatM7
import Derived.Test.YtdifphcihhbjlaaGreatCb7
import Derived.Test.YtdifphcihhbjlaaGreatCa60
set_option linter.unusedSimpArgs false
set_option linter.unusedVariables false
namespace Go.Proofs.YtdifphcihhbjlaaGreat.AM
open Go
set_option maxHeartbeats 8000000
set_option maxRecDepth 100000

theorem okC_fit {c : Cor} (h : corOk c = true) : c.fit := by
  have hk := corOk_iff.1 h
  have hg := guessOk_iff.1 hk.2.2.2.2
  exact ⟨ok_fit hk.2.1, by omega, by omega⟩
theorem sat_spec_l16DrawPick (c : Cu) (n : Int)  : ∃ (a b : Int) (d : Cu), (True) ∧ Sat Tryz.prog 101 [.ptr 0 0, .int .i64 n] [⟨3, c.cells, true, false⟩] (.agg [.int .i64 a, .int .i64 b]) [⟨3, d.cells, true, false⟩] := by
 suffices hE : ∃ zv zh, (∃ (a b : Int) (d : Cu), (True) ∧ zv = (.agg [.int .i64 a, .int .i64 b]) ∧ zh = [⟨3, d.cells, true, false⟩]) ∧ Sat Tryz.prog 101 [.ptr 0 0, .int .i64 n] [⟨3, c.cells, true, false⟩] zv zh from by
   obtain ⟨_, _, ⟨a, b, d, hq, rfl, rfl⟩, hs⟩ := hE
   exact ⟨a, b, d, hq, hs⟩
 have hX := trivial
 refine sat_ex [.cell 4 60] 1 28 Tryz.call101 Tryz.func101 Tryz.ntmps101 rfl rfl rfl rfl rfl ?_
 refine zI [0, 1] ?_
 refine zS [0, 1, 4] ?_
 obtain ⟨x0, c, hx0, hs1⟩ := sat_spec_l1Below c 10
 have hb0 := hx0.2.1 (by decide)
 intro ρ hL
 refine zA ?_
 intro K hK
 refine zFJ [0] (hs1) ?_
 refine zE [0, 1, 4, 6] ?_
 clear hK K hL
 intro ρ hL
 refine awl_block fun R1 hw1 hR1 => ?_
 revert ρ hL
 refine zS [0, 1, 4, 6, 7] ?_
 intro ρ hL
 have j1 := hL
 refine awl_joinH (fun H0 σ G => (liveE [0, 1, 4, 6] σ ρ ∧ σ 7 = .bool (decide (x0 = 0 ∨ x0 = 1 ∨ x0 = 2))) ∧ G = H0) ?inner1 (fun ρ G hJ => ?after1)
 case inner1 =>
  refine zN [0, 1, 4, 6, 7] ?_
  clear hL
  refine zC ?_ ?_
  · intro c1
    intro ρ hL
    refine awl_skip ?_
    refine awl_nil ?_
    show wkQ _ _ _ _
    refine .mk ⟨⟨(by simp only [go_sem, simprocAttr, hL, hX, j1]), (by rw [hL.2.2.2.2]; first | rfl | (congr 1; rw [Bool.eq_iff_iff]; simp; omega))⟩, rfl⟩
  · intro c1
    refine zS [0, 1, 4, 6, 7] ?_
    refine zC ?_ ?_
    · intro c2
      intro ρ hL
      refine awl_skip ?_
      refine awl_nil ?_
      show wkQ _ _ _ _
      refine .mk ⟨⟨(by simp only [go_sem, simprocAttr, hL, hX, j1]), (by rw [hL.2.2.2.2]; first | rfl | (congr 1; rw [Bool.eq_iff_iff]; simp; omega))⟩, rfl⟩
    · intro c2
      refine zS [0, 1, 4, 6, 7] ?_
      intro ρ hL
      refine awl_nil ?_
      show wkQ _ _ _ _
      refine .mk ⟨⟨(by simp only [go_sem, simprocAttr, hL, hX, j1]), (by rw [hL.2.2.2.2]; first | rfl | (congr 1; rw [Bool.eq_iff_iff]; simp; omega))⟩, rfl⟩
 case after1 =>
  clear hL
  obtain ⟨hL, hG⟩ := hJ
  subst hG
  try simp only [go_sem, simprocAttr, j1, hX] at hL
  revert ρ hL
  refine zC ?_ ?_
  · intro c3
    refine zS [4] ?_
    refine zX [] [0] ?_
    refine ⟨?y1_0, ?y1_1, c, ?hq1, ?hv1, ?hh1⟩
    case hv1 => (try simp only [go_sem, simprocAttr, hX]); first | done | rfl
    case hh1 => (try simp only [go_sem, simprocAttr, hX]); first | done | rfl
    all_goals try clear hR1
    all_goals (first | trivial | assumption | omega | (simp; done))
  · intro c3
    refine zS [0, 1, 4, 6, 12] ?_
    intro ρ hL
    have j2 := hL
    refine awl_joinH (fun H0 σ G => (liveE [0, 1, 4, 6] σ ρ ∧ σ 12 = .bool (decide (x0 = 3 ∨ x0 = 4 ∨ x0 = 5 ∨ x0 = 6))) ∧ G = H0) ?inner2 (fun ρ G hJ => ?after2)
    case inner2 =>
     refine zN [0, 1, 4, 6, 12] ?_
     clear hL
     refine zC ?_ ?_
     · intro c4
       intro ρ hL
       refine awl_skip ?_
       refine awl_nil ?_
       show wkQ _ _ _ _
       refine .mk ⟨⟨(by simp only [go_sem, simprocAttr, hL, hX, j2]), (by rw [hL.2.2.2.2]; first | rfl | (congr 1; rw [Bool.eq_iff_iff]; simp; omega))⟩, rfl⟩
     · intro c4
       refine zS [0, 1, 4, 6, 12] ?_
       refine zC ?_ ?_
       · intro c5
         intro ρ hL
         refine awl_skip ?_
         refine awl_nil ?_
         show wkQ _ _ _ _
         refine .mk ⟨⟨(by simp only [go_sem, simprocAttr, hL, hX, j2]), (by rw [hL.2.2.2.2]; first | rfl | (congr 1; rw [Bool.eq_iff_iff]; simp; omega))⟩, rfl⟩
       · intro c5
         refine zS [0, 1, 4, 6, 12] ?_
         refine zC ?_ ?_
         · intro c6
           intro ρ hL
           refine awl_skip ?_
           refine awl_nil ?_
           show wkQ _ _ _ _
           refine .mk ⟨⟨(by simp only [go_sem, simprocAttr, hL, hX, j2]), (by rw [hL.2.2.2.2]; first | rfl | (congr 1; rw [Bool.eq_iff_iff]; simp; omega))⟩, rfl⟩
         · intro c6
           refine zS [0, 1, 4, 6, 12] ?_
           intro ρ hL
           refine awl_nil ?_
           show wkQ _ _ _ _
           refine .mk ⟨⟨(by simp only [go_sem, simprocAttr, hL, hX, j2]), (by rw [hL.2.2.2.2]; first | rfl | (congr 1; rw [Bool.eq_iff_iff]; simp; omega))⟩, rfl⟩
    case after2 =>
     clear hL
     obtain ⟨hL, hG⟩ := hJ
     subst hG
     try simp only [go_sem, simprocAttr, j2, hX] at hL
     revert ρ hL
     refine zC ?_ ?_
     · intro c7
       obtain ⟨x1, c, hx1, hs2⟩ := sat_spec_l1Below c (max n 1)
       intro ρ hL
       refine zA ?_
       intro K hK
       refine zF (sat_spec_l1Max _ _) ?_
       refine zFJ [0] (hs2) ?_
       refine zE [4] ?_
       clear hK K hL
       refine zX [] [0] ?_
       refine ⟨?y2_0, ?y2_1, c, ?hq2, ?hv2, ?hh2⟩
       case hv2 => (try simp only [go_sem, simprocAttr, hX]); first | done | rfl
       case hh2 => (try simp only [go_sem, simprocAttr, hX]); first | done | rfl
       all_goals try clear hR1
       all_goals (first | trivial | assumption | omega | (simp; done))
     · intro c7
       refine zS [0, 4, 22] ?_
       refine zC ?_ ?_
       · intro c8
         obtain ⟨x1, c, hx1, hs3⟩ := sat_spec_l1Below c 25
         have hb1 := hx1.2.1 (by decide)
         intro ρ hL
         refine zA ?_
         intro K hK
         refine zFJ [0] (hs3) ?_
         refine zE [4] ?_
         clear hK K hL
         refine zX [] [0] ?_
         refine ⟨?y3_0, ?y3_1, c, ?hq3, ?hv3, ?hh3⟩
         case hv3 => (try simp only [go_sem, simprocAttr, hX]); first | done | rfl
         case hh3 => (try simp only [go_sem, simprocAttr, hX]); first | done | rfl
         all_goals try clear hR1
         all_goals (first | trivial | assumption | omega | (simp; done))
       · intro c8
         intro ρ hL
         refine awl_skip ?_
         refine awl_nil ?_
         refine blk_normal (hR1 _ _ (.mk ?_))
         revert ρ hL
         refine zS [4] ?_
         refine zX [] [0] ?_
         refine ⟨?y4_0, ?y4_1, c, ?hq4, ?hv4, ?hh4⟩
         case hv4 => (try simp only [go_sem, simprocAttr, hX]); first | done | rfl
         case hh4 => (try simp only [go_sem, simprocAttr, hX]); first | done | rfl
         all_goals try clear hR1
         all_goals (first | trivial | assumption | omega | (simp; done))
theorem sat_spec_l1Long (bs : List UInt8) (m : Int) (n : Int) (hb : bs.length ≤ 1048576) (hm : 0 ≤ m ∧ m ≤ 1000) (hn9 : 0 ≤ n ∧ n ≤ 1000) : ∃ (x : Int), (0 ≤ x ∧ x ≤ n) ∧ Sat Tryz.prog 108 [.sl bs.length bs.length (bytesV bs), .int .i64 m, .int .i64 n] [] (.int .i64 x) [] := by
 suffices hE : ∃ zv zh, (∃ (x : Int), (0 ≤ x ∧ x ≤ n) ∧ zv = (.int .i64 x) ∧ zh = []) ∧ Sat Tryz.prog 108 [.sl bs.length bs.length (bytesV bs), .int .i64 m, .int .i64 n] [] zv zh from by
   obtain ⟨_, _, ⟨x, hq, rfl, rfl⟩, hs⟩ := hE
   exact ⟨x, hq, hs⟩
 have hX := trivial
 refine sat_ex [.tmp 6] 0 18 Tryz.call108 Tryz.func108 Tryz.ntmps108 rfl rfl rfl rfl rfl ?_
 refine zI [0, 1, 2] ?_
 refine zS [0, 1, 2] ?_
 have hd0 : 0 ≤ (bs.length : Int).tdiv 4 ∧ (bs.length : Int).tdiv 4 ≤ 1048576 := by rw [Int.tdiv_eq_ediv_of_nonneg (by omega)]; omega
 have w0 : IntKind.i64.wrap ((bs.length : Int).tdiv 4) = (bs.length : Int).tdiv 4 := wrap64 (by omega)
 have w1 : IntKind.i64.wrap (m + (bs.length : Int).tdiv 4) = m + (bs.length : Int).tdiv 4 := wrap64 (by omega)
 have hX0 := hX
 replace hX := And.intro w0 (And.intro w1 hX)
 refine zS [2, 7] ?_
 clear hX
 have hX := hX0
 clear hX0
 refine zS [2, 7, 15] ?_
 refine zC ?_ ?_
 · intro c1
   refine zS [6] ?_
   refine zX [] [] ?_
   refine ⟨n, ?hq1, ?hv1, ?hh1⟩
   case hv1 => (try simp only [go_sem, simprocAttr, hX]); first | done | rfl
   case hh1 => (try simp only [go_sem, simprocAttr, hX]); first | done | rfl
   all_goals (exact ⟨hn9.1, Int.le_refl _⟩)
 · intro c1
   intro ρ hL
   refine awl_skip ?_
   revert ρ hL
   refine zS [6] ?_
   refine zX [] [] ?_
   refine ⟨?xl0, ?hq2, ?hv2, ?hh2⟩
   case hv2 => (try simp only [go_sem, simprocAttr, hX]); first | done | rfl
   case hh2 => (try simp only [go_sem, simprocAttr, hX]); first | done | rfl
   all_goals (exact ⟨by omega, by omega⟩)
theorem sat_spec_l16DrawPicks (c : Cu) (n : Int) (h0 : 0 ≤ n ∧ n ≤ 1000) : ∃ (ps : List Pik) (d : Cu), ((ps.length : Int) ≤ n) ∧ Sat Tryz.prog 107 [.ptr 0 0, .int .i64 n] [⟨3, c.cells, true, false⟩] (.slice 1 0 ps.length 0) [⟨3, d.cells, true, false⟩, ⟨2, rows ps, true, false⟩] := by
 suffices hE : ∃ zv zh, (∃ (ps : List Pik) (d : Cu), ((ps.length : Int) ≤ n) ∧ zv = (.slice 1 0 ps.length 0) ∧ zh = [⟨3, d.cells, true, false⟩, ⟨2, rows ps, true, false⟩]) ∧ Sat Tryz.prog 107 [.ptr 0 0, .int .i64 n] [⟨3, c.cells, true, false⟩] zv zh from by
   obtain ⟨_, _, ⟨ps, d, hq, rfl, rfl⟩, hs⟩ := hE
   exact ⟨ps, d, hq, hs⟩
 have hX := trivial
 refine sat_ex [.tmp 4] 1 24 Tryz.call107 Tryz.func107 Tryz.ntmps107 rfl rfl rfl rfl rfl ?_
 refine zI [0, 1] ?_
 refine zS [0, 1] ?_
 intro ρ hL
 refine zA ?_
 intro K hK
 refine hK _ _ ⟨_, _, (Wk.norm [2] (RefE.refl.upd (t := 5) (by simp only [go_sem, simprocAttr]; first | done | rfl) (Ref.esl 1 ⟨Nat.le_refl _, Nat.lt_succ_self _⟩))), awl_live' [0, 1, 5] fun ρ hM => ?_⟩
 try simp only [go_sem, simprocAttr, hL, hX] at hM
 clear hK K hL
 try simp only [go_sem, simprocAttr]
 revert ρ hM
 obtain ⟨p0, hn0, e0⟩ : ∃ p0 : List Pik, p0.length = 0 ∧ rows p0 = [] := ⟨[], rfl, rfl⟩
 intro ρ hL
 rw [show (⟨2, [], true, false⟩ : Blk) = ⟨2, rows p0, true, false⟩ by rw [e0]]
 obtain ⟨x0, c, hx0, hs1⟩ := sat_spec_l1Below c (n + 1)
 have hb0 := hx0.2.1 (by omega)
 have w1 : IntKind.i64.wrap (n + 1) = n + 1 := wrap64 (by omega)
 have hX0 := hX
 replace hX := And.intro w1 hX
 refine zA ?_
 intro K hK
 refine zFJ [0] (hs1) ?_
 refine zE [0, 5, 6] ?_
 clear hK K hL
 clear hX
 have hX := hX0
 clear hX0
 refine zS [0, 5, 6, 7] ?_
 intro ρ hL
 have e1 := hL
 refine awl_loopH (fun H0 n σ G => ∃ (ps : List Pik) (c : Cu) (i : Nat), n = x0.toNat - i ∧ (i ≤ x0.toNat) ∧ (ps.length ≤ i) ∧ (liveE [0, 6] σ ρ ∧ σ 5 = .slice 1 0 ps.length 0 ∧ σ 7 = .int .i64 (i : Int)) ∧ G = [⟨3, c.cells, true, false⟩, ⟨2, rows ps, true, false⟩]) (fun H0 σ G => ∃ (ps : List Pik) (c : Cu), ((ps.length : Int) ≤ n) ∧ (σ 5 = .slice 1 0 ps.length 0) ∧ G = [⟨3, c.cells, true, false⟩, ⟨2, rows ps, true, false⟩]) ((fun (ps : List Pik) (c : Cu) (i : Nat) => x0.toNat - i) p0  c  0) ?init1 (fun n ρ G hI => ?round1) (fun ρ G hJ => ?after1)
 case init1 => exact ⟨p0, c, 0, rfl, (Nat.zero_le _), (by omega), ⟨liveE_refl _ _, (by rw [hL.2.1, hn0]), (hL.2.2.2)⟩, rfl⟩
 case round1 =>
  clear hL
  obtain ⟨ps, c, i, hn, i1_0, i1_1, hL, hG⟩ := hI
  subst hG
  try simp only [go_sem, simprocAttr, e1, hX] at hL
  revert ρ hL
  refine zS [0, 5, 6, 7, 15] ?_
  refine zC ?_ ?_
  · intro c1
    intro ρ hL
    refine awl_skip ?_
    refine awl_seq ?_
    refine awl_block fun R1 hw1 hR1 => ?_
    obtain ⟨a, b, c, hab, hs2⟩ := sat_spec_l16DrawPick c 5
    refine zA ?_
    intro K hK
    refine zFJ [0] (hs2) ?_
    refine zE [0, 5, 6, 7] ?_
    clear hK K hL
    intro ρ hL
    refine awl_nil ?_
    refine blk_normal (hR1 _ _ (.mk ?_))
    have wi : IntKind.i64.wrap ((i : Int) + 1) = ((i + 1 : Nat) : Int) := by rw [wrap64 (by omega)]; omega
    have hX0 := hX
    replace hX := And.intro wi hX
    revert ρ hL
    refine zS [0, 5, 6, 7] ?_
    clear hX
    have hX := hX0
    clear hX0
    intro ρ hL
    refine awl_nil ?_
    refine loop_againW (Wk.keep [0, 3] rfl) _ ?meas ⟨(ps ++ [⟨a, b⟩]), c, (i + 1), rfl, (by omega), (by rw [List.length_append]; simp; omega), ⟨(by simp only [go_sem, simprocAttr, hL, hX, e1]), (by simp only [go_sem, simprocAttr, hL, hX, e1]; rw [List.length_append]; rfl), (by simp only [go_sem, simprocAttr, hL, hX, e1]; first | done | rfl)⟩, (by simp only [go_sem, simprocAttr, hL, hX, e1]; rw [rows_append, rows_one]; rfl)⟩
    case meas => subst hn; omega
  · intro c1
    intro ρ hL
    refine awl_exit ?_
    refine loop_break ?_
    exact ⟨ps, c, (by omega), (hL.2.1), rfl⟩
 case after1 =>
  clear hL
  obtain ⟨ps, c, j1_0, hL, hG⟩ := hJ
  subst hG
  revert ρ hL
  refine zS [4] ?_
  refine zX [1] [0, 1] ?_
  refine ⟨ps, c, ?hq1, ?hv1, ?hh1⟩
  case hv1 => (try simp only [go_sem, simprocAttr, hX]); first | done | rfl
  case hh1 => (try simp only [go_sem, simprocAttr, hX]); first | done | rfl
  all_goals try clear hR1
  all_goals (assumption)
end Go.Proofs.YtdifphcihhbjlaaGreat.AM
