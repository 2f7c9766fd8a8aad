/- What is drawn: lines, desks, sessions. No conditions but those each theorem bears. -/
import Derived.Test.YtgpjgljgplngpaaGreatDoorFa
import Derived.Test.YtgpjgljgplngpaaGreatDoorCa93
import Derived.Test.YtgpjgljgplngpaaGreatDoorCb7
import Derived.Test.YtgpjgljgplngpaaGreatDoorCa85
set_option linter.unusedSimpArgs false
set_option linter.unusedVariables false
namespace Go.Proofs.YtgpjgljgplngpaaGreatDoor.AM
open Go
set_option maxHeartbeats 8000000
set_option maxRecDepth 100000
theorem sat_spec_l1Pick (c : Cu) (xs : List Bs) (h0 : 0 < xs.length) : ∃ (y : Bs) (d : Cu), (y ∈ xs) ∧ Sat Tryz.prog 86 [.ptr 0 0, .slice 1 0 xs.length xs.length] [⟨3, c.cells, true, false⟩, ⟨1, strsV xs, true, false⟩] (.str (bt y)) [⟨3, d.cells, true, false⟩, ⟨1, strsV xs, true, false⟩] := by
 suffices hE : ∃ zv zh, (∃ (y : Bs) (d : Cu), (y ∈ xs) ∧ zv = (.str (bt y)) ∧ zh = [⟨3, d.cells, true, false⟩, ⟨1, strsV xs, true, false⟩]) ∧ Sat Tryz.prog 86 [.ptr 0 0, .slice 1 0 xs.length xs.length] [⟨3, c.cells, true, false⟩, ⟨1, strsV xs, true, false⟩] zv zh from by
  obtain ⟨_, _, ⟨y, d, hq, rfl, rfl⟩, hs⟩ := hE
  exact ⟨y, d, hq, hs⟩
 have hX := trivial
 refine sat_ex [.tmp 4] 2 12 Tryz.call86 Tryz.func86 Tryz.ntmps86 rfl rfl rfl rfl rfl ?_
 refine zI [0, 1] ?_
 refine zS [0, 1] ?_
 obtain ⟨x, c, hx, hs1⟩ := sat_spec_l1Below c (xs.length : Int)
 have hx2 := hx.2.1 (by omega)
 have hn : x.toNat < xs.length := by omega
 have hd := strsV_at hn
 have hsl := strsV_len (xs := xs)
 have hX0 := hX
 replace hX := And.intro hn (And.intro hd (And.intro hsl hX))
 intro ρ hL
 refine zA ?_
 intro K hK
 refine zFJ [0] (hs1) ?_
 refine zE [4] ?_
 clear hK K hL
 clear hX
 have hX := hX0
 clear hX0
 refine zX [] [0, 1] ?_
 refine ⟨xs.getD x.toNat [], c, ?hq1, ?hv1, ?hh1⟩
 case hv1 => (try simp only [go_sem, simprocAttr, hX]); first | done | rfl
 case hh1 => (try simp only [go_sem, simprocAttr, hX]); first | done | rfl
 all_goals (exact strs_mem hn)
theorem sat_spec_l1Long (bs : List UInt8) (m : Int) (n : Int) (hb : bs.length ≤ 1048576) (hm : 0 ≤ m ∧ m ≤ 1000) (hn9 : 0 ≤ n ∧ n ≤ 1000) : ∃ (x : Int), (0 ≤ x ∧ x ≤ n) ∧ Sat Tryz.prog 63 [.sl bs.length bs.length (bytesV bs), .int .i64 m, .int .i64 n] [] (.int .i64 x) [] := by
 suffices hE : ∃ zv zh, (∃ (x : Int), (0 ≤ x ∧ x ≤ n) ∧ zv = (.int .i64 x) ∧ zh = []) ∧ Sat Tryz.prog 63 [.sl bs.length bs.length (bytesV bs), .int .i64 m, .int .i64 n] [] zv zh from by
  obtain ⟨_, _, ⟨x, hq, rfl, rfl⟩, hs⟩ := hE
  exact ⟨x, hq, hs⟩
 have hX := trivial
 refine sat_ex [.tmp 6] 0 18 Tryz.call63 Tryz.func63 Tryz.ntmps63 rfl rfl rfl rfl rfl ?_
 refine zI [0, 1, 2] ?_
 refine zS [0, 1, 2] ?_
 have hd0 : 0 ≤ (bs.length : Int).tdiv 4 ∧ (bs.length : Int).tdiv 4 ≤ 1048576 := by rw [Int.tdiv_eq_ediv_of_nonneg (by omega)]; omega
 have w0 : IntKind.i64.wrap ((bs.length : Int).tdiv 4) = (bs.length : Int).tdiv 4 := wrap64 (by omega)
 have w1 : IntKind.i64.wrap (m + (bs.length : Int).tdiv 4) = m + (bs.length : Int).tdiv 4 := wrap64 (by omega)
 refine zSX [2, 7] (And.intro w0 (And.intro w1 hX)) ?_
 refine zS [2, 7, 15] ?_
 refine zC ?_ ?_
 ·intro c1
  refine zS [6] ?_
  refine zX [] [] ?_
  refine ⟨n, ?hq1, ?hv1, ?hh1⟩
  case hv1 => (try simp only [go_sem, simprocAttr, hX]); first | done | rfl
  case hh1 => (try simp only [go_sem, simprocAttr, hX]); first | done | rfl
  all_goals (exact ⟨hn9.1, Int.le_refl _⟩)
 ·intro c1 ρ hL
  refine awl_skip ?_
  revert ρ hL
  refine zS [6] ?_
  refine zX [] [] ?_
  refine ⟨?xl0, ?hq2, ?hv2, ?hh2⟩
  case hv2 => (try simp only [go_sem, simprocAttr, hX]); first | done | rfl
  case hh2 => (try simp only [go_sem, simprocAttr, hX]); first | done | rfl
  all_goals (exact ⟨by omega, by omega⟩)
section
attribute [local go_sem] mk_bt bt_app bt_fits strsV_nil strsV_cons
theorem sat_spec_l20DrawLine (c : Cu)  : ∃ (y : Bs) (d : Cu), (y.length ≤ 30) ∧ Sat Tryz.prog 42 [.ptr 0 0] [⟨3, c.cells, true, false⟩] (.str (bt y)) [⟨3, d.cells, true, false⟩] := by
 suffices hE : ∃ zv zh, (∃ (y : Bs) (d : Cu), (y.length ≤ 30) ∧ zv = (.str (bt y)) ∧ zh = [⟨3, d.cells, true, false⟩]) ∧ Sat Tryz.prog 42 [.ptr 0 0] [⟨3, c.cells, true, false⟩] zv zh from by
  obtain ⟨_, _, ⟨y, d, hq, rfl, rfl⟩, hs⟩ := hE
  exact ⟨y, d, hq, hs⟩
 have hX := trivial
 refine sat_ex [.tmp 2] 1 19 Tryz.call42 Tryz.func42 Tryz.ntmps42 rfl rfl rfl rfl rfl ?_
 refine zI [0] ?_
 refine zS [0] ?_
 obtain ⟨x0, c, hx0, hs1⟩ := sat_spec_l1Below c 6
 have hb0 := hx0.2.1 (by decide)
 intro ρ hL
 refine zA ?_
 intro K hK
 refine zFJ [0] (hs1) ?_
 refine zE [0, 4] ?_
 clear hK K hL
 intro ρ hL
 refine awl_block fun R1 hw1 hR1 => ?_
 revert ρ hL
 refine zS [0, 4, 5] ?_
 intro ρ hL
 have j1 := hL
 refine awl_joinH (fun H0 σ G => (liveE [0, 4] σ ρ ∧ σ 5 = .bool (decide (x0 = 0 ∨ x0 = 1))) ∧ G = H0) ?inner1 (fun ρ G hJ => ?after1)
 case inner1 =>
  refine zN [0, 4, 5] ?_
  clear hL
  refine zC ?_ ?_
  ·intro c1 ρ hL
   refine awl_skip (awl_nil ?_)
   show wkQ _ _ _ _
   refine .mk ⟨⟨(by simp only [go_sem, simprocAttr, hL, hX, j1]), (by rw [hL.2.2]; first | rfl | (congr 1; rw [Bool.eq_iff_iff]; simp; omega))⟩, rfl⟩
  ·intro c1
   refine zS [0, 4, 5] ?_
   intro ρ hL
   refine awl_nil ?_
   show wkQ _ _ _ _
   refine .mk ⟨⟨(by simp only [go_sem, simprocAttr, hL, hX, j1]), (by rw [hL.2.2]; first | rfl | (congr 1; rw [Bool.eq_iff_iff]; simp; omega))⟩, rfl⟩
 case after1 =>
  clear hL
  obtain ⟨hL, hG⟩ := hJ
  subst hG
  try simp only [go_sem, simprocAttr, j1, hX] at hL
  revert ρ hL
  refine zC ?_ ?_
  ·intro c2
   refine zS [2] ?_
   refine zX [] [0] ?_
   refine ⟨[112, 117, 108, 108], c, ?hq1, ?hv1, ?hh1⟩
   case hv1 => (try simp only [go_sem, simprocAttr, hX]); first | done | rfl
   case hh1 => (try simp only [go_sem, simprocAttr, hX]); first | done | rfl
   all_goals ((try clear hR1); decide)
  ·intro c2
   refine zS [0, 4, 8] ?_
   refine zC ?_ ?_
   ·intro c3
    obtain ⟨x1, c, hx1, hs2⟩ := sat_spec_l1Below c 4
    have hb1 := hx1.2.1 (by decide)
    have hil := itoa_len (n := x1) (by omega)
    have f1 : lenOk [100, 111, 32] (itoa x1) = true := lenOk_of (by simp only [List.length_cons, List.length_nil]; omega)
    intro ρ hL
    repeat refine awl_seq ?_
    refine awl_regS _ rfl fun K hK => ?_
    try simp only [go_sem, simprocAttr, hL, hX, f1]
    repeat' refine And.intro (by first | rfl | omega | (simp; done)) ?_
    refine zFJ [0] (hs2) ?_
    refine opS_call_ro rfl (sat_spec_l7Digits x1 (by omega)) ?ha ?hv ?hh ?_
    case ha => simp only [go_sem, simprocAttr, hL, hX, f1]; first | done | rfl
    case hv => first | rfl | (simp only [go_sem]; done)
    case hh => first | rfl | (simp only [go_sem]; done)
    try simp only [go_sem, simprocAttr, hL, hX, f1]
    repeat' refine And.intro (by first | rfl | omega | (simp; done)) ?_
    refine hK _ _ (.mk (awl_live' [2] fun ρ hM => ?_))
    try simp only [go_sem, simprocAttr, hL, hX, f1] at hM
    clear hK K hL
    revert ρ hM
    refine zX [] [0] ?_
    refine ⟨[100, 111, 32] ++ itoa x1, c, ?hq2, ?hv2, ?hh2⟩
    case hv2 => (try simp only [go_sem, simprocAttr, hX]); first | done | rfl
    case hh2 => (try simp only [go_sem, simprocAttr, hX]); first | done | rfl
    all_goals ((try clear hR1); have hil := itoa_len (n := x1) (by omega); simp only [List.length_append, List.length_cons, List.length_nil]; omega)
   ·intro c3
    refine zS [0, 14] ?_
    refine zC ?_ ?_
    ·intro c4
     refine zS [2] ?_
     refine zX [] [0] ?_
     refine ⟨[99, 111, 109, 109, 105, 116], c, ?hq3, ?hv3, ?hh3⟩
     case hv3 => (try simp only [go_sem, simprocAttr, hX]); first | done | rfl
     case hh3 => (try simp only [go_sem, simprocAttr, hX]); first | done | rfl
     all_goals ((try clear hR1); decide)
    ·intro c4 ρ hL
     refine awl_skip (awl_nil (blk_normal (hR1 _ _ (.mk ?_))))
     obtain ⟨z, c, hz, hs3⟩ := sat_spec_l1Pick c ([[115, 119, 101, 101, 112, 32, 49], [115, 119, 101, 101, 112, 32, 51, 48], [115, 101, 116, 116, 108, 101], [114, 101, 103, 32, 50], [114, 101, 103, 32, 57], [116, 114, 97, 112], [115, 97, 109, 101], [], [59], [104, 101, 108, 112], [100, 111, 32, 48, 49], [100, 111], [114, 101, 103, 32, 51]] : List Bs) (by decide)
     refine zA ?_
     intro K hK
     refine zFJ [0, 1] (hs3) ?_
     refine zE [2] ?_
     clear hK K hL
     refine zX [] [0] ?_
     refine ⟨z, c, ?hq4, ?hv4, ?hh4⟩
     case hv4 => (try simp only [go_sem, simprocAttr, hX]); first | done | rfl
     case hh4 => (try simp only [go_sem, simprocAttr, hX]); first | done | rfl
     all_goals ((try clear hR1); have hall : ∀ w, w ∈ ([[115, 119, 101, 101, 112, 32, 49], [115, 119, 101, 101, 112, 32, 51, 48], [115, 101, 116, 116, 108, 101], [114, 101, 103, 32, 50], [114, 101, 103, 32, 57], [116, 114, 97, 112], [115, 97, 109, 101], [], [59], [104, 101, 108, 112], [100, 111, 32, 48, 49], [100, 111], [114, 101, 103, 32, 51]] : List Bs) → w.length ≤ 30 := (by decide); exact hall _ hz)
end
section
attribute [local go_sem] mk_bt bt_app bt_size List.length_append List.length_cons List.length_nil List.append_assoc List.cons_append List.nil_append
theorem sat_spec_DrawSession (bs : List UInt8) (hb : bs.length ≤ 1048576) : ∃ (y o : Bs), (y.length ≤ 1048576 ∧ o.length ≤ 1048576) ∧ Sat Tryz.prog 23 [.sl bs.length bs.length (bytesV bs)] [] (.tuple [.str (bt y), .str (bt o)]) [] := by
 suffices hE : ∃ zv zh, (∃ (y o : Bs), (y.length ≤ 1048576 ∧ o.length ≤ 1048576) ∧ zv = (.tuple [.str (bt y), .str (bt o)]) ∧ zh = []) ∧ Sat Tryz.prog 23 [.sl bs.length bs.length (bytesV bs)] [] zv zh from by
  obtain ⟨_, _, ⟨y, o, hq, rfl, rfl⟩, hs⟩ := hE
  exact ⟨y, o, hq, hs⟩
 have hX := trivial
 refine sat_ex [.tmp 2, .tmp 3] 0 39 Tryz.call23 Tryz.func23 Tryz.ntmps23 rfl rfl rfl rfl rfl ?_
 refine zI [0] ?_
 refine zS [0] ?_
 obtain ⟨c, hc, hs1⟩ := sat_spec_l1New bs hb
 intro ρ hL
 refine zA ?_
 intro K hK
 refine zFJ [] (hs1) ?_
 refine zE [0, 4] ?_
 clear hK K hL
 obtain ⟨L, c, hL9, hs2⟩ := sat_spec_l6DrawCode c
 intro ρ hL
 refine zA ?_
 intro K hK
 refine zFJ [0] (hs2) ?_
 refine zF (sat_spec_CodeText L (by omega)) ?_
 refine zE [0, 4, 5] ?_
 clear hK K hL
 intro ρ hL
 refine zA ?_
 intro K hK
 refine hK _ _ ⟨_, _, (Wk.keep [0] rfl), awl_live' [0, 4, 5, 6] fun ρ hM => ?_⟩
 try simp only [go_sem, simprocAttr, hL, hX] at hM
 clear hK K hL
 try simp only [go_sem, simprocAttr]
 revert ρ hM
 obtain ⟨x8, hx8, hs3⟩ := sat_spec_l1Long bs 20 50 hb (by decide) (by decide)
 obtain ⟨x9, c, hx9, hs4⟩ := sat_spec_l1Below c x8
 have hx50 : 0 ≤ x9 ∧ x9 ≤ 50 := ⟨hx9.1, by by_cases hq : 0 < x8; have := hx9.2.1 hq; omega; have := hx9.2.2 (by omega); omega⟩
 intro ρ hL
 refine zA ?_
 intro K hK
 refine zFJ [] (hs3) ?_
 refine zFJ [0] (hs4) ?_
 refine zE [4, 5, 6, 7] ?_
 clear hK K hL
 refine zS [4, 5, 6, 7, 8] ?_
 intro ρ hL
 have e1 := hL
 refine awl_loopH (fun H0 n σ G => ∃ (o : Bs) (c : Cu) (i : Nat), n = x9.toNat - i ∧ (i ≤ 50) ∧ (o.length ≤ 31 * i) ∧ (liveE [4, 5, 7] σ ρ ∧ σ 6 = .str (bt o) ∧ σ 8 = .int .i64 (i : Int)) ∧ G = [⟨3, c.cells, true, false⟩]) (fun H0 σ G => ∃ (o : Bs) (c : Cu), (o.length ≤ 1550) ∧ (liveE [4, 5] σ ρ ∧ σ 6 = .str (bt o)) ∧ G = [⟨3, c.cells, true, false⟩]) (x9.toNat - 0) ?init1 (fun n ρ G hI => ?round1) (fun ρ G hJ => ?after1)
 case init1 => exact ⟨[], c, 0, rfl, (Nat.zero_le _), (Nat.zero_le _), ⟨liveE_refl _ _, (hL.2.2.1), (hL.2.2.2.2)⟩, rfl⟩
 case round1 =>
  clear hL
  obtain ⟨o, c, i, hn, i1_0, i1_1, hL, hG⟩ := hI
  subst hG
  try simp only [go_sem, simprocAttr, e1, hX] at hL
  revert ρ hL
  refine zS [4, 5, 6, 7, 8, 21] ?_
  refine zC ?_ ?_
  ·intro c1 ρ hL
   refine awl_skip (awl_seq (awl_block fun R1 hw1 hR1 => ?_))
   obtain ⟨y, c, hy, hs5⟩ := sat_spec_l20DrawLine c
   refine zA ?_
   intro K hK
   refine zFJ [0] (hs5) ?_
   refine zE [4, 5, 6, 7, 8] ?_
   clear hK K hL
   intro ρ hL
   refine awl_nil (blk_normal (hR1 _ _ (.mk ?_)))
   have wi : IntKind.i64.wrap ((i : Int) + 1) = ((i + 1 : Nat) : Int) := by rw [wrap64 (by omega)]; omega
   revert ρ hL
   refine zSX [4, 5, 6, 7, 8] (And.intro wi hX) ?_
   intro ρ hL
   refine awl_nil ?_
   refine loop_again _ ?meas ⟨(o ++ (y ++ [10])), c, (i + 1), rfl, (by omega), (by simp only [List.length_append, List.length_cons, List.length_nil]; omega), ⟨(by simp only [go_sem, simprocAttr, hL, hX, e1]), (hL.2.2.1), (hL.2.2.2.2)⟩, rfl⟩
   case meas => subst hn; omega
  ·intro c1 ρ hL
   refine awl_exit (loop_break ?_)
   exact ⟨o, c, (by omega), ⟨(by simp only [go_sem, simprocAttr, hL, hX, e1]), (hL.2.2.1)⟩, rfl⟩
 case after1 =>
  clear hL
  obtain ⟨o, c, j1_0, hL, hG⟩ := hJ
  subst hG
  try simp only [go_sem, simprocAttr, e1, hX] at hL
  obtain ⟨q7, c, hq7, hs6⟩ := sat_spec_l1Once c 40
  refine zA ?_
  intro K hK
  refine zFJ [0] (hs6) ?_
  refine zE [5, 6, 30] ?_
  clear hK K hL
  refine zC ?_ ?_
  ·intro c2
   refine zS [5, 6, 9] ?_
   intro ρ hL
   have e2 := hL
   refine awl_loopH (fun H0 n σ G => ∃ (u : Bs) (j : Nat), n = 80 - j ∧ (j ≤ 80) ∧ (u.length ≤ 1550 + j) ∧ (liveE [5] σ ρ ∧ σ 6 = .str (bt u) ∧ σ 9 = .int .i64 (j : Int)) ∧ G = H0) (fun H0 σ G => ∃ (u : Bs), (u.length ≤ 1700) ∧ (liveE [5] σ ρ ∧ σ 6 = .str (bt u)) ∧ G = H0) ((fun (u : Bs) (j : Nat) => 80 - j) o  0) ?init2 (fun n ρ G hI => ?round2) (fun ρ G hJ => ?after2)
   case init2 => exact ⟨o, 0, rfl, (Nat.zero_le _), (by omega), ⟨liveE_refl _ _, (hL.2.1), (hL.2.2)⟩, rfl⟩
   case round2 =>
    clear hL
    obtain ⟨u, j, hn, i2_0, i2_1, hL, hG⟩ := hI
    subst hG
    try simp only [go_sem, simprocAttr, e2, hX] at hL
    revert ρ hL
    refine zS [5, 6, 9, 32] ?_
    refine zC ?_ ?_
    ·intro c3 ρ hL
     refine awl_skip (awl_seq (awl_block fun R2 hw2 hR2 => ?_))
     revert ρ hL
     refine zS [5, 6, 9] ?_
     intro ρ hL
     refine awl_nil (blk_normal (hR2 _ _ (.mk ?_)))
     have wj : IntKind.i64.wrap ((j : Int) + 1) = ((j + 1 : Nat) : Int) := by rw [wrap64 (by omega)]; omega
     revert ρ hL
     refine zSX [5, 6, 9] (And.intro wj hX) ?_
     intro ρ hL
     refine awl_nil ?_
     refine loop_again _ ?meas ⟨(u ++ [10]), (j + 1), rfl, (by omega), (by simp only [List.length_append, List.length_cons, List.length_nil]; omega), ⟨(by simp only [go_sem, simprocAttr, hL, hX, e2]), (hL.2.1), (hL.2.2)⟩, rfl⟩
     case meas => subst hn; omega
    ·intro c3 ρ hL
     refine awl_exit (loop_break ?_)
     exact ⟨u, (by omega), ⟨(by simp only [go_sem, simprocAttr, hL, hX, e2]), (hL.2.1)⟩, rfl⟩
   case after2 =>
    clear hL
    obtain ⟨u, j2_0, hL, hG⟩ := hJ
    subst hG
    try simp only [go_sem, simprocAttr, e2, hX] at hL
    revert ρ hL
    refine zS [2, 3] ?_
    refine zX [] [] ?_
    refine ⟨codeT L, u, ?hq1, ?hv1, ?hh1⟩
    case hv1 => (try simp only [go_sem, simprocAttr, hX]); first | done | rfl
    case hh1 => (try simp only [go_sem, simprocAttr, hX]); first | done | rfl
    all_goals try clear hR1
    all_goals ((try clear hR2); exact ⟨by have := codeT_len (L := L) hL9.2; omega, by omega⟩)
  ·intro c2 ρ hL
   refine awl_skip ?_
   revert ρ hL
   refine zS [2, 3] ?_
   refine zX [] [] ?_
   refine ⟨codeT L, o, ?hq2, ?hv2, ?hh2⟩
   case hv2 => (try simp only [go_sem, simprocAttr, hX]); first | done | rfl
   case hh2 => (try simp only [go_sem, simprocAttr, hX]); first | done | rfl
   all_goals try clear hR1
   all_goals ((try clear hR2); exact ⟨by have := codeT_len (L := L) hL9.2; omega, by omega⟩)
end
end Go.Proofs.YtgpjgljgplngpaaGreatDoor.AM
