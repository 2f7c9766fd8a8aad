/- What is drawn: desks. No conditions but those each theorem bears. -/
import Derived.Test.YtgpjgljgplngpaaGreatDoorFa
import Derived.Test.YtgpjgljgplngpaaGreatDoorCa94
set_option linter.unusedSimpArgs false
set_option linter.unusedVariables false
namespace Go.Proofs.YtgpjgljgplngpaaGreatDoor.AM
open Go
set_option maxHeartbeats 8000000
set_option maxRecDepth 100000
theorem sat_spec_l20Draw (c : Cu)  : ∃ (z : Dsk) (d : Cu), (z.fit ∧ z.order.length ≤ 10000) ∧ Sat Tryz.prog 41 [.ptr 0 0] [⟨3, c.cells, true, false⟩] (.agg (z.own 1 2 3 4 5 6 7)) (⟨3, d.cells, true, false⟩ :: z.blks) := by
 suffices hE : ∃ zv zh, (∃ (z : Dsk) (d : Cu), (z.fit ∧ z.order.length ≤ 10000) ∧ zv = (.agg (z.own 1 2 3 4 5 6 7)) ∧ zh = (⟨3, d.cells, true, false⟩ :: z.blks)) ∧ Sat Tryz.prog 41 [.ptr 0 0] [⟨3, c.cells, true, false⟩] zv zh from by
  obtain ⟨_, _, ⟨z, d, hq, rfl, rfl⟩, hs⟩ := hE
  exact ⟨z, d, hq, hs⟩
 have hX := trivial
 refine sat_ex [.cell 2 38] 1 44 Tryz.call41 Tryz.func41 Tryz.ntmps41 rfl rfl rfl rfl rfl ?_
 refine zI [0] ?_
 refine zS [0, 2] ?_
 obtain ⟨L, c, hL9, hs1⟩ := sat_spec_l6DrawCode c
 intro ρ hL
 refine zA ?_
 intro K hK
 refine zFJ [0] (hs1) ?_
 refine zF (sat_spec_CodeText L (by omega)) ?_
 refine zF (sat_spec_DeskNew (codeT L) (by have := codeT_len (L := L) hL9.2; omega)) ?_
 refine hK _ _ ⟨_, _, (Wk.keep [0, 1, 3, 4, 5, 6, 7, 8, 9, 10] rfl), awl_live' [0, 2, 3, 4] fun ρ hM => ?_⟩
 try simp only [go_sem, simprocAttr, hL, hX] at hM
 clear hK K hL
 try simp only [go_sem, simprocAttr]
 revert ρ hM
 refine zS [0, 2, 3, 4, 5] ?_
 intro ρ hL
 have e1 := hL
 refine awl_loopH (fun H0 n σ G => ∃ (q : Dsk) (c : Cu) (i : Nat), n = 12 - i ∧ (i ≤ 12) ∧ (q.fit) ∧ (q.order.length ≤ 600 * i) ∧ (liveE [0, 2, 3, 4] σ ρ ∧ σ 5 = .int .i64 (i : Int)) ∧ G = [⟨3, c.cells, true, false⟩, ⟨21, [.nilsl, .nilsl, .int .i64 0, .bool false, .int .i64 0, .int .i64 0, .int .i64 0, .int .i64 0, .nilsl, .nilsl, .int .i64 0, .nilsl, .int .i64 0, .bool false, .int .i64 0, .int .i64 0, .int .i64 0, .int .i64 0, .bool false, .nilsl, .nilsl], true, false⟩, ⟨5, rows q.list, true, false⟩, ⟨6, rows q.c.s.regs, true, false⟩, ⟨6, rows q.c.s.mem.words, true, false⟩, ⟨1, rows q.c.s.mem.gone, true, false⟩, ⟨40, rows q.c.rob, true, false⟩, ⟨1, ints q.c.guesses, true, false⟩, ⟨1, ints q.order, true, false⟩, ⟨21, q.own 2 3 4 5 6 7 8, true, false⟩]) (fun H0 σ G => ∃ (q : Dsk) (c : Cu), (q.fit) ∧ (q.order.length ≤ 7200) ∧ (liveE [0, 2, 3] σ ρ) ∧ G = [⟨3, c.cells, true, false⟩, ⟨21, [.nilsl, .nilsl, .int .i64 0, .bool false, .int .i64 0, .int .i64 0, .int .i64 0, .int .i64 0, .nilsl, .nilsl, .int .i64 0, .nilsl, .int .i64 0, .bool false, .int .i64 0, .int .i64 0, .int .i64 0, .int .i64 0, .bool false, .nilsl, .nilsl], true, false⟩, ⟨5, rows q.list, true, false⟩, ⟨6, rows q.c.s.regs, true, false⟩, ⟨6, rows q.c.s.mem.words, true, false⟩, ⟨1, rows q.c.s.mem.gone, true, false⟩, ⟨40, rows q.c.rob, true, false⟩, ⟨1, ints q.c.guesses, true, false⟩, ⟨1, ints q.order, true, false⟩, ⟨21, q.own 2 3 4 5 6 7 8, true, false⟩]) ((fun (q : Dsk) (c : Cu) (i : Nat) => 12 - i) (dskNew (codeT L)).1  c  0) ?init1 (fun n ρ G hI => ?round1) (fun ρ G hJ => ?after1)
 case init1 => exact ⟨(dskNew (codeT L)).1, c, 0, rfl, (Nat.zero_le _), (dskNew_fit), (by rw [dskNew_order]; simp), ⟨liveE_refl _ _, (hL.2.2.2.2)⟩, rfl⟩
 case round1 =>
  clear hL
  obtain ⟨q, c, i, hn, i1_0, i1_1, i1_2, hL, hG⟩ := hI
  subst hG
  try simp only [go_sem, simprocAttr, e1, hX] at hL
  obtain ⟨x0, c, hx0, hs2⟩ := sat_spec_l1Below c 12
  have hb0 := hx0.2.1 (by decide)
  refine zA ?_
  intro K hK
  refine zFJ [0] (hs2) ?_
  refine zL [0, 2, 3, 4, 5, 17] ?_
  clear hL
  intro ρ hL
  refine grp_andN (v := ?v1) 1 rfl [0, 2, 3, 4, 5] hL.2.2.2.2.2 rfl (fun hb K1 hK1 => ?run) (fun hb => skA (want := true) (b := _) (by rw [hb]; rfl) hL.2.2.2.2.2 rfl) (fun ρ hP hM => ?_)
  case run => exact zR1
  refine zPp ?_
  clear hL hP hM
  intro hL
  refine zE [0, 2, 3, 4, 5, 19] ?_
  clear hK K hL
  refine zC ?_ ?_
  ·intro c1 ρ hL
   refine awl_skip (awl_seq (awl_block fun R1 hw1 hR1 => ?_))
   obtain ⟨y, c, hy, hs3⟩ := sat_spec_l20DrawLine c
   refine zAD [0, 0, 2, 7, 15, 31, 31, 63] ?_
   intro K hK
   refine zFDJ [0, 0, 2, 7, 15, 31, 31, 63] [0] (hs3) ?_
   refine zFD [0, 0, 2, 7, 15, 31, 31, 63] (sat_spec_DeskLine2 q y i1_1 (by omega) (by omega)) ?_
   refine zE [0, 2, 3, 4, 5] ?_
   clear hK K hL
   intro ρ hL
   refine awl_nil (blk_normal (hR1 _ _ (.mk ?_)))
   have wi : IntKind.i64.wrap ((i : Int) + 1) = ((i + 1 : Nat) : Int) := by rw [wrap64 (by omega)]; omega
   revert ρ hL
   refine zSX [0, 2, 3, 4, 5] (And.intro wi hX) ?_
   intro ρ hL
   refine awl_nil ?_
   refine loop_againW (Wk.keep [0, 1, 10, 11, 12, 13, 14, 15, 16, 9] rfl) _ ?meas ⟨(dskLine q y).1, c, (i + 1), rfl, (by omega), (by exact (line_fit i1_1 (by omega)).1), (by have := (line_fit (s := y) i1_1 (by omega)).2; omega), ⟨(by simp only [go_sem, simprocAttr, hL, hX, e1]), (by simp only [go_sem, simprocAttr, hL, hX, e1]; first | done | rfl)⟩, (by simp only [go_sem, simprocAttr, hL, hX, e1]; first | done | rfl)⟩
   case meas => subst hn; omega
  ·intro c1 ρ hL
   refine awl_exit (loop_break ?_)
   exact ⟨q, c, (by exact i1_1), (by omega), (by simp only [go_sem, simprocAttr, hL, hX, e1]), rfl⟩
 case after1 =>
  clear hL
  obtain ⟨q, c, j1_0, j1_1, hL, hG⟩ := hJ
  subst hG
  try simp only [go_sem, simprocAttr, e1, hX] at hL
  obtain ⟨x3, c, hx3, hs4⟩ := sat_spec_l1Below c 15
  have hb3 := hx3.2.1 (by decide)
  refine zA ?_
  intro K hK
  refine zFJ [0] (hs4) ?_
  refine zE [2, 3, 30] ?_
  clear hK K hL
  intro ρ hL
  refine awl_block fun R2 hw2 hR2 => ?_
  revert ρ hL
  refine zS [2, 3, 30, 31] ?_
  refine zC ?_ ?_
  ·intro c2
   refine zS [2, 3] ?_
   intro ρ hL
   refine awl_nil (blk_normal (hR2 _ _ (.mk ?_)))
   revert ρ hL
   refine zS [2] ?_
   refine zX [2, 3, 4, 5, 6, 7, 8] [0, 2, 3, 4, 5, 6, 7, 8] ?_
   refine ⟨⟨q.list, ⟨q.c.s, q.c.rob, ⟨-1, q.c.next.is, q.c.next.key⟩, q.c.stop, q.c.guesses⟩, q.order⟩, c, ?hq1, ?hv1, ?hh1⟩
   case hv1 => (try simp only [go_sem, simprocAttr, hX]); first | done | rfl
   case hh1 => (try simp only [go_sem, simprocAttr, hX]); first | done | rfl
   all_goals try clear hR1
   all_goals ((try clear hR2); exact ⟨⟨j1_0.1, j1_0.2.1, j1_0.2.2⟩, by show q.order.length ≤ _; omega⟩)
  ·intro c2
   refine zS [2, 3, 36] ?_
   refine zC ?_ ?_
   ·intro c3
    refine zS [2, 3] ?_
    intro ρ hL
    refine awl_nil (blk_normal (hR2 _ _ (.mk ?_)))
    revert ρ hL
    refine zS [2] ?_
    refine zX [2, 3, 4, 5, 6, 7, 11] [0, 2, 3, 4, 5, 6, 7, 11] ?_
    refine ⟨⟨q.list, q.c, q.order ++ [-1]⟩, c, ?hq2, ?hv2, ?hh2⟩
    case hv2 => (try simp only [go_sem, simprocAttr, hX, ints_snoc,  List.length_append,  List.length_cons,  List.length_nil]); first | done | rfl
    case hh2 => (try simp only [go_sem, simprocAttr, hX, ints_snoc,  List.length_append,  List.length_cons,  List.length_nil]); first | done | rfl
    all_goals try clear hR1
    all_goals ((try clear hR2); have hql : (q.order ++ [-1]).length = q.order.length + 1 := (by simp); exact ⟨⟨j1_0.1, j1_0.2.1, by show (q.order ++ [-1]).length ≤ _; omega⟩, by show (q.order ++ [-1]).length ≤ _; omega⟩)
   ·intro c3 ρ hL
    refine awl_skip (awl_nil (blk_normal (hR2 _ _ (.mk ?_))))
    revert ρ hL
    refine zS [2] ?_
    refine zX [2, 3, 4, 5, 6, 7, 8] [0, 2, 3, 4, 5, 6, 7, 8] ?_
    refine ⟨q, c, ?hq3, ?hv3, ?hh3⟩
    case hv3 => (try simp only [go_sem, simprocAttr, hX]); first | done | rfl
    case hh3 => (try simp only [go_sem, simprocAttr, hX]); first | done | rfl
    all_goals try clear hR1
    all_goals ((try clear hR2); exact ⟨j1_0, by omega⟩)
theorem sat_spec_DrawDeskLine (bs : List UInt8) (hb : bs.length ≤ 1048576) : ∃ (z : Dsk) (y : Bs), (z.fit ∧ z.order.length ≤ 10000 ∧ y.length ≤ 30) ∧ Sat Tryz.prog 15 [.sl bs.length bs.length (bytesV bs)] [] (.tuple [.agg (z.own 0 1 2 3 4 5 6), .str (bt y)]) z.blks := by
 suffices hE : ∃ zv zh, (∃ (z : Dsk) (y : Bs), (z.fit ∧ z.order.length ≤ 10000 ∧ y.length ≤ 30) ∧ zv = (.tuple [.agg (z.own 0 1 2 3 4 5 6), .str (bt y)]) ∧ zh = z.blks) ∧ Sat Tryz.prog 15 [.sl bs.length bs.length (bytesV bs)] [] zv zh from by
  obtain ⟨_, _, ⟨z, y, hq, rfl, rfl⟩, hs⟩ := hE
  exact ⟨z, y, hq, hs⟩
 have hX := trivial
 refine sat_ex [.cell 2 38, .tmp 3] 0 13 Tryz.call15 Tryz.func15 Tryz.ntmps15 rfl rfl rfl rfl rfl ?_
 refine zI [0] ?_
 refine zS [0, 2] ?_
 obtain ⟨c, hc, hs1⟩ := sat_spec_l1New bs hb
 intro ρ hL
 refine zA ?_
 intro K hK
 refine zFJ [] (hs1) ?_
 refine zE [2, 4] ?_
 clear hK K hL
 obtain ⟨z, c, hz, hs2⟩ := sat_spec_l20Draw c
 intro ρ hL
 refine zA ?_
 intro K hK
 refine zFJ [1] (hs2) ?_
 refine zE [2, 4, 5] ?_
 clear hK K hL
 obtain ⟨y, c, hy, hs3⟩ := sat_spec_l20DrawLine c
 intro ρ hL
 refine zAD [0, 0, 2, 7, 15] ?_
 intro K hK
 refine zFDJ [0, 0, 2, 7, 15] [1] (hs3) ?_
 refine zE [2, 3] ?_
 clear hK K hL
 refine zX [2, 3, 4, 5, 6, 7, 8] [2, 3, 4, 5, 6, 7, 8] ?_
 refine ⟨z, y, ?hq1, ?hv1, ?hh1⟩
 case hv1 => (try simp only [go_sem, simprocAttr, hX]); first | done | rfl
 case hh1 => (try simp only [go_sem, simprocAttr, hX]); first | done | rfl
 all_goals (exact ⟨hz.1, hz.2, hy⟩)
end Go.Proofs.YtgpjgljgplngpaaGreatDoor.AM
