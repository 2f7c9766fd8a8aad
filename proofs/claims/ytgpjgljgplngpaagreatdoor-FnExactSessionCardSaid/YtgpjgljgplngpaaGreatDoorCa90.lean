/- A desk does a line, in place. No conditions but those each theorem bears. -/
import Derived.Test.YtgpjgljgplngpaaGreatDoorFa
import Derived.Test.YtgpjgljgplngpaaGreatDoorCa89
import Derived.Test.YtgpjgljgplngpaaGreatDoorX5
import Derived.Test.YtgpjgljgplngpaaGreatDoorCa39
import Derived.Test.YtgpjgljgplngpaaGreatDoorCa40
import Derived.Test.YtgpjgljgplngpaaGreatDoorCa8
import Derived.Test.YtgpjgljgplngpaaGreatDoorCa32
import Derived.Test.YtgpjgljgplngpaaGreatDoorCa87
set_option linter.unusedSimpArgs false
set_option linter.unusedVariables false
namespace Go.Proofs.YtgpjgljgplngpaaGreatDoor.AM
open Go
set_option maxHeartbeats 8000000
set_option maxRecDepth 100000
section
attribute [local go_sem] mk_bt bt_app bt_fits
theorem sat_impl_Desk_pick (d : Dsk) (p : Pik) (hf : d.fit) (ho : d.order.length ≤ 1000000) : Sat Tryz.prog 95 [.ptr 0 0, .agg p.cells] (⟨21, d.own 1 2 3 4 5 6 7, true, false⟩ :: d.blks) (.str (bt (dskPick d p).2)) (⟨21, (dskPick d p).1.own 8 9 10 11 12 13 14, true, false⟩ :: [⟨0, [], false, false⟩, ⟨0, [], false, false⟩, ⟨0, [], false, false⟩, ⟨0, [], false, false⟩, ⟨0, [], false, false⟩, ⟨0, [], false, false⟩, ⟨0, [], false, false⟩] ++ (dskPick d p).1.blks) := by
 have hX := trivial
 refine sat_mk [.tmp 4] 8 47 Tryz.call95 Tryz.func95 Tryz.ntmps95 rfl rfl rfl rfl rfl ?_
 refine zI [0, 1] ?_
 refine zS [0, 3] ?_
 intro ρ hL
 refine zAD [0, 1, 3, 7, 0, 16, 48, 112, 0, 511, 1023, 2047, 2047, 0, 12287, 32767] ?_
 intro K hK
 refine zFD [0, 1, 3, 7, 0, 16, 48, 112, 0, 511, 1023, 2047, 2047, 0, 12287, 32767] (sat_impl_CorePick d.list d.c p hf.1 hf.2.1) ?_
 refine zE [0, 3, 5, 6] ?_
 clear hK K hL
 refine zS [0, 3, 6] ?_
 refine zSF [0, 6, 7, 8] (sat_impl_noted p) ?_
 intro ρ hL
 refine zA ?_
 intro K hK
 refine zL [0, 6, 7, 8, 32] ?_
 clear hL
 intro ρ hL
 refine grp_andN (v := ?v1) 1 rfl [0, 6, 7] hL.2.2.2.2 rfl (fun hb K1 hK1 => ?run) (fun hb => skA (want := true) (b := _) (by rw [hb]; rfl) hL.2.2.2.2 rfl) (fun ρ hP hM => ?_)
 case run => exact zR1
 refine zPp ?_
 clear hL hP hM
 intro hL
 refine zE [0, 6, 7, 34] ?_
 clear hK K hL
 refine zC ?_ ?_
 ·intro c1
  refine zS [6] ?_
  refine zSF [4] (sat_impl_yesNo (corPick d.list d.c p).2 tOk tNo) ?_
  intro ρ hL
  refine awl_ret ?_
  refine ret_wk (Wk.mvB [1, 2, 3, 4, 5, 6, 7] rfl) ?_
  simp only [go_sem, simprocAttr]
  refine retK [17, 9, 10, 11, 12, 13, 16] [0, 1, 2, 3, 4, 5, 6, 7, 17, 9, 10, 11, 12, 13, 16] rfl (by simp only [go_sem, simprocAttr, hL, hX]; exact rfl) (by decide) (by first | rfl | (simp only [go_sem, simprocAttr, hL, hX]; first | done | rfl)) (by first | rfl | (simp only [go_sem, simprocAttr, hL, hX]; first | done | rfl)) ?_ ?_
  all_goals try simp only [go_sem, simprocAttr, hL, hX]
  all_goals (rw [pickD_on c1.1 c1.2]; first | rfl | (rw [c1.1]; rfl) | (simp only [ints_snoc, List.length_append, List.length_cons, List.length_nil]; try rfl))
 ·intro c1 ρ hL
  refine awl_skip ?_
  revert ρ hL
  refine zSF [4] (sat_impl_yesNo (corPick d.list d.c p).2 tOk tNo) ?_
  intro ρ hL
  refine awl_ret ?_
  refine ret_wk (Wk.mvB [1, 2, 3, 4, 5, 6, 7] rfl) ?_
  simp only [go_sem, simprocAttr]
  refine retK [15, 9, 10, 11, 12, 13, 21] [0, 1, 2, 3, 4, 5, 6, 7, 15, 9, 10, 11, 12, 13, 21] rfl (by simp only [go_sem, simprocAttr, hL, hX]; exact rfl) (by decide) (by first | rfl | (simp only [go_sem, simprocAttr, hL, hX]; first | done | rfl)) (by first | rfl | (simp only [go_sem, simprocAttr, hL, hX]; first | done | rfl)) ?_ ?_
  all_goals try simp only [go_sem, simprocAttr, hL, hX]
  all_goals (rw [pickD_off (pick_not c1)]; try rfl)
end
theorem sat_impl_Desk_same (d : Dsk) (hf : d.fit) (ho : d.order.length ≤ 1000000) : Sat Tryz.prog 101 [.ptr 0 0] (⟨21, d.own 1 2 3 4 5 6 7, true, false⟩ :: d.blks) (.bool (dskSame d)) (⟨21, d.own 1 2 3 4 5 6 7, true, false⟩ :: d.blks) := by
 have hX := trivial
 refine sat_mk [.tmp 2] 8 32 Tryz.call101 Tryz.func101 Tryz.ntmps101 rfl rfl rfl rfl rfl ?_
 refine zI [0] ?_
 refine zS [0] ?_
 obtain ⟨s0, hs0, hs1⟩ := sat_impl_StateNew
 intro ρ hL
 refine zA ?_
 intro K hK
 refine zFJ [] (hs1) ?_
 refine zE [0, 3] ?_
 clear hK K hL
 refine zS [0, 3, 10, 11, 12] ?_
 intro ρ hL
 have e1 := hL
 refine awl_loopH (fun H0 n σ G => ∃ (u : Stt) (i : Nat), n = d.order.length - i ∧ (i ≤ d.order.length) ∧ (u.fit) ∧ ((d.order.take i).foldl (fun s n => run d.list s [n]) sttNew = u) ∧ (liveE [0, 3, 10, 11] σ ρ ∧ σ 12 = .int .i64 (i : Int)) ∧ G = (⟨21, d.own 1 2 3 4 5 6 7, true, false⟩ :: (d.blks ++ [⟨6, rows u.regs, true, false⟩, ⟨6, rows u.mem.words, true, false⟩, ⟨1, rows u.mem.gone, true, false⟩, ⟨10, u.own 8 9 10, true, false⟩]))) (fun H0 σ G => ∃ (u : Stt), (dskState d = u) ∧ (liveE [0, 3] σ ρ) ∧ G = (⟨21, d.own 1 2 3 4 5 6 7, true, false⟩ :: (d.blks ++ [⟨6, rows u.regs, true, false⟩, ⟨6, rows u.mem.words, true, false⟩, ⟨1, rows u.mem.gone, true, false⟩, ⟨10, u.own 8 9 10, true, false⟩]))) ((fun (u : Stt) (i : Nat) => d.order.length - i) s0  0) ?init1 (fun n ρ G hI => ?round1) (fun ρ G hJ => ?after1)
 case init1 => exact ⟨s0, 0, rfl, (Nat.zero_le _), (by rw [hs0]; exact sttNew_fit), (by rw [hs0]; rfl), ⟨liveE_refl _ _, (hL.2.2.2.2)⟩, rfl⟩
 case round1 =>
  clear hL
  obtain ⟨u, i, hn, i1_0, i1_1, i1_2, hL, hG⟩ := hI
  subst hG
  try simp only [go_sem, simprocAttr, e1, hX] at hL
  revert ρ hL
  refine zS [0, 3, 10, 11, 12, 13] ?_
  refine zC ?_ ?_
  ·intro c1
   have hi1 : i < d.order.length := by omega
   replace hX := And.intro hi1 hX
   intro ρ hL
   refine awl_skip (awl_seq (awl_block fun R1 hw1 hR1 => ?_))
   revert ρ hL
   refine zS [0, 3, 5, 10, 11, 12] ?_
   intro ρ hL
   refine zAD [0, 1, 3, 7, 0, 0, 32, 127, 255] ?_
   intro K hK
   refine zFD [0, 1, 3, 7, 0, 0, 32, 127, 255] (sat_impl_Run d.list u [d.order.getD i 0] hf.1 i1_1 (by simp)) ?_
   refine zE [0, 3, 10, 11, 12] ?_
   clear hK K hL
   intro ρ hL
   refine awl_nil (blk_normal (hR1 _ _ (.mk ?_)))
   have w1 : IntKind.i64.wrap ((i : Int) + 1) = ((i + 1 : Nat) : Int) := by rw [wrap64 (by omega)]; omega
   replace hX := And.intro w1 hX
   revert ρ hL
   refine zS [0, 3, 10, 11, 12] ?_
   intro ρ hL
   refine awl_nil ?_
   refine loop_againW (Wk.keep [0, 1, 2, 3, 4, 5, 6, 7, 13, 14, 15, 11] rfl) _ ?meas ⟨(run d.list u [d.order.getD i 0]), (i + 1), rfl, (by omega), (by exact run_fit i1_1), (by exact foldR_take hi1 i1_2), ⟨(by simp only [go_sem, simprocAttr, hL, hX, e1]), (by simp only [go_sem, simprocAttr, hL, hX, e1]; first | done | rfl)⟩, (by simp only [go_sem, simprocAttr, hL, hX, e1]; first | done | rfl)⟩
   case meas => subst hn; omega
  ·intro c1 ρ hL
   refine awl_exit (loop_break ?_)
   exact ⟨u, (by rw [← i1_2, List.take_of_length_le (by omega)]; rfl), (by simp only [go_sem, simprocAttr, hL, hX, e1]), rfl⟩
 case after1 =>
  clear hL
  obtain ⟨u, j1_0, hL, hG⟩ := hJ
  subst hG
  try simp only [go_sem, simprocAttr, e1, hX] at hL
  refine zAD [0, 1, 3, 7, 15, 0, 63, 127] ?_
  intro K hK
  refine zFD [0, 1, 3, 7, 15, 0, 63, 127] (sat_impl_Alike d.c.s u hf.2.1.1) ?_
  refine zE [2] ?_
  clear hK K hL
  refine zK [] [0, 1, 2, 3, 4, 5, 6, 7] ?_ ?_
  all_goals try simp only [go_sem, simprocAttr, hX]
  all_goals ((try clear hR1); rw [dskSame, j1_0])
section
attribute [local go_sem] mk_bt bt_app bt_fits
theorem sat_impl_Desk_numbered (d : Dsk) (w : Bs) (n : Int) (hf : d.fit) (ho : d.order.length ≤ 1000000) (hk : corOk d.c = true) (hn : 0 ≤ n ∧ n ≤ 99) : Sat Tryz.prog 103 [.ptr 0 0, .str (bt w), .int .i64 n] (⟨21, d.own 1 2 3 4 5 6 7, true, false⟩ :: d.blks) (.str (bt (dskNumbered d w n).2)) (⟨21, (dskNumbered d w n).1.own 8 9 10 11 12 13 14, true, false⟩ :: [⟨0, [], false, false⟩, ⟨0, [], false, false⟩, ⟨0, [], false, false⟩, ⟨0, [], false, false⟩, ⟨0, [], false, false⟩, ⟨0, [], false, false⟩, ⟨0, [], false, false⟩] ++ (dskNumbered d w n).1.blks) := by
 have hX := trivial
 refine sat_mk [.tmp 6] 8 34 Tryz.call103 Tryz.func103 Tryz.ntmps103 rfl rfl rfl rfl rfl ?_
 refine zI [0, 1, 2] ?_
 refine zS [0, 1, 2] ?_
 refine zS [0, 2, 7] ?_
 intro ρ hL
 refine awl_block fun R1 hw1 hR1 => ?_
 revert ρ hL
 refine zS [0, 2, 7, 8] ?_
 refine zC ?_ ?_
 ·intro c1 ρ hL
  refine zA ?_
  intro K hK
  refine zFI [0, 1, 2, 3, 4, 5, 6, 7] (sat_impl_Desk_pick d ⟨2, n⟩ hf ho) ?_
  refine zE [6] ?_
  clear hK K hL
  refine zK [8, 9, 10, 11, 12, 13, 14] [0, 1, 2, 3, 4, 5, 6, 7, 8, 9, 10, 11, 12, 13, 14] ?_ ?_
  all_goals try simp only [go_sem, simprocAttr, hX]
  all_goals ((try clear hR1); rw [nm_do c1]; try rfl)
 ·intro c1
  refine zS [0, 2, 7, 14] ?_
  refine zC ?_ ?_
  ·intro c2 ρ hL
   refine zA ?_
   intro K hK
   refine zFI [0, 1, 2, 3, 4, 5, 6, 7] (sat_impl_Desk_pick d ⟨4, n⟩ hf ho) ?_
   refine zE [6] ?_
   clear hK K hL
   refine zK [8, 9, 10, 11, 12, 13, 14] [0, 1, 2, 3, 4, 5, 6, 7, 8, 9, 10, 11, 12, 13, 14] ?_ ?_
   all_goals try simp only [go_sem, simprocAttr, hX]
   all_goals ((try clear hR1); rw [nm_sweep c1 c2]; try rfl)
  ·intro c2
   refine zS [0, 2, 20] ?_
   refine zC ?_ ?_
   ·intro c3
    refine zS [0, 2, 23] ?_
    refine zC ?_ ?_
    ·intro c4
     refine zS [6] ?_
     intro ρ hL
     refine awl_ret ?_
     refine blk_ret ?_
     refine ret_wk (Wk.mvB [1, 2, 3, 4, 5, 6, 7] rfl) ?_
     simp only [go_sem, simprocAttr]
     refine retK [8, 9, 10, 11, 12, 13, 14] [0, 1, 2, 3, 4, 5, 6, 7, 8, 9, 10, 11, 12, 13, 14] rfl (by simp only [go_sem, simprocAttr, hL, hX]; exact rfl) (by decide) (by first | rfl | (simp only [go_sem, simprocAttr, hL, hX]; first | done | rfl)) (by first | rfl | (simp only [go_sem, simprocAttr, hL, hX]; first | done | rfl)) ?_ ?_
     all_goals try simp only [go_sem, simprocAttr, hL, hX]
     all_goals ((try clear hR1); rw [nm_none c1 c2 c3 c4]; try rfl)
    ·intro c4 ρ hL
     refine awl_skip ?_
     have hq8 := (sttOk_parts (corOk_parts hk).2.1).2.1
     have hnr : n.toNat < d.c.s.regs.length := by omega
     have hn0 : 0 ≤ n := hn.1
     have hnl : n < (d.c.s.regs.length : Int) := by omega
     revert ρ hL
     refine zSFX [6] (sat_impl_WordText (reg d.c.s n)) (And.intro hnr (And.intro hn0 (And.intro hnl hX))) ?_
     intro ρ hL
     refine awl_ret ?_
     refine blk_ret ?_
     refine ret_wk (Wk.mvB [1, 2, 3, 4, 5, 6, 7] rfl) ?_
     simp only [go_sem, simprocAttr]
     refine retK [8, 9, 10, 11, 12, 13, 14] [0, 1, 2, 3, 4, 5, 6, 7, 8, 9, 10, 11, 12, 13, 14] rfl (by simp only [go_sem, simprocAttr, hL, hX]; exact rfl) (by decide) (by first | rfl | (simp only [go_sem, simprocAttr, hL, hX]; first | done | rfl)) (by first | rfl | (simp only [go_sem, simprocAttr, hL, hX]; first | done | rfl)) ?_ ?_
     all_goals try simp only [go_sem, simprocAttr, hL, hX]
     all_goals ((try clear hR1); rw [nm_reg c1 c2 c3 c4]; try rfl)
   ·intro c3 ρ hL
    refine awl_skip (awl_nil (blk_normal (hR1 _ _ (.mk ?_))))
    revert ρ hL
    refine zS [6] ?_
    intro ρ hL
    refine awl_ret ?_
    refine ret_wk (Wk.mvB [1, 2, 3, 4, 5, 6, 7] rfl) ?_
    simp only [go_sem, simprocAttr]
    refine retK [8, 9, 10, 11, 12, 13, 14] [0, 1, 2, 3, 4, 5, 6, 7, 8, 9, 10, 11, 12, 13, 14] rfl (by simp only [go_sem, simprocAttr, hL, hX]; exact rfl) (by decide) (by first | rfl | (simp only [go_sem, simprocAttr, hL, hX]; first | done | rfl)) (by first | rfl | (simp only [go_sem, simprocAttr, hL, hX]; first | done | rfl)) ?_ ?_
    all_goals try simp only [go_sem, simprocAttr, hL, hX]
    all_goals ((try clear hR1); rw [nm_what c1 c2 c3]; try rfl)
end
section
attribute [local go_sem] mk_bt bt_app bt_fits
theorem sat_impl_Desk_line (d : Dsk) (l : Bs) (hf : d.fit) (ho : d.order.length ≤ 1000000) (hk : corOk d.c = true) (hl : l.length ≤ 1048576) : Sat Tryz.prog 45 [.ptr 0 0, .str (bt l)] (⟨21, d.own 1 2 3 4 5 6 7, true, false⟩ :: d.blks) (.str (bt (dskDo d l).2)) (⟨21, (dskDo d l).1.own 8 9 10 11 12 13 14, true, false⟩ :: [⟨0, [], false, false⟩, ⟨0, [], false, false⟩, ⟨0, [], false, false⟩, ⟨0, [], false, false⟩, ⟨0, [], false, false⟩, ⟨0, [], false, false⟩, ⟨0, [], false, false⟩] ++ (dskDo d l).1.blks) := by
 have hX := trivial
 refine sat_mk [.tmp 4] 8 85 Tryz.call45 Tryz.func45 Tryz.ntmps45 rfl rfl rfl rfl rfl ?_
 refine zI [0, 1] ?_
 refine zS [0, 1] ?_
 refine zS [0, 1, 12] ?_
 intro ρ hL
 refine awl_block fun R1 hw1 hR1 => ?_
 revert ρ hL
 refine zS [0, 1, 12, 13] ?_
 refine zC ?_ ?_
 ·intro c1 ρ hL
  refine zA ?_
  intro K hK
  refine zFI [0, 1, 2, 3, 4, 5, 6, 7] (sat_impl_Desk_pick d ⟨1, 0⟩ hf ho) ?_
  refine zE [4] ?_
  clear hK K hL
  refine zK [8, 9, 10, 11, 12, 13, 14] [0, 1, 2, 3, 4, 5, 6, 7, 8, 9, 10, 11, 12, 13, 14] ?_ ?_
  all_goals try simp only [go_sem, simprocAttr, hX]
  all_goals ((try clear hR1); rw [ln_pull c1]; try rfl)
 ·intro c1
  refine zS [0, 1, 12, 18] ?_
  refine zC ?_ ?_
  ·intro c2 ρ hL
   refine zA ?_
   intro K hK
   refine zFI [0, 1, 2, 3, 4, 5, 6, 7] (sat_impl_Desk_pick d ⟨3, 0⟩ hf ho) ?_
   refine zE [4] ?_
   clear hK K hL
   refine zK [8, 9, 10, 11, 12, 13, 14] [0, 1, 2, 3, 4, 5, 6, 7, 8, 9, 10, 11, 12, 13, 14] ?_ ?_
   all_goals try simp only [go_sem, simprocAttr, hX]
   all_goals ((try clear hR1); rw [ln_commit c1 c2]; try rfl)
  ·intro c2
   refine zS [0, 1, 12, 23] ?_
   refine zC ?_ ?_
   ·intro c3
    have hsm := settle_many (c := d.c)
    have hsn : (settle d.c).2.toNat ≤ 600 := by omega
    have hsi : ((settle d.c).2.toNat : Int) = (settle d.c).2 := by omega
    intro ρ hL
    refine zAD [0, 1, 3, 7, 0, 16, 48, 112, 255, 511, 1023, 1023, 0, 6143, 16383] ?_
    intro K hK
    refine zFD [0, 1, 3, 7, 0, 16, 48, 112, 255, 511, 1023, 1023, 0, 6143, 16383] (sat_impl_Settle d.list d.c hf.2.1) ?_
    refine zE [0, 5, 6] ?_
    clear hK K hL
    refine zS [0, 6] ?_
    have hrl : (settle d.c).2.toNat ≤ (List.replicate (settle d.c).2.toNat (-1 : Int)).length := by simp
    have hrt := ints_takeR (i := (settle d.c).2.toNat)
    have hX0 := hX
    replace hX := And.intro hsi (And.intro hrl (And.intro hrt hX))
    intro ρ hL
    refine zAD [0, 0, 2, 6, 14, 0, 0, 96, 254, 511, 1023, 2047] ?_
    intro K hK
    refine zFD [0, 0, 2, 6, 14, 0, 0, 96, 254, 511, 1023, 2047] (sat_RepeatK (settle d.c).2.toNat hsn) ?_
    refine zE [6] ?_
    clear hK K hL
    clear hX
    have hX := hX0
    clear hX0
    refine zSF [4] (sat_strconv_Itoa (settle d.c).2 (by omega)) ?_
    intro ρ hL
    refine awl_ret ?_
    refine blk_ret ?_
    refine ret_wk (Wk.mvB [1, 2, 3, 4, 5, 6, 7] rfl) ?_
    simp only [go_sem, simprocAttr]
    refine retK [17, 8, 9, 10, 11, 12, 16] [0, 1, 2, 3, 4, 5, 6, 7, 17, 8, 9, 10, 11, 12, 16] rfl (by simp only [go_sem, simprocAttr, hL, hX]; exact rfl) (by decide) (by first | rfl | (simp only [go_sem, simprocAttr, hL, hX]; first | done | rfl)) (by first | rfl | (simp only [go_sem, simprocAttr, hL, hX]; first | done | rfl)) ?_ ?_
    all_goals try simp only [go_sem, simprocAttr, hL, hX]
    all_goals ((try clear hR1); rw [ln_settle c1 c2 c3]; first | done | rfl | (simp only [dskSettle, List.length_append, List.length_replicate, ints, List.map_append]; done))
   ·intro c3
    refine zS [0, 1, 12, 54] ?_
    refine zC ?_ ?_
    ·intro c4
     refine zSF [4] (sat_impl_TrapText d.c.s.trap) ?_
     intro ρ hL
     refine awl_ret ?_
     refine blk_ret ?_
     refine ret_wk (Wk.mvB [1, 2, 3, 4, 5, 6, 7] rfl) ?_
     simp only [go_sem, simprocAttr]
     refine retK [8, 9, 10, 11, 12, 13, 14] [0, 1, 2, 3, 4, 5, 6, 7, 8, 9, 10, 11, 12, 13, 14] rfl (by simp only [go_sem, simprocAttr, hL, hX]; exact rfl) (by decide) (by first | rfl | (simp only [go_sem, simprocAttr, hL, hX]; first | done | rfl)) (by first | rfl | (simp only [go_sem, simprocAttr, hL, hX]; first | done | rfl)) ?_ ?_
     all_goals try simp only [go_sem, simprocAttr, hL, hX]
     all_goals ((try clear hR1); rw [ln_trap c1 c2 c3 c4]; try rfl)
    ·intro c4
     refine zS [0, 1, 63] ?_
     refine zC ?_ ?_
     ·intro c5 ρ hL
      refine zA ?_
      intro K hK
      refine zFI [0, 1, 2, 3, 4, 5, 6, 7] (sat_impl_Desk_same d hf ho) ?_
      refine zF (sat_impl_yesNo (dskSame d) tYes tNo) ?_
      refine zE [4] ?_
      clear hK K hL
      intro ρ hL
      refine awl_ret ?_
      refine blk_ret ?_
      refine ret_wk (Wk.mvB [1, 2, 3, 4, 5, 6, 7] rfl) ?_
      simp only [go_sem, simprocAttr]
      refine retK [8, 9, 10, 11, 12, 13, 14] [0, 1, 2, 3, 4, 5, 6, 7, 8, 9, 10, 11, 12, 13, 14] rfl (by simp only [go_sem, simprocAttr, hL, hX]; exact rfl) (by decide) (by first | rfl | (simp only [go_sem, simprocAttr, hL, hX]; first | done | rfl)) (by first | rfl | (simp only [go_sem, simprocAttr, hL, hX]; first | done | rfl)) ?_ ?_
      all_goals try simp only [go_sem, simprocAttr, hL, hX]
      all_goals ((try clear hR1); rw [ln_same c1 c2 c3 c4 c5]; try rfl)
     ·intro c5 ρ hL
      refine awl_skip (awl_nil (blk_normal (hR1 _ _ (.mk ?_))))
      revert ρ hL
      refine zSF [0, 7, 8] (sat_strings_Cut l 32 hl) ?_
      refine zSF [0, 7, 10, 11] (sat_impl_deskNumber (cutB l 32).2.1 (Nat.le_trans cutB_len.2 hl)) ?_
      refine zS [0, 7, 10, 80] ?_
      refine zC ?_ ?_
      ·intro c6
       refine zS [4] ?_
       intro ρ hL
       refine awl_ret ?_
       refine ret_wk (Wk.mvB [1, 2, 3, 4, 5, 6, 7] rfl) ?_
       simp only [go_sem, simprocAttr]
       refine retK [8, 9, 10, 11, 12, 13, 14] [0, 1, 2, 3, 4, 5, 6, 7, 8, 9, 10, 11, 12, 13, 14] rfl (by simp only [go_sem, simprocAttr, hL, hX]; exact rfl) (by decide) (by first | rfl | (simp only [go_sem, simprocAttr, hL, hX]; first | done | rfl)) (by first | rfl | (simp only [go_sem, simprocAttr, hL, hX]; first | done | rfl)) ?_ ?_
       all_goals try simp only [go_sem, simprocAttr, hL, hX]
       all_goals ((try clear hR1); rw [ln_what c1 c2 c3 c4 c5 c6]; try rfl)
      ·intro c6 ρ hL
       refine awl_skip ?_
       refine zA ?_
       intro K hK
       refine zFI [0, 1, 2, 3, 4, 5, 6, 7] (sat_impl_Desk_numbered d (cutB l 32).1 (dskNum (cutB l 32).2.1).1 hf ho hk (num_is (by simpa using c6)).1) ?_
       refine zE [4] ?_
       clear hK K hL
       refine zK [8, 9, 10, 11, 12, 13, 14] [0, 1, 2, 3, 4, 5, 6, 7, 8, 9, 10, 11, 12, 13, 14] ?_ ?_
       all_goals try simp only [go_sem, simprocAttr, hX]
       all_goals ((try clear hR1); rw [ln_num c1 c2 c3 c4 c5 c6]; try rfl)
end
end Go.Proofs.YtgpjgljgplngpaaGreatDoor.AM
