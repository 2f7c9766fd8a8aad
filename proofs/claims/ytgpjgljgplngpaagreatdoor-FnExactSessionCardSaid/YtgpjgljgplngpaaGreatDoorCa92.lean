/- A desk does a line; the program's copy. No conditions but those each theorem bears. -/
import Derived.Test.YtgpjgljgplngpaaGreatDoorFa
import Derived.Test.YtgpjgljgplngpaaGreatDoorCa90
set_option linter.unusedSimpArgs false
set_option linter.unusedVariables false
namespace Go.Proofs.YtgpjgljgplngpaaGreatDoor.AM
open Go
set_option maxHeartbeats 8000000
set_option maxRecDepth 100000
theorem sat_slices_Clone_impl_Ins_impl_Ins_N   : Sat Tryz.prog 87 [.nilsl] [] .nilsl [] := by
 have hX := trivial
 refine sat_mk [.tmp 2] 0 8 Tryz.call87 Tryz.func87 Tryz.ntmps87 rfl rfl rfl rfl rfl ?_
 refine zI [0] ?_
 refine zS [0] ?_
 refine zS [0, 4] ?_
 refine zQ ?_ ?_
 ·intro c1
  try simp only [cnd] at c1
  refine zS [2] ?_
  refine zR ?_
  try simp only [go_sem, simprocAttr]
  all_goals (first | done | rfl | (simp; done) | (simp [inR]; done) | (simp_all [inR]; done) | (simp [inR]; grind))
 ·intro c1
  try simp only [cnd] at c1
  simp at c1
theorem sat_slices_Clone_impl_Ins_impl_Ins_S (xs : List Ins) (c : Nat) (hb : xs.length ≤ 1099511627776) : Sat Tryz.prog 87 [.nnsl xs.length c (rows xs)] [] (.slice 0 0 xs.length 0) [⟨5, rows xs, true, false⟩] := by
 have hX := trivial
 refine sat_mk [.tmp 2] 0 8 Tryz.call87 Tryz.func87 Tryz.ntmps87 rfl rfl rfl rfl rfl ?_
 refine zI [0] ?_
 refine zS [0] ?_
 refine zS [0, 4] ?_
 refine zQ ?_ ?_
 ·intro c1
  try simp only [cnd] at c1
  simp at c1
 ·intro c1
  try simp only [cnd] at c1
  intro ρ hL
  refine awl_skip ?_
  revert ρ hL
  refine zS [2] ?_
  refine zK [0] [0] ?_ ?_
  all_goals try simp only [go_sem, simprocAttr, hX]
  all_goals (first | done | rfl | (simp; done) | (simp [inR]; done) | (simp_all [inR]; done) | (simp [inR]; grind))
theorem sat_slices_Clone_impl_Ins_impl_Ins (xs : List Ins) (c : Nat) (hb : xs.length ≤ 1099511627776) : Sat Tryz.prog 87 [.sl xs.length c (rows xs)] [] (.slice 0 0 xs.length 0) [⟨5, rows xs, true, false⟩] := by
 refine sat_sl (fun h0 _ => ?_) (sat_slices_Clone_impl_Ins_impl_Ins_S xs c hb)
 obtain rfl : xs = [] := List.eq_nil_of_length_eq_zero h0
 exact sat_nil_back sat_slices_Clone_impl_Ins_impl_Ins_N
theorem sat_impl_cloneDesk (d : Dsk) (hf : d.fit) : Sat Tryz.prog 43 [.agg d.cells] [] (.agg (d.own 0 1 2 3 4 5 6)) d.blks := by
 have hX := trivial
 refine sat_mk [.cell 2 38] 0 13 Tryz.call43 Tryz.func43 Tryz.ntmps43 rfl rfl rfl rfl rfl ?_
 refine zI [0] ?_
 refine zS [1, 2] ?_
 intro ρ hL
 refine zAD [0, 1, 3, 0, 8, 31, 0, 64, 255, 511, 1023] ?_
 intro K hK
 refine zFD [0, 1, 3, 0, 8, 31, 0, 64, 255, 511, 1023] (sat_slices_Clone_impl_Ins_impl_Ins d.list d.list.length (Nat.le_trans hf.1 (by decide))) ?_
 refine zFD [0, 1, 3, 0, 8, 31, 0, 64, 255, 511, 1023] (sat_impl_cloneCore d.c hf.2.1) ?_
 refine zFD [0, 1, 3, 0, 8, 31, 0, 64, 255, 511, 1023] (sat_slices_Clone_int_int d.order d.order.length (Nat.le_trans hf.2.2 (by decide))) ?_
 refine zE [2] ?_
 clear hK K hL
 refine zK [2, 3, 4, 5, 6, 7, 8] [2, 3, 4, 5, 6, 7, 8] ?_ ?_
 all_goals try simp only [go_sem, simprocAttr, hX]
 all_goals (first | done | rfl | (simp; done) | (simp [inR]; done) | (simp_all [inR]; done) | (simp [inR]; grind))
section
attribute [local go_sem] mk_bt bt_app bt_fits bt_size bt_ext bt_bat List.length_cons List.length_nil Int.toNat_zero
theorem sat_impl_DeskLine (d : Dsk) (l : Bs) (hf : d.fit) (ho : d.order.length ≤ 1000000) (hl : l.length ≤ 1048576) : Sat Tryz.prog 16 [.agg d.cells, .str (bt l)] [] (.tuple [.agg ((dskLine d l).1.own 0 1 2 3 4 5 6), .str (bt (dskLine d l).2)]) (dskLine d l).1.blks := by
 have hX := trivial
 refine sat_mk [.cell 4 38, .tmp 5] 0 27 Tryz.call16 Tryz.func16 Tryz.ntmps16 rfl rfl rfl rfl rfl ?_
 refine zI [0, 1] ?_
 refine zS [1, 2, 4] ?_
 refine zSF [1, 2, 4, 6] (sat_impl_cloneDesk d hf) ?_
 refine zSF [1, 4, 6, 13] (sat_impl_CoreOk d.c hf.2.1) ?_
 refine zC ?_ ?_
 ·intro c1
  refine zS [4, 5] ?_
  refine zK [2, 3, 4, 5, 6, 7, 8] [2, 3, 4, 5, 6, 7, 8] ?_ ?_
  all_goals try simp only [go_sem, simprocAttr, hX]
  all_goals (rw [dl_bad c1]; try rfl)
 ·intro c1 ρ hL
  refine awl_skip ?_
  refine zA ?_
  intro K hK
  refine zL [1, 4, 6, 17] ?_
  clear hL
  intro ρ hL
  refine grp_orN (v := ?v1) 3 rfl [1, 4, 6] hL.2.2.2 rfl (fun hb K1 hK1 => ?run) (fun hb => skA (want := false) (b := _) (by rw [hb]; rfl) hL.2.2.2 rfl) (fun ρ hP hM => ?_)
  case run =>
   simp only [List.take_succ_cons, List.take_zero]
   rw [hb] at hL
   have hz : 0 < l.length := List.length_pos_iff.2 (fun e => by rw [e] at hb; simp at hb)
   have hs2 : (0 : Int) < (l.length : Int) := by omega
   try simp only [go_sem, simprocAttr, hL, hX, hs2, Int.le_refl]
   repeat' refine And.intro (by first | rfl | omega | (simp; done)) ?_
   refine hK1 _ ?_ ?_ ?_ <;> simp only [go_sem, simprocAttr, hL, hX, hs2, Int.le_refl] <;> exact rfl
  refine zPp ?_
  clear hL hP hM
  intro hL
  refine zE [1, 4, 6, 21] ?_
  clear hK K hL
  refine zC ?_ ?_
  ·intro c2
   refine zS [4, 5] ?_
   refine zK [2, 3, 4, 5, 6, 7, 8] [2, 3, 4, 5, 6, 7, 8] ?_ ?_
   all_goals try simp only [go_sem, simprocAttr, hX]
   all_goals (rw [dl_none (by simpa using c1) c2]; try rfl)
  ·intro c2 ρ hL
   refine awl_skip ?_
   have hk : corOk d.c = true := by simpa using c1
   refine zA ?_
   intro K hK
   refine zFI [9, 2, 3, 4, 5, 6, 7, 8] (sat_impl_Desk_line d l hf ho hk hl) ?_
   refine zE [4, 6, 7] ?_
   clear hK K hL
   refine zS [4, 5] ?_
   refine zK [10, 11, 12, 13, 14, 15, 16] [10, 11, 12, 13, 14, 15, 16] ?_ ?_
   all_goals try simp only [go_sem, simprocAttr, hX]
   all_goals (rw [dl_do hk c2]; try rfl)
end
end Go.Proofs.YtgpjgljgplngpaaGreatDoor.AM
