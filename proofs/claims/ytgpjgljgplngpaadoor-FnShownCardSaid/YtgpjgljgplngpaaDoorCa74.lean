/- What is drawn: keys and words as texts. No conditions but those each theorem bears. -/
import Derived.Test.YtgpjgljgplngpaaDoorFa
import Derived.Test.YtgpjgljgplngpaaDoorCa73
import Derived.Test.YtgpjgljgplngpaaDoorCa71
import Derived.Test.YtgpjgljgplngpaaDoorCb7
import Derived.Test.YtgpjgljgplngpaaDoorCa60
import Derived.Test.YtgpjgljgplngpaaDoorCb1
set_option linter.unusedSimpArgs false
set_option linter.unusedVariables false
namespace Go.Proofs.YtgpjgljgplngpaaDoor.AM
open Go
set_option maxHeartbeats 8000000
set_option maxRecDepth 100000

theorem sat_spec_l1Pick (c : Cu) (xs : List Bs) (h0 : 0 < xs.length) : ∃ (y : Bs) (d : Cu), (y ∈ xs) ∧ Sat Tryd.prog 41 [.ptr 0 0, .slice 1 0 xs.length xs.length] [⟨3, c.cells, true, false⟩, ⟨1, strsV xs, true, false⟩] (.str (bt y)) [⟨3, d.cells, true, false⟩, ⟨1, strsV xs, true, false⟩] := by
 suffices hE : ∃ zv zh, (∃ (y : Bs) (d : Cu), (y ∈ xs) ∧ zv = (.str (bt y)) ∧ zh = [⟨3, d.cells, true, false⟩, ⟨1, strsV xs, true, false⟩]) ∧ Sat Tryd.prog 41 [.ptr 0 0, .slice 1 0 xs.length xs.length] [⟨3, c.cells, true, false⟩, ⟨1, strsV xs, true, false⟩] zv zh from by
   obtain ⟨_, _, ⟨y, d, hq, rfl, rfl⟩, hs⟩ := hE
   exact ⟨y, d, hq, hs⟩
 have hX := trivial
 refine sat_ex [.tmp 4] 2 12 Tryd.call41 Tryd.func41 Tryd.ntmps41 rfl rfl rfl rfl rfl ?_
 refine zI [0, 1] ?_
 refine zS [0, 1] ?_
 obtain ⟨x, c, hx, hs1⟩ := sat_spec_l1Below c (xs.length : Int)
 have hx2 := hx.2.1 (by omega)
 have hn : x.toNat < xs.length := by omega
 have hd := strsV_at hn
 have hsl := strsV_len (xs := xs)
 have hX0 := hX
 replace hX := And.intro hn (And.intro hd (And.intro hsl hX))
 intro ρ hL
 refine zA ?_
 intro K hK
 refine zFJ [0] (hs1) ?_
 refine zE [4] ?_
 clear hK K hL
 clear hX
 have hX := hX0
 clear hX0
 refine zX [] [0, 1] ?_
 refine ⟨xs.getD x.toNat [], c, ?hq1, ?hv1, ?hh1⟩
 case hv1 => (try simp only [go_sem, simprocAttr, hX]); first | done | rfl
 case hh1 => (try simp only [go_sem, simprocAttr, hX]); first | done | rfl
 all_goals (exact strs_mem hn)
theorem sat_spec_DrawKeyText (bs : List UInt8) (hb : bs.length ≤ 1048576) : ∃ (b t p l : Int), (True) ∧ Sat Tryd.prog 17 [.sl bs.length bs.length (bytesV bs)] [] (.agg [.int .i64 b, .int .i64 t, .int .i64 p, .int .i64 l]) [] := by
 suffices hE : ∃ zv zh, (∃ (b t p l : Int), (True) ∧ zv = (.agg [.int .i64 b, .int .i64 t, .int .i64 p, .int .i64 l]) ∧ zh = []) ∧ Sat Tryd.prog 17 [.sl bs.length bs.length (bytesV bs)] [] zv zh from by
   obtain ⟨_, _, ⟨b, t, p, l, hq, rfl, rfl⟩, hs⟩ := hE
   exact ⟨b, t, p, l, hq, hs⟩
 have hX := trivial
 refine sat_ex [.cell 2 25] 0 6 Tryd.call17 Tryd.func17 Tryd.ntmps17 rfl rfl rfl rfl rfl ?_
 refine zI [0] ?_
 refine zS [0, 2] ?_
 obtain ⟨c, hc, hs1⟩ := sat_spec_l1New bs hb
 obtain ⟨b, t, p, l, c, hk, hs2⟩ := sat_spec_l2Draw c
 intro ρ hL
 refine zA ?_
 intro K hK
 refine zFJ [] (hs1) ?_
 refine zFJ [1] (hs2) ?_
 refine zE [2] ?_
 clear hK K hL
 refine zX [] [] ?_
 refine ⟨b, t, p, l, ?hq1, ?hv1, ?hh1⟩
 case hv1 => (try simp only [go_sem, simprocAttr, hX]); first | done | rfl
 case hh1 => (try simp only [go_sem, simprocAttr, hX]); first | done | rfl
 all_goals (first | trivial | assumption | omega | (simp; done))
theorem sat_spec_DrawWordText (bs : List UInt8) (hb : bs.length ≤ 1048576) : ∃ (w : Word), (True) ∧ Sat Tryd.prog 20 [.sl bs.length bs.length (bytesV bs)] [] (.agg w.cells) [] := by
 suffices hE : ∃ zv zh, (∃ (w : Word), (True) ∧ zv = (.agg w.cells) ∧ zh = []) ∧ Sat Tryd.prog 20 [.sl bs.length bs.length (bytesV bs)] [] zv zh from by
   obtain ⟨_, _, ⟨w, hq, rfl, rfl⟩, hs⟩ := hE
   exact ⟨w, hq, hs⟩
 have hX := trivial
 refine sat_ex [.cell 2 32] 0 6 Tryd.call20 Tryd.func20 Tryd.ntmps20 rfl rfl rfl rfl rfl ?_
 refine zI [0] ?_
 refine zS [0, 2] ?_
 obtain ⟨c, hc, hs1⟩ := sat_spec_l1New bs hb
 obtain ⟨w, c, hw, hs2⟩ := sat_spec_l3Draw c
 intro ρ hL
 refine zA ?_
 intro K hK
 refine zFJ [] (hs1) ?_
 refine zFJ [1] (hs2) ?_
 refine zE [2] ?_
 clear hK K hL
 refine zX [] [] ?_
 refine ⟨w, ?hq1, ?hv1, ?hh1⟩
 case hv1 => (try simp only [go_sem, simprocAttr, hX]); first | done | rfl
 case hh1 => (try simp only [go_sem, simprocAttr, hX]); first | done | rfl
 all_goals (first | trivial | assumption | omega | (simp; done))
theorem sat_spec_DrawTrapText (bs : List UInt8) (hb : bs.length ≤ 1048576) : ∃ (x : Int), (True) ∧ Sat Tryd.prog 21 [.sl bs.length bs.length (bytesV bs)] [] (.int .i64 x) [] := by
 suffices hE : ∃ zv zh, (∃ (x : Int), (True) ∧ zv = (.int .i64 x) ∧ zh = []) ∧ Sat Tryd.prog 21 [.sl bs.length bs.length (bytesV bs)] [] zv zh from by
   obtain ⟨_, _, ⟨x, hq, rfl, rfl⟩, hs⟩ := hE
   exact ⟨x, hq, hs⟩
 have hX := trivial
 refine sat_ex [.tmp 2] 0 7 Tryd.call21 Tryd.func21 Tryd.ntmps21 rfl rfl rfl rfl rfl ?_
 refine zI [0] ?_
 refine zS [0] ?_
 obtain ⟨c, hc, hs1⟩ := sat_spec_l1New bs hb
 obtain ⟨x0, c, hx0, hs2⟩ := sat_spec_l1Below c 9
 have hb0 := hx0.2.1 (by decide)
 intro ρ hL
 refine zA ?_
 intro K hK
 refine zFJ [] (hs1) ?_
 refine zFJ [0] (hs2) ?_
 refine zE [2] ?_
 clear hK K hL
 refine zX [] [] ?_
 refine ⟨?y1_0, ?hq1, ?hv1, ?hh1⟩
 case hv1 => (try simp only [go_sem, simprocAttr, hX]); first | done | rfl
 case hh1 => (try simp only [go_sem, simprocAttr, hX]); first | done | rfl
 all_goals (first | trivial | assumption | omega | (simp; done))
section
attribute [local go_sem] mk_bt bt_app bt_fits bt_size bt_ext strsV_nil strsV_cons
theorem sat_spec_DrawKeyRead (bs : List UInt8) (hb : bs.length ≤ 1048576) : ∃ (y : Bs), (y.length ≤ 1048576) ∧ Sat Tryd.prog 19 [.sl bs.length bs.length (bytesV bs)] [] (.str (bt y)) [] := by
 suffices hE : ∃ zv zh, (∃ (y : Bs), (y.length ≤ 1048576) ∧ zv = (.str (bt y)) ∧ zh = []) ∧ Sat Tryd.prog 19 [.sl bs.length bs.length (bytesV bs)] [] zv zh from by
   obtain ⟨_, _, ⟨y, hq, rfl, rfl⟩, hs⟩ := hE
   exact ⟨y, hq, hs⟩
 have hX := trivial
 refine sat_ex [.tmp 2] 0 37 Tryd.call19 Tryd.func19 Tryd.ntmps19 rfl rfl rfl rfl rfl ?_
 refine zI [0] ?_
 refine zS [0] ?_
 obtain ⟨c, hc, hs1⟩ := sat_spec_l1New bs hb
 intro ρ hL
 refine zA ?_
 intro K hK
 refine zFJ [] (hs1) ?_
 refine zE [3] ?_
 clear hK K hL
 obtain ⟨b, t, p, l, c, hk, hs2⟩ := sat_spec_l2DrawRight c
 intro ρ hL
 refine zA ?_
 intro K hK
 refine zFJ [0] (hs2) ?_
 refine zF (sat_spec_KeyText ⟨b, t, p, l⟩) ?_
 refine zE [3, 4] ?_
 clear hK K hL
 obtain ⟨x, c, hx, hs3⟩ := sat_spec_l1Below c ((keyT ⟨b, t, p, l⟩).length + 1 : Nat)
 have lk := keyT_len (k := ⟨b, t, p, l⟩)
 have w3 : IntKind.i64.wrap (((keyT ⟨b, t, p, l⟩).length : Int) + 1) = (((keyT ⟨b, t, p, l⟩).length + 1 : Nat) : Int) := by rw [wrap64 (by omega)]; omega
 have hX0 := hX
 replace hX := And.intro w3 hX
 intro ρ hL
 refine zA ?_
 intro K hK
 refine zFJ [0] (hs3) ?_
 refine zE [3, 4, 5] ?_
 clear hK K hL
 clear hX
 have hX := hX0
 clear hX0
 obtain ⟨x2, c, hx2, hs4⟩ := sat_spec_l1Below c 5
 have hb2 := hx2.2.1 (by decide)
 intro ρ hL
 refine zA ?_
 intro K hK
 refine zFJ [0] (hs4) ?_
 refine zE [3, 4, 5, 17] ?_
 clear hK K hL
 intro ρ hL
 refine awl_block fun R1 hw1 hR1 => ?_
 revert ρ hL
 refine zS [3, 4, 5, 17, 18] ?_
 refine zC ?_ ?_
 · intro c1
   have hga : 0 ≤ x := hx.1
   have hgb : x ≤ ((keyT ⟨b, t, p, l⟩).length : Int) := by have := hx.2.1 (by omega); omega
   have hX0 := hX
   replace hX := And.intro hga (And.intro hgb hX)
   refine zS [2] ?_
   clear hX
   have hX := hX0
   clear hX0
   refine zX [] [] ?_
   refine ⟨(keyT ⟨b, t, p, l⟩).take x.toNat, ?hq1, ?hv1, ?hh1⟩
   case hv1 => (try simp only [go_sem, simprocAttr, hX]); first | done | rfl
   case hh1 => (try simp only [go_sem, simprocAttr, hX]); first | done | rfl
   all_goals try clear hR1
   all_goals (rw [List.length_take]; omega)
 · intro c1
   refine zS [3, 4, 5, 23] ?_
   refine zC ?_ ?_
   · intro c2
     obtain ⟨z, c, hz, hs5⟩ := sat_spec_l1Pick c [[48], [44], [108], [35], [57], [41], [91]] (by decide)
     have hga : 0 ≤ x := hx.1
     have hgb : x ≤ ((keyT ⟨b, t, p, l⟩).length : Int) := by have := hx.2.1 (by omega); omega
     have hzl := pks_len hz
     have hfa : ((((keyT ⟨b, t, p, l⟩).take x.toNat).length + z.length : Nat) : Int) ≤ 9223372036854775807 := by rw [List.length_take]; omega
     have hfb : ((((keyT ⟨b, t, p, l⟩).take x.toNat ++ z).length + ((keyT ⟨b, t, p, l⟩).drop x.toNat).length : Nat) : Int) ≤ 9223372036854775807 := by rw [List.length_append, List.length_take, List.length_drop]; omega
     have hfc : (keyT ⟨b, t, p, l⟩).take (keyT ⟨b, t, p, l⟩).length = keyT ⟨b, t, p, l⟩ := List.take_length
     have hX0 := hX
     replace hX := And.intro hga (And.intro hgb (And.intro hfa (And.intro hfb (And.intro hfc hX))))
     intro ρ hL
     refine zAD [0, 0, 3, 0, 0, 24, 63, 0, 0, 384, 1023, 2047] ?_
     intro K hK
     refine zFDJ [0, 0, 3, 0, 0, 24, 63, 0, 0, 384, 1023, 2047] [0, 1] (hs5) ?_
     refine zE [2] ?_
     clear hK K hL
     clear hX
     have hX := hX0
     clear hX0
     refine zX [] [] ?_
     refine ⟨(keyT ⟨b, t, p, l⟩).take x.toNat ++ z ++ (keyT ⟨b, t, p, l⟩).drop x.toNat, ?hq2, ?hv2, ?hh2⟩
     case hv2 => (try simp only [go_sem, simprocAttr, hX]); first | done | rfl
     case hh2 => (try simp only [go_sem, simprocAttr, hX]); first | done | rfl
     all_goals try clear hR1
     all_goals (have hzl := pks_len hz; rw [List.length_append, List.length_append, List.length_take, List.length_drop]; omega)
   · intro c2
     intro ρ hL
     refine awl_skip ?_
     refine awl_nil ?_
     refine blk_normal (hR1 _ _ (.mk ?_))
     revert ρ hL
     refine zS [2] ?_
     refine zX [] [] ?_
     refine ⟨keyT ⟨b, t, p, l⟩, ?hq3, ?hv3, ?hh3⟩
     case hv3 => (try simp only [go_sem, simprocAttr, hX]); first | done | rfl
     case hh3 => (try simp only [go_sem, simprocAttr, hX]); first | done | rfl
     all_goals try clear hR1
     all_goals (omega)
end
end Go.Proofs.YtgpjgljgplngpaaDoor.AM
