/- What is drawn: lines, desks, sessions. No conditions but those each theorem bears. -/
import Derived.Test.YtgpjgljgplngpaaGreatDoorFa
import Derived.Test.YtgpjgljgplngpaaGreatDoorCa93
import Derived.Test.YtgpjgljgplngpaaGreatDoorCb7
import Derived.Test.YtgpjgljgplngpaaGreatDoorCa85
set_option linter.unusedSimpArgs false
set_option linter.unusedVariables false
namespace Go.Proofs.YtgpjgljgplngpaaGreatDoor.AM
open Go
set_option maxHeartbeats 8000000
set_option maxRecDepth 100000
theorem sat_spec_l1Pick (c : Cu) (xs : List Bs) (h0 : 0 < xs.length) : ∃ (y : Bs) (d : Cu), (y ∈ xs) ∧ Sat Tryz.prog 86 [.ptr 0 0, .slice 1 0 xs.length xs.length] [⟨3, c.cells, true, false⟩, ⟨1, strsV xs, true, false⟩] (.str (bt y)) [⟨3, d.cells, true, false⟩, ⟨1, strsV xs, true, false⟩] := by
 suffices hE : ∃ zv zh, (∃ (y : Bs) (d : Cu), (y ∈ xs) ∧ zv = (.str (bt y)) ∧ zh = [⟨3, d.cells, true, false⟩, ⟨1, strsV xs, true, false⟩]) ∧ Sat Tryz.prog 86 [.ptr 0 0, .slice 1 0 xs.length xs.length] [⟨3, c.cells, true, false⟩, ⟨1, strsV xs, true, false⟩] zv zh from by
  obtain ⟨_, _, ⟨y, d, hq, rfl, rfl⟩, hs⟩ := hE
  exact ⟨y, d, hq, hs⟩
 have hX := trivial
 refine sat_ex [.tmp 4] 2 12 Tryz.call86 Tryz.func86 Tryz.ntmps86 rfl rfl rfl rfl rfl ?_
 refine zI [0, 1] ?_
 refine zS [0, 1] ?_
 obtain ⟨x, c, hx, hs1⟩ := sat_spec_l1Below c (xs.length : Int)
 have hx2 := hx.2.1 (by omega)
 have hn : x.toNat < xs.length := by omega
 have hd := strsV_at hn
 have hsl := strsV_len (xs := xs)
 have hX0 := hX
 replace hX := And.intro hn (And.intro hd (And.intro hsl hX))
 intro ρ hL
 refine zA ?_
 intro K hK
 refine zFJ [0] (hs1) ?_
 refine zE [4] ?_
 clear hK K hL
 clear hX
 have hX := hX0
 clear hX0
 refine zX [] [0, 1] ?_
 refine ⟨xs.getD x.toNat [], c, ?hq1, ?hv1, ?hh1⟩
 case hv1 => (try simp only [go_sem, simprocAttr, hX]); first | done | rfl
 case hh1 => (try simp only [go_sem, simprocAttr, hX]); first | done | rfl
 all_goals (exact strs_mem hn)
section
attribute [local go_sem] mk_bt bt_app bt_fits strsV_nil strsV_cons
theorem sat_spec_l20DrawLine (c : Cu)  : ∃ (y : Bs) (d : Cu), (y.length ≤ 30) ∧ Sat Tryz.prog 42 [.ptr 0 0] [⟨3, c.cells, true, false⟩] (.str (bt y)) [⟨3, d.cells, true, false⟩] := by
 suffices hE : ∃ zv zh, (∃ (y : Bs) (d : Cu), (y.length ≤ 30) ∧ zv = (.str (bt y)) ∧ zh = [⟨3, d.cells, true, false⟩]) ∧ Sat Tryz.prog 42 [.ptr 0 0] [⟨3, c.cells, true, false⟩] zv zh from by
  obtain ⟨_, _, ⟨y, d, hq, rfl, rfl⟩, hs⟩ := hE
  exact ⟨y, d, hq, hs⟩
 have hX := trivial
 refine sat_ex [.tmp 2] 1 19 Tryz.call42 Tryz.func42 Tryz.ntmps42 rfl rfl rfl rfl rfl ?_
 refine zI [0] ?_
 refine zS [0] ?_
 obtain ⟨x0, c, hx0, hs1⟩ := sat_spec_l1Below c 6
 have hb0 := hx0.2.1 (by decide)
 intro ρ hL
 refine zA ?_
 intro K hK
 refine zFJ [0] (hs1) ?_
 refine zE [0, 4] ?_
 clear hK K hL
 intro ρ hL
 refine awl_block fun R1 hw1 hR1 => ?_
 revert ρ hL
 refine zS [0, 4, 5] ?_
 intro ρ hL
 have j1 := hL
 refine awl_joinH (fun H0 σ G => (liveE [0, 4] σ ρ ∧ σ 5 = .bool (decide (x0 = 0 ∨ x0 = 1))) ∧ G = H0) ?inner1 (fun ρ G hJ => ?after1)
 case inner1 =>
  refine zN [0, 4, 5] ?_
  clear hL
  refine zC ?_ ?_
  ·intro c1 ρ hL
   refine awl_skip (awl_nil ?_)
   show wkQ _ _ _ _
   refine .mk ⟨⟨(by simp only [go_sem, simprocAttr, hL, hX, j1]), (by rw [hL.2.2]; first | rfl | (congr 1; rw [Bool.eq_iff_iff]; simp; omega))⟩, rfl⟩
  ·intro c1
   refine zS [0, 4, 5] ?_
   intro ρ hL
   refine awl_nil ?_
   show wkQ _ _ _ _
   refine .mk ⟨⟨(by simp only [go_sem, simprocAttr, hL, hX, j1]), (by rw [hL.2.2]; first | rfl | (congr 1; rw [Bool.eq_iff_iff]; simp; omega))⟩, rfl⟩
 case after1 =>
  clear hL
  obtain ⟨hL, hG⟩ := hJ
  subst hG
  try simp only [go_sem, simprocAttr, j1, hX] at hL
  revert ρ hL
  refine zC ?_ ?_
  ·intro c2
   refine zS [2] ?_
   refine zX [] [0] ?_
   refine ⟨[112, 117, 108, 108], c, ?hq1, ?hv1, ?hh1⟩
   case hv1 => (try simp only [go_sem, simprocAttr, hX]); first | done | rfl
   case hh1 => (try simp only [go_sem, simprocAttr, hX]); first | done | rfl
   all_goals ((try clear hR1); decide)
  ·intro c2
   refine zS [0, 4, 8] ?_
   refine zC ?_ ?_
   ·intro c3
    obtain ⟨x1, c, hx1, hs2⟩ := sat_spec_l1Below c 4
    have hb1 := hx1.2.1 (by decide)
    have hil := itoa_len (n := x1) (by omega)
    have f1 : lenOk [100, 111, 32] (itoa x1) = true := lenOk_of (by simp only [List.length_cons, List.length_nil]; omega)
    intro ρ hL
    repeat refine awl_seq ?_
    refine awl_regS _ rfl fun K hK => ?_
    try simp only [go_sem, simprocAttr, hL, hX, f1]
    repeat' refine And.intro (by first | rfl | omega | (simp; done)) ?_
    refine zFJ [0] (hs2) ?_
    refine opS_call_ro rfl (sat_spec_l7Digits x1 (by omega)) ?ha ?hv ?hh ?_
    case ha => simp only [go_sem, simprocAttr, hL, hX, f1]; first | done | rfl
    case hv => first | rfl | (simp only [go_sem]; done)
    case hh => first | rfl | (simp only [go_sem]; done)
    try simp only [go_sem, simprocAttr, hL, hX, f1]
    repeat' refine And.intro (by first | rfl | omega | (simp; done)) ?_
    refine hK _ _ (.mk (awl_live' [2] fun ρ hM => ?_))
    try simp only [go_sem, simprocAttr, hL, hX, f1] at hM
    clear hK K hL
    revert ρ hM
    refine zX [] [0] ?_
    refine ⟨[100, 111, 32] ++ itoa x1, c, ?hq2, ?hv2, ?hh2⟩
    case hv2 => (try simp only [go_sem, simprocAttr, hX]); first | done | rfl
    case hh2 => (try simp only [go_sem, simprocAttr, hX]); first | done | rfl
    all_goals ((try clear hR1); have hil := itoa_len (n := x1) (by omega); simp only [List.length_append, List.length_cons, List.length_nil]; omega)
   ·intro c3
    refine zS [0, 14] ?_
    refine zC ?_ ?_
    ·intro c4
     refine zS [2] ?_
     refine zX [] [0] ?_
     refine ⟨[99, 111, 109, 109, 105, 116], c, ?hq3, ?hv3, ?hh3⟩
     case hv3 => (try simp only [go_sem, simprocAttr, hX]); first | done | rfl
     case hh3 => (try simp only [go_sem, simprocAttr, hX]); first | done | rfl
     all_goals ((try clear hR1); decide)
    ·intro c4 ρ hL
     refine awl_skip (awl_nil (blk_normal (hR1 _ _ (.mk ?_))))
     obtain ⟨z, c, hz, hs3⟩ := sat_spec_l1Pick c ([[115, 119, 101, 101, 112, 32, 49], [115, 119, 101, 101, 112, 32, 51, 48], [115, 101, 116, 116, 108, 101], [114, 101, 103, 32, 50], [114, 101, 103, 32, 57], [116, 114, 97, 112], [115, 97, 109, 101], [], [59], [104, 101, 108, 112], [100, 111, 32, 48, 49], [100, 111], [114, 101, 103, 32, 51]] : List Bs) (by decide)
     refine zA ?_
     intro K hK
     refine zFJ [0, 1] (hs3) ?_
     refine zE [2] ?_
     clear hK K hL
     refine zX [] [0] ?_
     refine ⟨z, c, ?hq4, ?hv4, ?hh4⟩
     case hv4 => (try simp only [go_sem, simprocAttr, hX]); first | done | rfl
     case hh4 => (try simp only [go_sem, simprocAttr, hX]); first | done | rfl
     all_goals ((try clear hR1); have hall : ∀ w, w ∈ ([[115, 119, 101, 101, 112, 32, 49], [115, 119, 101, 101, 112, 32, 51, 48], [115, 101, 116, 116, 108, 101], [114, 101, 103, 32, 50], [114, 101, 103, 32, 57], [116, 114, 97, 112], [115, 97, 109, 101], [], [59], [104, 101, 108, 112], [100, 111, 32, 48, 49], [100, 111], [114, 101, 103, 32, 51]] : List Bs) → w.length ≤ 30 := (by decide); exact hall _ hz)
end
section
attribute [local go_sem] mk_bt bt_app bt_fits bt_size bt_ext strsV_nil strsV_cons
theorem sat_spec_l7Dent (c : Cu) (l : Bs) (hl9 : l.length ≤ 10000) : ∃ (y : Bs) (d : Cu), (y.length ≤ 1048576) ∧ Sat Tryz.prog 118 [.ptr 0 0, .str (bt l)] [⟨3, c.cells, true, false⟩] (.str (bt y)) [⟨3, d.cells, true, false⟩] := by
 suffices hE : ∃ zv zh, (∃ (y : Bs) (d : Cu), (y.length ≤ 1048576) ∧ zv = (.str (bt y)) ∧ zh = [⟨3, d.cells, true, false⟩]) ∧ Sat Tryz.prog 118 [.ptr 0 0, .str (bt l)] [⟨3, c.cells, true, false⟩] zv zh from by
  obtain ⟨_, _, ⟨y, d, hq, rfl, rfl⟩, hs⟩ := hE
  exact ⟨y, d, hq, hs⟩
 have hX := trivial
 refine sat_ex [.tmp 4] 1 32 Tryz.call118 Tryz.func118 Tryz.ntmps118 rfl rfl rfl rfl rfl ?_
 refine zI [0, 1] ?_
 refine zS [0, 1] ?_
 obtain ⟨x, c, hx, hs1⟩ := sat_spec_l1Below c ((l.length + 1 : Nat) : Int)
 have w3 : IntKind.i64.wrap ((l.length : Int) + 1) = ((l.length + 1 : Nat) : Int) := by rw [wrap64 (by omega)]; omega
 have hX0 := hX
 replace hX := And.intro w3 hX
 intro ρ hL
 refine zA ?_
 intro K hK
 refine zFJ [0] (hs1) ?_
 refine zE [0, 1, 5] ?_
 clear hK K hL
 clear hX
 have hX := hX0
 clear hX0
 obtain ⟨x2, c, hx2, hs2⟩ := sat_spec_l1Below c 5
 have hb2 := hx2.2.1 (by decide)
 intro ρ hL
 refine zA ?_
 intro K hK
 refine zFJ [0] (hs2) ?_
 refine zE [0, 1, 5, 12] ?_
 clear hK K hL
 intro ρ hL
 refine awl_block fun R1 hw1 hR1 => ?_
 revert ρ hL
 refine zS [0, 1, 5, 12, 13] ?_
 refine zC ?_ ?_
 ·intro c1
  have hga : 0 ≤ x := hx.1
  have hgb : x ≤ (l.length : Int) := by have := hx.2.1 (by omega); omega
  refine zSX [4] (And.intro hga (And.intro hgb hX)) ?_
  refine zX [] [0] ?_
  refine ⟨l.take x.toNat, c, ?hq1, ?hv1, ?hh1⟩
  case hv1 => (try simp only [go_sem, simprocAttr, hX]); first | done | rfl
  case hh1 => (try simp only [go_sem, simprocAttr, hX]); first | done | rfl
  all_goals ((try clear hR1); rw [List.length_take]; omega)
 ·intro c1
  refine zS [0, 1, 5, 18] ?_
  refine zC ?_ ?_
  ·intro c2
   obtain ⟨z, c, hz, hs3⟩ := sat_spec_l1Pick c ([[32], [48], [45], [114], [57], [10], [120]] : List Bs) (by decide)
   have hga : 0 ≤ x := hx.1
   have hgb : x ≤ (l.length : Int) := by have := hx.2.1 (by omega); omega
   have hall : ∀ w, w ∈ ([[32], [48], [45], [114], [57], [10], [120]] : List Bs) → w.length = 1 := by decide
   have hzl := hall _ hz
   have hfa : (((l.take x.toNat).length + z.length : Nat) : Int) ≤ 9223372036854775807 := by rw [List.length_take]; omega
   have hfb : (((l.take x.toNat ++ z).length + (l.drop x.toNat).length : Nat) : Int) ≤ 9223372036854775807 := by rw [List.length_append, List.length_take, List.length_drop]; omega
   have hfc : l.take l.length = l := List.take_length
   have hX0 := hX
   replace hX := And.intro hga (And.intro hgb (And.intro hfa (And.intro hfb (And.intro hfc hX))))
   intro ρ hL
   refine zAD [0, 0, 3, 0, 0, 24, 63, 0, 0, 384, 1023, 2047] ?_
   intro K hK
   refine zFDJ [0, 0, 3, 0, 0, 24, 63, 0, 0, 384, 1023, 2047] [0, 1] (hs3) ?_
   refine zE [4] ?_
   clear hK K hL
   clear hX
   have hX := hX0
   clear hX0
   refine zX [] [0] ?_
   refine ⟨l.take x.toNat ++ z ++ l.drop x.toNat, c, ?hq2, ?hv2, ?hh2⟩
   case hv2 => (try simp only [go_sem, simprocAttr, hX]); first | done | rfl
   case hh2 => (try simp only [go_sem, simprocAttr, hX]); first | done | rfl
   all_goals ((try clear hR1); have hall : ∀ w, w ∈ ([[32], [48], [45], [114], [57], [10], [120]] : List Bs) → w.length = 1 := (by decide); have hzl := hall _ hz; rw [List.length_append, List.length_append, List.length_take, List.length_drop]; omega)
  ·intro c2 ρ hL
   refine awl_skip (awl_nil (blk_normal (hR1 _ _ (.mk ?_))))
   revert ρ hL
   refine zS [4] ?_
   refine zX [] [0] ?_
   refine ⟨l, c, ?hq3, ?hv3, ?hh3⟩
   case hv3 => (try simp only [go_sem, simprocAttr, hX]); first | done | rfl
   case hh3 => (try simp only [go_sem, simprocAttr, hX]); first | done | rfl
   all_goals ((try clear hR1); omega)
end
theorem sat_spec_DrawCodeRead (bs : List UInt8) (hb : bs.length ≤ 1048576) : ∃ (y : Bs), (y.length ≤ 1048576) ∧ Sat Tryz.prog 59 [.sl bs.length bs.length (bytesV bs)] [] (.str (bt y)) [] := by
 suffices hE : ∃ zv zh, (∃ (y : Bs), (y.length ≤ 1048576) ∧ zv = (.str (bt y)) ∧ zh = []) ∧ Sat Tryz.prog 59 [.sl bs.length bs.length (bytesV bs)] [] zv zh from by
  obtain ⟨_, _, ⟨y, hq, rfl, rfl⟩, hs⟩ := hE
  exact ⟨y, hq, hs⟩
 have hX := trivial
 refine sat_ex [.tmp 2] 0 11 Tryz.call59 Tryz.func59 Tryz.ntmps59 rfl rfl rfl rfl rfl ?_
 refine zI [0] ?_
 refine zS [0] ?_
 obtain ⟨c, hc, hs1⟩ := sat_spec_l1New bs hb
 intro ρ hL
 refine zA ?_
 intro K hK
 refine zFJ [] (hs1) ?_
 refine zE [3] ?_
 clear hK K hL
 obtain ⟨L, c, hL9, hs2⟩ := sat_spec_l6DrawCode c
 obtain ⟨y, c, hy, hs3⟩ := sat_spec_l7Dent c (codeT L) (by have := codeT_len (L := L) hL9.2; omega)
 intro ρ hL
 refine zA ?_
 intro K hK
 refine zFJ [0] (hs2) ?_
 refine zF (sat_spec_CodeText L (by omega)) ?_
 refine zFJ [0] (hs3) ?_
 refine zE [2] ?_
 clear hK K hL
 refine zX [] [] ?_
 refine ⟨y, ?hq1, ?hv1, ?hh1⟩
 case hv1 => (try simp only [go_sem, simprocAttr, hX]); first | done | rfl
 case hh1 => (try simp only [go_sem, simprocAttr, hX]); first | done | rfl
 all_goals (exact hy)
theorem sat_spec_DrawDeskNew (bs : List UInt8) (hb : bs.length ≤ 1048576) : ∃ (y : Bs), (y.length ≤ 1048576) ∧ Sat Tryz.prog 21 [.sl bs.length bs.length (bytesV bs)] [] (.str (bt y)) [] := by
 suffices hE : ∃ zv zh, (∃ (y : Bs), (y.length ≤ 1048576) ∧ zv = (.str (bt y)) ∧ zh = []) ∧ Sat Tryz.prog 21 [.sl bs.length bs.length (bytesV bs)] [] zv zh from by
  obtain ⟨_, _, ⟨y, hq, rfl, rfl⟩, hs⟩ := hE
  exact ⟨y, hq, hs⟩
 have hX := trivial
 refine sat_ex [.tmp 2] 0 5 Tryz.call21 Tryz.func21 Tryz.ntmps21 rfl rfl rfl rfl rfl ?_
 refine zI [0] ?_
 refine zS [0] ?_
 obtain ⟨y, hy, hs1⟩ := sat_spec_DrawCodeRead bs hb
 intro ρ hL
 refine zA ?_
 intro K hK
 refine zFJ [] (hs1) ?_
 refine zE [2] ?_
 clear hK K hL
 refine zX [] [] ?_
 refine ⟨y, ?hq1, ?hv1, ?hh1⟩
 case hv1 => (try simp only [go_sem, simprocAttr, hX]); first | done | rfl
 case hh1 => (try simp only [go_sem, simprocAttr, hX]); first | done | rfl
 all_goals (exact hy)
end Go.Proofs.YtgpjgljgplngpaaGreatDoor.AM
