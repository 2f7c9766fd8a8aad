/- The law Done, of what is drawn. No conditions but those each theorem bears. -/
import Derived.Test.YtdifphcihhbjlaaGreatFa
import Derived.Test.YtdifphcihhbjlaaGreatM8
import Derived.Test.YtdifphcihhbjlaaGreatCb6
import Derived.Test.YtdifphcihhbjlaaGreatCb8
import Derived.Test.YtdifphcihhbjlaaGreatCa8
import Derived.Test.YtdifphcihhbjlaaGreatCb4
set_option linter.unusedSimpArgs false
set_option linter.unusedVariables false
namespace Go.Proofs.YtdifphcihhbjlaaGreat.AM
open Go
set_option maxHeartbeats 8000000
set_option maxRecDepth 100000

section
variable {c : Cor} {i : Int} {j : Nat}
theorem do_same (h : corOk c = true) (hj : j < (do_ c i).1.rob.length) (hne : ¬ (j : Int) = i) : (do_ c i).1.rob.getD j noEnt = c.rob.getD j noEnt := by
  by_cases hr : ready c i = true
  · obtain ⟨h1, h2, h3⟩ := ready_parts hr
    obtain ⟨m, rfl, hm⟩ := pick_idx h2
    have hjm : ¬ m = j := fun g => hne (by rw [g])
    rw [do_on h hr, Int.toNat_natCast] at hj ⊢
    have hs : ∀ v : Ent, (c.rob.set m v).getD j noEnt = c.rob.getD j noEnt := fun v => by
      rw [List.getD_eq_getElem?_getD, List.getElem?_set_ne hjm, ← List.getD_eq_getElem?_getD]
    unfold doE at hj ⊢
    split at hj
    · rename_i e
      rw [if_pos e]
      have hlt : j < m + 1 := by simp only [withRob, List.length_take] at hj; omega
      show ((c.rob.set m _).take (m + 1)).getD j noEnt = _
      rw [List.getD_eq_getElem?_getD, List.getElem?_take_of_lt hlt, ← List.getD_eq_getElem?_getD, hs]
    · rename_i e
      rw [if_neg e]
      split at hj
      · rename_i e2
        rw [if_pos e2]
        have hlt : j < m + 1 := by simp only [withRob, List.length_take] at hj; omega
        show ((c.rob.set m _).take (m + 1)).getD j noEnt = _
        rw [List.getD_eq_getElem?_getD, List.getElem?_take_of_lt hlt, ← List.getD_eq_getElem?_getD, hs]
      · rename_i e2
        rw [if_neg e2]
        exact hs _
  · rw [do_idle h (by simpa using hr)]
theorem do_is (h : corOk c = true) : (do_ c i).2 = ready c i := by
  cases hr : ready c i with
  | true => rw [do_on h hr]
  | false => rw [do_idle h hr]
theorem do_yes (h : corOk c = true) (h2 : (do_ c i).2 = true) : 0 ≤ i ∧ i.toNat < (do_ c i).1.rob.length ∧ ((do_ c i).1.rob.getD i.toNat noEnt).done = true ∧ ((do_ c i).1.rob.length = c.rob.length ∨ (do_ c i).1.rob.length = i.toNat + 1) := by
  have hr : ready c i = true := by rw [← do_is h]; exact h2
  obtain ⟨h1, h2, h3⟩ := ready_parts hr
  obtain ⟨m, rfl, hm⟩ := pick_idx h2
  rw [do_on h hr, Int.toNat_natCast]
  have hs : ∀ v : Ent, (c.rob.set m v).getD m noEnt = v := fun v => by simp [hm]
  have hs2 : ∀ v : Ent, ((c.rob.set m v).take (m + 1)).getD m noEnt = v := fun v => by
    rw [List.getD_eq_getElem?_getD, List.getElem?_take_of_lt (Nat.lt_succ_self m), ← List.getD_eq_getElem?_getD, hs]
  refine ⟨Int.natCast_nonneg m, ?_⟩
  unfold doE
  split
  · exact ⟨by simp [withRob]; omega, by simp only [withRob, hs2], Or.inr (by simp [withRob]; omega)⟩
  · split
    · exact ⟨by simp [withRob]; omega, by simp only [withRob, hs2], Or.inr (by simp [withRob]; omega)⟩
    · exact ⟨by simpa [withRob] using hm, by simp only [withRob, hs], Or.inl (by simp [withRob])⟩
end
theorem sat_spec_l12DrawAt (bs : List UInt8) (hb : bs.length ≤ 1048576) : ∃ (k : Cor) (i r : Int) (rs ws : List Word) (gs : List Int) (p o g : Nat), (smallC k ∧ cutW rs p k.s.regs ∧ cutW ws o k.s.mem.words ∧ cutI gs g k.guesses) ∧ Sat Tryz.prog 70 [.sl bs.length bs.length (bytesV bs)] [] (.tuple [.agg (k.ownC 0 1 2 3 4 p o g), .int .i64 i, .int .i64 r]) [⟨6, rows rs, true, false⟩, ⟨6, rows ws, true, false⟩, ⟨1, rows k.s.mem.gone, true, false⟩, ⟨40, rows k.rob, true, false⟩, ⟨1, ints gs, true, false⟩] := by
 suffices hE : ∃ zv zh, (∃ (k : Cor) (i r : Int) (rs ws : List Word) (gs : List Int) (p o g : Nat), (smallC k ∧ cutW rs p k.s.regs ∧ cutW ws o k.s.mem.words ∧ cutI gs g k.guesses) ∧ zv = (.tuple [.agg (k.ownC 0 1 2 3 4 p o g), .int .i64 i, .int .i64 r]) ∧ zh = [⟨6, rows rs, true, false⟩, ⟨6, rows ws, true, false⟩, ⟨1, rows k.s.mem.gone, true, false⟩, ⟨40, rows k.rob, true, false⟩, ⟨1, ints gs, true, false⟩]) ∧ Sat Tryz.prog 70 [.sl bs.length bs.length (bytesV bs)] [] zv zh from by
   obtain ⟨_, _, ⟨k, i, r, rs, ws, gs, p, o, g, hq, rfl, rfl⟩, hs⟩ := hE
   exact ⟨k, i, r, rs, ws, gs, p, o, g, hq, hs⟩
 have hX := trivial
 refine sat_ex [.cell 2 37, .tmp 3, .tmp 4] 0 30 Tryz.call70 Tryz.func70 Tryz.ntmps70 rfl rfl rfl rfl rfl ?_
 refine zI [0] ?_
 refine zS [0, 2] ?_
 obtain ⟨c, hc, hs1⟩ := sat_spec_l1New bs hb
 intro ρ hL
 refine zA ?_
 intro K hK
 refine zFJ [] (hs1) ?_
 refine zE [2, 5] ?_
 clear hK K hL
 obtain ⟨l, k, rs, ws, gs, p, o, g, c, hlk, hs2⟩ := sat_spec_l12Draw c
 intro ρ hL
 refine zA ?_
 intro K hK
 refine zFJ [1] (hs2) ?_
 refine zE [2, 5, 7] ?_
 clear hK K hL
 obtain ⟨x0, c, hx0, hs3⟩ := sat_spec_l1Below c 8
 have hb0 := hx0.2.1 (by decide)
 obtain ⟨x1, c, hx1, hs4⟩ := sat_spec_l1Below c 20
 have hb1 := hx1.2.1 (by decide)
 intro ρ hL
 refine zA ?_
 intro K hK
 refine zFJ [1] (hs3) ?_
 refine zFJ [1] (hs4) ?_
 refine zE [2, 5, 7, 8] ?_
 clear hK K hL
 obtain ⟨x2, c, hx2, hs5⟩ := sat_spec_l1Below c 9
 have hb2 := hx2.2.1 (by decide)
 obtain ⟨x3, c, hx3, hs6⟩ := sat_spec_l1Below c 20
 have hb3 := hx3.2.1 (by decide)
 intro ρ hL
 refine zAD [0, 0, 0, 4, 0, 28, 60, 124, 61, 319, 1023] ?_
 intro K hK
 refine zFDJ [0, 0, 0, 4, 0, 28, 60, 124, 61, 319, 1023] [1] (hs5) ?_
 refine zFDJ [0, 0, 0, 4, 0, 28, 60, 124, 61, 319, 1023] [1] (hs6) ?_
 refine zE [2, 3, 4] ?_
 clear hK K hL
 refine zX [3, 4, 5, 6, 7] [3, 4, 5, 6, 7] ?_
 refine ⟨k, ?xi0, ?xr0, rs, ws, gs, p, o, g, ?hq1, ?hv1, ?hh1⟩
 case hv1 => (try simp only [go_sem, simprocAttr, hX]); first | done | rfl
 case hh1 => (try simp only [go_sem, simprocAttr, hX]); first | done | rfl
 all_goals (exact hlk.2)
theorem sat_spec_DrawDo (bs : List UInt8) (hb : bs.length ≤ 1048576) : ∃ (k : Cor) (i : Int) (rs ws : List Word) (gs : List Int) (p o g : Nat), (smallC k ∧ cutW rs p k.s.regs ∧ cutW ws o k.s.mem.words ∧ cutI gs g k.guesses) ∧ Sat Tryz.prog 14 [.sl bs.length bs.length (bytesV bs)] [] (.tuple [.agg (k.ownC 0 1 2 3 4 p o g), .int .i64 i]) [⟨6, rows rs, true, false⟩, ⟨6, rows ws, true, false⟩, ⟨1, rows k.s.mem.gone, true, false⟩, ⟨40, rows k.rob, true, false⟩, ⟨1, ints gs, true, false⟩] := by
 suffices hE : ∃ zv zh, (∃ (k : Cor) (i : Int) (rs ws : List Word) (gs : List Int) (p o g : Nat), (smallC k ∧ cutW rs p k.s.regs ∧ cutW ws o k.s.mem.words ∧ cutI gs g k.guesses) ∧ zv = (.tuple [.agg (k.ownC 0 1 2 3 4 p o g), .int .i64 i]) ∧ zh = [⟨6, rows rs, true, false⟩, ⟨6, rows ws, true, false⟩, ⟨1, rows k.s.mem.gone, true, false⟩, ⟨40, rows k.rob, true, false⟩, ⟨1, ints gs, true, false⟩]) ∧ Sat Tryz.prog 14 [.sl bs.length bs.length (bytesV bs)] [] zv zh from by
   obtain ⟨_, _, ⟨k, i, rs, ws, gs, p, o, g, hq, rfl, rfl⟩, hs⟩ := hE
   exact ⟨k, i, rs, ws, gs, p, o, g, hq, hs⟩
 have hX := trivial
 refine sat_ex [.cell 2 37, .tmp 3] 0 15 Tryz.call14 Tryz.func14 Tryz.ntmps14 rfl rfl rfl rfl rfl ?_
 refine zI [0] ?_
 refine zS [0, 2] ?_
 obtain ⟨k, i, r, rs, ws, gs, p, o, g, hk, hs1⟩ := sat_spec_l12DrawAt bs hb
 intro ρ hL
 refine zA ?_
 intro K hK
 refine zFJ [] (hs1) ?_
 refine zE [2, 4, 5] ?_
 clear hK K hL
 refine zS [2, 3] ?_
 refine zX [1, 2, 3, 4, 5] [1, 2, 3, 4, 5] ?_
 refine ⟨k, i, rs, ws, gs, p, o, g, ?hq1, ?hv1, ?hh1⟩
 case hv1 => (try simp only [go_sem, simprocAttr, hX]); first | done | rfl
 case hh1 => (try simp only [go_sem, simprocAttr, hX]); first | done | rfl
 all_goals (exact hk)
theorem sat_spec_DrawReady (bs : List UInt8) (hb : bs.length ≤ 1048576) : ∃ (k : Cor) (i : Int) (rs ws : List Word) (gs : List Int) (p o g : Nat), (smallC k ∧ cutW rs p k.s.regs ∧ cutW ws o k.s.mem.words ∧ cutI gs g k.guesses) ∧ Sat Tryz.prog 17 [.sl bs.length bs.length (bytesV bs)] [] (.tuple [.agg (k.ownC 0 1 2 3 4 p o g), .int .i64 i]) [⟨6, rows rs, true, false⟩, ⟨6, rows ws, true, false⟩, ⟨1, rows k.s.mem.gone, true, false⟩, ⟨40, rows k.rob, true, false⟩, ⟨1, ints gs, true, false⟩] := by
 suffices hE : ∃ zv zh, (∃ (k : Cor) (i : Int) (rs ws : List Word) (gs : List Int) (p o g : Nat), (smallC k ∧ cutW rs p k.s.regs ∧ cutW ws o k.s.mem.words ∧ cutI gs g k.guesses) ∧ zv = (.tuple [.agg (k.ownC 0 1 2 3 4 p o g), .int .i64 i]) ∧ zh = [⟨6, rows rs, true, false⟩, ⟨6, rows ws, true, false⟩, ⟨1, rows k.s.mem.gone, true, false⟩, ⟨40, rows k.rob, true, false⟩, ⟨1, ints gs, true, false⟩]) ∧ Sat Tryz.prog 17 [.sl bs.length bs.length (bytesV bs)] [] zv zh from by
   obtain ⟨_, _, ⟨k, i, rs, ws, gs, p, o, g, hq, rfl, rfl⟩, hs⟩ := hE
   exact ⟨k, i, rs, ws, gs, p, o, g, hq, hs⟩
 have hX := trivial
 refine sat_ex [.cell 2 37, .tmp 3] 0 15 Tryz.call17 Tryz.func17 Tryz.ntmps17 rfl rfl rfl rfl rfl ?_
 refine zI [0] ?_
 refine zS [0, 2] ?_
 obtain ⟨k, i, r, rs, ws, gs, p, o, g, hk, hs1⟩ := sat_spec_l12DrawAt bs hb
 intro ρ hL
 refine zA ?_
 intro K hK
 refine zFJ [] (hs1) ?_
 refine zE [2, 4, 5] ?_
 clear hK K hL
 refine zS [2, 3] ?_
 refine zX [1, 2, 3, 4, 5] [1, 2, 3, 4, 5] ?_
 refine ⟨k, i, rs, ws, gs, p, o, g, ?hq1, ?hv1, ?hh1⟩
 case hv1 => (try simp only [go_sem, simprocAttr, hX]); first | done | rfl
 case hh1 => (try simp only [go_sem, simprocAttr, hX]); first | done | rfl
 all_goals (exact hk)
theorem sat_spec_l8DrawBy (c : Cu)  : ∃ (w : Word) (d : Cu), (True) ∧ Sat Tryz.prog 76 [.ptr 0 0] [⟨3, c.cells, true, false⟩] (.agg w.cells) [⟨3, d.cells, true, false⟩] := by
 suffices hE : ∃ zv zh, (∃ (w : Word) (d : Cu), (True) ∧ zv = (.agg w.cells) ∧ zh = [⟨3, d.cells, true, false⟩]) ∧ Sat Tryz.prog 76 [.ptr 0 0] [⟨3, c.cells, true, false⟩] zv zh from by
   obtain ⟨_, _, ⟨w, d, hq, rfl, rfl⟩, hs⟩ := hE
   exact ⟨w, d, hq, hs⟩
 have hX := trivial
 refine sat_ex [.cell 2 28] 1 15 Tryz.call76 Tryz.func76 Tryz.ntmps76 rfl rfl rfl rfl rfl ?_
 refine zI [0] ?_
 refine zS [0, 2] ?_
 obtain ⟨q1, c, hq1, hs1⟩ := sat_spec_l1Once c 3
 intro ρ hL
 refine zA ?_
 intro K hK
 refine zFJ [0] (hs1) ?_
 refine zE [0, 2, 4] ?_
 clear hK K hL
 refine zC ?_ ?_
 · intro c1
   obtain ⟨w, c, hw, hs2⟩ := sat_spec_l3Draw c
   intro ρ hL
   refine zA ?_
   intro K hK
   refine zFJ [0] (hs2) ?_
   refine zE [2] ?_
   clear hK K hL
   refine zX [] [0] ?_
   refine ⟨w, c, ?hq1, ?hv1, ?hh1⟩
   case hv1 => (try simp only [go_sem, simprocAttr, hX]); first | done | rfl
   case hh1 => (try simp only [go_sem, simprocAttr, hX]); first | done | rfl
   all_goals (first | trivial | assumption | omega | (simp; done))
 · intro c1
   intro ρ hL
   refine awl_skip ?_
   obtain ⟨x1, c, hx1, hs3⟩ := sat_spec_l1PickInt c [0, 0, 1, 2, 8, 16] (by simp)
   obtain ⟨x2, c, hx2, hs4⟩ := sat_spec_l1Below c 24
   have hb2 := hx2.2.1 (by decide)
   have hm9 : 0 ≤ x1 ∧ x1 ≤ 16 := by simp at hx1; omega
   have w63 : IntKind.i64.wrap (63 - x1) = 63 - x1 := wrap64 (by omega)
   have hX0 := hX
   replace hX := And.intro w63 hX
   refine zA ?_
   intro K hK
   refine zFJ [0, 2] (hs3) ?_
   refine zFJ [0] (hs4) ?_
   refine zF (sat_spec_KeyWord ⟨0, 24, 63 - x1, 0⟩ x2) ?_
   refine zE [2] ?_
   clear hK K hL
   clear hX
   have hX := hX0
   clear hX0
   refine zX [] [0] ?_
   refine ⟨keyWord ⟨0, 24, 63 - x1, 0⟩ x2, c, ?hq2, ?hv2, ?hh2⟩
   case hv2 => (try simp only [go_sem, simprocAttr, hX]); first | done | rfl
   case hh2 => (try simp only [go_sem, simprocAttr, hX]); first | done | rfl
   all_goals (first | trivial | assumption | omega | (simp; done))
theorem sat_spec_DrawFound (bs : List UInt8) (hb : bs.length ≤ 1048576) : ∃ (k : Cor) (i : Int) (w : Word) (n : Int) (rs ws : List Word) (gs : List Int) (p o g : Nat), (smallC k ∧ cutW rs p k.s.regs ∧ cutW ws o k.s.mem.words ∧ cutI gs g k.guesses) ∧ Sat Tryz.prog 18 [.sl bs.length bs.length (bytesV bs)] [] (.tuple [.agg (k.ownC 0 1 2 3 4 p o g), .int .i64 i, .agg w.cells, .int .i64 n]) [⟨6, rows rs, true, false⟩, ⟨6, rows ws, true, false⟩, ⟨1, rows k.s.mem.gone, true, false⟩, ⟨40, rows k.rob, true, false⟩, ⟨1, ints gs, true, false⟩] := by
 suffices hE : ∃ zv zh, (∃ (k : Cor) (i : Int) (w : Word) (n : Int) (rs ws : List Word) (gs : List Int) (p o g : Nat), (smallC k ∧ cutW rs p k.s.regs ∧ cutW ws o k.s.mem.words ∧ cutI gs g k.guesses) ∧ zv = (.tuple [.agg (k.ownC 0 1 2 3 4 p o g), .int .i64 i, .agg w.cells, .int .i64 n]) ∧ zh = [⟨6, rows rs, true, false⟩, ⟨6, rows ws, true, false⟩, ⟨1, rows k.s.mem.gone, true, false⟩, ⟨40, rows k.rob, true, false⟩, ⟨1, ints gs, true, false⟩]) ∧ Sat Tryz.prog 18 [.sl bs.length bs.length (bytesV bs)] [] zv zh from by
   obtain ⟨_, _, ⟨k, i, w, n, rs, ws, gs, p, o, g, hq, rfl, rfl⟩, hs⟩ := hE
   exact ⟨k, i, w, n, rs, ws, gs, p, o, g, hq, hs⟩
 have hX := trivial
 refine sat_ex [.cell 2 37, .tmp 3, .cell 4 28, .tmp 5] 0 29 Tryz.call18 Tryz.func18 Tryz.ntmps18 rfl rfl rfl rfl rfl ?_
 refine zI [0] ?_
 refine zS [0, 2, 4] ?_
 obtain ⟨c, hc, hs1⟩ := sat_spec_l1New bs hb
 intro ρ hL
 refine zA ?_
 intro K hK
 refine zFJ [] (hs1) ?_
 refine zE [0, 2, 4, 6] ?_
 clear hK K hL
 obtain ⟨k, i, r, rs, ws, gs, p, o, g, hk, hs2⟩ := sat_spec_l12DrawAt bs hb
 intro ρ hL
 refine zA ?_
 intro K hK
 refine zFJ [] (hs2) ?_
 refine zE [2, 4, 6, 7, 8] ?_
 clear hK K hL
 obtain ⟨w, c, hw, hs3⟩ := sat_spec_l8DrawBy c
 intro ρ hL
 refine zA ?_
 intro K hK
 refine zFJ [2] (hs3) ?_
 refine zE [2, 4, 6, 7, 8, 10] ?_
 clear hK K hL
 obtain ⟨x1, c, hx1, hs4⟩ := sat_spec_l1Below c 24
 have hb1 := hx1.2.1 (by decide)
 obtain ⟨x2, c, hx2, hs5⟩ := sat_spec_l1PickInt c [0, 1, 2, 3, 24, -1, x1] (by simp)
 intro ρ hL
 refine zAD [0, 0, 0, 0, 0, 16, 48, 120, 249, 507, 1023, 2047] ?_
 intro K hK
 refine zFDJ [0, 0, 0, 0, 0, 16, 48, 120, 249, 507, 1023, 2047] [2] (hs4) ?_
 refine zFDJ [0, 0, 0, 0, 0, 16, 48, 120, 249, 507, 1023, 2047] [2, 10] (hs5) ?_
 refine zE [2, 3, 4, 5] ?_
 clear hK K hL
 refine zX [3, 4, 5, 6, 7] [3, 4, 5, 6, 7] ?_
 refine ⟨k, i, w, x2, rs, ws, gs, p, o, g, ?hq1, ?hv1, ?hh1⟩
 case hv1 => (try simp only [go_sem, simprocAttr, hX]); first | done | rfl
 case hh1 => (try simp only [go_sem, simprocAttr, hX]); first | done | rfl
 all_goals (exact hk)
section
attribute [local go_sem] word_deq decide_true
theorem sat_laws_FnDone (bs : List UInt8) (hs : bs.length ≤ 9223372036854775807) : Sat Tryz.prog 3 [.sl bs.length bs.length (bytesV bs)] [] (.bool true) [] := by
 have hX := trivial
 refine sat_mk [.tmp 2] 0 195 Tryz.call3 Tryz.func3 Tryz.ntmps3 rfl rfl rfl rfl rfl ?_
 refine zI [0] ?_
 refine zG [] [0] ?_
 intro ρ hL
 refine zA ?_
 intro K hK
 refine zF (sat_laws_big _) ?_
 refine zEG [] [0, 21] ?_
 clear hK K hL
 refine zC ?_ ?_
 · intro c1
   refine zG [] [2] ?_
   refine zR ?_
   try simp only [go_sem, simprocAttr]
   all_goals (rfl)
 · intro c1
   have hb : bs.length ≤ 1048576 := by omega
   intro ρ hL
   refine awl_skip ?_
   obtain ⟨k, a, rs, ws, gs, p, o, g, hk9, hs1⟩ := sat_spec_DrawDo bs hb
   obtain ⟨hsc, hcr, hcw, hci⟩ := hk9
   have hf := smallC_fit hsc
   have hq1 := hcr.1
   have hq2 := hcw.1
   have hq3 := hci.1
   have hd9 := do_fit (i := a) hf
   have hr12 := hsc.2.1
   have hdl := do_len (c := k) (m := a)
   replace hX := And.intro hq1 (And.intro hq2 (And.intro hq3 hX))
   refine zA ?_
   intro K hK
   refine zFJ [] (hs1) ?_
   refine zEG [5, 0, 1, 2, 3, 4] [0, 3, 4] ?_
   clear hK K hL
   intro ρ hL
   refine zA ?_
   intro K hK
   refine zF (sat_impl_Do k a hf) ?_
   refine zEG [0, 1, 2, 3, 4, 5, 11, 6, 7, 8, 9, 10] [0, 3, 4, 5, 6] ?_
   clear hK K hL
   intro ρ hL
   refine zA ?_
   intro K hK
   refine zF (sat_spec_Do k a hf) ?_
   refine zEG [0, 1, 2, 3, 4, 5, 6, 7, 8, 9, 10, 11, 17, 12, 13, 14, 15, 16] [0, 3, 4, 5, 6, 7, 8] ?_
   clear hK K hL
   intro ρ hL
   refine zA ?_
   intro K hK
   refine zEG [0, 1, 2, 3, 4, 5, 6, 7, 8, 9, 10, 11, 12, 13, 14, 15, 16, 17] [0, 3, 4, 5, 6, 7, 64] ?_
   clear hK K hL
   refine zQ ?_ ?_
   · intro c2
     try simp only [cnd] at c2
     first | done | cases c2 | (simp at c2)
   · intro c2
     try simp only [cnd] at c2
     intro ρ hL
     refine awl_skip ?_
     obtain ⟨x, b, rs8, ws8, gs8, p8, o8, g8, hk8, hs2⟩ := sat_spec_DrawReady bs hb
     obtain ⟨hsc8, hcr8, hcw8, hci8⟩ := hk8
     have hf8 := smallC_fit hsc8
     have hq81 := hcr8.1
     have hq82 := hcw8.1
     have hq83 := hci8.1
     replace hX := And.intro hq81 (And.intro hq82 (And.intro hq83 hX))
     refine zA ?_
     intro K hK
     refine zFJ [] (hs2) ?_
     refine zEG [0, 1, 2, 3, 4, 5, 6, 7, 8, 9, 10, 11, 12, 13, 14, 15, 16, 17, 23, 18, 19, 20, 21, 22] [0, 3, 4, 5, 6, 7, 9, 10] ?_
     clear hK K hL
     obtain ⟨f, q, w, n, rs7, ws7, gs7, p7, o7, g7, hk7, hs3⟩ := sat_spec_DrawFound bs hb
     obtain ⟨hsc7, hcr7, hcw7, hci7⟩ := hk7
     have hf7 := smallC_fit hsc7
     have hq71 := hcr7.1
     have hq72 := hcw7.1
     have hq73 := hci7.1
     replace hX := And.intro hq71 (And.intro hq72 (And.intro hq73 hX))
     intro ρ hL
     refine zA ?_
     intro K hK
     refine zFJ [] (hs3) ?_
     refine zEG [0, 1, 2, 3, 4, 5, 6, 7, 8, 9, 10, 11, 12, 13, 14, 15, 16, 17, 18, 19, 20, 21, 22, 23, 29, 24, 25, 26, 27, 28, 30] [3, 4, 5, 6, 7, 9, 10, 11, 12, 13, 14] ?_
     clear hK K hL
     intro ρ hL
     refine zA ?_
     intro K hK
     refine zF (sat_impl_Found f q w n hf7) ?_
     refine zEG [0, 1, 2, 3, 4, 5, 6, 7, 8, 9, 10, 11, 12, 13, 14, 15, 16, 17, 18, 19, 20, 21, 22, 23, 24, 25, 26, 27, 28, 29, 30, 31] [3, 4, 5, 6, 7, 9, 10, 11, 12, 13, 14, 15, 16] ?_
     clear hK K hL
     intro ρ hL
     refine zA ?_
     intro K hK
     refine zF (sat_spec_Found f q w n hf7) ?_
     refine zEG [0, 1, 2, 3, 4, 5, 6, 7, 8, 9, 10, 11, 12, 13, 14, 15, 16, 17, 18, 19, 20, 21, 22, 23, 31, 32] [3, 4, 5, 6, 7, 9, 10, 15, 16, 17, 18] ?_
     clear hK K hL
     intro ρ hL
     refine awl_seq (awl_seq ?_)
     have j1 := hL
     refine awl_regDJ mixed _ rfl (fun H0 σ G => (liveE [3, 4, 5, 6, 7] σ ρ ∧ σ 109 = .bool false) ∧ G = H0) (fun K hK => ?inner1) (fun ρ G hJ => ?after1)
     case inner1 =>
      try simp only [go_sem, simprocAttr, hL, hX]
      repeat' refine And.intro (by first | omega | (exact ⟨[0, 0, 3, 0, 0, 31, 63, 127, 255, 255, 1023, 2047, 4095, 8191, 8191, 32767, 65535], by kernel_rfl⟩) | kernel_rfl) ?_
      refine zFD [0, 0, 3, 0, 0, 31, 63, 127, 255, 255, 1023, 2047, 4095, 8191, 8191, 32767, 65535] (sat_impl_Ready x b hf8) ?_
      refine zFD [0, 0, 3, 0, 0, 31, 63, 127, 255, 255, 1023, 2047, 4095, 8191, 8191, 32767, 65535] (sat_spec_Ready x b hf8) ?_
      exact hK _ _ ⟨⟨(by simp only [go_sem, simprocAttr, hL, hX, j1]), (by simp only [go_sem, simprocAttr, hL, hX, j1]; first | done | rfl)⟩, (by first | rfl | (simp only [hX]; done) | (simp only [hX]; rfl))⟩
     case after1 =>
      clear hL
      obtain ⟨hL, hG⟩ := hJ
      subst hG
      try simp only [go_sem, simprocAttr, j1, hX] at hL
      revert ρ hL
      refine zQ ?_ ?_
      · intro c3
        try simp only [cnd] at c3
        first | done | cases c3 | (simp at c3)
      · intro c3
        try simp only [cnd] at c3
        intro ρ hL
        refine awl_skip ?_
        refine zA ?_
        intro K hK
        refine zF (sat_spec_CoreOk k hf) ?_
        refine zEG [0, 1, 2, 3, 4, 5, 6, 7, 8, 9, 10, 11, 12, 13, 14, 15, 16, 17] [3, 4, 5, 6, 7, 112] ?_
        clear hK K hL
        refine zC ?_ ?_
        · intro c4
          refine zG [] [2] ?_
          refine zR ?_
          try simp only [go_sem, simprocAttr]
          all_goals (rw [do_no c4]; rfl)
        · intro c4
          have hok := c4
          intro ρ hL
          refine awl_skip ?_
          revert ρ hL
          refine zG [0, 1, 2, 3, 4, 5, 6, 7, 8, 9, 10, 11, 12, 13, 14, 15, 16, 17] [3, 4, 5, 6, 7, 19] ?_
          intro ρ hL
          have e2 := hL
          refine awl_loopH (fun H0 n σ G => ∃ (j : Nat), n = (do_ k a).1.rob.length - j ∧ (j ≤ (do_ k a).1.rob.length) ∧ (liveE [3, 4, 5, 6, 7] σ ρ ∧ σ 19 = .int .i64 (j : Int)) ∧ G = H0) (fun H0 σ G => (liveE [3, 4, 5, 6] σ ρ) ∧ G = H0) ((fun (j : Nat) => (do_ k a).1.rob.length - j) 0) ?init2 (fun n ρ G hI => ?round2) (fun ρ G hJ => ?after2)
          case init2 => exact ⟨0, rfl, (Nat.zero_le _), ⟨liveE_refl _ _, (hL.2.2.2.2.2)⟩, rfl⟩
          case round2 =>
           clear hL
           obtain ⟨j, hn, i2_0, hL, hG⟩ := hI
           subst hG
           try simp only [go_sem, simprocAttr, e2, hX] at hL
           revert ρ hL
           refine zG [0, 1, 2, 3, 4, 5, 6, 7, 8, 9, 10, 11, 12, 13, 14, 15, 16, 17] [3, 4, 5, 6, 7, 19, 122] ?_
           refine zC ?_ ?_
           · intro c5
             have hi2 : j < (do_ k a).1.rob.length := by omega
             replace hX := And.intro hi2 hX
             intro ρ hL
             refine awl_skip ?_
             refine awl_seq ?_
             refine awl_block fun R1 hw1 hR1 => ?_
             refine awl_seq ?_
             have hj2 : j < k.rob.length := by omega
             have hat1 := ents_at hi2
             have hat2 := ents_at hj2
             replace hX := And.intro hj2 (And.intro hat1 (And.intro hat2 hX))
             have j3 := hL
             refine awl_regDJ mixed _ rfl (fun H0 σ G => (liveE [3, 4, 5, 6, 7, 19] σ ρ ∧ σ 153 = .bool false) ∧ G = H0) (fun K hK => ?inner3) (fun ρ G hJ => ?after3)
             case inner3 =>
              try simp only [go_sem, simprocAttr, hL, hX]
              repeat' refine And.intro (by first | omega | (exact ⟨[0, 1, 0, 7, 15, 0, 32, 0, 224, 480, 1023, 2047, 4095, 4095, 16383, 32767, 65535, 131071, 65535, 524287, 1048575, 65535, 2162687, 65535, 14745599, 31522815, 67108863, 134217727, 268435455], by kernel_rfl⟩) | kernel_rfl) ?_
              refine awpDS_split (b := ?b1) 140 (by simp only [go_sem, simprocAttr, hL, hX]; exact rfl) (fun hb1 => ?_) (fun hb1 => ?_)
              ·
               replace hX := And.intro hb1 hX
               have hsm := do_same (i := a) (j := j) hok hi2 (by simpa using hb1)
               replace hX := And.intro hsm hX
               try simp only [go_sem, simprocAttr, hL, hX]
               repeat' refine And.intro (by first | omega | (exact ⟨[0, 1, 0, 7, 15, 0, 32, 0, 224, 480, 1023, 2047, 4095, 4095, 16383, 32767, 65535, 131071, 65535, 524287, 1048575, 65535, 2162687, 65535, 14745599, 31522815, 67108863, 134217727, 268435455], by kernel_rfl⟩) | kernel_rfl) ?_
               exact hK _ _ ⟨⟨(by simp only [go_sem, simprocAttr, hL, hX, j3]), (by simp only [go_sem, simprocAttr, hL, hX, j3]; first | done | rfl)⟩, (by first | rfl | (simp only [hX]; done) | (simp only [hX]; rfl))⟩
              ·
               replace hX := And.intro hb1 hX
               try simp only [go_sem, simprocAttr, hL, hX]
               repeat' refine And.intro (by first | omega | (exact ⟨[0, 1, 0, 7, 15, 0, 32, 0, 224, 480, 1023, 2047, 4095, 4095, 16383, 32767, 65535, 131071, 65535, 524287, 1048575, 65535, 2162687, 65535, 14745599, 31522815, 67108863, 134217727, 268435455], by kernel_rfl⟩) | kernel_rfl) ?_
               exact hK _ _ ⟨⟨(by simp only [go_sem, simprocAttr, hL, hX, j3]), (by simp only [go_sem, simprocAttr, hL, hX, j3]; first | done | rfl)⟩, (by first | rfl | (simp only [hX]; done) | (simp only [hX]; rfl))⟩
             case after3 =>
              clear hL
              obtain ⟨hL, hG⟩ := hJ
              subst hG
              try simp only [go_sem, simprocAttr, j3, hX] at hL
              revert ρ hL
              refine zQ ?_ ?_
              · intro c6
                try simp only [cnd] at c6
                first | done | cases c6 | (simp at c6)
              · intro c6
                try simp only [cnd] at c6
                intro ρ hL
                refine awl_skip ?_
                refine awl_nil ?_
                refine blk_normal (hR1 _ _ (.mk ?_))
                have w2 : IntKind.i64.wrap ((j : Int) + 1) = ((j + 1 : Nat) : Int) := by rw [wrap64 (by omega)]; omega
                replace hX := And.intro w2 hX
                revert ρ hL
                refine zG [0, 1, 2, 3, 4, 5, 6, 7, 8, 9, 10, 11, 12, 13, 14, 15, 16, 17] [3, 4, 5, 6, 7, 19] ?_
                intro ρ hL
                refine awl_nil ?_
                refine loop_again _ ?meas ⟨(j + 1), rfl, (by omega), ⟨(by simp only [go_sem, simprocAttr, hL, hX, e2]), (hL.2.2.2.2.2)⟩, rfl⟩
                case meas => subst hn; omega
           · intro c5
             intro ρ hL
             refine awl_exit ?_
             refine loop_break ?_
             exact ⟨(by simp only [go_sem, simprocAttr, hL, hX, e2]), rfl⟩
          case after2 =>
           clear hL
           obtain ⟨hL, hG⟩ := hJ
           subst hG
           try simp only [go_sem, simprocAttr, e2, hX] at hL
           have kA : alike (do_ k a).1.s k.s = true := by rw [do_s hok]; exact alike_refl
           have kI := do_is (i := a) hok
           refine zA ?_
           intro K hK
           refine zF (sat_impl_Alike (do_ k a).1.s k.s hd9.1) ?_
           refine zL [3, 4, 5, 6, 159] ?_
           clear hL
           intro ρ hL
           refine grp_andN (tc := 159) (tv := 164) (td := 165) (v := ?v2) 5 rfl [3, 4, 5, 6] hL.2.2.2.2 rfl (fun hb K1 hK1 => ?run) (fun hb => ?skip) (fun ρ hP hM => ?_)
           case skip => exact skA (want := true) (b := _) (by rw [hb]; rfl) hL.2.2.2.2 rfl
           case run =>
            simp only [List.take_succ_cons, List.take_zero]
            rw [hb] at hL
            try simp only [go_sem, simprocAttr, hL, hX]
            repeat' refine And.intro (by first | rfl | omega | (simp; done)) ?_
            refine zF (sat_impl_Ready k a hf) ?_
            refine hK1 _ ?_ ?_ ?_ <;> simp only [go_sem, simprocAttr, hL, hX] <;> exact rfl
           simp only [List.drop_succ_cons, List.drop_zero]
           try simp only [go_sem, simprocAttr, hL, hX] at hM
           replace hL := And.intro hP hM
           clear hP hM
           try simp only [go_sem, simprocAttr, hL, hX]
           repeat' refine And.intro (by first | rfl | omega | (simp; done)) ?_
           refine zL [3, 4, 5, 6, 166] ?_
           clear hL
           intro ρ hL
           refine grp_andN (tc := 166) (tv := 193) (td := 194) (v := ?v3) 27 rfl [] hL.2.2.2.2 rfl (fun hb K1 hK1 => ?run) (fun hb => ?skip) (fun ρ hP hM => ?_)
           case skip => exact skA (want := true) (b := _) (by rw [hb]; rfl) hL.2.2.2.2 rfl
           case run =>
            simp only [List.take_succ_cons, List.take_zero]
            rw [hb] at hL
            have g4 := hL
            have hK1_4 := hK1
            try simp only [go_sem, simprocAttr, hL, hX]
            repeat' refine And.intro (by first | rfl | omega | (simp; done)) ?_
            refine zL [3, 4, 5, 166, 169] ?_
            clear hL
            intro ρ hL
            refine grp_orGN (tc := 169) (tv := 192) (td := 193) (v := ?v5) 23 166 true rfl hL.2.2.2.1 [166] rfl hL.2.2.2.2 rfl (fun hb K1 hK1 => ?run) (fun hb => ?skip) (fun ρ hP hM => ?_)
            case skip => exact skA (want := false) (b := _) (by rw [hb]; rfl) hL.2.2.2.2 rfl
            case run =>
             simp only [List.take_succ_cons, List.take_zero]
             rw [hb] at hL
             have hz : (do_ k a).2 = true := by simpa using hb
             obtain ⟨hz1, hz2, hz3, hz4⟩ := do_yes hok hz
             have hz5 : a < ((do_ k a).1.rob.length : Int) := by omega
             have hz6 := ents_atO (o := 11) hz2
             have wa : IntKind.i64.wrap (a + 1) = a + 1 := wrap64 (by omega)
             replace hX := And.intro hz1 (And.intro hz2 (And.intro hz3 (And.intro hz5 (And.intro hz6 (And.intro wa hX)))))
             have g6 := hL
             have hK1_6 := hK1
             try simp only [go_sem, simprocAttr, hL, hX]
             repeat' refine And.intro (by first | rfl | omega | (simp; done)) ?_
             refine zL [4, 5, 166, 169, 176, 184] ?_
             clear hL
             intro ρ hL
             refine grp_orGN (tc := 184) (tv := 190) (td := 191) (v := ?v7) 6 176 true rfl hL.2.2.2.2.1 [166, 169, 176] rfl hL.2.2.2.2.2 rfl (fun hb K1 hK1 => ?run) (fun hb => ?skip) (fun ρ hP hM => ?_)
             case skip => exact skA (want := false) (b := _) (by rw [hb]; rfl) hL.2.2.2.2.2 rfl
             case run =>
              simp only [List.take_succ_cons, List.take_zero]
              rw [hb] at hL
              try simp only [go_sem, simprocAttr, hL, hX]
              repeat' refine And.intro (by first | rfl | omega | (simp; done)) ?_
              refine hK1 _ ?_ ?_ ?_ <;> simp only [go_sem, simprocAttr, hL, hX] <;> exact rfl
             simp only [List.drop_succ_cons, List.drop_zero]
             try simp only [go_sem, simprocAttr, hL, hX] at hM
             replace hL := And.intro hP hM
             clear hP hM
             try simp only [go_sem, simprocAttr, hL, hX]
             repeat' refine And.intro (by first | rfl | omega | (simp; done)) ?_
             refine hK1_6 _ ?_ ?_ ?_ <;> simp only [go_sem, simprocAttr, hL, hX, g6] <;> exact rfl
            simp only [List.drop_succ_cons, List.drop_zero]
            try simp only [go_sem, simprocAttr, hL, hX] at hM
            replace hL := And.intro hP hM
            clear hP hM
            try simp only [go_sem, simprocAttr, hL, hX]
            repeat' refine And.intro (by first | rfl | omega | (simp; done)) ?_
            refine hK1_4 _ ?_ ?_ ?_ <;> simp only [go_sem, simprocAttr, hL, hX, g4] <;> exact rfl
           simp only [List.drop_succ_cons, List.drop_zero]
           clear hM hL
           have hL := hP
           clear hP
           try simp only [go_sem, simprocAttr, hL, hX]
           repeat' refine And.intro (by first | rfl | omega | (simp; done)) ?_
           refine zEG [] [2] ?_
           clear hK K hL
           refine zR ?_
           try simp only [go_sem, simprocAttr]
           all_goals try clear hR1
           all_goals (simp only [kA, ← kI, Bool.true_and, beq_self_eq_true]; cases hzz : (do_ k a).2; rfl; obtain ⟨g1, g2, g3, g4⟩ := do_yes hok hzz; simp; omega)
end
end Go.Proofs.YtdifphcihhbjlaaGreat.AM
