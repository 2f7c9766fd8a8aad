/- The law Values, of what is drawn. No conditions but those each theorem bears. -/
import Derived.Test.YteojcehneipgdaaGreatFa
import Derived.Test.YteojcehneipgdaaGreatSp27
import Derived.Test.YteojcehneipgdaaGreatCa59
import Derived.Test.YteojcehneipgdaaGreatCa14
import Derived.Test.YteojcehneipgdaaGreatCa14b
import Derived.Test.YteojcehneipgdaaGreatCa33
set_option linter.unusedSimpArgs false
set_option linter.unusedVariables false
namespace Go.Proofs.YteojcehneipgdaaGreat.AM
open Go
set_option maxHeartbeats 8000000
set_option maxRecDepth 100000

section
variable {c : Cor} {i r : Int} {s : Stt}
theorem source_in (h : 0 ≤ source c.rob i r) : source c.rob i r < i ∧ source c.rob i r < c.rob.length := by
  have h2 := (source_lt c.rob i r).2
  refine ⟨?_, h2⟩
  unfold source at h ⊢
  split
  · rename_i g; rw [if_pos g] at h; omega
  · rename_i g
    rw [if_neg g] at h
    have := lastAt_lt (p := fun x => decide (setBy x = r)) (d := noEnt) (xs := c.rob) (upTo i c.rob.length)
    unfold upTo at this h ⊢
    omega
theorem value_miss (h : corOk c = false ∨ r < 0 ∨ 7 < r) : (value c i r).2 = false := by
  rw [value_no]
  rintro ⟨a, b⟩
  have := inR_iff.1 a
  rcases h with h | h
  · rw [h] at b; cases b
  · omega
theorem value_at {m : Nat} (h : corOk c = true) (h0 : 0 ≤ r ∧ r ≤ 7) (hm : source c.rob i r = m) : (value c i r).2 = (c.rob.getD m noEnt).done := by
  rw [value_ok h (inR_iff.2 h0)]
  cases hd : (c.rob.getD m noEnt).done with
  | false => rw [raw_wait hm hd]
  | true => rw [raw_done hm hd]
theorem value_reg (h : corOk c = true) (h0 : 0 ≤ r ∧ r ≤ 7) (hm : source c.rob i r < 0) : (value c i r).2 = true ∧ (value c i r).1 = c.s.regs.getD r.toNat noWord := by
  rw [value_ok h (inR_iff.2 h0), raw_reg hm]
  exact ⟨rfl, rfl⟩
end
theorem sat_spec_l12DrawAt (bs : List UInt8) (hb : bs.length ≤ 1048576) : ∃ (k : Cor) (i r : Int) (rs ws : List Word) (gs : List Int) (p o g : Nat), (smallC k ∧ cutW rs p k.s.regs ∧ cutW ws o k.s.mem.words ∧ cutI gs g k.guesses) ∧ Sat Tryz.prog 116 [.sl bs.length bs.length (bytesV bs)] [] (.tuple [.agg (k.ownC 0 1 2 3 4 p o g), .int .i64 i, .int .i64 r]) [⟨6, rows rs, true, false⟩, ⟨6, rows ws, true, false⟩, ⟨1, rows k.s.mem.gone, true, false⟩, ⟨40, rows k.rob, true, false⟩, ⟨1, ints gs, true, false⟩] := by
 suffices hE : ∃ zv zh, (∃ (k : Cor) (i r : Int) (rs ws : List Word) (gs : List Int) (p o g : Nat), (smallC k ∧ cutW rs p k.s.regs ∧ cutW ws o k.s.mem.words ∧ cutI gs g k.guesses) ∧ zv = (.tuple [.agg (k.ownC 0 1 2 3 4 p o g), .int .i64 i, .int .i64 r]) ∧ zh = [⟨6, rows rs, true, false⟩, ⟨6, rows ws, true, false⟩, ⟨1, rows k.s.mem.gone, true, false⟩, ⟨40, rows k.rob, true, false⟩, ⟨1, ints gs, true, false⟩]) ∧ Sat Tryz.prog 116 [.sl bs.length bs.length (bytesV bs)] [] zv zh from by
   obtain ⟨_, _, ⟨k, i, r, rs, ws, gs, p, o, g, hq, rfl, rfl⟩, hs⟩ := hE
   exact ⟨k, i, r, rs, ws, gs, p, o, g, hq, hs⟩
 have hX := trivial
 refine sat_ex [.cell 2 52, .tmp 3, .tmp 4] 0 30 Tryz.call116 Tryz.func116 Tryz.ntmps116 rfl rfl rfl rfl rfl ?_
 refine zI [0] ?_
 refine zS [0, 2] ?_
 obtain ⟨c, hc, hs1⟩ := sat_spec_l1New bs hb
 intro ρ hL
 refine zA ?_
 intro K hK
 refine zFJ [] (hs1) ?_
 refine zE [2, 5] ?_
 clear hK K hL
 obtain ⟨l, k, rs, ws, gs, p, o, g, c, hlk, hs2⟩ := sat_spec_l12Draw c
 intro ρ hL
 refine zA ?_
 intro K hK
 refine zFJ [1] (hs2) ?_
 refine zE [2, 5, 7] ?_
 clear hK K hL
 obtain ⟨x0, c, hx0, hs3⟩ := sat_spec_l1Below c 8
 have hb0 := hx0.2.1 (by decide)
 obtain ⟨x1, c, hx1, hs4⟩ := sat_spec_l1Below c 20
 have hb1 := hx1.2.1 (by decide)
 intro ρ hL
 refine zA ?_
 intro K hK
 refine zFJ [1] (hs3) ?_
 refine zFJ [1] (hs4) ?_
 refine zE [2, 5, 7, 8] ?_
 clear hK K hL
 obtain ⟨x2, c, hx2, hs5⟩ := sat_spec_l1Below c 9
 have hb2 := hx2.2.1 (by decide)
 obtain ⟨x3, c, hx3, hs6⟩ := sat_spec_l1Below c 20
 have hb3 := hx3.2.1 (by decide)
 intro ρ hL
 refine zAD [0, 0, 0, 4, 0, 28, 60, 124, 61, 319, 1023] ?_
 intro K hK
 refine zFDJ [0, 0, 0, 4, 0, 28, 60, 124, 61, 319, 1023] [1] (hs5) ?_
 refine zFDJ [0, 0, 0, 4, 0, 28, 60, 124, 61, 319, 1023] [1] (hs6) ?_
 refine zE [2, 3, 4] ?_
 clear hK K hL
 refine zX [3, 4, 5, 6, 7] [3, 4, 5, 6, 7] ?_
 refine ⟨k, ?xi0, ?xr0, rs, ws, gs, p, o, g, ?hq1, ?hv1, ?hh1⟩
 case hv1 => (try simp only [go_sem, simprocAttr, hX]); first | done | rfl
 case hh1 => (try simp only [go_sem, simprocAttr, hX]); first | done | rfl
 all_goals (exact hlk.2)
theorem sat_spec_DrawValue (bs : List UInt8) (hb : bs.length ≤ 1048576) : ∃ (k : Cor) (i r : Int) (rs ws : List Word) (gs : List Int) (p o g : Nat), (smallC k ∧ cutW rs p k.s.regs ∧ cutW ws o k.s.mem.words ∧ cutI gs g k.guesses) ∧ Sat Tryz.prog 47 [.sl bs.length bs.length (bytesV bs)] [] (.tuple [.agg (k.ownC 0 1 2 3 4 p o g), .int .i64 i, .int .i64 r]) [⟨6, rows rs, true, false⟩, ⟨6, rows ws, true, false⟩, ⟨1, rows k.s.mem.gone, true, false⟩, ⟨40, rows k.rob, true, false⟩, ⟨1, ints gs, true, false⟩] := by
 suffices hE : ∃ zv zh, (∃ (k : Cor) (i r : Int) (rs ws : List Word) (gs : List Int) (p o g : Nat), (smallC k ∧ cutW rs p k.s.regs ∧ cutW ws o k.s.mem.words ∧ cutI gs g k.guesses) ∧ zv = (.tuple [.agg (k.ownC 0 1 2 3 4 p o g), .int .i64 i, .int .i64 r]) ∧ zh = [⟨6, rows rs, true, false⟩, ⟨6, rows ws, true, false⟩, ⟨1, rows k.s.mem.gone, true, false⟩, ⟨40, rows k.rob, true, false⟩, ⟨1, ints gs, true, false⟩]) ∧ Sat Tryz.prog 47 [.sl bs.length bs.length (bytesV bs)] [] zv zh from by
   obtain ⟨_, _, ⟨k, i, r, rs, ws, gs, p, o, g, hq, rfl, rfl⟩, hs⟩ := hE
   exact ⟨k, i, r, rs, ws, gs, p, o, g, hq, hs⟩
 have hX := trivial
 refine sat_ex [.cell 2 52, .tmp 3, .tmp 4] 0 17 Tryz.call47 Tryz.func47 Tryz.ntmps47 rfl rfl rfl rfl rfl ?_
 refine zI [0] ?_
 refine zS [0, 2] ?_
 obtain ⟨k, i, r, rs, ws, gs, p, o, g, hk, hs1⟩ := sat_spec_l12DrawAt bs hb
 intro ρ hL
 refine zA ?_
 intro K hK
 refine zFJ [] (hs1) ?_
 refine zE [2, 5, 6, 7] ?_
 clear hK K hL
 refine zS [2, 3, 4] ?_
 refine zX [1, 2, 3, 4, 5] [1, 2, 3, 4, 5] ?_
 refine ⟨k, i, r, rs, ws, gs, p, o, g, ?hq1, ?hv1, ?hh1⟩
 case hv1 => (try simp only [go_sem, simprocAttr, hX]); first | done | rfl
 case hh1 => (try simp only [go_sem, simprocAttr, hX]); first | done | rfl
 all_goals (exact hk)
theorem sat_spec_DrawSource (bs : List UInt8) (hb : bs.length ≤ 1048576) : ∃ (k : Cor) (i r : Int) (rs ws : List Word) (gs : List Int) (p o g : Nat), (smallC k ∧ cutW rs p k.s.regs ∧ cutW ws o k.s.mem.words ∧ cutI gs g k.guesses) ∧ Sat Tryz.prog 50 [.sl bs.length bs.length (bytesV bs)] [] (.tuple [.agg (k.ownC 0 1 2 3 4 p o g), .int .i64 i, .int .i64 r]) [⟨6, rows rs, true, false⟩, ⟨6, rows ws, true, false⟩, ⟨1, rows k.s.mem.gone, true, false⟩, ⟨40, rows k.rob, true, false⟩, ⟨1, ints gs, true, false⟩] := by
 suffices hE : ∃ zv zh, (∃ (k : Cor) (i r : Int) (rs ws : List Word) (gs : List Int) (p o g : Nat), (smallC k ∧ cutW rs p k.s.regs ∧ cutW ws o k.s.mem.words ∧ cutI gs g k.guesses) ∧ zv = (.tuple [.agg (k.ownC 0 1 2 3 4 p o g), .int .i64 i, .int .i64 r]) ∧ zh = [⟨6, rows rs, true, false⟩, ⟨6, rows ws, true, false⟩, ⟨1, rows k.s.mem.gone, true, false⟩, ⟨40, rows k.rob, true, false⟩, ⟨1, ints gs, true, false⟩]) ∧ Sat Tryz.prog 50 [.sl bs.length bs.length (bytesV bs)] [] zv zh from by
   obtain ⟨_, _, ⟨k, i, r, rs, ws, gs, p, o, g, hq, rfl, rfl⟩, hs⟩ := hE
   exact ⟨k, i, r, rs, ws, gs, p, o, g, hq, hs⟩
 have hX := trivial
 refine sat_ex [.cell 2 52, .tmp 3, .tmp 4] 0 17 Tryz.call50 Tryz.func50 Tryz.ntmps50 rfl rfl rfl rfl rfl ?_
 refine zI [0] ?_
 refine zS [0, 2] ?_
 obtain ⟨k, i, r, rs, ws, gs, p, o, g, hk, hs1⟩ := sat_spec_l12DrawAt bs hb
 intro ρ hL
 refine zA ?_
 intro K hK
 refine zFJ [] (hs1) ?_
 refine zE [2, 5, 6, 7] ?_
 clear hK K hL
 refine zS [2, 3, 4] ?_
 refine zX [1, 2, 3, 4, 5] [1, 2, 3, 4, 5] ?_
 refine ⟨k, i, r, rs, ws, gs, p, o, g, ?hq1, ?hv1, ?hh1⟩
 case hv1 => (try simp only [go_sem, simprocAttr, hX]); first | done | rfl
 case hh1 => (try simp only [go_sem, simprocAttr, hX]); first | done | rfl
 all_goals (exact hk)
theorem sat_spec_DrawCoreOk (bs : List UInt8) (hb : bs.length ≤ 1048576) : ∃ (k : Cor) (rs ws : List Word) (gs : List Int) (p o g : Nat), (smallC k ∧ cutW rs p k.s.regs ∧ cutW ws o k.s.mem.words ∧ cutI gs g k.guesses) ∧ Sat Tryz.prog 53 [.sl bs.length bs.length (bytesV bs)] [] (.agg (k.ownC 0 1 2 3 4 p o g)) [⟨6, rows rs, true, false⟩, ⟨6, rows ws, true, false⟩, ⟨1, rows k.s.mem.gone, true, false⟩, ⟨40, rows k.rob, true, false⟩, ⟨1, ints gs, true, false⟩] := by
 suffices hE : ∃ zv zh, (∃ (k : Cor) (rs ws : List Word) (gs : List Int) (p o g : Nat), (smallC k ∧ cutW rs p k.s.regs ∧ cutW ws o k.s.mem.words ∧ cutI gs g k.guesses) ∧ zv = (.agg (k.ownC 0 1 2 3 4 p o g)) ∧ zh = [⟨6, rows rs, true, false⟩, ⟨6, rows ws, true, false⟩, ⟨1, rows k.s.mem.gone, true, false⟩, ⟨40, rows k.rob, true, false⟩, ⟨1, ints gs, true, false⟩]) ∧ Sat Tryz.prog 53 [.sl bs.length bs.length (bytesV bs)] [] zv zh from by
   obtain ⟨_, _, ⟨k, rs, ws, gs, p, o, g, hq, rfl, rfl⟩, hs⟩ := hE
   exact ⟨k, rs, ws, gs, p, o, g, hq, hs⟩
 have hX := trivial
 refine sat_ex [.cell 2 52] 0 12 Tryz.call53 Tryz.func53 Tryz.ntmps53 rfl rfl rfl rfl rfl ?_
 refine zI [0] ?_
 refine zS [0, 2] ?_
 obtain ⟨c, hc, hs1⟩ := sat_spec_l1New bs hb
 obtain ⟨l, k, rs, ws, gs, p, o, g, c, hlk, hs2⟩ := sat_spec_l12Draw c
 intro ρ hL
 refine zA ?_
 intro K hK
 refine zFJ [] (hs1) ?_
 refine zFJ [1] (hs2) ?_
 refine zE [2, 4] ?_
 clear hK K hL
 refine zS [2] ?_
 refine zX [3, 4, 5, 6, 7] [3, 4, 5, 6, 7] ?_
 refine ⟨k, rs, ws, gs, p, o, g, ?hq1, ?hv1, ?hh1⟩
 case hv1 => (try simp only [go_sem, simprocAttr, hX]); first | done | rfl
 case hh1 => (try simp only [go_sem, simprocAttr, hX]); first | done | rfl
 all_goals (exact hlk.2)
theorem sat_spec_DrawCoreNew (bs : List UInt8) (hb : bs.length ≤ 1048576) : ∃ (s : Stt) (rs ws : List Word) (p o : Nat), (cutW rs p s.regs ∧ cutW ws o s.mem.words ∧ smallS s) ∧ Sat Tryz.prog 54 [.sl bs.length bs.length (bytesV bs)] [] (.agg (s.ownC 0 1 2 p o)) [⟨6, rows rs, true, false⟩, ⟨6, rows ws, true, false⟩, ⟨1, rows s.mem.gone, true, false⟩] := by
 suffices hE : ∃ zv zh, (∃ (s : Stt) (rs ws : List Word) (p o : Nat), (cutW rs p s.regs ∧ cutW ws o s.mem.words ∧ smallS s) ∧ zv = (.agg (s.ownC 0 1 2 p o)) ∧ zh = [⟨6, rows rs, true, false⟩, ⟨6, rows ws, true, false⟩, ⟨1, rows s.mem.gone, true, false⟩]) ∧ Sat Tryz.prog 54 [.sl bs.length bs.length (bytesV bs)] [] zv zh from by
   obtain ⟨_, _, ⟨s, rs, ws, p, o, hq, rfl, rfl⟩, hs⟩ := hE
   exact ⟨s, rs, ws, p, o, hq, hs⟩
 have hX := trivial
 refine sat_ex [.cell 2 34] 0 12 Tryz.call54 Tryz.func54 Tryz.ntmps54 rfl rfl rfl rfl rfl ?_
 refine zI [0] ?_
 refine zS [0, 2] ?_
 obtain ⟨c, hc, hs1⟩ := sat_spec_l1New bs hb
 obtain ⟨l, s, rs, ws, p, o, c, hls, hs2⟩ := sat_spec_l9Draw c
 intro ρ hL
 refine zA ?_
 intro K hK
 refine zFJ [] (hs1) ?_
 refine zFJ [1] (hs2) ?_
 refine zE [2, 4] ?_
 clear hK K hL
 refine zS [2] ?_
 refine zX [3, 4, 5] [3, 4, 5] ?_
 refine ⟨s, rs, ws, p, o, ?hq1, ?hv1, ?hh1⟩
 case hv1 => (try simp only [go_sem, simprocAttr, hX]); first | done | rfl
 case hh1 => (try simp only [go_sem, simprocAttr, hX]); first | done | rfl
 all_goals (exact hls.2)
section
attribute [local go_sem] word_deq decide_true
theorem sat_laws_FnValues (bs : List UInt8) (hs : bs.length ≤ 9223372036854775807) : Sat Tryz.prog 9 [.sl bs.length bs.length (bytesV bs)] [] (.bool true) [] := by
 have hX := trivial
 refine sat_mk [.tmp 2] 0 152 Tryz.call9 Tryz.func9 Tryz.ntmps9 rfl rfl rfl rfl rfl ?_
 refine zI [0] ?_
 refine zG [] [0] ?_
 intro ρ hL
 refine zA ?_
 intro K hK
 refine zF (sat_laws_big _) ?_
 refine zEG [] [0, 19] ?_
 clear hK K hL
 refine zC ?_ ?_
 · intro c1
   refine zG [] [2] ?_
   refine zR ?_
   try simp only [go_sem, simprocAttr]
   all_goals (rfl)
 · intro c1
   have hb : bs.length ≤ 1048576 := by omega
   intro ρ hL
   refine awl_skip ?_
   obtain ⟨k, i, r, rs, ws, gs, p, o, g, hk9, hs1⟩ := sat_spec_DrawValue bs hb
   obtain ⟨hsc, hcr, hcw, hci⟩ := hk9
   have hf := smallC_fit hsc
   have hq1 := hcr.1
   have hq2 := hcw.1
   have hq3 := hci.1
   replace hX := And.intro hq1 (And.intro hq2 (And.intro hq3 hX))
   refine zA ?_
   intro K hK
   refine zFJ [] (hs1) ?_
   refine zEG [5, 0, 1, 2, 3, 4] [0, 3, 4, 5] ?_
   clear hK K hL
   intro ρ hL
   refine zA ?_
   intro K hK
   refine zF (sat_impl_Value k i r hf) ?_
   refine zEG [0, 1, 2, 3, 4, 5, 6] [0, 3, 4, 5, 6, 7] ?_
   clear hK K hL
   intro ρ hL
   refine zA ?_
   intro K hK
   refine zF (sat_spec_Value k i r hf) ?_
   refine zEG [0, 1, 2, 3, 4, 5, 6, 7] [0, 3, 4, 5, 6, 7, 8, 9] ?_
   clear hK K hL
   obtain ⟨x, j, q, rs7, ws7, gs7, p7, o7, g7, hk7, hs2⟩ := sat_spec_DrawSource bs hb
   obtain ⟨hsc7, hcr7, hcw7, hci7⟩ := hk7
   have hf7 := smallC_fit hsc7
   have hq71 := hcr7.1
   have hq72 := hcw7.1
   have hq73 := hci7.1
   replace hX := And.intro hq71 (And.intro hq72 (And.intro hq73 hX))
   intro ρ hL
   refine zA ?_
   intro K hK
   refine zFJ [] (hs2) ?_
   refine zEG [0, 1, 2, 3, 4, 5, 6, 7, 13, 8, 9, 10, 11, 12] [0, 3, 4, 5, 6, 7, 8, 9, 10, 11, 12] ?_
   clear hK K hL
   intro ρ hL
   refine zA ?_
   intro K hK
   refine zF (sat_impl_Source x j q hf7) ?_
   refine zEG [0, 1, 2, 3, 4, 5, 6, 7, 8, 9, 10, 11, 12, 13] [0, 3, 4, 5, 6, 7, 8, 9, 10, 11, 12, 13] ?_
   clear hK K hL
   intro ρ hL
   refine zA ?_
   intro K hK
   refine zF (sat_spec_Source x j q hf7) ?_
   refine zEG [0, 1, 2, 3, 4, 5, 6, 8, 9, 10, 11, 12, 13] [0, 3, 4, 5, 6, 7, 10, 11, 13, 65] ?_
   clear hK K hL
   refine zQ ?_ ?_
   · intro c2
     try simp only [cnd] at c2
     first | done | cases c2 | (simp at c2)
   · intro c2
     try simp only [cnd] at c2
     intro ρ hL
     refine awl_skip ?_
     obtain ⟨y, rs8, ws8, gs8, p8, o8, g8, hk8, hs3⟩ := sat_spec_DrawCoreOk bs hb
     obtain ⟨hsc8, hcr8, hcw8, hci8⟩ := hk8
     have hf8 := smallC_fit hsc8
     have hq81 := hcr8.1
     have hq82 := hcw8.1
     have hq83 := hci8.1
     replace hX := And.intro hq81 (And.intro hq82 (And.intro hq83 hX))
     refine zA ?_
     intro K hK
     refine zFJ [] (hs3) ?_
     refine zEG [0, 1, 2, 3, 4, 5, 6, 7, 8, 9, 10, 11, 12, 18, 13, 14, 15, 16, 17] [0, 3, 4, 5, 6, 7, 10, 11, 13, 14] ?_
     clear hK K hL
     obtain ⟨s, rs6, ws6, p6, o6, hk6, hs4⟩ := sat_spec_DrawCoreNew bs hb
     obtain ⟨hcr6, hcw6, hsm6⟩ := hk6
     have hf6 := small_fit hsm6
     have hq61 := hcr6.1
     have hq62 := hcw6.1
     have hnf := corNew_fit hf6
     replace hX := And.intro hq61 (And.intro hq62 hX)
     intro ρ hL
     refine zA ?_
     intro K hK
     refine zFJ [] (hs4) ?_
     refine zEG [0, 1, 2, 3, 4, 5, 6, 7, 8, 9, 10, 11, 12, 13, 14, 15, 16, 17, 18, 22, 19, 20, 21] [3, 4, 5, 6, 7, 10, 11, 13, 14, 15] ?_
     clear hK K hL
     intro ρ hL
     refine zA ?_
     intro K hK
     refine zF (sat_impl_CoreNew s hf6) ?_
     refine zEG [0, 1, 2, 3, 4, 5, 6, 7, 8, 9, 10, 11, 12, 13, 14, 15, 16, 17, 18, 19, 20, 21, 22, 28, 23, 24, 25, 26, 27] [3, 4, 5, 6, 7, 10, 11, 13, 14, 15, 16] ?_
     clear hK K hL
     intro ρ hL
     refine awl_seq (awl_seq ?_)
     have j1 := hL
     refine awl_regDJ mixed _ rfl (fun H0 σ G => (liveE [3, 4, 5, 6, 7, 10, 11, 13] σ ρ ∧ σ 91 = .bool false) ∧ G = H0) (fun K hK => ?inner1) (fun ρ G hJ => ?after1)
     case inner1 =>
      try simp only [go_sem, simprocAttr, hL, hX]
      repeat' refine And.intro (by first | omega | (exact ⟨[0, 1, 0, 7, 15, 31, 63, 127, 255, 511, 1023, 2047, 4095, 8191, 16383, 32767, 65535, 131071, 262143, 524287], by kernel_rfl⟩) | kernel_rfl) ?_
      refine zFD [0, 1, 0, 7, 15, 31, 63, 127, 255, 511, 1023, 2047, 4095, 8191, 16383, 32767, 65535, 131071, 262143, 524287] (sat_impl_CoreOk y hf8) ?_
      refine zFD [0, 1, 0, 7, 15, 31, 63, 127, 255, 511, 1023, 2047, 4095, 8191, 16383, 32767, 65535, 131071, 262143, 524287] (sat_spec_CoreOk y hf8) ?_
      refine zFD [0, 1, 0, 7, 15, 31, 63, 127, 255, 511, 1023, 2047, 4095, 8191, 16383, 32767, 65535, 131071, 262143, 524287] (sat_impl_StateOk s hf6) ?_
      refine awpDS_split (b := ?b1) 80 (by simp only [go_sem, simprocAttr, hL, hX]; exact rfl) (fun hb1 => ?_) (fun hb1 => ?_)
      ·
       replace hX := And.intro hb1 hX
       have kN : corOk (corNew s) = true := corNew_ok hb1
       have kL : decide (((corNew s).rob.length : Int) = 0) = true := decide_eq_true (by rw [corNew_go hb1]; rfl)
       replace hX := And.intro kN (And.intro kL hX)
       try simp only [go_sem, simprocAttr, hL, hX]
       repeat' refine And.intro (by first | omega | (exact ⟨[0, 1, 0, 7, 15, 31, 63, 127, 255, 511, 1023, 2047, 4095, 8191, 16383, 32767, 65535, 131071, 262143, 524287], by kernel_rfl⟩) | kernel_rfl) ?_
       refine zFD [0, 1, 0, 7, 15, 31, 63, 127, 255, 511, 1023, 2047, 4095, 8191, 16383, 32767, 65535, 131071, 262143, 524287] (sat_impl_CoreOk (corNew s) hnf) ?_
       exact hK _ _ ⟨⟨(by simp only [go_sem, simprocAttr, hL, hX, j1]), (by simp only [go_sem, simprocAttr, hL, hX, j1]; first | done | rfl)⟩, (by first | rfl | (simp only [hX]; done) | (simp only [hX]; rfl))⟩
      ·
       replace hX := And.intro hb1 hX
       try simp only [go_sem, simprocAttr, hL, hX]
       repeat' refine And.intro (by first | omega | (exact ⟨[0, 1, 0, 7, 15, 31, 63, 127, 255, 511, 1023, 2047, 4095, 8191, 16383, 32767, 65535, 131071, 262143, 524287], by kernel_rfl⟩) | kernel_rfl) ?_
       exact hK _ _ ⟨⟨(by simp only [go_sem, simprocAttr, hL, hX, j1]), (by simp only [go_sem, simprocAttr, hL, hX, j1]; first | done | rfl)⟩, (by first | rfl | (simp only [hX]; done) | (simp only [hX]; rfl))⟩
     case after1 =>
      clear hL
      obtain ⟨hL, hG⟩ := hJ
      subst hG
      try simp only [go_sem, simprocAttr, j1, hX] at hL
      revert ρ hL
      refine zQ ?_ ?_
      · intro c3
        try simp only [cnd] at c3
        first | done | cases c3 | (simp at c3)
      · intro c3
        try simp only [cnd] at c3
        intro ρ hL
        refine awl_skip ?_
        have hsb := source_in (c := x) (i := j) (r := q)
        refine zA ?_
        intro K hK
        refine zL [3, 4, 5, 6, 7, 10, 11, 13, 94] ?_
        clear hL
        intro ρ hL
        refine grp_andN (tc := 94) (tv := 104) (td := 105) (v := ?v2) 10 rfl [3, 4, 5, 6, 7] hL.2.2.2.2.2.2.2.2 rfl (fun hb K1 hK1 => ?run) (fun hb => ?skip) (fun ρ hP hM => ?_)
        case skip => exact skA (want := true) (b := _) (by rw [hb]; rfl) hL.2.2.2.2.2.2.2.2 rfl
        case run =>
         simp only [List.take_succ_cons, List.take_zero]
         rw [hb] at hL
         have g3 := hL
         have hK1_3 := hK1
         try simp only [go_sem, simprocAttr, hL, hX]
         repeat' refine And.intro (by first | rfl | omega | (simp; done)) ?_
         refine zL [3, 4, 5, 6, 7, 10, 13, 94, 98] ?_
         clear hL
         intro ρ hL
         refine grp_orGN (tc := 98) (tv := 103) (td := 104) (v := ?v4) 5 94 true rfl hL.2.2.2.2.2.2.2.1 [3, 4, 5, 6, 7, 94] rfl hL.2.2.2.2.2.2.2.2 rfl (fun hb K1 hK1 => ?run) (fun hb => ?skip) (fun ρ hP hM => ?_)
         case skip => exact skA (want := false) (b := _) (by rw [hb]; rfl) hL.2.2.2.2.2.2.2.2 rfl
         case run =>
          simp only [List.take_succ_cons, List.take_zero]
          rw [hb] at hL
          try simp only [go_sem, simprocAttr, hL, hX]
          repeat' refine And.intro (by first | rfl | omega | (simp; done)) ?_
          refine hK1 _ ?_ ?_ ?_ <;> simp only [go_sem, simprocAttr, hL, hX] <;> exact rfl
         simp only [List.drop_succ_cons, List.drop_zero]
         try simp only [go_sem, simprocAttr, hL, hX] at hM
         replace hL := And.intro hP hM
         clear hP hM
         try simp only [go_sem, simprocAttr, hL, hX]
         repeat' refine And.intro (by first | rfl | omega | (simp; done)) ?_
         refine hK1_3 _ ?_ ?_ ?_ <;> simp only [go_sem, simprocAttr, hL, hX, g3] <;> exact rfl
        simp only [List.drop_succ_cons, List.drop_zero]
        try simp only [go_sem, simprocAttr, hL, hX] at hM
        replace hL := And.intro hP hM
        clear hP hM
        try simp only [go_sem, simprocAttr, hL, hX]
        repeat' refine And.intro (by first | rfl | omega | (simp; done)) ?_
        refine zEG [0, 1, 2, 3, 4, 5, 6] [3, 4, 5, 6, 7, 105] ?_
        clear hK K hL
        refine zQ ?_ ?_
        · intro c4
          try simp only [cnd] at c4
          first | done | omega
        · intro c4
          try simp only [cnd] at c4
          intro ρ hL
          refine awl_skip ?_
          refine zA ?_
          intro K hK
          refine zF (sat_spec_CoreOk k hf) ?_
          refine zL [3, 4, 5, 6, 7, 109] ?_
          clear hL
          intro ρ hL
          refine grp_orN (tc := 109) (tv := 111) (td := 112) (v := ?v5) 2 rfl [3, 4, 5, 6, 7] hL.2.2.2.2.2 rfl (fun hb K1 hK1 => ?run) (fun hb => ?skip) (fun ρ hP hM => ?_)
          case skip => exact skA (want := false) (b := _) (by rw [hb]; rfl) hL.2.2.2.2.2 rfl
          case run =>
           simp only [List.take_succ_cons, List.take_zero]
           rw [hb] at hL
           try simp only [go_sem, simprocAttr, hL, hX]
           repeat' refine And.intro (by first | rfl | omega | (simp; done)) ?_
           refine hK1 _ ?_ ?_ ?_ <;> simp only [go_sem, simprocAttr, hL, hX] <;> exact rfl
          simp only [List.drop_succ_cons, List.drop_zero]
          try simp only [go_sem, simprocAttr, hL, hX] at hM
          replace hL := And.intro hP hM
          clear hP hM
          try simp only [go_sem, simprocAttr, hL, hX]
          repeat' refine And.intro (by first | rfl | omega | (simp; done)) ?_
          refine zL [3, 4, 5, 6, 7, 113] ?_
          clear hL
          intro ρ hL
          refine grp_orN (tc := 113) (tv := 115) (td := 116) (v := ?v6) 2 rfl [3, 4, 5, 6, 7] hL.2.2.2.2.2 rfl (fun hb K1 hK1 => ?run) (fun hb => ?skip) (fun ρ hP hM => ?_)
          case skip => exact skA (want := false) (b := _) (by rw [hb]; rfl) hL.2.2.2.2.2 rfl
          case run =>
           simp only [List.take_succ_cons, List.take_zero]
           rw [hb] at hL
           try simp only [go_sem, simprocAttr, hL, hX]
           repeat' refine And.intro (by first | rfl | omega | (simp; done)) ?_
           refine hK1 _ ?_ ?_ ?_ <;> simp only [go_sem, simprocAttr, hL, hX] <;> exact rfl
          simp only [List.drop_succ_cons, List.drop_zero]
          try simp only [go_sem, simprocAttr, hL, hX] at hM
          replace hL := And.intro hP hM
          clear hP hM
          try simp only [go_sem, simprocAttr, hL, hX]
          repeat' refine And.intro (by first | rfl | omega | (simp; done)) ?_
          refine zEG [0, 1, 2, 3, 4, 5, 6] [3, 4, 5, 6, 7, 116] ?_
          clear hK K hL
          refine zC ?_ ?_
          · intro c5
            refine zG [] [2] ?_
            refine zR ?_
            try simp only [go_sem, simprocAttr]
            all_goals (rw [value_miss (by simpa [or_assoc] using c5)]; rfl)
          · intro c5
            have hv : corOk k = true ∧ 0 ≤ r ∧ r ≤ 7 := by simpa [and_assoc] using c5
            have h8 := corOk_reg hv.1 (inR_iff.2 hv.2)
            have hr2 : r.toNat < k.s.regs.length := by omega
            have hat := words_cut_at hcr.1 hr2
            replace hX := And.intro hr2 (And.intro hat hX)
            intro ρ hL
            refine awl_skip ?_
            refine zA ?_
            intro K hK
            refine zF (sat_impl_Source k i r hf) ?_
            refine zEG [0, 1, 2, 3, 4, 5, 6] [3, 5, 6, 7, 17] ?_
            clear hK K hL
            intro ρ hL
            refine awl_seq ?_
            have j2 := hL
            refine awl_regDJ mixed _ rfl (fun H0 σ G => (σ 2 = .bool true) ∧ G = H0) (fun K hK => ?inner2) (fun ρ G hJ => ?after2)
            case inner2 =>
             try simp only [go_sem, simprocAttr, hL, hX]
             repeat' refine And.intro (by first | omega | (exact ⟨[0, 1, 3, 7, 7, 23, 7, 119, 247, 503, 1023, 2047, 4095, 8191, 16383, 32767, 65535, 131071, 262143, 524287, 524287, 1572863, 3670015, 524287, 16252927, 33030143, 67108863, 134217727, 268435455, 536870911], by kernel_rfl⟩) | kernel_rfl) ?_
             refine awpDS_split (b := ?b7) 125 (by simp only [go_sem, simprocAttr, hL, hX]; exact rfl) (fun hb7 => ?_) (fun hb7 => ?_)
             ·
              replace hX := And.intro hb7 hX
              obtain ⟨m, hm, hm2⟩ := source_nat (show ¬ source k.rob i r < 0 by have := hb7; simp at this; omega)
              have kV : ((value k i r).2 == (k.rob.getD m noEnt).done) = true := by rw [value_at hv.1 hv.2 hm]; simp
              have kM : decide ((m : Int) ≥ 0) = true := decide_eq_true (Int.natCast_nonneg m)
              have kD : ((rows k.rob).drop (m * 40 + 11)).head? = some (.bool (k.rob.getD m noEnt).done) := by rw [ents_atO hm2]; rfl
              replace hX := And.intro hm (And.intro hm2 (And.intro kM (And.intro kV (And.intro kD hX))))
              try simp only [go_sem, simprocAttr, hL, hX]
              repeat' refine And.intro (by first | omega | (exact ⟨[0, 1, 3, 7, 7, 23, 7, 119, 247, 503, 1023, 2047, 4095, 8191, 16383, 32767, 65535, 131071, 262143, 524287, 524287, 1572863, 3670015, 524287, 16252927, 33030143, 67108863, 134217727, 268435455, 536870911], by kernel_rfl⟩) | kernel_rfl) ?_
              exact hK _ _ ⟨(by simp only [go_sem, simprocAttr, hL, hX, j2]; first | done | rfl), (by first | rfl | (simp only [hX]; done) | (simp only [hX]; rfl))⟩
             ·
              replace hX := And.intro hb7 hX
              have hneg : source k.rob i r < 0 := by have := hb7; simp at this; omega
              have hvr := value_reg hv.1 hv.2 hneg
              have kv1 := hvr.1
              have kv2 : decide ((value k i r).1 = k.s.regs.getD r.toNat noWord) = true := decide_eq_true hvr.2
              have knd := decide_eq_true hneg
              replace hX := And.intro hneg (And.intro kv1 (And.intro kv2 hX))
              try simp only [go_sem, simprocAttr, hL, hX]
              repeat' refine And.intro (by first | omega | (exact ⟨[0, 1, 3, 7, 7, 23, 7, 119, 247, 503, 1023, 2047, 4095, 8191, 16383, 32767, 65535, 131071, 262143, 524287, 524287, 1572863, 3670015, 524287, 16252927, 33030143, 67108863, 134217727, 268435455, 536870911], by kernel_rfl⟩) | kernel_rfl) ?_
              exact hK _ _ ⟨(by simp only [go_sem, simprocAttr, hL, hX, j2]; first | done | rfl), (by first | rfl | (simp only [hX]; done) | (simp only [hX]; rfl))⟩
            case after2 =>
             clear hL
             obtain ⟨hL, hG⟩ := hJ
             subst hG
             revert ρ hL
             refine zR ?_
             try simp only [go_sem, simprocAttr]
             all_goals (rfl)
end
end Go.Proofs.YteojcehneipgdaaGreat.AM
