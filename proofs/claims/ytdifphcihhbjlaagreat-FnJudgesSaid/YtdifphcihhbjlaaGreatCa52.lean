/- What is drawn: guesses. No conditions but those each theorem bears. -/
import Derived.Test.YtdifphcihhbjlaaGreatFa
import Derived.Test.YtdifphcihhbjlaaGreatM7
import Derived.Test.YtdifphcihhbjlaaGreatCb7
import Derived.Test.YtdifphcihhbjlaaGreatCb1
set_option linter.unusedSimpArgs false
set_option linter.unusedVariables false
namespace Go.Proofs.YtdifphcihhbjlaaGreat.AM
open Go
set_option maxHeartbeats 8000000
set_option maxRecDepth 100000

theorem sat_spec_l11Draw (c : Cu)  : ∃ (ys xs : List Int) (o : Nat) (d : Cu), (((ints ys).drop o).take xs.length = ints xs ∧ o + xs.length ≤ ys.length ∧ xs.length ≤ 48) ∧ Sat Tryz.prog 166 [.ptr 0 0] [⟨3, c.cells, true, false⟩] (.slice 1 o xs.length 0) [⟨3, d.cells, true, false⟩, ⟨1, ints ys, true, false⟩] := by
 suffices hE : ∃ zv zh, (∃ (ys xs : List Int) (o : Nat) (d : Cu), (((ints ys).drop o).take xs.length = ints xs ∧ o + xs.length ≤ ys.length ∧ xs.length ≤ 48) ∧ zv = (.slice 1 o xs.length 0) ∧ zh = [⟨3, d.cells, true, false⟩, ⟨1, ints ys, true, false⟩]) ∧ Sat Tryz.prog 166 [.ptr 0 0] [⟨3, c.cells, true, false⟩] zv zh from by
   obtain ⟨_, _, ⟨ys, xs, o, d, hq, rfl, rfl⟩, hs⟩ := hE
   exact ⟨ys, xs, o, d, hq, hs⟩
 have hX := trivial
 refine sat_ex [.tmp 2] 1 32 Tryz.call166 Tryz.func166 Tryz.ntmps166 rfl rfl rfl rfl rfl ?_
 refine zI [0] ?_
 refine zS [0] ?_
 refine zSF [0, 3] (sat_spec_GuessNew) ?_
 obtain ⟨x00, h48_, hx00⟩ : ∃ z : List Int, z.length = 48 ∧ guessNew = z := ⟨guessNew, gl48, rfl⟩
 intro ρ hL
 rw [hx00]
 revert ρ hL
 refine zS [0, 3, 4] ?_
 intro ρ hL
 have e1 := hL
 refine awl_loopH (fun H0 n σ G => ∃ (xs : List Int) (c : Cu) (i : Nat), n = 6 - i ∧ (i ≤ 6) ∧ (xs.length = 48) ∧ (liveE [0, 3] σ ρ ∧ σ 4 = .int .i64 (i : Int)) ∧ G = [⟨3, c.cells, true, false⟩, ⟨1, ints xs, true, false⟩]) (fun H0 σ G => ∃ (xs : List Int) (c : Cu), (xs.length = 48) ∧ (liveE [0, 3] σ ρ) ∧ G = [⟨3, c.cells, true, false⟩, ⟨1, ints xs, true, false⟩]) ((fun (xs : List Int) (c : Cu) (i : Nat) => 6 - i) x00  c  0) ?init1 (fun n ρ G hI => ?round1) (fun ρ G hJ => ?after1)
 case init1 => exact ⟨x00, c, 0, rfl, (Nat.zero_le _), (h48_), ⟨liveE_refl _ _, (hL.2.2)⟩, rfl⟩
 case round1 =>
  clear hL
  obtain ⟨xs, c, i, hn, i1_0, i1_1, hL, hG⟩ := hI
  subst hG
  try simp only [go_sem, simprocAttr, e1, hX] at hL
  obtain ⟨x0, c, hx0, hs1⟩ := sat_spec_l1Below c 6
  have hb0 := hx0.2.1 (by decide)
  refine zA ?_
  intro K hK
  refine zFJ [0] (hs1) ?_
  refine zE [0, 3, 4, 9] ?_
  clear hK K hL
  refine zC ?_ ?_
  · intro c1
    intro ρ hL
    refine awl_skip ?_
    refine awl_seq ?_
    refine awl_block fun R1 hw1 hR1 => ?_
    obtain ⟨x1, c, hx1, hs2⟩ := sat_spec_l1Below c 48
    have hb1 := hx1.2.1 (by decide)
    obtain ⟨x2, c, hx2, hs3⟩ := sat_spec_l1Below c 20
    have hb2 := hx2.2.1 (by decide)
    have hn9 : x1.toNat < xs.length := by omega
    have hX0 := hX
    replace hX := And.intro hn9 hX
    refine zA ?_
    intro K hK
    refine zFJ [0] (hs2) ?_
    refine zFJ [0] (hs3) ?_
    refine zE [0, 3, 4] ?_
    clear hK K hL
    clear hX
    have hX := hX0
    clear hX0
    intro ρ hL
    refine awl_nil ?_
    refine blk_normal (hR1 _ _ (.mk ?_))
    have wi : IntKind.i64.wrap ((i : Int) + 1) = ((i + 1 : Nat) : Int) := by rw [wrap64 (by omega)]; omega
    have hX0 := hX
    replace hX := And.intro wi hX
    revert ρ hL
    refine zS [0, 3, 4] ?_
    clear hX
    have hX := hX0
    clear hX0
    intro ρ hL
    refine awl_nil ?_
    refine loop_again _ ?meas ⟨(xs.set x1.toNat x2), c, (i + 1), rfl, (by omega), (by rw [List.length_set]; exact i1_1), ⟨(by simp only [go_sem, simprocAttr, hL, hX, e1]), (hL.2.2)⟩, rfl⟩
    case meas => subst hn; omega
  · intro c1
    intro ρ hL
    refine awl_exit ?_
    refine loop_break ?_
    exact ⟨xs, c, (by exact i1_1), (by simp only [go_sem, simprocAttr, hL, hX, e1]), rfl⟩
 case after1 =>
  clear hL
  obtain ⟨xs, c, j1_0, hL, hG⟩ := hJ
  subst hG
  try simp only [go_sem, simprocAttr, e1, hX] at hL
  obtain ⟨x3, c, hx3, hs4⟩ := sat_spec_l1Below c 12
  have hb3 := hx3.2.1 (by decide)
  refine zA ?_
  intro K hK
  refine zFJ [0] (hs4) ?_
  refine zE [0, 3, 19] ?_
  clear hK K hL
  intro ρ hL
  refine awl_block fun R2 hw2 hR2 => ?_
  revert ρ hL
  refine zS [0, 3, 19, 20] ?_
  refine zC ?_ ?_
  · intro c2
    have hl8 : xs.length = 48 := j1_0
    refine zS [3] ?_
    intro ρ hL
    refine awl_nil ?_
    refine blk_normal (hR2 _ _ (.mk ?_))
    revert ρ hL
    refine zS [2] ?_
    intro ρ hL
    refine awl_ret ?_
    refine retNE (v := .slice 1 1 47 47) [] [1] [0, 1] rfl (by simp only [go_sem, simprocAttr, hL, hX]; exact rfl) (by first | rfl | (simp only [go_sem, simprocAttr, hL, hX]; first | done | rfl)) (Ref.cap _ _ _ _ 0 (Nat.zero_le _)) rfl (by decide) rfl rfl rfl rfl ?_
    refine ⟨xs, xs.drop 1, 1, c, ?hq1, ?hv1, ?hh1⟩
    case hv1 => (try simp only [go_sem, simprocAttr, hX, List.length_drop,  j1_0]); first | done | rfl
    case hh1 => (try simp only [go_sem, simprocAttr, hX, List.length_drop,  j1_0]); first | done | rfl
    all_goals try clear hR1
    all_goals try clear hR2
    all_goals (exact ⟨by rw [ints_dropN, ints_take], by rw [List.length_drop]; omega, by rw [List.length_drop]; omega⟩)
  · intro c2
    refine zS [0, 3, 24] ?_
    refine zC ?_ ?_
    · intro c3
      obtain ⟨x4, c, hx4, hs5⟩ := sat_spec_l1PickInt c [-2, 65536] (by simp)
      have hn9 : 3 < xs.length := by omega
      have hX0 := hX
      replace hX := And.intro hn9 hX
      intro ρ hL
      refine zA ?_
      intro K hK
      refine zFJ [0, 2] (hs5) ?_
      refine zE [3] ?_
      clear hK K hL
      clear hX
      have hX := hX0
      clear hX0
      intro ρ hL
      refine awl_nil ?_
      refine blk_normal (hR2 _ _ (.mk ?_))
      revert ρ hL
      refine zS [2] ?_
      refine zX [1] [0, 1] ?_
      refine ⟨xs.set 3 x4, xs.set 3 x4, 0, c, ?hq2, ?hv2, ?hh2⟩
      case hv2 => (try simp only [go_sem, simprocAttr, hX, List.length_set,  j1_0,  put_ints hn9]); first | done | rfl
      case hh2 => (try simp only [go_sem, simprocAttr, hX, List.length_set,  j1_0,  put_ints hn9]); first | done | rfl
      all_goals try clear hR1
      all_goals try clear hR2
      all_goals (exact ⟨by rw [List.drop_zero, ints_take], by omega, by rw [List.length_set]; omega⟩)
    · intro c3
      intro ρ hL
      refine awl_skip ?_
      refine awl_nil ?_
      refine blk_normal (hR2 _ _ (.mk ?_))
      revert ρ hL
      refine zS [2] ?_
      refine zX [1] [0, 1] ?_
      refine ⟨xs, xs, 0, c, ?hq3, ?hv3, ?hh3⟩
      case hv3 => (try simp only [go_sem, simprocAttr, hX, j1_0]); first | done | rfl
      case hh3 => (try simp only [go_sem, simprocAttr, hX, j1_0]); first | done | rfl
      all_goals try clear hR1
      all_goals try clear hR2
      all_goals (exact ⟨by rw [List.drop_zero, ints_take], by omega, by omega⟩)
end Go.Proofs.YtdifphcihhbjlaaGreat.AM
