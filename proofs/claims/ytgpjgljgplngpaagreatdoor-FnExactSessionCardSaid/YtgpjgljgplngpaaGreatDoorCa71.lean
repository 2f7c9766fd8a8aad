/- Words as texts. No conditions but those each theorem bears. -/
import Derived.Test.YtgpjgljgplngpaaGreatDoorFa
import Derived.Test.YtgpjgljgplngpaaGreatDoorCa70
set_option linter.unusedSimpArgs false
set_option linter.unusedVariables false
namespace Go.Proofs.YtgpjgljgplngpaaGreatDoor.AM
open Go
set_option maxHeartbeats 8000000
set_option maxRecDepth 100000
section
attribute [local go_sem] mk_bt bt_app bt_fits
theorem sat_spec_WordText (w : Word)  : Sat Tryz.prog 109 [.agg w.cells] [] (.str (bt (wordT w))) [] := by
 have hX := trivial
 refine sat_mk [.tmp 2] 0 21 Tryz.call109 Tryz.func109 Tryz.ntmps109 rfl rfl rfl rfl rfl ?_
 refine zI [0] ?_
 refine zS [1] ?_
 intro ρ hL
 refine awl_seq (awl_block fun R1 hw1 hR1 => ?_)
 revert ρ hL
 refine zSF [1, 3] (sat_spec_WordOk _) ?_
 refine zC ?_ ?_
 ·intro c1
  refine zS [2] ?_
  refine zR ?_
  try simp only [go_sem, simprocAttr]
  all_goals ((try clear hR1); simp [wordT, c1, bt])
 ·intro c1
  have hok : wordOk w = true := by simpa using c1
  have hn0 : 0 ≤ w.n ∧ w.n ≤ 65535 := by have := hok; simp only [wordOk, Bool.and_eq_true, inR_iff] at this; exact this.1
  have ln := itoa_len (n := w.n) (by omega)
  have lk := keyT_len (k := w.key)
  refine zS [1, 7] ?_
  refine zC ?_ ?_
  ·intro c2
   have f1 : lenOk (itoa w.n) [32] = true := lenOk_of (by simp only [List.length_cons, List.length_nil, List.length_append]; omega)
   have f2 : lenOk (itoa w.n ++ [32]) (keyT w.key) = true := lenOk_of (by simp only [List.length_cons, List.length_nil, List.length_append]; omega)
   intro ρ hL
   repeat refine awl_seq ?_
   refine awl_regD mixed _ rfl fun K hK => ?_
   try simp only [go_sem, simprocAttr, hL, hX, f1, f2]
   repeat' refine And.intro (by first | omega | (exact ⟨[0, 1, 3, 7, 0, 16, 55, 127, 255], by kernel_rfl⟩) | kernel_rfl) ?_
   refine dS_call_ro rfl (sat_spec_l7Digits w.n (by omega)) ?ha ?hv ?hh ?_
   case ha => simp only [go_sem, simprocAttr, hL, hX, f1, f2]; first | done | rfl
   case hv => first | rfl | (simp only [go_sem]; done)
   case hh => first | rfl | (simp only [go_sem]; done)
   try simp only [go_sem, simprocAttr, hL, hX, f1, f2]
   repeat' refine And.intro (by first | omega | (exact ⟨[0, 1, 3, 7, 0, 16, 55, 127, 255], by kernel_rfl⟩) | kernel_rfl) ?_
   refine dS_call_ro rfl (sat_spec_KeyText w.key) ?ha ?hv ?hh ?_
   case ha => simp only [go_sem, simprocAttr, hL, hX, f1, f2]; first | done | rfl
   case hv => first | rfl | (simp only [go_sem]; done)
   case hh => first | rfl | (simp only [go_sem]; done)
   try simp only [go_sem, simprocAttr, hL, hX, f1, f2]
   repeat' refine And.intro (by first | omega | (exact ⟨[0, 1, 3, 7, 0, 16, 55, 127, 255], by kernel_rfl⟩) | kernel_rfl) ?_
   refine hK _ _ (.mk (awl_live' [2] fun ρ hM => ?_))
   try simp only [go_sem, simprocAttr, hL, hX, f1, f2] at hM
   clear hK K hL
   revert ρ hM
   refine zR ?_
   try simp only [go_sem, simprocAttr]
   all_goals ((try clear hR1); rw [wordT, if_pos hok, if_pos (by simpa using c2)])
  ·intro c2 ρ hL
   refine awl_skip (awl_nil (blk_normal (hR1 _ _ (.mk ?_))))
   revert ρ hL
   refine zSF [2] (sat_spec_l7Digits w.n (by omega)) ?_
   refine zR ?_
   try simp only [go_sem, simprocAttr]
   all_goals ((try clear hR1); rw [wordT, if_pos hok, if_neg (by simpa using c2)])
end
section
attribute [local go_sem] mk_bt bt_app bt_fits
theorem sat_impl_WordText (w : Word)  : Sat Tryz.prog 167 [.agg w.cells] [] (.str (bt (wordT w))) [] := by
 have hX := trivial
 refine sat_mk [.tmp 2] 0 19 Tryz.call167 Tryz.func167 Tryz.ntmps167 rfl rfl rfl rfl rfl ?_
 refine zI [0] ?_
 refine zS [1] ?_
 refine zSF [1, 6] (sat_impl_WordOk _) ?_
 refine zC ?_ ?_
 ·intro c1
  refine zS [2] ?_
  refine zR ?_
  try simp only [go_sem, simprocAttr]
  all_goals (simp [wordT, c1, bt])
 ·intro c1 ρ hL
  refine awl_skip ?_
  have hok : wordOk w = true := by simpa using c1
  have hn0 : 0 ≤ w.n ∧ w.n ≤ 65535 := by have := hok; simp only [wordOk, Bool.and_eq_true, inR_iff] at this; exact this.1
  have ln := itoa_len (n := w.n) (by omega)
  have lk := keyT_len (k := w.key)
  revert ρ hL
  refine zSF [1, 3] (sat_strconv_Itoa w.n (by omega)) ?_
  refine zS [1, 3, 11] ?_
  intro ρ hL
  have j1 := hL
  refine awl_joinH (fun H0 σ G => (σ 3 = .str (bt (wordT w))) ∧ G = H0) ?inner1 (fun ρ G hJ => ?after1)
  case inner1 =>
   refine zN [1, 3, 11] ?_
   clear hL
   refine zC ?_ ?_
   ·intro c2
    have f1 : lenOk [32] (keyT w.key) = true := lenOk_of (by simp only [List.length_cons, List.length_nil, List.length_append]; omega)
    have f2 : lenOk (itoa w.n) (32 :: keyT w.key) = true := lenOk_of (by simp only [List.length_cons, List.length_nil, List.length_append]; omega)
    intro ρ hL
    repeat refine awl_seq ?_
    refine awl_regS _ rfl fun K hK => ?_
    try simp only [go_sem, simprocAttr, hL, hX, f1, f2]
    repeat' refine And.intro (by first | rfl | omega | (simp; done)) ?_
    refine opS_call_ro rfl (sat_impl_KeyText w.key) ?ha ?hv ?hh ?_
    case ha => simp only [go_sem, simprocAttr, hL, hX, f1, f2]; first | done | rfl
    case hv => first | rfl | (simp only [go_sem]; done)
    case hh => first | rfl | (simp only [go_sem]; done)
    try simp only [go_sem, simprocAttr, hL, hX, f1, f2]
    repeat' refine And.intro (by first | rfl | omega | (simp; done)) ?_
    refine hK _ _ (.mk (awl_live' [3] fun ρ hM => ?_))
    try simp only [go_sem, simprocAttr, hL, hX, f1, f2] at hM
    clear hK K hL
    revert ρ hM
    intro ρ hL
    refine awl_nil ?_
    show wkQ _ _ _ _
    refine .mk ⟨(by rw [hL]; first | (rw [wordT, if_pos hok, if_pos (by simpa using c2)]; done) | (rw [wordT, if_pos hok, if_neg (by simpa using c2)]; done)), rfl⟩
   ·intro c2 ρ hL
    refine awl_skip (awl_nil ?_)
    show wkQ _ _ _ _
    refine .mk ⟨(by rw [hL.2.1]; first | (rw [wordT, if_pos hok, if_pos (by simpa using c2)]; done) | (rw [wordT, if_pos hok, if_neg (by simpa using c2)]; done)), rfl⟩
  case after1 =>
   clear hL
   obtain ⟨hL, hG⟩ := hJ
   subst hG
   revert ρ hL
   refine zS [2] ?_
   refine zR ?_
   try simp only [go_sem, simprocAttr]
   all_goals (rfl)
end
end Go.Proofs.YtgpjgljgplngpaaGreatDoor.AM
