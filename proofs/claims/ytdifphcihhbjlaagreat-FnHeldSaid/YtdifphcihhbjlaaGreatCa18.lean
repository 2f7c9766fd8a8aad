/- Rows laid behind each other and filtered; the keys of a state. No conditions but those each theorem bears. -/
import Derived.Test.YtdifphcihhbjlaaGreatFa
import Derived.Test.YtdifphcihhbjlaaGreatM5
import Derived.Test.YtdifphcihhbjlaaGreatCb3
import Derived.Test.YtdifphcihhbjlaaGreatCb1
set_option linter.unusedSimpArgs false
set_option linter.unusedVariables false
namespace Go.Proofs.YtdifphcihhbjlaaGreat.AM
open Go
set_option maxHeartbeats 8000000
set_option maxRecDepth 100000

theorem sat_slices_Grow_impl_Word_impl_Word (n : Nat) (hf : n ≤ 1099511627776) : Sat Tryz.prog 194 [.nilsl, .int .i64 (n : Int)] [] (.slice 0 0 0 0) [⟨6, [], true, false⟩] := by
 have hX := trivial
 refine sat_mk [.tmp 4] 0 27 Tryz.call194 Tryz.func194 Tryz.ntmps194 rfl rfl rfl rfl rfl ?_
 refine zI [0, 1] ?_
 refine zS [0, 1] ?_
 refine zS [0, 1, 6] ?_
 refine zQ ?_ ?_
 · intro c1
   try simp only [cnd] at c1
   omega
 · intro c1
   try simp only [cnd] at c1
   intro ρ hL
   refine awl_skip ?_
   have w1 : IntKind.i64.wrap (0 - 0) = 0 := by decide
   have w2 : IntKind.i64.wrap 0 = 0 := by decide
   have w3 : IntKind.i64.wrap ((n : Int) - 0) = n := by rw [wrap64 (by omega)]; omega
   have w4 : IntKind.i64.wrap (n : Int) = n := wrap64 (by omega)
   repeat refine awl_seq ?_
   refine awl_regS _ rfl fun K hK => ?_
   try simp only [go_sem, simprocAttr, hL, hX, w1, w2, w3, w4, Int.sub_zero]
   repeat' refine And.intro (by first | rfl | omega | (simp; done)) ?_
   refine hK _ _ (.mk (awl_live' [0, 1] fun ρ hM => ?_))
   try simp only [go_sem, simprocAttr, hL, hX, w1, w2, w3, w4, Int.sub_zero] at hM
   clear hK K hL
   revert ρ hM
   refine zS [0, 1, 16] ?_
   refine zC ?_ ?_
   · intro c2
     intro ρ hL
     repeat refine awl_seq ?_
     refine awl_regS _ rfl fun K hK => ?_
     try simp only [go_sem, simprocAttr, hL, hX, Nat.sub_zero, Nat.sub_self, Nat.max_zero, Nat.zero_max, Option.isSome_none, Option.isNone_some, Option.isNone_none]
     repeat' refine And.intro (by first | rfl | omega | (simp; done)) ?_
     refine hK _ _ (.mk (awl_live' [0] fun ρ hM => ?_))
     try simp only [go_sem, simprocAttr, hL, hX, Nat.sub_zero, Nat.sub_self, Nat.max_zero, Nat.zero_max, Option.isSome_none, Option.isNone_some, Option.isNone_none] at hM
     clear hK K hL
     revert ρ hM
     refine zS [4] ?_
     intro ρ hL
     refine awl_ret ?_
     have h4 := hL
     refine ret_wk (Wk.norm [] (RefE.refl.upd h4 (Ref.cap _ _ _ _ 0 (Nat.zero_le _)))) ?_
     refine retK [0] [0] rfl (by simp only [go_sem, simprocAttr, hL, hX]; exact rfl) (by decide) (by first | rfl | (simp only [go_sem, simprocAttr, hL, hX]; first | done | rfl)) (by first | rfl | (simp only [go_sem, simprocAttr, hL, hX]; first | done | rfl)) ?_ ?_
     all_goals try simp only [go_sem, simprocAttr, hL, hX]
     all_goals (first | done | rfl | (simp; done) | (simp [inR]; done) | (simp_all [inR]; done) | (simp [inR]; grind))
   · intro c2
     intro ρ hL
     refine awl_skip ?_
     revert ρ hL
     refine zS [4] ?_
     intro ρ hL
     refine awl_ret ?_
     have h4 := hL
     refine ret_wk (Wk.norm [6] (RefE.refl.upd h4 (Ref.nil 0 ⟨Nat.le_refl _, Nat.lt_succ_self _⟩))) ?_
     refine retK [0] [0] rfl (by simp only [go_sem, simprocAttr, hL, hX]; exact rfl) (by decide) (by first | rfl | (simp only [go_sem, simprocAttr, hL, hX]; first | done | rfl)) (by first | rfl | (simp only [go_sem, simprocAttr, hL, hX]; first | done | rfl)) ?_ ?_
     all_goals try simp only [go_sem, simprocAttr, hL, hX]
     all_goals (first | done | rfl | (simp; done) | (simp [inR]; done) | (simp_all [inR]; done) | (simp [inR]; grind))
section
attribute [local go_sem] slW_len bor_slW
theorem sat_slices_Concat_impl_Word_impl_Word (L : List (List Word)) (hb : L.length ≤ 1048576) (hf : L.flatten.length ≤ 1099511627776) : Sat Tryz.prog 131 [.sl L.length L.length (L.map slW)] [] (.slice 0 0 L.flatten.length 0) [⟨6, rows L.flatten, true, false⟩] := by
 have hX := trivial
 refine sat_mk [.tmp 2] 0 36 Tryz.call131 Tryz.func131 Tryz.ntmps131 rfl rfl rfl rfl rfl ?_
 refine zI [0] ?_
 refine zS [0] ?_
 refine zS [0, 3] ?_
 refine zS [0, 3, 9, 10, 11] ?_
 intro ρ hL
 have e1 := hL
 refine awl_loopH (fun H0 n σ G => ∃ (i : Nat), n = L.length - i ∧ (i ≤ L.length) ∧ (liveE [0, 9, 10] σ ρ ∧ σ 3 = .int .i64 (((L.take i).flatten.length : Nat) : Int) ∧ σ 11 = .int .i64 (i : Int)) ∧ G = H0) (fun H0 σ G => (liveE [0] σ ρ ∧ σ 3 = .int .i64 ((L.flatten.length : Nat) : Int)) ∧ G = H0) ((fun (i : Nat) => L.length - i) 0) ?init1 (fun n ρ G hI => ?round1) (fun ρ G hJ => ?after1)
 case init1 => exact ⟨0, rfl, (Nat.zero_le _), ⟨liveE_refl _ _, (by rw [hL.2.1]; rfl), (hL.2.2.2.2)⟩, rfl⟩
 case round1 =>
  clear hL
  obtain ⟨i, hn, i1_0, hL, hG⟩ := hI
  subst hG
  try simp only [go_sem, simprocAttr, e1, hX] at hL
  revert ρ hL
  refine zS [0, 3, 9, 10, 11, 12] ?_
  refine zC ?_ ?_
  · intro c1
    have hi1 : i < L.length := by omega
    replace hX := And.intro hi1 hX
    intro ρ hL
    refine awl_skip ?_
    refine awl_seq ?_
    refine awl_block fun R1 hw1 hR1 => ?_
    have hv1 := slW_at hi1
    repeat refine awl_seq ?_
    refine awl_regS _ rfl fun K hK => ?_
    try simp only [go_sem, simprocAttr, hL, hX, hv1, slW]
    repeat' refine And.intro (by first | rfl | omega | (simp; done)) ?_
    refine hK _ _ (.mk (awl_live' [0, 3, 5, 9, 10, 11] fun ρ hM => ?_))
    try simp only [go_sem, simprocAttr, hL, hX, hv1, slW] at hM
    clear hK K hL
    revert ρ hM
    have hv2 := take_flat_le (L := L) (i := i + 1)
    have hv3 : (L.take (i + 1)).flatten.length = (L.take i).flatten.length + (L.getD i []).length := by rw [take_flat hi1, List.length_append]
    have w5 : IntKind.i64.wrap (((L.take i).flatten.length : Int) + ((L.getD i []).length : Int)) = (((L.take (i + 1)).flatten.length : Nat) : Int) := by rw [wrap64 (by omega)]; omega
    have hX0 := hX
    replace hX := And.intro w5 hX
    refine zS [0, 3, 9, 10, 11] ?_
    clear hX
    have hX := hX0
    clear hX0
    refine zS [0, 3, 9, 10, 11, 20] ?_
    refine zQ ?_ ?_
    · intro c2
      try simp only [cnd] at c2
      omega
    · intro c2
      try simp only [cnd] at c2
      intro ρ hL
      refine awl_skip ?_
      refine awl_nil ?_
      refine blk_normal (hR1 _ _ (.mk ?_))
      have w1 : IntKind.i64.wrap ((i : Int) + 1) = ((i + 1 : Nat) : Int) := by rw [wrap64 (by omega)]; omega
      replace hX := And.intro w1 hX
      revert ρ hL
      refine zS [0, 3, 9, 10, 11] ?_
      intro ρ hL
      refine awl_nil ?_
      refine loop_again _ ?meas ⟨i + 1, rfl, (by omega), ⟨(by simp only [go_sem, simprocAttr, hL, hX, e1]), (hL.2.1), (hL.2.2.2.2)⟩, rfl⟩
      case meas => subst hn; omega
  · intro c1
    intro ρ hL
    refine awl_exit ?_
    refine loop_break ?_
    have h3 := hL.2.1
    exact ⟨⟨(by simp only [go_sem, simprocAttr, hL, hX, e1]), (by rw [h3, show i = L.length by omega, List.take_length])⟩, rfl⟩
 case after1 =>
  clear hL
  obtain ⟨hL, hG⟩ := hJ
  subst hG
  try simp only [go_sem, simprocAttr, e1, hX] at hL
  revert ρ hL
  refine zSF [0, 6] (sat_slices_Grow_impl_Word_impl_Word L.flatten.length hf) ?_
  refine zS [6, 25, 26, 27] ?_
  intro ρ hL
  have e2 := hL
  refine awl_loopH (fun H0 n σ G => ∃ (i : Nat), n = L.length - i ∧ (i ≤ L.length) ∧ (liveE [25, 26] σ ρ ∧ σ 6 = .slice 0 0 (L.take i).flatten.length 0 ∧ σ 27 = .int .i64 (i : Int)) ∧ G = [⟨6, rows (L.take i).flatten, true, false⟩]) (fun H0 σ G => (σ 6 = .slice 0 0 L.flatten.length 0) ∧ G = [⟨6, rows L.flatten, true, false⟩]) ((fun (i : Nat) => L.length - i) 0) ?init2 (fun n ρ G hI => ?round2) (fun ρ G hJ => ?after2)
  case init2 => exact ⟨0, rfl, (Nat.zero_le _), ⟨liveE_refl _ _, (hL.1), (hL.2.2.2)⟩, rfl⟩
  case round2 =>
   clear hL
   obtain ⟨i, hn, i2_0, hL, hG⟩ := hI
   subst hG
   try simp only [go_sem, simprocAttr, e2, hX] at hL
   revert ρ hL
   refine zS [6, 25, 26, 27, 28] ?_
   refine zC ?_ ?_
   · intro c3
     have hi2 : i < L.length := by omega
     replace hX := And.intro hi2 hX
     intro ρ hL
     refine awl_skip ?_
     refine awl_seq ?_
     refine awl_block fun R2 hw2 hR2 => ?_
     have hv1 := slW_at hi2
     repeat refine awl_seq ?_
     refine awl_regS _ rfl fun K hK => ?_
     try simp only [go_sem, simprocAttr, hL, hX, hv1, slW]
     repeat' refine And.intro (by first | rfl | omega | (simp; done)) ?_
     refine hK _ _ (.mk (awl_live' [6, 8, 25, 26, 27] fun ρ hM => ?_))
     try simp only [go_sem, simprocAttr, hL, hX, hv1, slW] at hM
     clear hK K hL
     revert ρ hM
     have hv2 := take_flat_le (L := L) (i := i + 1)
     have hv3 : (L.take (i + 1)).flatten.length = (L.take i).flatten.length + (L.getD i []).length := by rw [take_flat hi2, List.length_append]
     refine zS [6, 25, 26, 27] ?_
     intro ρ hL
     refine awl_nil ?_
     refine blk_normal (hR2 _ _ (.mk ?_))
     have w2 : IntKind.i64.wrap ((i : Int) + 1) = ((i + 1 : Nat) : Int) := by rw [wrap64 (by omega)]; omega
     replace hX := And.intro w2 hX
     revert ρ hL
     refine zS [6, 25, 26, 27] ?_
     intro ρ hL
     refine awl_nil ?_
     refine loop_againW (Wk.keep [1] rfl) _ ?meas ⟨i + 1, rfl, (by omega), ⟨(by simp only [go_sem, simprocAttr, hL, hX, e2]), (by simp only [go_sem, simprocAttr, hL, hX, e2]; rw [hv3]), (by simp only [go_sem, simprocAttr, hL, hX, e2]; first | done | rfl)⟩, (by simp only [go_sem, simprocAttr, hL, hX, e2]; rw [take_flat hi2, rows_append])⟩
     case meas => subst hn; omega
   · intro c3
     intro ρ hL
     refine awl_exit ?_
     refine loop_break ?_
     have h6 := hL.1
     exact ⟨(by rw [h6, show i = L.length by omega, List.take_length]), by rw [show i = L.length by omega, List.take_length]⟩
  case after2 =>
   clear hL
   obtain ⟨hL, hG⟩ := hJ
   subst hG
   revert ρ hL
   refine zS [2] ?_
   refine zK [0] [0] ?_ ?_
   all_goals try simp only [go_sem, simprocAttr, hX]
   all_goals try clear hR1
   all_goals try clear hR2
   all_goals (first | done | rfl | (simp; done) | (simp [inR]; done) | (simp_all [inR]; done) | (simp [inR]; grind))
end
theorem sat_impl_keysOf_1 (w : Word)  : Sat Tryz.prog 193 [.agg w.cells] [] (.bool (!w.is)) [] := by
 have hX := trivial
 refine sat_mk [.tmp 2] 0 6 Tryz.call193 Tryz.func193 Tryz.ntmps193 rfl rfl rfl rfl rfl ?_
 refine zI [0] ?_
 refine zS [1] ?_
 refine zS [2] ?_
 refine zR ?_
 try simp only [go_sem, simprocAttr]
 all_goals (first | done | rfl | (simp; done) | (simp [inR]; done) | (simp_all [inR]; done) | (simp [inR]; grind))
theorem sat_slices_DeleteFunc_impl_Word_impl_Word (xs : List Word) (g : FuncId) (p : Word → Bool) (hb : xs.length ≤ 1099511627776) (hg : ∀ x : Word, Sat Tryz.prog g (.agg (Word.cells x) :: []) [] (.bool (p x)) []) : Sat Tryz.prog 192 [.slice 0 0 xs.length 0, .func g [] []] [⟨6, rows xs, true, false⟩] (.slice 0 0 (kept p xs).length 0) [⟨6, rows (kept p xs), true, false⟩] := by
 have hX := trivial
 refine sat_mk [.tmp 4] 1 42 Tryz.call192 Tryz.func192 Tryz.ntmps192 rfl rfl rfl rfl rfl ?_
 refine zI [0, 1] ?_
 refine zS [0, 1] ?_
 refine zSF [0, 1, 5] (sat_slices_IndexFunc_impl_Word_impl_Word xs g [] p hb (fun _ _ _ => rfl) hg) ?_
 refine zS [0, 1, 5, 12] ?_
 refine zC ?_ ?_
 · intro c1
   refine zS [4] ?_
   refine zK [] [0] ?_ ?_
   all_goals try simp only [go_sem, simprocAttr, hX]
   all_goals (rw [kept_all (firstAt_none c1)])
 · intro c1
   intro ρ hL
   refine awl_skip ?_
   obtain ⟨m, hm0, hm1, hm2, hm3⟩ := firstAt_some (d := noWord) c1
   rw [hm0] at hL
   have w4 : IntKind.i64.wrap ((m : Int) + 1) = ((m + 1 : Nat) : Int) := by rw [wrap64 (by omega)]; omega
   have hX0 := hX
   replace hX := And.intro w4 hX
   revert ρ hL
   refine zS [0, 1, 5, 6] ?_
   clear hX
   have hX := hX0
   clear hX0
   intro ρ hL
   have e1 := hL
   refine awl_loopH (fun H0 n σ G => ∃ (ys : List Word) (i : Nat) (j : Nat), n = xs.length - j ∧ (i < j) ∧ (j ≤ xs.length) ∧ (ys.length = xs.length) ∧ (ys.take i = kept p (xs.take j)) ∧ (ys.drop j = xs.drop j) ∧ (liveE [0, 1] σ ρ ∧ σ 5 = .int .i64 (i : Int) ∧ σ 6 = .int .i64 (j : Int)) ∧ G = [⟨6, rows ys, true, false⟩]) (fun H0 σ G => ∃ (ys : List Word) (i : Nat), (ys.length = xs.length) ∧ (i ≤ xs.length) ∧ (ys.take i = kept p xs) ∧ (liveE [0] σ ρ ∧ σ 5 = .int .i64 (i : Int)) ∧ G = [⟨6, rows ys, true, false⟩]) ((fun (ys : List Word) (i : Nat) (j : Nat) => xs.length - j) xs  m  (m + 1)) ?init1 (fun n ρ G hI => ?round1) (fun ρ G hJ => ?after1)
   case init1 => exact ⟨xs, m, (m + 1), rfl, (Nat.lt_succ_self _), (by omega), (rfl), (by rw [kept_take hm1, if_pos hm3, List.append_nil, kept_all hm2]), (rfl), ⟨liveE_refl _ _, (hL.2.2.1), (hL.2.2.2)⟩, rfl⟩
   case round1 =>
    clear hL
    obtain ⟨ys, i, j, hn, i1_0, i1_1, i1_2, i1_3, i1_4, hL, hG⟩ := hI
    subst hG
    try simp only [go_sem, simprocAttr, e1, hX] at hL
    revert ρ hL
    refine zS [0, 1, 5, 6, 19] ?_
    refine zC ?_ ?_
    · intro c2
      intro ρ hL
      refine awl_skip ?_
      refine awl_seq ?_
      refine awl_block fun R1 hw1 hR1 => ?_
      have hj2 : j < ys.length := by omega
      have hj3 : j < xs.length := by omega
      have hg2 := getD_of_drop i1_4
      have hX0 := hX
      replace hX := And.intro hj2 (And.intro hg2 hX)
      revert ρ hL
      refine zS [0, 1, 5, 6, 7] ?_
      clear hX
      have hX := hX0
      clear hX0
      intro ρ hL
      refine zA ?_
      intro K hK
      refine opS_call_ro (by simp only [go_sem, simprocAttr, hL, hX]; exact rfl) (hg (xs.getD j noWord)) ?ha ?hv ?hh ?_
      case ha => simp only [go_sem, simprocAttr, hL, hX]; first | done | rfl
      case hv => first | rfl | (simp only [go_sem]; done)
      case hh => first | rfl | (simp only [go_sem]; done)
      try simp only [go_sem, simprocAttr, hL, hX]
      repeat' refine And.intro (by first | rfl | omega | (simp; done)) ?_
      refine zE [0, 1, 5, 6, 7, 29] ?_
      clear hK K hL
      refine zC ?_ ?_
      · intro c3
        have hiy : i < ys.length := by omega
        intro ρ hL
        repeat refine awl_seq ?_
        refine awl_regS _ rfl fun K hK => ?_
        try simp only [go_sem, simprocAttr, hL, hX, words_put hiy]
        repeat' refine And.intro (by first | rfl | omega | (simp; done)) ?_
        refine hK _ _ (.mk (awl_live' [0, 1, 5, 6] fun ρ hM => ?_))
        try simp only [go_sem, simprocAttr, hL, hX, words_put hiy] at hM
        clear hK K hL
        revert ρ hM
        have wi : IntKind.i64.wrap ((i : Int) + 1) = ((i + 1 : Nat) : Int) := by rw [wrap64 (by omega)]; omega
        have hX0 := hX
        replace hX := And.intro wi hX
        refine zS [0, 1, 5, 6] ?_
        clear hX
        have hX := hX0
        clear hX0
        intro ρ hL
        refine awl_nil ?_
        refine blk_normal (hR1 _ _ (.mk ?_))
        have wj : IntKind.i64.wrap ((j : Int) + 1) = ((j + 1 : Nat) : Int) := by rw [wrap64 (by omega)]; omega
        have hX0 := hX
        replace hX := And.intro wj hX
        revert ρ hL
        refine zS [0, 1, 5, 6] ?_
        clear hX
        have hX := hX0
        clear hX0
        intro ρ hL
        refine awl_nil ?_
        refine loop_againW (Wk.keep [0] rfl) _ ?meas ⟨(ys.set i (xs.getD j noWord)), (i + 1), (j + 1), rfl, (by omega), (by omega), (by rw [List.length_set]; exact i1_2), (by rw [take_set_succ hiy, i1_3, kept_take hj3, if_neg (by simpa using c3)]), (by rw [drop_set_lt (by omega)]; exact drop_succ_of i1_4), ⟨(by simp only [go_sem, simprocAttr, hL, hX, e1]), (by simp only [go_sem, simprocAttr, hL, hX, e1]; first | done | rfl), (by simp only [go_sem, simprocAttr, hL, hX, e1]; first | done | rfl)⟩, (by simp only [go_sem, simprocAttr, hL, hX, e1]; first | done | rfl)⟩
        case meas => subst hn; omega
      · intro c3
        intro ρ hL
        refine awl_skip ?_
        refine awl_nil ?_
        refine blk_normal (hR1 _ _ (.mk ?_))
        have wj : IntKind.i64.wrap ((j : Int) + 1) = ((j + 1 : Nat) : Int) := by rw [wrap64 (by omega)]; omega
        have hX0 := hX
        replace hX := And.intro wj hX
        revert ρ hL
        refine zS [0, 1, 5, 6] ?_
        clear hX
        have hX := hX0
        clear hX0
        intro ρ hL
        refine awl_nil ?_
        refine loop_againW (Wk.keep [0] rfl) _ ?meas ⟨ys, i, (j + 1), rfl, (by omega), (by omega), (by exact i1_2), (by rw [i1_3, kept_take hj3, if_pos (by simpa using c3), List.append_nil]), (by exact drop_succ_of i1_4), ⟨(by simp only [go_sem, simprocAttr, hL, hX, e1]), (by simp only [go_sem, simprocAttr, hL, hX, e1]; first | done | rfl), (by simp only [go_sem, simprocAttr, hL, hX, e1]; first | done | rfl)⟩, (by simp only [go_sem, simprocAttr, hL, hX, e1]; first | done | rfl)⟩
        case meas => subst hn; omega
    · intro c2
      intro ρ hL
      refine awl_exit ?_
      refine loop_break ?_
      exact ⟨ys, i, (by exact i1_2), (by omega), (by rw [i1_3, List.take_of_length_le (by omega)]), ⟨(by simp only [go_sem, simprocAttr, hL, hX, e1]), (hL.2.2.1)⟩, rfl⟩
   case after1 =>
    clear hL
    obtain ⟨ys, i, j1_0, j1_1, j1_2, hL, hG⟩ := hJ
    subst hG
    try simp only [go_sem, simprocAttr, e1, hX] at hL
    have ha5 : (0 : Int) ≤ (i : Int) := by omega
    have hb5 : (i : Int) ≤ (xs.length : Int) := by omega
    have hpm : i + (List.replicate (xs.length - i) noWord).length ≤ ys.length := by rw [List.length_replicate]; omega
    repeat refine awl_seq ?_
    refine awl_regS _ rfl fun K hK => ?_
    try simp only [go_sem, simprocAttr, hL, hX, ha5, hb5, rows_putMany hpm, Nat.sub_zero, Nat.sub_self, Nat.max_zero, Nat.zero_max, Option.isSome_none, Option.isNone_some, Option.isNone_none]
    repeat' refine And.intro (by first | rfl | omega | (simp; done)) ?_
    refine hK _ _ (.mk (awl_live' [0, 5] fun ρ hM => ?_))
    try simp only [go_sem, simprocAttr, hL, hX, ha5, hb5, rows_putMany hpm, Nat.sub_zero, Nat.sub_self, Nat.max_zero, Nat.zero_max, Option.isSome_none, Option.isNone_some, Option.isNone_none] at hM
    clear hK K hL
    revert ρ hM
    intro ρ hL
    repeat refine awl_seq ?_
    refine awl_regS _ rfl fun K hK => ?_
    try simp only [go_sem, simprocAttr, hL, hX, ha5, hb5, Nat.sub_zero, Nat.sub_self, Nat.max_zero, Nat.zero_max, Option.isSome_none, Option.isNone_some, Option.isNone_none]
    repeat' refine And.intro (by first | rfl | omega | (simp; done)) ?_
    refine hK _ _ (.mk (awl_live' [4] fun ρ hM => ?_))
    try simp only [go_sem, simprocAttr, hL, hX, ha5, hb5, Nat.sub_zero, Nat.sub_self, Nat.max_zero, Nat.zero_max, Option.isSome_none, Option.isNone_some, Option.isNone_none] at hM
    clear hK K hL
    revert ρ hM
    intro ρ hL
    refine awl_ret ?_
    have h4 := hL
    refine ret_wk (Wk.norm [] (RefE.refl.upd h4 (Ref.cap _ _ _ _ 0 (Nat.zero_le _)))) ?_
    refine ret_wk (Wk.trunc 0 (i * 6) rfl) ?_
    refine retK [] [0] rfl (by simp only [go_sem, simprocAttr, hL, hX]; exact rfl) (by decide) (by first | rfl | (simp only [go_sem, simprocAttr, hL, hX]; first | done | rfl)) (by first | rfl | (simp only [go_sem, simprocAttr, hL, hX]; first | done | rfl)) ?_ ?_
    all_goals try simp only [go_sem, simprocAttr, hL, hX]
    all_goals try clear hR1
    all_goals (first | (rw [take_len_of j1_2 (by omega)]; done) | (rw [words_takeN, List.take_left' (by rw [List.length_take]; omega), j1_2, bor_rows]))
section
attribute [local go_sem] kept_keys
theorem sat_impl_keysOf (xs : List Word) (hb : xs.length ≤ 1099511627776) : Sat Tryz.prog 130 [.sl xs.length xs.length (rows xs)] [] (.slice 0 0 (keysOf xs).length 0) [⟨6, rows (keysOf xs), true, false⟩] := by
 have hX := trivial
 refine sat_mk [.tmp 2] 0 6 Tryz.call130 Tryz.func130 Tryz.ntmps130 rfl rfl rfl rfl rfl ?_
 refine zI [0] ?_
 refine zS [0] ?_
 intro ρ hL
 refine zA ?_
 intro K hK
 refine zF (sat_slices_Clone_impl_Word_impl_Word xs xs.length hb) ?_
 refine zFI [0] (sat_slices_DeleteFunc_impl_Word_impl_Word xs _ (fun w => !w.is) hb sat_impl_keysOf_1) ?_
 refine zE [2] ?_
 clear hK K hL
 refine zK [0] [0] ?_ ?_
 all_goals try simp only [go_sem, simprocAttr, hX]
 all_goals (first | done | rfl | (simp; done) | (simp [inR]; done) | (simp_all [inR]; done) | (simp [inR]; grind))
end
theorem sat_impl_Keys (s : Stt) (hf : s.fit) : Sat Tryz.prog 50 [.agg s.cells] [] (.slice 0 0 (keys s).length 0) [⟨6, rows (keys s), true, false⟩] := by
 have hX := trivial
 refine sat_mk [.tmp 2] 0 14 Tryz.call50 Tryz.func50 Tryz.ntmps50 rfl rfl rfl rfl rfl ?_
 refine zI [0] ?_
 refine zS [1] ?_
 intro ρ hL
 refine zA ?_
 intro K hK
 refine zF (sat_slices_Concat_impl_Word_impl_Word [s.regs, [s.pc], s.mem.words] (by simp) (by have := hf.1; have := hf.2.1; simp; omega)) ?_
 refine zF (sat_impl_keysOf [s.regs, [s.pc], s.mem.words].flatten (by have := hf.1; have := hf.2.1; simp; omega)) ?_
 refine zE [2] ?_
 clear hK K hL
 refine zK [4] [4] ?_ ?_
 all_goals try simp only [go_sem, simprocAttr, hX]
 all_goals (rw [keys_eq]; simp)
theorem sat_spec_Keys (s : Stt) (hf : s.fit) : Sat Tryz.prog 140 [.agg s.cells] [] (.slice 0 0 (keys s).length 0) [⟨6, rows (keys s), true, false⟩] := by
 have hX := trivial
 refine sat_mk [.tmp 2] 0 40 Tryz.call140 Tryz.func140 Tryz.ntmps140 rfl rfl rfl rfl rfl ?_
 refine zI [0] ?_
 refine zS [1] ?_
 have hf1 := hf.1
 have hf2 := hf.2.1
 have hl0 : (s.regs ++ s.pc :: s.mem.words).length = s.regs.length + s.mem.words.length + 1 := by simp; omega
 refine zS [1, 3] ?_
 intro ρ hL
 repeat refine awl_seq ?_
 refine awl_regS _ rfl fun K hK => ?_
 try simp only [go_sem, simprocAttr, hL, hX, words_snoc]
 repeat' refine And.intro (by first | rfl | omega | (simp; done)) ?_
 refine hK _ _ (.mk (awl_live' [1, 3] fun ρ hM => ?_))
 try simp only [go_sem, simprocAttr, hL, hX, words_snoc] at hM
 clear hK K hL
 revert ρ hM
 have hLn : s.regs.length + 1 = (s.regs ++ [s.pc]).length := by simp
 intro ρ hL
 repeat refine awl_seq ?_
 refine awl_regS _ rfl fun K hK => ?_
 try simp only [go_sem, simprocAttr, hL, hX, words_takeL hLn, rows_app2]
 repeat' refine And.intro (by first | rfl | omega | (simp; done)) ?_
 refine hK _ _ (.mk (awl_live' [3] fun ρ hM => ?_))
 try simp only [go_sem, simprocAttr, hL, hX, words_takeL hLn, rows_app2] at hM
 clear hK K hL
 revert ρ hM
 refine zS [3, 4] ?_
 intro ρ hL
 refine zA ?_
 intro K hK
 have h4 := hL.2
 refine hK _ _ ⟨_, _, (Wk.norm [6] (RefE.refl.upd (t := 4) (by simp only [go_sem, simprocAttr, h4]; first | done | rfl) (Ref.esl 5 ⟨Nat.le_refl _, Nat.lt_succ_self _⟩))).trans (Wk.keep [4, 5] rfl), awl_live' [3, 4, 5] fun ρ hM => ?_⟩
 try simp only [go_sem, simprocAttr, hL, hX] at hM
 clear hK K h4 hL
 try simp only [go_sem, simprocAttr]
 revert ρ hM
 intro ρ hL
 have e1 := hL
 refine awl_loopH (fun H0 n σ G => ∃ (i : Nat), n = (s.regs ++ s.pc :: s.mem.words).length - i ∧ (i ≤ (s.regs ++ s.pc :: s.mem.words).length) ∧ (liveE [3] σ ρ ∧ σ 4 = .slice 1 0 (keysOf ((s.regs ++ s.pc :: s.mem.words).take i)).length 0 ∧ σ 5 = .int .i64 (i : Int)) ∧ G = [⟨6, rows (s.regs ++ s.pc :: s.mem.words), true, false⟩, ⟨6, rows (keysOf ((s.regs ++ s.pc :: s.mem.words).take i)), true, false⟩]) (fun H0 σ G => (σ 4 = .slice 1 0 (keysOf (s.regs ++ s.pc :: s.mem.words)).length 0) ∧ G = [⟨6, rows (s.regs ++ s.pc :: s.mem.words), true, false⟩, ⟨6, rows (keysOf (s.regs ++ s.pc :: s.mem.words)), true, false⟩]) ((fun (i : Nat) => (s.regs ++ s.pc :: s.mem.words).length - i) 0) ?init1 (fun n ρ G hI => ?round1) (fun ρ G hJ => ?after1)
 case init1 => exact ⟨0, rfl, (Nat.zero_le _), ⟨liveE_refl _ _, (hL.2.1), (hL.2.2)⟩, rfl⟩
 case round1 =>
  clear hL
  obtain ⟨i, hn, i1_0, hL, hG⟩ := hI
  subst hG
  try simp only [go_sem, simprocAttr, e1, hX] at hL
  revert ρ hL
  refine zS [3, 4, 5, 24] ?_
  refine zC ?_ ?_
  · intro c1
    have hi1 : i < (s.regs ++ s.pc :: s.mem.words).length := by omega
    replace hX := And.intro hi1 hX
    intro ρ hL
    refine awl_skip ?_
    refine awl_seq ?_
    refine awl_block fun R1 hw1 hR1 => ?_
    repeat refine awl_seq ?_
    refine awl_regS _ rfl fun K hK => ?_
    try simp only [go_sem, simprocAttr, hL, hX, words_atO hi1]
    repeat' refine And.intro (by first | rfl | omega | (simp; done)) ?_
    refine hK _ _ (.mk (awl_live' [3, 4, 5, 31] fun ρ hM => ?_))
    try simp only [go_sem, simprocAttr, hL, hX, words_atO hi1] at hM
    clear hK K hL
    revert ρ hM
    refine zC ?_ ?_
    · intro c2
      have hk9 := keysOf_take_len (A := (s.regs ++ s.pc :: s.mem.words)) (i := i)
      refine zS [3, 4, 5] ?_
      intro ρ hL
      refine awl_nil ?_
      refine blk_normal (hR1 _ _ (.mk ?_))
      have w1 : IntKind.i64.wrap ((i : Int) + 1) = ((i + 1 : Nat) : Int) := by rw [wrap64 (by omega)]; omega
      replace hX := And.intro w1 hX
      revert ρ hL
      refine zS [3, 4, 5] ?_
      intro ρ hL
      refine awl_nil ?_
      refine loop_againW (Wk.keep [0, 3] rfl) _ ?meas ⟨i + 1, rfl, (by omega), ⟨(by simp only [go_sem, simprocAttr, hL, hX, e1]), (by simp only [go_sem, simprocAttr, hL, hX, e1]; rw [keysOf_snoc hi1, if_pos c2, List.length_append]; rfl), (by simp only [go_sem, simprocAttr, hL, hX, e1]; first | done | rfl)⟩, (by simp only [go_sem, simprocAttr, hL, hX, e1]; rw [keysOf_snoc hi1, if_pos c2]; simp only [words_snoc])⟩
      case meas => subst hn; omega
    · intro c2
      intro ρ hL
      refine awl_skip ?_
      refine awl_nil ?_
      refine blk_normal (hR1 _ _ (.mk ?_))
      have w1 : IntKind.i64.wrap ((i : Int) + 1) = ((i + 1 : Nat) : Int) := by rw [wrap64 (by omega)]; omega
      replace hX := And.intro w1 hX
      revert ρ hL
      refine zS [3, 4, 5] ?_
      intro ρ hL
      refine awl_nil ?_
      refine loop_againW (Wk.keep [0, 1] rfl) _ ?meas ⟨i + 1, rfl, (by omega), ⟨(by simp only [go_sem, simprocAttr, hL, hX, e1]), (by simp only [go_sem, simprocAttr, hL, hX, e1]; rw [keysOf_snoc hi1, if_neg (by rw [c2]; exact Bool.noConfusion), List.append_nil]), (by simp only [go_sem, simprocAttr, hL, hX, e1]; first | done | rfl)⟩, (by simp only [go_sem, simprocAttr, hL, hX, e1]; rw [keysOf_snoc hi1, if_neg (by rw [c2]; exact Bool.noConfusion), List.append_nil])⟩
      case meas => subst hn; omega
  · intro c1
    intro ρ hL
    refine awl_exit ?_
    refine loop_break ?_
    have h4 := hL.2.1
    exact ⟨(by rw [h4, List.take_of_length_le (by omega)]), by rw [List.take_of_length_le (by omega)]⟩
 case after1 =>
  clear hL
  obtain ⟨hL, hG⟩ := hJ
  subst hG
  revert ρ hL
  refine zS [2] ?_
  refine zK [1] [1] ?_ ?_
  all_goals try simp only [go_sem, simprocAttr, hX]
  all_goals try clear hR1
  all_goals (rw [keys_eq])
end Go.Proofs.YtdifphcihhbjlaaGreat.AM
