/- Finding in rows; is a state in order. Commands and their parts. Finding in rows of entries. Entries in order; cores in order. Cores in order; where an entry's words come from. Where an entry's words come from. No conditions but those each theorem bears. -/
import Derived.Test.YtgpjgljgplngpaaGreatDoorFa
import Derived.Test.YtgpjgljgplngpaaGreatDoorM4
import Derived.Test.YtgpjgljgplngpaaGreatDoorCb2
import Derived.Test.YtgpjgljgplngpaaGreatDoorCb1
import Derived.Test.YtgpjgljgplngpaaGreatDoorM5
set_option linter.unusedSimpArgs false
set_option linter.unusedVariables false
namespace Go.Proofs.YtgpjgljgplngpaaGreatDoor.AM
open Go
set_option maxHeartbeats 8000000
set_option maxRecDepth 100000
theorem sat_slices_IndexFunc_impl_Word_impl_Word (xs : List Word) (g : FuncId) (cap : List AV) (p : Word → Bool) (hb : xs.length ≤ 1099511627776) (hc : ∀ (Hb : Heap) (inv : Nat → Option Nat) (n : Nat), cap.map (bor Hb inv (n + 3)) = cap) (hg : ∀ x : Word, Sat Tryz.prog g (.agg (Word.cells x) :: cap) [] (.bool (p x)) []) : Sat Tryz.prog 234 [.sl xs.length xs.length (rows xs), .func g [] cap] [] (.int .i64 (firstAt p xs 0)) [] := by
 have hX := hc
 refine sat_mk [.tmp 4] 0 19 Tryz.call234 Tryz.func234 Tryz.ntmps234 rfl rfl rfl rfl rfl ?_
 refine zI [0, 1] ?_
 refine zS [0, 1] ?_
 refine zS [0, 1, 7, 8] ?_
 intro ρ hL
 have e1 := hL
 refine awl_loopH (fun H0 n σ G => ∃ (i : Nat), n = xs.length - i ∧ (i ≤ xs.length) ∧ (firstAt p (xs.drop i) i = firstAt p xs 0) ∧ (liveE [0, 1, 7] σ ρ ∧ σ 8 = .int .i64 (i : Int)) ∧ G = H0) (fun H0 σ G => (firstAt p xs 0 = -1) ∧ (True) ∧ G = H0) ((fun (i : Nat) => xs.length - i) 0) ?init1 (fun n ρ G hI => ?round1) (fun ρ G hJ => ?after1)
 case init1 => exact ⟨0, rfl, (Nat.zero_le _), (by simp), ⟨liveE_refl _ _, (hL.2.2.2)⟩, rfl⟩
 case round1 =>
  clear hL
  obtain ⟨i, hn, i1_0, i1_1, hL, hG⟩ := hI
  subst hG
  try simp only [go_sem, simprocAttr, e1, hX] at hL
  revert ρ hL
  refine zS [0, 1, 7, 8, 9] ?_
  refine zC ?_ ?_
  ·intro c1
   have hi1 : i < xs.length := by omega
   replace hX := And.intro hi1 hX
   intro ρ hL
   refine awl_skip (awl_seq (awl_block fun R1 hw1 hR1 => ?_))
   revert ρ hL
   refine zS [0, 1, 5, 7, 8] ?_
   intro ρ hL
   refine zA ?_
   intro K hK
   refine opS_call_ro (by simp only [go_sem, simprocAttr, hL, hX]; exact rfl) (hg (xs.getD i noWord)) ?ha ?hv ?hh ?_
   case ha => simp only [go_sem, simprocAttr, hL, hX]; first | done | rfl
   case hv => first | rfl | (simp only [go_sem]; done)
   case hh => first | rfl | (simp only [go_sem]; done)
   try simp only [go_sem, simprocAttr, hL, hX]
   repeat' refine And.intro (by first | rfl | omega | (simp; done)) ?_
   refine zE [0, 1, 5, 7, 8, 16] ?_
   clear hK K hL
   refine zC ?_ ?_
   ·intro c2
    refine zS [4] ?_
    refine zR ?_
    try simp only [go_sem, simprocAttr]
    all_goals ((try clear hR1); have := firstAt_drop (p := p) (d := noWord) xs i 0 hi1; rw [← i1_1]; simp only [Nat.zero_add] at this; rw [this, if_pos (by simpa using c2)])
   ·intro c2 ρ hL
    refine awl_skip (awl_nil (blk_normal (hR1 _ _ (.mk ?_))))
    have w1 : IntKind.i64.wrap ((i : Int) + 1) = ((i + 1 : Nat) : Int) := by rw [wrap64 (by omega)]; omega
    replace hX := And.intro w1 hX
    revert ρ hL
    refine zS [0, 1, 7, 8] ?_
    intro ρ hL
    refine awl_nil ?_
    refine loop_again _ ?meas ⟨i + 1, rfl, (by omega), (by have := firstAt_drop (p := p) (d := noWord) xs i 0 hi1; rw [← i1_1]; simp only [Nat.zero_add] at this; rw [this, if_neg (by simpa using c2)]), ⟨(by simp only [go_sem, simprocAttr, hL, hX, e1]), (hL.2.2.2)⟩, rfl⟩
    case meas => subst hn; omega
  ·intro c1 ρ hL
   refine awl_exit (loop_break ?_)
   exact ⟨(by rw [← i1_1, List.drop_of_length_le (by omega)]; rfl), trivial, rfl⟩
 case after1 =>
  clear hL
  obtain ⟨j1_0, hL, hG⟩ := hJ
  subst hG
  refine zA ?_
  intro K hK
  refine zE [4] ?_
  clear hK K hL
  refine zR ?_
  try simp only [go_sem, simprocAttr]
  all_goals ((try clear hR1); rw [j1_0])
theorem sat_slices_ContainsFunc_impl_Word_impl_Word (xs : List Word) (g : FuncId) (cap : List AV) (p : Word → Bool) (hb : xs.length ≤ 1099511627776) (hc : ∀ (Hb : Heap) (inv : Nat → Option Nat) (n : Nat), cap.map (bor Hb inv (n + 3)) = cap) (hg : ∀ x : Word, Sat Tryz.prog g (.agg (Word.cells x) :: cap) [] (.bool (p x)) []) : Sat Tryz.prog 187 [.sl xs.length xs.length (rows xs), .func g [] cap] [] (.bool (xs.any p)) [] := by
 have hX := hc
 refine sat_mk [.tmp 4] 0 9 Tryz.call187 Tryz.func187 Tryz.ntmps187 rfl rfl rfl rfl rfl ?_
 refine zI [0, 1] ?_
 refine zS [0, 1] ?_
 refine zSF [4] (sat_slices_IndexFunc_impl_Word_impl_Word xs g cap p ?hp0 ?hp1 ?hp2) ?_
 case hp0 => first | assumption | omega | (simp; done)
 case hp1 => first | assumption | omega | (simp; done)
 case hp2 => first | assumption | omega | (simp; done)
 refine zR ?_
 try simp only [go_sem, simprocAttr]
 all_goals (have := firstAt_neg (p := p) xs 0; cases h : xs.any p <;> simp_all)
theorem sat_impl_wordsOk_1 (w : Word)  : Sat Tryz.prog 188 [.agg w.cells] [] (.bool (!wordOk w)) [] := by
 have hX := trivial
 refine sat_mk [.tmp 2] 0 6 Tryz.call188 Tryz.func188 Tryz.ntmps188 rfl rfl rfl rfl rfl ?_
 refine zI [0] ?_
 refine zS [1] ?_
 refine zSF [2] (sat_impl_WordOk _) ?_
 refine zR ?_
 try simp only [go_sem, simprocAttr]
 all_goals (first | done | rfl | (simp; done) | (simp [inR]; done) | (simp_all [inR]; done) | (simp [inR]; grind))
theorem sat_impl_MemoryOk_1 (w : Word)  : Sat Tryz.prog 189 [.agg w.cells] [] (.bool (!wordOk w)) [] := by
 have hX := trivial
 refine sat_mk [.tmp 2] 0 6 Tryz.call189 Tryz.func189 Tryz.ntmps189 rfl rfl rfl rfl rfl ?_
 refine zI [0] ?_
 refine zS [1] ?_
 refine zSF [2] (sat_impl_WordOk _) ?_
 refine zR ?_
 try simp only [go_sem, simprocAttr]
 all_goals (first | done | rfl | (simp; done) | (simp [inR]; done) | (simp_all [inR]; done) | (simp [inR]; grind))
theorem sat_impl_wordsOk (xs : List Word) (hb : xs.length ≤ 1099511627776) : Sat Tryz.prog 137 [.sl xs.length xs.length (rows xs)] [] (.bool (xs.all wordOk)) [] := by
 have hX := trivial
 refine sat_mk [.tmp 2] 0 6 Tryz.call137 Tryz.func137 Tryz.ntmps137 rfl rfl rfl rfl rfl ?_
 refine zI [0] ?_
 refine zS [0] ?_
 refine zSF [2] (sat_slices_ContainsFunc_impl_Word_impl_Word xs _ [] (fun x => !wordOk x) hb (fun _ _ _ => rfl) (fun x => sat_impl_wordsOk_1 x)) ?_
 refine zR ?_
 try simp only [go_sem, simprocAttr]
 all_goals (rw [List.all_eq_not_any_not])
theorem sat_impl_MemoryOk (m : Mem) (hf : m.fit) : Sat Tryz.prog 138 [.agg m.cells] [] (.bool (memOk m)) [] := by
 have hX := trivial
 refine sat_mk [.tmp 2] 0 19 Tryz.call138 Tryz.func138 Tryz.ntmps138 rfl rfl rfl rfl rfl ?_
 refine zI [0] ?_
 refine zS [1] ?_
 intro ρ hL
 refine zA ?_
 intro K hK
 refine zL [1, 7] ?_
 clear hL
 intro ρ hL
 refine grp_andN (v := ?v1) 4 rfl [1] hL.2 rfl (fun hb K1 hK1 => ?run) (fun hb => skA (want := true) (b := _) (by rw [hb]; rfl) hL.2 rfl) (fun ρ hP hM => ?_)
 case run => exact zR1
 refine zPp ?_
 clear hL hP hM
 intro hL
 refine zL [1, 13] ?_
 clear hL
 intro ρ hL
 refine grp_andN (v := ?v2) 4 rfl [] hL.2 rfl (fun hb K1 hK1 => ?run) (fun hb => skA (want := true) (b := _) (by rw [hb]; rfl) hL.2 rfl) (fun ρ hP hM => ?_)
 case run =>
  refine zRn ?_
  intro hL
  refine zF (sat_slices_ContainsFunc_impl_Word_impl_Word m.words _ [] (fun x => !wordOk x) (Nat.le_trans hf.1 (by decide)) (fun _ _ _ => rfl) (fun x => sat_impl_MemoryOk_1 x)) ?_
  exact zK1
 simp only [List.drop_succ_cons, List.drop_zero]
 clear hM hL
 have hL := hP
 clear hP
 try simp only [go_sem, simprocAttr, hL, hX]
 repeat' refine And.intro (by first | rfl | omega | (simp; done)) ?_
 refine zE [2] ?_
 clear hK K hL
 refine zR ?_
 try simp only [go_sem, simprocAttr]
 all_goals (simp only [memOk, List.all_eq_not_any_not]; congr 3 <;> (rw [decide_eq_decide]; omega))
theorem sat_spec_MemoryOk (m : Mem)  : Sat Tryz.prog 116 [.agg m.cells] [] (.bool (memOk m)) [] := by
 have hX := trivial
 refine sat_mk [.tmp 2] 0 25 Tryz.call116 Tryz.func116 Tryz.ntmps116 rfl rfl rfl rfl rfl ?_
 refine zI [0] ?_
 refine zS [1] ?_
 intro ρ hL
 refine zA ?_
 intro K hK
 refine zL [1, 8] ?_
 clear hL
 intro ρ hL
 refine grp_orN (v := ?v1) 4 rfl [1] hL.2 rfl (fun hb K1 hK1 => ?run) (fun hb => skA (want := false) (b := _) (by rw [hb]; rfl) hL.2 rfl) (fun ρ hP hM => ?_)
 case run => exact zR1
 refine zPp ?_
 clear hL hP hM
 intro hL
 refine zE [1, 13] ?_
 clear hK K hL
 refine zC ?_ ?_
 ·intro c1
  refine zS [2] ?_
  refine zR ?_
  try simp only [go_sem, simprocAttr]
  all_goals (rw [eq_comm, AV.bool.injEq]; simp only [memOk, Bool.and_eq_false_iff, decide_eq_false_iff_not]; omega)
 ·intro c1 ρ hL
  refine awl_skip ?_
  revert ρ hL
  refine zS [1, 3] ?_
  intro ρ hL
  have e1 := hL
  refine awl_loopH (fun H0 n σ G => ∃ (i : Nat), n = 24 - i ∧ (i ≤ 24) ∧ ((m.words.take i).all wordOk = true) ∧ (liveE [1] σ ρ ∧ σ 3 = .int .i64 (i : Int)) ∧ G = H0) (fun H0 σ G => (m.words.all wordOk = true) ∧ (True) ∧ G = H0) ((fun (i : Nat) => 24 - i) 0) ?init1 (fun n ρ G hI => ?round1) (fun ρ G hJ => ?after1)
  case init1 => exact ⟨0, rfl, (Nat.zero_le _), (by simp), ⟨liveE_refl _ _, (hL.2)⟩, rfl⟩
  case round1 =>
   clear hL
   obtain ⟨i, hn, i1_0, i1_1, hL, hG⟩ := hI
   subst hG
   try simp only [go_sem, simprocAttr, e1, hX] at hL
   revert ρ hL
   refine zS [1, 3, 15] ?_
   refine zC ?_ ?_
   ·intro c2
    have hi1 : i < 24 := by omega
    replace hX := And.intro hi1 hX
    intro ρ hL
    refine awl_skip (awl_seq (awl_block fun R1 hw1 hR1 => ?_))
    have hw : i < m.words.length := by omega
    revert ρ hL
    refine zSFX [1, 3, 24] (sat_spec_WordOk _) (And.intro hw hX) ?_
    refine zC ?_ ?_
    ·intro c3
     refine zS [2] ?_
     refine zR ?_
     try simp only [go_sem, simprocAttr]
     all_goals ((try clear hR1); rw [memOk, all_false_of (d := noWord) hw (by simpa using c3), Bool.and_false])
    ·intro c3 ρ hL
     refine awl_skip (awl_nil (blk_normal (hR1 _ _ (.mk ?_))))
     have w1 : IntKind.i64.wrap ((i : Int) + 1) = ((i + 1 : Nat) : Int) := by rw [wrap64 (by omega)]; omega
     replace hX := And.intro w1 hX
     revert ρ hL
     refine zS [1, 3] ?_
     intro ρ hL
     refine awl_nil ?_
     refine loop_again _ ?meas ⟨i + 1, rfl, (by omega), (by exact all_take_succ (d := noWord) hw i1_1 (by simpa using c3)), ⟨(by simp only [go_sem, simprocAttr, hL, hX, e1]), (hL.2)⟩, rfl⟩
     case meas => subst hn; omega
   ·intro c2 ρ hL
    refine awl_exit (loop_break ?_)
    exact ⟨(by exact all_of_take (by omega) i1_1), trivial, rfl⟩
  case after1 =>
   clear hL
   obtain ⟨j1_0, hL, hG⟩ := hJ
   subst hG
   refine zA ?_
   intro K hK
   refine zE [2] ?_
   clear hK K hL
   refine zR ?_
   try simp only [go_sem, simprocAttr]
   all_goals ((try clear hR1); rw [memOk, j1_0, Bool.and_true]; simp; omega)
theorem sat_spec_StateOk (s : Stt) (hf : s.fit) : Sat Tryz.prog 56 [.agg s.cells] [] (.bool (sttOk s)) [] := by
 have hX := trivial
 refine sat_mk [.tmp 2] 0 37 Tryz.call56 Tryz.func56 Tryz.ntmps56 rfl rfl rfl rfl rfl ?_
 refine zI [0] ?_
 have hf1 := hf.1
 refine zS [1] ?_
 refine zS [1, 3] ?_
 intro ρ hL
 have e1 := hL
 refine awl_loopH (fun H0 n σ G => ∃ (i : Nat), n = s.regs.length - i ∧ (i ≤ s.regs.length) ∧ ((s.regs.take i).all wordOk = true) ∧ (liveE [1] σ ρ ∧ σ 3 = .int .i64 (i : Int)) ∧ G = H0) (fun H0 σ G => (s.regs.all wordOk = true) ∧ (liveE [1] σ ρ) ∧ G = H0) ((fun (i : Nat) => s.regs.length - i) 0) ?init1 (fun n ρ G hI => ?round1) (fun ρ G hJ => ?after1)
 case init1 => exact ⟨0, rfl, (Nat.zero_le _), (by simp), ⟨liveE_refl _ _, (hL.2)⟩, rfl⟩
 case round1 =>
  clear hL
  obtain ⟨i, hn, i1_0, i1_1, hL, hG⟩ := hI
  subst hG
  try simp only [go_sem, simprocAttr, e1, hX] at hL
  revert ρ hL
  refine zS [1, 3, 8] ?_
  refine zC ?_ ?_
  ·intro c1
   have hi1 : i < s.regs.length := by omega
   replace hX := And.intro hi1 hX
   intro ρ hL
   refine awl_skip (awl_seq (awl_block fun R1 hw1 hR1 => ?_))
   revert ρ hL
   refine zSF [1, 3, 17] (sat_spec_WordOk _) ?_
   refine zC ?_ ?_
   ·intro c2
    refine zS [2] ?_
    refine zR ?_
    try simp only [go_sem, simprocAttr]
    all_goals ((try clear hR1); rw [sttOk, all_false_of (d := noWord) hi1 (by simpa using c2)]; simp only [Bool.false_and])
   ·intro c2 ρ hL
    refine awl_skip (awl_nil (blk_normal (hR1 _ _ (.mk ?_))))
    have w1 : IntKind.i64.wrap ((i : Int) + 1) = ((i + 1 : Nat) : Int) := by rw [wrap64 (by omega)]; omega
    replace hX := And.intro w1 hX
    revert ρ hL
    refine zS [1, 3] ?_
    intro ρ hL
    refine awl_nil ?_
    refine loop_again _ ?meas ⟨i + 1, rfl, (by omega), (by exact all_take_succ (d := noWord) hi1 i1_1 (by simpa using c2)), ⟨(by simp only [go_sem, simprocAttr, hL, hX, e1]), (hL.2)⟩, rfl⟩
    case meas => subst hn; omega
  ·intro c1 ρ hL
   refine awl_exit (loop_break ?_)
   exact ⟨(by exact all_of_take (by omega) i1_1), (by simp only [go_sem, simprocAttr, hL, hX, e1]), rfl⟩
 case after1 =>
  clear hL
  obtain ⟨j1_0, hL, hG⟩ := hJ
  subst hG
  try simp only [go_sem, simprocAttr, e1, hX] at hL
  refine zA ?_
  intro K hK
  refine zL [1, 22] ?_
  clear hL
  intro ρ hL
  refine grp_andN (v := ?v1) 3 rfl [1] hL.2 rfl (fun hb K1 hK1 => ?run) (fun hb => skA (want := true) (b := _) (by rw [hb]; rfl) hL.2 rfl) (fun ρ hP hM => ?_)
  case run =>
   refine zRn ?_
   intro hL
   refine zF (sat_spec_WordOk _) ?_
   exact zK1
  refine zPp ?_
  clear hL hP hM
  intro hL
  refine zL [1, 27] ?_
  clear hL
  intro ρ hL
  refine grp_andN (v := ?v2) 3 rfl [1] hL.2 rfl (fun hb K1 hK1 => ?run) (fun hb => skA (want := true) (b := _) (by rw [hb]; rfl) hL.2 rfl) (fun ρ hP hM => ?_)
  case run =>
   refine zRn ?_
   intro hL
   refine zF (sat_spec_MemoryOk _) ?_
   exact zK1
  refine zPp ?_
  clear hL hP hM
  intro hL
  refine zL [1, 32] ?_
  clear hL
  intro ρ hL
  refine grp_andN (v := ?v3) 3 rfl [] hL.2 rfl (fun hb K1 hK1 => ?run) (fun hb => skA (want := true) (b := _) (by rw [hb]; rfl) hL.2 rfl) (fun ρ hP hM => ?_)
  case run =>
   refine zRn ?_
   intro hL
   refine zF (sat_spec_l1In _ _ _) ?_
   exact zK1
  simp only [List.drop_succ_cons, List.drop_zero]
  clear hM hL
  have hL := hP
  clear hP
  try simp only [go_sem, simprocAttr, hL, hX]
  repeat' refine And.intro (by first | rfl | omega | (simp; done)) ?_
  refine zE [2] ?_
  clear hK K hL
  refine zR ?_
  try simp only [go_sem, simprocAttr]
  all_goals ((try clear hR1); rw [sttOk, j1_0, Bool.true_and]; congr 4; rw [decide_eq_decide]; omega)
theorem sat_impl_StateOk (s : Stt) (hf : s.fit) : Sat Tryz.prog 72 [.agg s.cells] [] (.bool (sttOk s)) [] := by
 have hX := trivial
 refine sat_mk [.tmp 2] 0 27 Tryz.call72 Tryz.func72 Tryz.ntmps72 rfl rfl rfl rfl rfl ?_
 refine zI [0] ?_
 refine zS [1] ?_
 intro ρ hL
 refine zA ?_
 intro K hK
 refine zL [1, 7] ?_
 clear hL
 intro ρ hL
 refine grp_andN (v := ?v1) 3 rfl [1] hL.2 rfl (fun hb K1 hK1 => ?run) (fun hb => skA (want := true) (b := _) (by rw [hb]; rfl) hL.2 rfl) (fun ρ hP hM => ?_)
 case run =>
  refine zRn ?_
  intro hL
  refine zF (sat_impl_wordsOk s.regs (Nat.le_trans hf.1 (by decide))) ?_
  exact zK1
 refine zPp ?_
 clear hL hP hM
 intro hL
 refine zL [1, 12] ?_
 clear hL
 intro ρ hL
 refine grp_andN (v := ?v2) 3 rfl [1] hL.2 rfl (fun hb K1 hK1 => ?run) (fun hb => skA (want := true) (b := _) (by rw [hb]; rfl) hL.2 rfl) (fun ρ hP hM => ?_)
 case run =>
  refine zRn ?_
  intro hL
  refine zF (sat_impl_WordOk _) ?_
  exact zK1
 refine zPp ?_
 clear hL hP hM
 intro hL
 refine zL [1, 17] ?_
 clear hL
 intro ρ hL
 refine grp_andN (v := ?v3) 3 rfl [1] hL.2 rfl (fun hb K1 hK1 => ?run) (fun hb => skA (want := true) (b := _) (by rw [hb]; rfl) hL.2 rfl) (fun ρ hP hM => ?_)
 case run =>
  refine zRn ?_
  intro hL
  refine zF (sat_impl_MemoryOk s.mem hf.2) ?_
  exact zK1
 refine zPp ?_
 clear hL hP hM
 intro hL
 refine zL [1, 22] ?_
 clear hL
 intro ρ hL
 refine grp_andN (v := ?v4) 3 rfl [] hL.2 rfl (fun hb K1 hK1 => ?run) (fun hb => skA (want := true) (b := _) (by rw [hb]; rfl) hL.2 rfl) (fun ρ hP hM => ?_)
 case run =>
  refine zRn ?_
  intro hL
  refine zF (sat_impl_in _ _ _) ?_
  exact zK1
 simp only [List.drop_succ_cons, List.drop_zero]
 clear hM hL
 have hL := hP
 clear hP
 try simp only [go_sem, simprocAttr, hL, hX]
 repeat' refine And.intro (by first | rfl | omega | (simp; done)) ?_
 refine zE [2] ?_
 clear hK K hL
 refine zR ?_
 try simp only [go_sem, simprocAttr]
 all_goals (rw [sttOk, Bool.and_comm (s.regs.all wordOk)]; congr 5; rw [decide_eq_decide]; omega)
theorem sat_impl_formOf (op : Int)  : Sat Tryz.prog 132 [.int .i64 op] [] (.tuple [.str (form op), .bool (inR op 1 15)]) [] := by
 have hX := trivial
 refine sat_mk [.tmp 2, .tmp 3] 0 29 Tryz.call132 Tryz.func132 Tryz.ntmps132 rfl rfl rfl rfl rfl ?_
 refine zI [0] ?_
 refine zS [0] ?_
 refine zS [4] ?_
 intro ρ hL
 refine awl_block fun R1 hw1 hR1 => ?_
 revert ρ hL
 refine zS [4, 5] ?_
 refine zC ?_ ?_
 ·intro c1
  refine zS [2, 3] ?_
  refine zR ?_
  try simp only [go_sem, simprocAttr]
  all_goals ((try clear hR1); first | (simp_all [form, formL, inR]; done) | (rcases c6 with c6 | c6 | c6 | c6 | c6 <;> subst c6 <;> rfl) | (rcases c9 with c9 | c9 | c9 <;> subst c9 <;> rfl) | (rcases c5 with c5 | c5 | c5 | c5 | c5 <;> subst c5 <;> rfl) | (rcases c8 with c8 | c8 | c8 <;> subst c8 <;> rfl) | (refine (Bool.eq_false_or_eq_true (inR op 1 15)).elim (fun h => ?_) (fun h => ?_) <;> first | (exfalso; rcases op_cases h with rfl | rfl | rfl | rfl | rfl | rfl | rfl | rfl | rfl | rfl | rfl | rfl | rfl | rfl | rfl <;> simp_all; done) | (simp_all [form, formL]; done)))
 ·intro c1
  refine zS [4, 7] ?_
  intro ρ hL
  have j1 := hL
  refine awl_joinH (fun H0 σ G => (liveE [4] σ ρ ∧ σ 7 = .bool (decide (op = 2 ∨ op = 4 ∨ op = 5 ∨ op = 7 ∨ op = 8))) ∧ G = H0) ?inner1 (fun ρ G hJ => ?after1)
  case inner1 =>
   refine zN [4, 7] ?_
   clear hL
   refine zC ?_ ?_
   ·intro c2 ρ hL
    refine awl_skip (awl_nil ?_)
    show wkQ _ _ _ _
    refine .mk ⟨⟨(by simp only [go_sem, simprocAttr, hL, hX, j1]), (by rw [hL.2]; first | rfl | (congr 1; rw [Bool.eq_iff_iff]; simp; omega))⟩, rfl⟩
   ·intro c2
    refine zS [4, 7] ?_
    refine zC ?_ ?_
    ·intro c3 ρ hL
     refine awl_skip (awl_nil ?_)
     show wkQ _ _ _ _
     refine .mk ⟨⟨(by simp only [go_sem, simprocAttr, hL, hX, j1]), (by rw [hL.2]; first | rfl | (congr 1; rw [Bool.eq_iff_iff]; simp; omega))⟩, rfl⟩
    ·intro c3
     refine zS [4, 7] ?_
     refine zC ?_ ?_
     ·intro c4 ρ hL
      refine awl_skip (awl_nil ?_)
      show wkQ _ _ _ _
      refine .mk ⟨⟨(by simp only [go_sem, simprocAttr, hL, hX, j1]), (by rw [hL.2]; first | rfl | (congr 1; rw [Bool.eq_iff_iff]; simp; omega))⟩, rfl⟩
     ·intro c4
      refine zS [4, 7] ?_
      refine zC ?_ ?_
      ·intro c5 ρ hL
       refine awl_skip (awl_nil ?_)
       show wkQ _ _ _ _
       refine .mk ⟨⟨(by simp only [go_sem, simprocAttr, hL, hX, j1]), (by rw [hL.2]; first | rfl | (congr 1; rw [Bool.eq_iff_iff]; simp; omega))⟩, rfl⟩
      ·intro c5
       refine zS [4, 7] ?_
       intro ρ hL
       refine awl_nil ?_
       show wkQ _ _ _ _
       refine .mk ⟨⟨(by simp only [go_sem, simprocAttr, hL, hX, j1]), (by rw [hL.2]; first | rfl | (congr 1; rw [Bool.eq_iff_iff]; simp; omega))⟩, rfl⟩
  case after1 =>
   clear hL
   obtain ⟨hL, hG⟩ := hJ
   subst hG
   try simp only [go_sem, simprocAttr, j1, hX] at hL
   revert ρ hL
   refine zC ?_ ?_
   ·intro c6
    refine zS [2, 3] ?_
    refine zR ?_
    try simp only [go_sem, simprocAttr]
    all_goals ((try clear hR1); first | (simp_all [form, formL, inR]; done) | (rcases c6 with c6 | c6 | c6 | c6 | c6 <;> subst c6 <;> rfl) | (rcases c9 with c9 | c9 | c9 <;> subst c9 <;> rfl) | (rcases c5 with c5 | c5 | c5 | c5 | c5 <;> subst c5 <;> rfl) | (rcases c8 with c8 | c8 | c8 <;> subst c8 <;> rfl) | (refine (Bool.eq_false_or_eq_true (inR op 1 15)).elim (fun h => ?_) (fun h => ?_) <;> first | (exfalso; rcases op_cases h with rfl | rfl | rfl | rfl | rfl | rfl | rfl | rfl | rfl | rfl | rfl | rfl | rfl | rfl | rfl <;> simp_all; done) | (simp_all [form, formL]; done)))
   ·intro c6
    refine zS [4, 13] ?_
    intro ρ hL
    have j2 := hL
    refine awl_joinH (fun H0 σ G => (liveE [4] σ ρ ∧ σ 13 = .bool (decide (op = 3 ∨ op = 9 ∨ op = 12))) ∧ G = H0) ?inner2 (fun ρ G hJ => ?after2)
    case inner2 =>
     refine zN [4, 13] ?_
     clear hL
     refine zC ?_ ?_
     ·intro c7 ρ hL
      refine awl_skip (awl_nil ?_)
      show wkQ _ _ _ _
      refine .mk ⟨⟨(by simp only [go_sem, simprocAttr, hL, hX, j2]), (by rw [hL.2]; first | rfl | (congr 1; rw [Bool.eq_iff_iff]; simp; omega))⟩, rfl⟩
     ·intro c7
      refine zS [4, 13] ?_
      refine zC ?_ ?_
      ·intro c8 ρ hL
       refine awl_skip (awl_nil ?_)
       show wkQ _ _ _ _
       refine .mk ⟨⟨(by simp only [go_sem, simprocAttr, hL, hX, j2]), (by rw [hL.2]; first | rfl | (congr 1; rw [Bool.eq_iff_iff]; simp; omega))⟩, rfl⟩
      ·intro c8
       refine zS [4, 13] ?_
       intro ρ hL
       refine awl_nil ?_
       show wkQ _ _ _ _
       refine .mk ⟨⟨(by simp only [go_sem, simprocAttr, hL, hX, j2]), (by rw [hL.2]; first | rfl | (congr 1; rw [Bool.eq_iff_iff]; simp; omega))⟩, rfl⟩
    case after2 =>
     clear hL
     obtain ⟨hL, hG⟩ := hJ
     subst hG
     try simp only [go_sem, simprocAttr, j2, hX] at hL
     revert ρ hL
     refine zC ?_ ?_
     ·intro c9
      refine zS [2, 3] ?_
      refine zR ?_
      try simp only [go_sem, simprocAttr]
      all_goals ((try clear hR1); first | (simp_all [form, formL, inR]; done) | (rcases c6 with c6 | c6 | c6 | c6 | c6 <;> subst c6 <;> rfl) | (rcases c9 with c9 | c9 | c9 <;> subst c9 <;> rfl) | (rcases c5 with c5 | c5 | c5 | c5 | c5 <;> subst c5 <;> rfl) | (rcases c8 with c8 | c8 | c8 <;> subst c8 <;> rfl) | (refine (Bool.eq_false_or_eq_true (inR op 1 15)).elim (fun h => ?_) (fun h => ?_) <;> first | (exfalso; rcases op_cases h with rfl | rfl | rfl | rfl | rfl | rfl | rfl | rfl | rfl | rfl | rfl | rfl | rfl | rfl | rfl <;> simp_all; done) | (simp_all [form, formL]; done)))
     ·intro c9
      refine zS [4, 17] ?_
      refine zC ?_ ?_
      ·intro c10
       refine zS [2, 3] ?_
       refine zR ?_
       try simp only [go_sem, simprocAttr]
       all_goals ((try clear hR1); first | (simp_all [form, formL, inR]; done) | (rcases c6 with c6 | c6 | c6 | c6 | c6 <;> subst c6 <;> rfl) | (rcases c9 with c9 | c9 | c9 <;> subst c9 <;> rfl) | (rcases c5 with c5 | c5 | c5 | c5 | c5 <;> subst c5 <;> rfl) | (rcases c8 with c8 | c8 | c8 <;> subst c8 <;> rfl) | (refine (Bool.eq_false_or_eq_true (inR op 1 15)).elim (fun h => ?_) (fun h => ?_) <;> first | (exfalso; rcases op_cases h with rfl | rfl | rfl | rfl | rfl | rfl | rfl | rfl | rfl | rfl | rfl | rfl | rfl | rfl | rfl <;> simp_all; done) | (simp_all [form, formL]; done)))
      ·intro c10
       refine zS [4, 19] ?_
       refine zC ?_ ?_
       ·intro c11
        refine zS [2, 3] ?_
        refine zR ?_
        try simp only [go_sem, simprocAttr]
        all_goals ((try clear hR1); first | (simp_all [form, formL, inR]; done) | (rcases c6 with c6 | c6 | c6 | c6 | c6 <;> subst c6 <;> rfl) | (rcases c9 with c9 | c9 | c9 <;> subst c9 <;> rfl) | (rcases c5 with c5 | c5 | c5 | c5 | c5 <;> subst c5 <;> rfl) | (rcases c8 with c8 | c8 | c8 <;> subst c8 <;> rfl) | (refine (Bool.eq_false_or_eq_true (inR op 1 15)).elim (fun h => ?_) (fun h => ?_) <;> first | (exfalso; rcases op_cases h with rfl | rfl | rfl | rfl | rfl | rfl | rfl | rfl | rfl | rfl | rfl | rfl | rfl | rfl | rfl <;> simp_all; done) | (simp_all [form, formL]; done)))
       ·intro c11
        refine zS [4, 21] ?_
        refine zC ?_ ?_
        ·intro c12
         refine zS [2, 3] ?_
         refine zR ?_
         try simp only [go_sem, simprocAttr]
         all_goals ((try clear hR1); first | (simp_all [form, formL, inR]; done) | (rcases c6 with c6 | c6 | c6 | c6 | c6 <;> subst c6 <;> rfl) | (rcases c9 with c9 | c9 | c9 <;> subst c9 <;> rfl) | (rcases c5 with c5 | c5 | c5 | c5 | c5 <;> subst c5 <;> rfl) | (rcases c8 with c8 | c8 | c8 <;> subst c8 <;> rfl) | (refine (Bool.eq_false_or_eq_true (inR op 1 15)).elim (fun h => ?_) (fun h => ?_) <;> first | (exfalso; rcases op_cases h with rfl | rfl | rfl | rfl | rfl | rfl | rfl | rfl | rfl | rfl | rfl | rfl | rfl | rfl | rfl <;> simp_all; done) | (simp_all [form, formL]; done)))
        ·intro c12
         refine zS [4, 23] ?_
         refine zC ?_ ?_
         ·intro c13
          refine zS [2, 3] ?_
          refine zR ?_
          try simp only [go_sem, simprocAttr]
          all_goals ((try clear hR1); first | (simp_all [form, formL, inR]; done) | (rcases c6 with c6 | c6 | c6 | c6 | c6 <;> subst c6 <;> rfl) | (rcases c9 with c9 | c9 | c9 <;> subst c9 <;> rfl) | (rcases c5 with c5 | c5 | c5 | c5 | c5 <;> subst c5 <;> rfl) | (rcases c8 with c8 | c8 | c8 <;> subst c8 <;> rfl) | (refine (Bool.eq_false_or_eq_true (inR op 1 15)).elim (fun h => ?_) (fun h => ?_) <;> first | (exfalso; rcases op_cases h with rfl | rfl | rfl | rfl | rfl | rfl | rfl | rfl | rfl | rfl | rfl | rfl | rfl | rfl | rfl <;> simp_all; done) | (simp_all [form, formL]; done)))
         ·intro c13
          refine zS [4, 25] ?_
          refine zC ?_ ?_
          ·intro c14
           refine zS [2, 3] ?_
           refine zR ?_
           try simp only [go_sem, simprocAttr]
           all_goals ((try clear hR1); first | (simp_all [form, formL, inR]; done) | (rcases c6 with c6 | c6 | c6 | c6 | c6 <;> subst c6 <;> rfl) | (rcases c9 with c9 | c9 | c9 <;> subst c9 <;> rfl) | (rcases c5 with c5 | c5 | c5 | c5 | c5 <;> subst c5 <;> rfl) | (rcases c8 with c8 | c8 | c8 <;> subst c8 <;> rfl) | (refine (Bool.eq_false_or_eq_true (inR op 1 15)).elim (fun h => ?_) (fun h => ?_) <;> first | (exfalso; rcases op_cases h with rfl | rfl | rfl | rfl | rfl | rfl | rfl | rfl | rfl | rfl | rfl | rfl | rfl | rfl | rfl <;> simp_all; done) | (simp_all [form, formL]; done)))
          ·intro c14
           refine zS [27] ?_
           refine zC ?_ ?_
           ·intro c15
            refine zS [2, 3] ?_
            refine zR ?_
            try simp only [go_sem, simprocAttr]
            all_goals ((try clear hR1); first | (simp_all [form, formL, inR]; done) | (rcases c6 with c6 | c6 | c6 | c6 | c6 <;> subst c6 <;> rfl) | (rcases c9 with c9 | c9 | c9 <;> subst c9 <;> rfl) | (rcases c5 with c5 | c5 | c5 | c5 | c5 <;> subst c5 <;> rfl) | (rcases c8 with c8 | c8 | c8 <;> subst c8 <;> rfl) | (refine (Bool.eq_false_or_eq_true (inR op 1 15)).elim (fun h => ?_) (fun h => ?_) <;> first | (exfalso; rcases op_cases h with rfl | rfl | rfl | rfl | rfl | rfl | rfl | rfl | rfl | rfl | rfl | rfl | rfl | rfl | rfl <;> simp_all; done) | (simp_all [form, formL]; done)))
           ·intro c15 ρ hL
            refine awl_skip (awl_nil (blk_normal (hR1 _ _ (.mk ?_))))
            revert ρ hL
            refine zS [2, 3] ?_
            refine zR ?_
            try simp only [go_sem, simprocAttr]
            all_goals ((try clear hR1); first | (simp_all [form, formL, inR]; done) | (rcases c6 with c6 | c6 | c6 | c6 | c6 <;> subst c6 <;> rfl) | (rcases c9 with c9 | c9 | c9 <;> subst c9 <;> rfl) | (rcases c5 with c5 | c5 | c5 | c5 | c5 <;> subst c5 <;> rfl) | (rcases c8 with c8 | c8 | c8 <;> subst c8 <;> rfl) | (refine (Bool.eq_false_or_eq_true (inR op 1 15)).elim (fun h => ?_) (fun h => ?_) <;> first | (exfalso; rcases op_cases h with rfl | rfl | rfl | rfl | rfl | rfl | rfl | rfl | rfl | rfl | rfl | rfl | rfl | rfl | rfl <;> simp_all; done) | (simp_all [form, formL]; done)))
theorem sat_impl_partOf (x : Ins) (p : Int)  : Sat Tryz.prog 186 [.agg x.cells, .int .u8 p] [] (.int .i64 (partI x p)) [] := by
 have hX := trivial
 refine sat_mk [.tmp 4] 0 20 Tryz.call186 Tryz.func186 Tryz.ntmps186 rfl rfl rfl rfl rfl ?_
 refine zI [0, 1] ?_
 refine zS [1, 2] ?_
 refine zS [2, 5] ?_
 intro ρ hL
 refine awl_block fun R1 hw1 hR1 => ?_
 revert ρ hL
 refine zS [2, 5, 6] ?_
 refine zC ?_ ?_
 ·intro c1
  refine zS [4] ?_
  refine zR ?_
  try simp only [go_sem, simprocAttr]
  all_goals ((try clear hR1); simp_all [partI])
 ·intro c1
  refine zS [2, 5, 10] ?_
  refine zC ?_ ?_
  ·intro c2
   refine zS [4] ?_
   refine zR ?_
   try simp only [go_sem, simprocAttr]
   all_goals ((try clear hR1); simp_all [partI])
  ·intro c2
   refine zS [2, 14] ?_
   refine zC ?_ ?_
   ·intro c3
    refine zS [4] ?_
    refine zR ?_
    try simp only [go_sem, simprocAttr]
    all_goals ((try clear hR1); simp_all [partI])
   ·intro c3 ρ hL
    refine awl_skip (awl_nil (blk_normal (hR1 _ _ (.mk ?_))))
    revert ρ hL
    refine zS [4] ?_
    refine zR ?_
    try simp only [go_sem, simprocAttr]
    all_goals ((try clear hR1); simp_all [partI])
theorem sat_slices_Index_byte_byte (xs : List UInt8) (p : Int) (hb : xs.length ≤ 1099511627776) : Sat Tryz.prog 274 [.sl xs.length xs.length (bytesV xs), .int .u8 p] [] (.int .i64 (firstAt (fun b : UInt8 => decide (p = (b.toNat : Int))) xs 0)) [] := by
 have hX := trivial
 refine sat_mk [.tmp 4] 0 19 Tryz.call274 Tryz.func274 Tryz.ntmps274 rfl rfl rfl rfl rfl ?_
 refine zI [0, 1] ?_
 refine zS [0, 1] ?_
 refine zS [0, 1, 7, 8] ?_
 intro ρ hL
 have e1 := hL
 refine awl_loopH (fun H0 n σ G => ∃ (i : Nat), n = xs.length - i ∧ (i ≤ xs.length) ∧ (firstAt (fun b : UInt8 => decide (p = (b.toNat : Int))) (xs.drop i) i = firstAt (fun b : UInt8 => decide (p = (b.toNat : Int))) xs 0) ∧ (liveE [0, 1, 7] σ ρ ∧ σ 8 = .int .i64 (i : Int)) ∧ G = H0) (fun H0 σ G => (firstAt (fun b : UInt8 => decide (p = (b.toNat : Int))) xs 0 = -1) ∧ (True) ∧ G = H0) ((fun (i : Nat) => xs.length - i) 0) ?init1 (fun n ρ G hI => ?round1) (fun ρ G hJ => ?after1)
 case init1 => exact ⟨0, rfl, (Nat.zero_le _), (by simp), ⟨liveE_refl _ _, (hL.2.2.2)⟩, rfl⟩
 case round1 =>
  clear hL
  obtain ⟨i, hn, i1_0, i1_1, hL, hG⟩ := hI
  subst hG
  try simp only [go_sem, simprocAttr, e1, hX] at hL
  revert ρ hL
  refine zS [0, 1, 7, 8, 9] ?_
  refine zC ?_ ?_
  ·intro c1
   have hi1 : i < xs.length := by omega
   replace hX := And.intro hi1 hX
   intro ρ hL
   refine awl_skip (awl_seq (awl_block fun R1 hw1 hR1 => ?_))
   revert ρ hL
   refine zS [0, 1, 5, 7, 8] ?_
   refine zS [0, 1, 5, 7, 8, 16] ?_
   refine zC ?_ ?_
   ·intro c2
    refine zS [4] ?_
    refine zR ?_
    try simp only [go_sem, simprocAttr]
    all_goals ((try clear hR1); have := firstAt_drop (p := fun b : UInt8 => decide (p = (b.toNat : Int))) (d := 0) xs i 0 hi1; rw [← i1_1]; simp only [Nat.zero_add] at this; rw [this, if_pos (by simpa using c2)])
   ·intro c2 ρ hL
    refine awl_skip (awl_nil (blk_normal (hR1 _ _ (.mk ?_))))
    have w1 : IntKind.i64.wrap ((i : Int) + 1) = ((i + 1 : Nat) : Int) := by rw [wrap64 (by omega)]; omega
    replace hX := And.intro w1 hX
    revert ρ hL
    refine zS [0, 1, 7, 8] ?_
    intro ρ hL
    refine awl_nil ?_
    refine loop_again _ ?meas ⟨i + 1, rfl, (by omega), (by have := firstAt_drop (p := fun b : UInt8 => decide (p = (b.toNat : Int))) (d := 0) xs i 0 hi1; rw [← i1_1]; simp only [Nat.zero_add] at this; rw [this, if_neg (by simpa using c2)]), ⟨(by simp only [go_sem, simprocAttr, hL, hX, e1]), (hL.2.2.2)⟩, rfl⟩
    case meas => subst hn; omega
  ·intro c1 ρ hL
   refine awl_exit (loop_break ?_)
   exact ⟨(by rw [← i1_1, List.drop_of_length_le (by omega)]; rfl), trivial, rfl⟩
 case after1 =>
  clear hL
  obtain ⟨j1_0, hL, hG⟩ := hJ
  subst hG
  refine zA ?_
  intro K hK
  refine zE [4] ?_
  clear hK K hL
  refine zR ?_
  try simp only [go_sem, simprocAttr]
  all_goals ((try clear hR1); rw [j1_0])
theorem sat_slices_Contains_byte_byte (xs : List UInt8) (p : Int) (hb : xs.length ≤ 1099511627776) : Sat Tryz.prog 238 [.sl xs.length xs.length (bytesV xs), .int .u8 p] [] (.bool (xs.any fun b => decide (p = (b.toNat : Int)))) [] := by
 have hX := trivial
 refine sat_mk [.tmp 4] 0 9 Tryz.call238 Tryz.func238 Tryz.ntmps238 rfl rfl rfl rfl rfl ?_
 refine zI [0, 1] ?_
 refine zS [0, 1] ?_
 refine zSF [4] (sat_slices_Index_byte_byte _ _ ?hp0) ?_
 case hp0 => first | assumption | omega | (simp; done)
 refine zR ?_
 try simp only [go_sem, simprocAttr]
 all_goals (have := firstAt_neg (p := fun b : UInt8 => decide (p = (b.toNat : Int))) xs 0; cases h : xs.any (fun b => decide (p = (b.toNat : Int))) <;> simp_all)
theorem sat_impl_hasPart (x : Ins) (p : Int)  : Sat Tryz.prog 199 [.agg x.cells, .int .u8 p] [] (.bool (hasI x.op p)) [] := by
 have hX := trivial
 refine sat_mk [.tmp 4] 0 17 Tryz.call199 Tryz.func199 Tryz.ntmps199 rfl rfl rfl rfl rfl ?_
 refine zI [0, 1] ?_
 refine zS [1, 2] ?_
 refine zSF [1, 5] (sat_impl_formOf _) ?_
 have hfl := formL_len (op := x.op)
 refine zSF [4] (sat_slices_Contains_byte_byte (formL x.op) p (by omega)) ?_
 refine zR ?_
 try simp only [go_sem, simprocAttr]
 all_goals (rfl)
theorem sat_impl_Sets (x : Ins)  : Sat Tryz.prog 303 [.agg x.cells] [] (.int .i64 (sets x)) [] := by
 have hX := trivial
 refine sat_mk [.tmp 2] 0 7 Tryz.call303 Tryz.func303 Tryz.ntmps303 rfl rfl rfl rfl rfl ?_
 refine zI [0] ?_
 refine zS [1] ?_
 refine zSF [1, 4] (sat_impl_hasPart x 82) ?_
 refine zC ?_ ?_
 ·intro c1
  refine zS [2] ?_
  refine zR ?_
  try simp only [go_sem, simprocAttr]
  all_goals (simp_all [sets, (hasI_eq x.op).1])
 ·intro c1 ρ hL
  refine awl_skip ?_
  revert ρ hL
  refine zS [2] ?_
  refine zR ?_
  try simp only [go_sem, simprocAttr]
  all_goals (simp_all [sets, (hasI_eq x.op).1])
theorem sat_spec_l6Has (op : Int)  : Sat Tryz.prog 125 [.int .i64 op] [] (.int .i64 (has op)) [] := by
 have hX := trivial
 refine sat_mk [.tmp 2] 0 10 Tryz.call125 Tryz.func125 Tryz.ntmps125 rfl rfl rfl rfl rfl ?_
 refine zI [0] ?_
 refine zS [0] ?_
 refine zSF [0, 5] (sat_spec_l1In _ _ _) ?_
 refine zC ?_ ?_
 ·intro c1
  refine zS [2] ?_
  refine zR ?_
  try simp only [go_sem, simprocAttr]
  all_goals (rw [has, if_neg (by simp_all)])
 ·intro c1 ρ hL
  refine awl_skip ?_
  have hop0 : inR op 1 15 = true := by simpa using c1
  have hop := inR_iff.1 hop0
  have hr := has_row hop0
  revert ρ hL
  refine zSX [2] (And.intro hr hX) ?_
  refine zR ?_
  try simp only [go_sem, simprocAttr]
  all_goals (rfl)
theorem sat_spec_l6Field (x : Int) (h : Bool)  : Sat Tryz.prog 179 [.int .i64 x, .bool h] [] (.bool (fieldOk x h)) [] := by
 have hX := trivial
 refine sat_mk [.tmp 4] 0 14 Tryz.call179 Tryz.func179 Tryz.ntmps179 rfl rfl rfl rfl rfl ?_
 refine zI [0, 1] ?_
 refine zS [0, 1] ?_
 intro ρ hL
 refine zA ?_
 intro K hK
 refine zF (sat_spec_l1In _ _ _) ?_
 refine zL [0, 1, 7] ?_
 clear hL
 intro ρ hL
 refine grp_andN (v := ?v1) 5 rfl [] hL.2.2 rfl (fun hb K1 hK1 => ?run) (fun hb => skA (want := true) (b := _) (by rw [hb]; rfl) hL.2.2 rfl) (fun ρ hP hM => ?_)
 case run =>
  refine zRn ?_
  intro hL
  have g2 := hL
  have hK1_2 := hK1
  refine zL [0, 7, 9] ?_
  clear hL
  intro ρ hL
  refine grp_orGN (v := ?v3) 2 7 true rfl hL.2.1 [7] rfl hL.2.2 rfl (fun hb K1 hK1 => ?run) (fun hb => skA (want := false) (b := _) (by rw [hb]; rfl) hL.2.2 rfl) (fun ρ hP hM => ?_)
  case run => exact zR1
  refine zPp ?_
  clear hL hP hM
  intro hL
  refine hK1_2 _ ?_ ?_ ?_ <;> simp only [go_sem, simprocAttr, hL, hX, g2] <;> exact rfl
 simp only [List.drop_succ_cons, List.drop_zero]
 clear hM hL
 have hL := hP
 clear hP
 try simp only [go_sem, simprocAttr, hL, hX]
 repeat' refine And.intro (by first | rfl | omega | (simp; done)) ?_
 refine zE [4] ?_
 clear hK K hL
 refine zR ?_
 try simp only [go_sem, simprocAttr]
 all_goals (rfl)
theorem sat_spec_InsOk (x : Ins)  : Sat Tryz.prog 115 [.agg x.cells] [] (.bool (insOk x)) [] := by
 have hX := trivial
 refine sat_mk [.tmp 2] 0 49 Tryz.call115 Tryz.func115 Tryz.ntmps115 rfl rfl rfl rfl rfl ?_
 refine zI [0] ?_
 refine zS [1] ?_
 refine zSF [1, 3] (sat_spec_l6Has _) ?_
 intro ρ hL
 refine zA ?_
 intro K hK
 refine zF (sat_spec_l1In _ _ _) ?_
 refine zL [1, 3, 10] ?_
 clear hL
 intro ρ hL
 refine grp_andN (v := ?v1) 6 rfl [1, 3] hL.2.2 rfl (fun hb K1 hK1 => ?run) (fun hb => skA (want := true) (b := _) (by rw [hb]; rfl) hL.2.2 rfl) (fun ρ hP hM => ?_)
 case run =>
  refine zRn ?_
  intro hL
  refine zF (sat_spec_l6Field _ _) ?_
  exact zK1
 refine zPp ?_
 clear hL hP hM
 intro hL
 refine zL [1, 3, 18] ?_
 clear hL
 intro ρ hL
 refine grp_andN (v := ?v2) 6 rfl [1, 3] hL.2.2 rfl (fun hb K1 hK1 => ?run) (fun hb => skA (want := true) (b := _) (by rw [hb]; rfl) hL.2.2 rfl) (fun ρ hP hM => ?_)
 case run =>
  refine zRn ?_
  intro hL
  refine zF (sat_spec_l6Field _ _) ?_
  exact zK1
 refine zPp ?_
 clear hL hP hM
 intro hL
 refine zL [1, 3, 26] ?_
 clear hL
 intro ρ hL
 refine grp_andN (v := ?v3) 6 rfl [1, 3] hL.2.2 rfl (fun hb K1 hK1 => ?run) (fun hb => skA (want := true) (b := _) (by rw [hb]; rfl) hL.2.2 rfl) (fun ρ hP hM => ?_)
 case run =>
  refine zRn ?_
  intro hL
  refine zF (sat_spec_l6Field _ _) ?_
  exact zK1
 refine zPp ?_
 clear hL hP hM
 intro hL
 refine zL [1, 3, 34] ?_
 clear hL
 intro ρ hL
 refine grp_andN (v := ?v4) 3 rfl [1, 3] hL.2.2 rfl (fun hb K1 hK1 => ?run) (fun hb => skA (want := true) (b := _) (by rw [hb]; rfl) hL.2.2 rfl) (fun ρ hP hM => ?_)
 case run =>
  refine zRn ?_
  intro hL
  refine zF (sat_spec_l1In _ _ _) ?_
  exact zK1
 refine zPp ?_
 clear hL hP hM
 intro hL
 refine zL [1, 3, 39] ?_
 clear hL
 intro ρ hL
 refine grp_andN (v := ?v5) 8 rfl [] hL.2.2 rfl (fun hb K1 hK1 => ?run) (fun hb => skA (want := true) (b := _) (by rw [hb]; rfl) hL.2.2 rfl) (fun ρ hP hM => ?_)
 case run =>
  refine zRn ?_
  intro hL
  have g6 := hL
  have hK1_6 := hK1
  refine zL [1, 39, 43] ?_
  clear hL
  intro ρ hL
  refine grp_orGN (v := ?v7) 3 39 true rfl hL.2.1 [39] rfl hL.2.2 rfl (fun hb K1 hK1 => ?run) (fun hb => skA (want := false) (b := _) (by rw [hb]; rfl) hL.2.2 rfl) (fun ρ hP hM => ?_)
  case run => exact zR1
  refine zPp ?_
  clear hL hP hM
  intro hL
  refine hK1_6 _ ?_ ?_ ?_ <;> simp only [go_sem, simprocAttr, hL, hX, g6] <;> exact rfl
 simp only [List.drop_succ_cons, List.drop_zero]
 clear hM hL
 have hL := hP
 clear hP
 try simp only [go_sem, simprocAttr, hL, hX]
 repeat' refine And.intro (by first | rfl | omega | (simp; done)) ?_
 refine zE [2] ?_
 clear hK K hL
 refine zR ?_
 try simp only [go_sem, simprocAttr]
 all_goals (rfl)
theorem sat_spec_Sets (x : Ins)  : Sat Tryz.prog 262 [.agg x.cells] [] (.int .i64 (sets x)) [] := by
 have hX := trivial
 refine sat_mk [.tmp 2] 0 10 Tryz.call262 Tryz.func262 Tryz.ntmps262 rfl rfl rfl rfl rfl ?_
 refine zI [0] ?_
 refine zS [1] ?_
 refine zSF [1, 7] (sat_spec_l6Has _) ?_
 refine zC ?_ ?_
 ·intro c1
  refine zS [2] ?_
  refine zR ?_
  try simp only [go_sem, simprocAttr]
  all_goals (simp_all [sets, hasR, band])
 ·intro c1 ρ hL
  refine awl_skip ?_
  revert ρ hL
  refine zS [2] ?_
  refine zR ?_
  try simp only [go_sem, simprocAttr]
  all_goals (simp_all [sets, hasR, band])
theorem sat_impl_InsOk (x : Ins)  : Sat Tryz.prog 157 [.agg x.cells] [] (.bool (insOk x)) [] := by
 have hX := trivial
 refine sat_mk [.tmp 2] 0 49 Tryz.call157 Tryz.func157 Tryz.ntmps157 rfl rfl rfl rfl rfl ?_
 refine zI [0] ?_
 refine zS [1] ?_
 refine zSF [1, 4] (sat_impl_formOf _) ?_
 refine zS [1, 4, 15, 16, 17] ?_
 intro ρ hL
 have e1 := hL
 refine awl_loopH (fun H0 n σ G => ∃ (i : Nat), n = 4 - i ∧ (i ≤ 4) ∧ (liveE [1, 15, 16] σ ρ ∧ σ 4 = .bool (okU x i) ∧ σ 17 = .int .i64 (i : Int)) ∧ G = H0) (fun H0 σ G => (σ 4 = .bool (okU x 4)) ∧ G = H0) ((fun (i : Nat) => 4 - i) 0) ?init1 (fun n ρ G hI => ?round1) (fun ρ G hJ => ?after1)
 case init1 => exact ⟨0, rfl, (Nat.zero_le _), ⟨liveE_refl _ _, (by rw [hL.2.1]; rfl), (hL.2.2.2.2)⟩, rfl⟩
 case round1 =>
  clear hL
  obtain ⟨i, hn, i1_0, hL, hG⟩ := hI
  subst hG
  try simp only [go_sem, simprocAttr, e1, hX] at hL
  revert ρ hL
  refine zS [1, 4, 15, 16, 17, 18] ?_
  refine zC ?_ ?_
  ·intro c1
   have hi1 : i < 4 := by omega
   replace hX := And.intro hi1 hX
   intro ρ hL
   refine awl_skip (awl_seq (awl_block fun R1 hw1 hR1 => ?_))
   have hpr := pL_row hi1
   revert ρ hL
   refine zSX [1, 4, 6, 15, 16, 17] (And.intro hpr hX) ?_
   refine zSF [1, 4, 6, 7, 15, 16, 17] (sat_impl_partOf _ _) ?_
   intro ρ hL
   refine awl_block fun R2 hw2 hR2 => ?_
   revert ρ hL
   refine zSF [1, 4, 6, 7, 15, 16, 17, 29] (sat_impl_hasPart _ _) ?_
   refine zC ?_ ?_
   ·intro c2 ρ hL
    refine zA ?_
    intro K hK
    refine zL [1, 7, 15, 16, 17, 35] ?_
    clear hL
    intro ρ hL
    refine grp_andN (v := ?v1) 2 rfl [1, 15, 16, 17] hL.2.2.2.2.2 rfl (fun hb K1 hK1 => ?run) (fun hb => skA (want := true) (b := _) (by rw [hb]; rfl) hL.2.2.2.2.2 rfl) (fun ρ hP hM => ?_)
    case run => exact zR1
    refine zPp ?_
    clear hL hP hM
    intro hL
    refine zE [1, 4, 15, 16, 17] ?_
    clear hK K hL
    intro ρ hL
    refine awl_nil (blk_normal (hR2 _ _ (.mk ?_)))
    refine awl_nil (blk_normal (hR1 _ _ (.mk ?_)))
    have w1 : IntKind.i64.wrap ((i : Int) + 1) = ((i + 1 : Nat) : Int) := by rw [wrap64 (by omega)]; omega
    replace hX := And.intro w1 hX
    revert ρ hL
    refine zS [1, 4, 15, 16, 17] ?_
    intro ρ hL
    refine awl_nil ?_
    have h4 := hL.2.1
    refine loop_again _ ?meas ⟨i + 1, rfl, (by omega), ⟨(by simp only [go_sem, simprocAttr, hL, hX, e1]), (by rw [h4]; congr 1; simp_all [okU, okP]), (hL.2.2.2.2)⟩, rfl⟩
    case meas => subst hn; omega
   ·intro c2
    refine zS [1, 4, 7, 15, 16, 17, 39] ?_
    refine zC ?_ ?_
    ·intro c3 ρ hL
     refine zA ?_
     intro K hK
     refine zL [1, 7, 15, 16, 17, 43] ?_
     clear hL
     intro ρ hL
     refine grp_andN (v := ?v2) 2 rfl [1, 15, 16, 17] hL.2.2.2.2.2 rfl (fun hb K1 hK1 => ?run) (fun hb => skA (want := true) (b := _) (by rw [hb]; rfl) hL.2.2.2.2.2 rfl) (fun ρ hP hM => ?_)
     case run =>
      refine zRn ?_
      intro hL
      refine zF (sat_impl_in _ _ _) ?_
      exact zK1
     refine zPp ?_
     clear hL hP hM
     intro hL
     refine zE [1, 4, 15, 16, 17] ?_
     clear hK K hL
     intro ρ hL
     refine awl_nil (blk_normal (hR2 _ _ (.mk ?_)))
     refine awl_nil (blk_normal (hR1 _ _ (.mk ?_)))
     have w1 : IntKind.i64.wrap ((i : Int) + 1) = ((i + 1 : Nat) : Int) := by rw [wrap64 (by omega)]; omega
     replace hX := And.intro w1 hX
     revert ρ hL
     refine zS [1, 4, 15, 16, 17] ?_
     intro ρ hL
     refine awl_nil ?_
     have h4 := hL.2.1
     refine loop_again _ ?meas ⟨i + 1, rfl, (by omega), ⟨(by simp only [go_sem, simprocAttr, hL, hX, e1]), (by rw [h4]; congr 1; simp_all [okU, okP]), (hL.2.2.2.2)⟩, rfl⟩
     case meas => subst hn; omega
    ·intro c3 ρ hL
     refine zA ?_
     intro K hK
     refine zL [1, 7, 15, 16, 17, 25] ?_
     clear hL
     intro ρ hL
     refine grp_andN (v := ?v3) 2 rfl [1, 15, 16, 17] hL.2.2.2.2.2 rfl (fun hb K1 hK1 => ?run) (fun hb => skA (want := true) (b := _) (by rw [hb]; rfl) hL.2.2.2.2.2 rfl) (fun ρ hP hM => ?_)
     case run =>
      refine zRn ?_
      intro hL
      refine zF (sat_impl_in _ _ _) ?_
      exact zK1
     refine zPp ?_
     clear hL hP hM
     intro hL
     refine zE [1, 4, 15, 16, 17] ?_
     clear hK K hL
     intro ρ hL
     refine awl_nil (blk_normal (hR2 _ _ (.mk ?_)))
     refine awl_nil (blk_normal (hR1 _ _ (.mk ?_)))
     have w1 : IntKind.i64.wrap ((i : Int) + 1) = ((i + 1 : Nat) : Int) := by rw [wrap64 (by omega)]; omega
     replace hX := And.intro w1 hX
     revert ρ hL
     refine zS [1, 4, 15, 16, 17] ?_
     intro ρ hL
     refine awl_nil ?_
     have h4 := hL.2.1
     refine loop_again _ ?meas ⟨i + 1, rfl, (by omega), ⟨(by simp only [go_sem, simprocAttr, hL, hX, e1]), (by rw [h4]; congr 1; simp_all [okU, okP]), (hL.2.2.2.2)⟩, rfl⟩
     case meas => subst hn; omega
  ·intro c1 ρ hL
   refine awl_exit (loop_break ?_)
   have h4 := hL.2.1
   exact ⟨(by rw [h4, show i = 4 by omega]), rfl⟩
 case after1 =>
  clear hL
  obtain ⟨hL, hG⟩ := hJ
  subst hG
  revert ρ hL
  refine zS [2] ?_
  refine zR ?_
  try simp only [go_sem, simprocAttr]
  all_goals try clear hR1
  all_goals ((try clear hR2); rw [okU_all])
theorem sat_slices_IndexFunc_impl_Entry_impl_Entry (xs : List Ent) (g : FuncId) (cap : List AV) (p : Ent → Bool) (hb : xs.length ≤ 1099511627776) (hc : ∀ (Hb : Heap) (inv : Nat → Option Nat) (n : Nat), cap.map (bor Hb inv (n + 3)) = cap) (hg : ∀ x : Ent, Sat Tryz.prog g (.agg (Ent.cells x) :: cap) [] (.bool (p x)) []) : Sat Tryz.prog 156 [.sl xs.length xs.length (rows xs), .func g [] cap] [] (.int .i64 (firstAt p xs 0)) [] := by
 have hX := hc
 refine sat_mk [.tmp 4] 0 19 Tryz.call156 Tryz.func156 Tryz.ntmps156 rfl rfl rfl rfl rfl ?_
 refine zI [0, 1] ?_
 refine zS [0, 1] ?_
 refine zS [0, 1, 7, 8] ?_
 intro ρ hL
 have e1 := hL
 refine awl_loopH (fun H0 n σ G => ∃ (i : Nat), n = xs.length - i ∧ (i ≤ xs.length) ∧ (firstAt p (xs.drop i) i = firstAt p xs 0) ∧ (liveE [0, 1, 7] σ ρ ∧ σ 8 = .int .i64 (i : Int)) ∧ G = H0) (fun H0 σ G => (firstAt p xs 0 = -1) ∧ (True) ∧ G = H0) ((fun (i : Nat) => xs.length - i) 0) ?init1 (fun n ρ G hI => ?round1) (fun ρ G hJ => ?after1)
 case init1 => exact ⟨0, rfl, (Nat.zero_le _), (by simp), ⟨liveE_refl _ _, (hL.2.2.2)⟩, rfl⟩
 case round1 =>
  clear hL
  obtain ⟨i, hn, i1_0, i1_1, hL, hG⟩ := hI
  subst hG
  try simp only [go_sem, simprocAttr, e1, hX] at hL
  revert ρ hL
  refine zS [0, 1, 7, 8, 9] ?_
  refine zC ?_ ?_
  ·intro c1
   have hi1 : i < xs.length := by omega
   replace hX := And.intro hi1 hX
   intro ρ hL
   refine awl_skip (awl_seq (awl_block fun R1 hw1 hR1 => ?_))
   revert ρ hL
   refine zS [0, 1, 5, 7, 8] ?_
   intro ρ hL
   refine zA ?_
   intro K hK
   refine opS_call_ro (by simp only [go_sem, simprocAttr, hL, hX]; exact rfl) (hg (xs.getD i noEnt)) ?ha ?hv ?hh ?_
   case ha => simp only [go_sem, simprocAttr, hL, hX]; first | done | rfl
   case hv => first | rfl | (simp only [go_sem]; done)
   case hh => first | rfl | (simp only [go_sem]; done)
   try simp only [go_sem, simprocAttr, hL, hX]
   repeat' refine And.intro (by first | rfl | omega | (simp; done)) ?_
   refine zE [0, 1, 5, 7, 8, 16] ?_
   clear hK K hL
   refine zC ?_ ?_
   ·intro c2
    refine zS [4] ?_
    refine zR ?_
    try simp only [go_sem, simprocAttr]
    all_goals ((try clear hR1); have := firstAt_drop (p := p) (d := noEnt) xs i 0 hi1; rw [← i1_1]; simp only [Nat.zero_add] at this; rw [this, if_pos (by simpa using c2)])
   ·intro c2 ρ hL
    refine awl_skip (awl_nil (blk_normal (hR1 _ _ (.mk ?_))))
    have w1 : IntKind.i64.wrap ((i : Int) + 1) = ((i + 1 : Nat) : Int) := by rw [wrap64 (by omega)]; omega
    replace hX := And.intro w1 hX
    revert ρ hL
    refine zS [0, 1, 7, 8] ?_
    intro ρ hL
    refine awl_nil ?_
    refine loop_again _ ?meas ⟨i + 1, rfl, (by omega), (by have := firstAt_drop (p := p) (d := noEnt) xs i 0 hi1; rw [← i1_1]; simp only [Nat.zero_add] at this; rw [this, if_neg (by simpa using c2)]), ⟨(by simp only [go_sem, simprocAttr, hL, hX, e1]), (hL.2.2.2)⟩, rfl⟩
    case meas => subst hn; omega
  ·intro c1 ρ hL
   refine awl_exit (loop_break ?_)
   exact ⟨(by rw [← i1_1, List.drop_of_length_le (by omega)]; rfl), trivial, rfl⟩
 case after1 =>
  clear hL
  obtain ⟨j1_0, hL, hG⟩ := hJ
  subst hG
  refine zA ?_
  intro K hK
  refine zE [4] ?_
  clear hK K hL
  refine zR ?_
  try simp only [go_sem, simprocAttr]
  all_goals ((try clear hR1); rw [j1_0])
theorem sat_slices_ContainsFunc_impl_Entry_impl_Entry (xs : List Ent) (g : FuncId) (cap : List AV) (p : Ent → Bool) (hb : xs.length ≤ 1099511627776) (hc : ∀ (Hb : Heap) (inv : Nat → Option Nat) (n : Nat), cap.map (bor Hb inv (n + 3)) = cap) (hg : ∀ x : Ent, Sat Tryz.prog g (.agg (Ent.cells x) :: cap) [] (.bool (p x)) []) : Sat Tryz.prog 90 [.sl xs.length xs.length (rows xs), .func g [] cap] [] (.bool (xs.any p)) [] := by
 have hX := hc
 refine sat_mk [.tmp 4] 0 9 Tryz.call90 Tryz.func90 Tryz.ntmps90 rfl rfl rfl rfl rfl ?_
 refine zI [0, 1] ?_
 refine zS [0, 1] ?_
 refine zSF [4] (sat_slices_IndexFunc_impl_Entry_impl_Entry xs g cap p ?hp0 ?hp1 ?hp2) ?_
 case hp0 => first | assumption | omega | (simp; done)
 case hp1 => first | assumption | omega | (simp; done)
 case hp2 => first | assumption | omega | (simp; done)
 refine zR ?_
 try simp only [go_sem, simprocAttr]
 all_goals (have := firstAt_neg (p := p) xs 0; cases h : xs.any p <;> simp_all)
theorem sat_impl_entryOk (x : Ent)  : Sat Tryz.prog 92 [.agg x.cells] [] (.bool (entOk x)) [] := by
 have hX := trivial
 refine sat_mk [.tmp 2] 0 58 Tryz.call92 Tryz.func92 Tryz.ntmps92 rfl rfl rfl rfl rfl ?_
 refine zI [0] ?_
 refine zS [1] ?_
 intro ρ hL
 refine zA ?_
 intro K hK
 refine zF (sat_impl_WordOk _) ?_
 refine zL [1, 6] ?_
 clear hL
 intro ρ hL
 refine grp_andN (v := ?v1) 3 rfl [1] hL.2 rfl (fun hb K1 hK1 => ?run) (fun hb => skA (want := true) (b := _) (by rw [hb]; rfl) hL.2 rfl) (fun ρ hP hM => ?_)
 case run =>
  refine zRn ?_
  intro hL
  refine zF (sat_impl_WordOk _) ?_
  exact zK1
 refine zPp ?_
 clear hL hP hM
 intro hL
 refine zL [1, 11] ?_
 clear hL
 intro ρ hL
 refine grp_andN (v := ?v2) 4 rfl [1] hL.2 rfl (fun hb K1 hK1 => ?run) (fun hb => skA (want := true) (b := _) (by rw [hb]; rfl) hL.2 rfl) (fun ρ hP hM => ?_)
 case run =>
  refine zRn ?_
  intro hL
  refine zF (sat_impl_WordOk _) ?_
  exact zK1
 refine zPp ?_
 clear hL hP hM
 intro hL
 refine zL [1, 17] ?_
 clear hL
 intro ρ hL
 refine grp_andN (v := ?v3) 4 rfl [1] hL.2 rfl (fun hb K1 hK1 => ?run) (fun hb => skA (want := true) (b := _) (by rw [hb]; rfl) hL.2 rfl) (fun ρ hP hM => ?_)
 case run =>
  refine zRn ?_
  intro hL
  refine zF (sat_impl_WordOk _) ?_
  exact zK1
 refine zPp ?_
 clear hL hP hM
 intro hL
 refine zL [1, 23] ?_
 clear hL
 intro ρ hL
 refine grp_andN (v := ?v4) 4 rfl [1] hL.2 rfl (fun hb K1 hK1 => ?run) (fun hb => skA (want := true) (b := _) (by rw [hb]; rfl) hL.2 rfl) (fun ρ hP hM => ?_)
 case run =>
  refine zRn ?_
  intro hL
  refine zF (sat_impl_WordOk _) ?_
  exact zK1
 refine zPp ?_
 clear hL hP hM
 intro hL
 refine zL [1, 29] ?_
 clear hL
 intro ρ hL
 refine grp_andN (v := ?v5) 9 rfl [1] hL.2 rfl (fun hb K1 hK1 => ?run) (fun hb => skA (want := true) (b := _) (by rw [hb]; rfl) hL.2 rfl) (fun ρ hP hM => ?_)
 case run =>
  refine zRn ?_
  intro hL
  have g6 := hL
  have hK1_6 := hK1
  refine zF (sat_impl_InsOk _) ?_
  refine zL [1, 29, 33] ?_
  clear hL
  intro ρ hL
  refine grp_orGN (v := ?v7) 4 29 true rfl hL.2.1 [1, 29] rfl hL.2.2 rfl (fun hb K1 hK1 => ?run) (fun hb => skA (want := false) (b := _) (by rw [hb]; rfl) hL.2.2 rfl) (fun ρ hP hM => ?_)
  case run => exact zR1
  refine zPp ?_
  clear hL hP hM
  intro hL
  refine hK1_6 _ ?_ ?_ ?_ <;> simp only [go_sem, simprocAttr, hL, hX, g6] <;> exact rfl
 refine zPp ?_
 clear hL hP hM
 intro hL
 refine zL [1, 40] ?_
 clear hL
 intro ρ hL
 refine grp_andN (v := ?v8) 4 rfl [1] hL.2 rfl (fun hb K1 hK1 => ?run) (fun hb => skA (want := true) (b := _) (by rw [hb]; rfl) hL.2 rfl) (fun ρ hP hM => ?_)
 case run =>
  refine zRn ?_
  intro hL
  refine zF (sat_impl_in _ _ _) ?_
  exact zK1
 refine zPp ?_
 clear hL hP hM
 intro hL
 refine zL [1, 46] ?_
 clear hL
 intro ρ hL
 refine grp_andN (v := ?v9) 4 rfl [1] hL.2 rfl (fun hb K1 hK1 => ?run) (fun hb => skA (want := true) (b := _) (by rw [hb]; rfl) hL.2 rfl) (fun ρ hP hM => ?_)
 case run =>
  refine zRn ?_
  intro hL
  refine zF (sat_impl_in _ _ _) ?_
  exact zK1
 refine zPp ?_
 clear hL hP hM
 intro hL
 refine zL [1, 52] ?_
 clear hL
 intro ρ hL
 refine grp_andN (v := ?v10) 4 rfl [] hL.2 rfl (fun hb K1 hK1 => ?run) (fun hb => skA (want := true) (b := _) (by rw [hb]; rfl) hL.2 rfl) (fun ρ hP hM => ?_)
 case run => exact zR1
 simp only [List.drop_succ_cons, List.drop_zero]
 clear hM hL
 have hL := hP
 clear hP
 try simp only [go_sem, simprocAttr, hL, hX]
 repeat' refine And.intro (by first | rfl | omega | (simp; done)) ?_
 refine zE [2] ?_
 clear hK K hL
 refine zR ?_
 try simp only [go_sem, simprocAttr]
 all_goals (rw [AV.bool.injEq]; simp only [entOk, ins_zero])
theorem sat_impl_CoreOk_1 (x : Ent)  : Sat Tryz.prog 91 [.agg x.cells] [] (.bool (!entOk x)) [] := by
 have hX := trivial
 refine sat_mk [.tmp 2] 0 6 Tryz.call91 Tryz.func91 Tryz.ntmps91 rfl rfl rfl rfl rfl ?_
 refine zI [0] ?_
 refine zS [1] ?_
 refine zSF [2] (sat_impl_entryOk x) ?_
 refine zR ?_
 try simp only [go_sem, simprocAttr]
 all_goals (first | done | rfl | (simp; done) | (simp [inR]; done) | (simp_all [inR]; done) | (simp [inR]; grind))
theorem sat_spec_l12Entry (x : Ent)  : Sat Tryz.prog 55 [.agg x.cells] [] (.bool (entOk x)) [] := by
 have hX := trivial
 refine sat_mk [.tmp 2] 0 61 Tryz.call55 Tryz.func55 Tryz.ntmps55 rfl rfl rfl rfl rfl ?_
 refine zI [0] ?_
 refine zS [1] ?_
 intro ρ hL
 refine zA ?_
 intro K hK
 refine zF (sat_spec_WordOk _) ?_
 refine zL [1, 7] ?_
 clear hL
 intro ρ hL
 refine grp_orN (v := ?v1) 4 rfl [1] hL.2 rfl (fun hb K1 hK1 => ?run) (fun hb => skA (want := false) (b := _) (by rw [hb]; rfl) hL.2 rfl) (fun ρ hP hM => ?_)
 case run =>
  refine zRn ?_
  intro hL
  refine zF (sat_spec_WordOk _) ?_
  exact zK1
 refine zPp ?_
 clear hL hP hM
 intro hL
 refine zL [1, 13] ?_
 clear hL
 intro ρ hL
 refine grp_orN (v := ?v2) 5 rfl [1] hL.2 rfl (fun hb K1 hK1 => ?run) (fun hb => skA (want := false) (b := _) (by rw [hb]; rfl) hL.2 rfl) (fun ρ hP hM => ?_)
 case run =>
  refine zRn ?_
  intro hL
  refine zF (sat_spec_WordOk _) ?_
  exact zK1
 refine zPp ?_
 clear hL hP hM
 intro hL
 refine zL [1, 20] ?_
 clear hL
 intro ρ hL
 refine grp_orN (v := ?v3) 5 rfl [1] hL.2 rfl (fun hb K1 hK1 => ?run) (fun hb => skA (want := false) (b := _) (by rw [hb]; rfl) hL.2 rfl) (fun ρ hP hM => ?_)
 case run =>
  refine zRn ?_
  intro hL
  refine zF (sat_spec_WordOk _) ?_
  exact zK1
 refine zPp ?_
 clear hL hP hM
 intro hL
 refine zL [1, 27] ?_
 clear hL
 intro ρ hL
 refine grp_orN (v := ?v4) 5 rfl [1] hL.2 rfl (fun hb K1 hK1 => ?run) (fun hb => skA (want := false) (b := _) (by rw [hb]; rfl) hL.2 rfl) (fun ρ hP hM => ?_)
 case run =>
  refine zRn ?_
  intro hL
  refine zF (sat_spec_WordOk _) ?_
  exact zK1
 refine zPp ?_
 clear hL hP hM
 intro hL
 refine zE [1, 33] ?_
 clear hK K hL
 refine zC ?_ ?_
 ·intro c1
  refine zS [2] ?_
  refine zR ?_
  try simp only [go_sem, simprocAttr]
  all_goals (rcases c1 with (((c1 | c1) | c1) | c1) | c1 <;> simp only [entOk, c1, Bool.false_and, Bool.and_false])
 ·intro c1 ρ hL
  refine awl_skip ?_
  refine zA ?_
  intro K hK
  refine zF (sat_spec_InsOk _) ?_
  refine zL [1, 37] ?_
  clear hL
  intro ρ hL
  refine grp_orN (v := ?v5) 4 rfl [1] hL.2 rfl (fun hb K1 hK1 => ?run) (fun hb => skA (want := false) (b := _) (by rw [hb]; rfl) hL.2 rfl) (fun ρ hP hM => ?_)
  case run => exact zR1
  refine zPp ?_
  clear hL hP hM
  intro hL
  refine zL [1, 43] ?_
  clear hL
  intro ρ hL
  refine grp_andN (v := ?v6) 4 rfl [1] hL.2 rfl (fun hb K1 hK1 => ?run) (fun hb => skA (want := true) (b := _) (by rw [hb]; rfl) hL.2 rfl) (fun ρ hP hM => ?_)
  case run =>
   refine zRn ?_
   intro hL
   refine zF (sat_spec_l1In _ _ _) ?_
   exact zK1
  refine zPp ?_
  clear hL hP hM
  intro hL
  refine zL [1, 49] ?_
  clear hL
  intro ρ hL
  refine grp_andN (v := ?v7) 4 rfl [1] hL.2 rfl (fun hb K1 hK1 => ?run) (fun hb => skA (want := true) (b := _) (by rw [hb]; rfl) hL.2 rfl) (fun ρ hP hM => ?_)
  case run =>
   refine zRn ?_
   intro hL
   refine zF (sat_spec_l1In _ _ _) ?_
   exact zK1
  refine zPp ?_
  clear hL hP hM
  intro hL
  refine zL [1, 55] ?_
  clear hL
  intro ρ hL
  refine grp_andN (v := ?v8) 4 rfl [] hL.2 rfl (fun hb K1 hK1 => ?run) (fun hb => skA (want := true) (b := _) (by rw [hb]; rfl) hL.2 rfl) (fun ρ hP hM => ?_)
  case run => exact zR1
  simp only [List.drop_succ_cons, List.drop_zero]
  clear hM hL
  have hL := hP
  clear hP
  try simp only [go_sem, simprocAttr, hL, hX]
  repeat' refine And.intro (by first | rfl | omega | (simp; done)) ?_
  refine zE [2] ?_
  clear hK K hL
  refine zR ?_
  try simp only [go_sem, simprocAttr]
  all_goals (obtain ⟨⟨⟨⟨a,b⟩,c⟩,d⟩,e⟩ := c1; simp only [entOk, a, b, c, d, e, Bool.true_and, ins_zero])
theorem sat_impl_CoreOk (c : Cor) (hf : c.fit) : Sat Tryz.prog 44 [.agg c.cells] [] (.bool (corOk c)) [] := by
 have hX := trivial
 refine sat_mk [.tmp 2] 0 28 Tryz.call44 Tryz.func44 Tryz.ntmps44 rfl rfl rfl rfl rfl ?_
 refine zI [0] ?_
 refine zS [1] ?_
 intro ρ hL
 refine zA ?_
 intro K hK
 refine zF (sat_impl_StateOk c.s hf.1) ?_
 refine zL [1, 6] ?_
 clear hL
 intro ρ hL
 refine grp_andN (v := ?v1) 4 rfl [1] hL.2 rfl (fun hb K1 hK1 => ?run) (fun hb => skA (want := true) (b := _) (by rw [hb]; rfl) hL.2 rfl) (fun ρ hP hM => ?_)
 case run => exact zR1
 refine zPp ?_
 clear hL hP hM
 intro hL
 refine zL [1, 12] ?_
 clear hL
 intro ρ hL
 refine grp_andN (v := ?v2) 4 rfl [1] hL.2 rfl (fun hb K1 hK1 => ?run) (fun hb => skA (want := true) (b := _) (by rw [hb]; rfl) hL.2 rfl) (fun ρ hP hM => ?_)
 case run =>
  refine zRn ?_
  intro hL
  refine zF (sat_slices_ContainsFunc_impl_Entry_impl_Entry c.rob _ [] (fun x => !entOk x) (Nat.le_trans hf.2.1 (by decide)) (fun _ _ _ => rfl) (fun x => sat_impl_CoreOk_1 x)) ?_
  exact zK1
 refine zPp ?_
 clear hL hP hM
 intro hL
 refine zL [1, 18] ?_
 clear hL
 intro ρ hL
 refine grp_andN (v := ?v3) 3 rfl [1] hL.2 rfl (fun hb K1 hK1 => ?run) (fun hb => skA (want := true) (b := _) (by rw [hb]; rfl) hL.2 rfl) (fun ρ hP hM => ?_)
 case run =>
  refine zRn ?_
  intro hL
  refine zF (sat_impl_WordOk c.next) ?_
  exact zK1
 refine zPp ?_
 clear hL hP hM
 intro hL
 refine zL [1, 23] ?_
 clear hL
 intro ρ hL
 refine grp_andN (v := ?v4) 3 rfl [] hL.2 rfl (fun hb K1 hK1 => ?run) (fun hb => skA (want := true) (b := _) (by rw [hb]; rfl) hL.2 rfl) (fun ρ hP hM => ?_)
 case run =>
  refine zRn ?_
  intro hL
  refine zF (sat_impl_GuessOk c.guesses c.guesses.length (Nat.le_trans hf.2.2 (by decide))) ?_
  exact zK1
 simp only [List.drop_succ_cons, List.drop_zero]
 clear hM hL
 have hL := hP
 clear hP
 try simp only [go_sem, simprocAttr, hL, hX]
 repeat' refine And.intro (by first | rfl | omega | (simp; done)) ?_
 refine zE [2] ?_
 clear hK K hL
 refine zR ?_
 try simp only [go_sem, simprocAttr]
 all_goals (rw [AV.bool.injEq]; simp only [corOk, List.all_eq_not_any_not]; rw [show (decide ((c.rob.length : Int) ≤ 6)) = decide (c.rob.length ≤ 6) by rw [decide_eq_decide]; omega] <;> ac_rfl)
theorem sat_spec_CoreOk (c : Cor) (hf : c.fit) : Sat Tryz.prog 20 [.agg c.cells] [] (.bool (corOk c)) [] := by
 have hX := trivial
 refine sat_mk [.tmp 2] 0 37 Tryz.call20 Tryz.func20 Tryz.ntmps20 rfl rfl rfl rfl rfl ?_
 refine zI [0] ?_
 have hf1 := hf.2.1
 refine zS [1] ?_
 refine zS [1, 3] ?_
 intro ρ hL
 have e1 := hL
 refine awl_loopH (fun H0 n σ G => ∃ (i : Nat), n = c.rob.length - i ∧ (i ≤ c.rob.length) ∧ ((c.rob.take i).all entOk = true) ∧ (liveE [1] σ ρ ∧ σ 3 = .int .i64 (i : Int)) ∧ G = H0) (fun H0 σ G => (c.rob.all entOk = true) ∧ (liveE [1] σ ρ) ∧ G = H0) ((fun (i : Nat) => c.rob.length - i) 0) ?init1 (fun n ρ G hI => ?round1) (fun ρ G hJ => ?after1)
 case init1 => exact ⟨0, rfl, (Nat.zero_le _), (by simp), ⟨liveE_refl _ _, (hL.2)⟩, rfl⟩
 case round1 =>
  clear hL
  obtain ⟨i, hn, i1_0, i1_1, hL, hG⟩ := hI
  subst hG
  try simp only [go_sem, simprocAttr, e1, hX] at hL
  revert ρ hL
  refine zS [1, 3, 8] ?_
  refine zC ?_ ?_
  ·intro c1
   have hi1 : i < c.rob.length := by omega
   replace hX := And.intro hi1 hX
   intro ρ hL
   refine awl_skip (awl_seq (awl_block fun R1 hw1 hR1 => ?_))
   revert ρ hL
   refine zSF [1, 3, 17] (sat_spec_l12Entry (c.rob.getD i noEnt)) ?_
   refine zC ?_ ?_
   ·intro c2
    refine zS [2] ?_
    refine zR ?_
    try simp only [go_sem, simprocAttr]
    all_goals ((try clear hR1); rw [corOk, all_false_of (d := noEnt) hi1 (by simpa using c2)]; simp only [Bool.false_and])
   ·intro c2 ρ hL
    refine awl_skip (awl_nil (blk_normal (hR1 _ _ (.mk ?_))))
    have w1 : IntKind.i64.wrap ((i : Int) + 1) = ((i + 1 : Nat) : Int) := by rw [wrap64 (by omega)]; omega
    replace hX := And.intro w1 hX
    revert ρ hL
    refine zS [1, 3] ?_
    intro ρ hL
    refine awl_nil ?_
    refine loop_again _ ?meas ⟨i + 1, rfl, (by omega), (by exact all_take_succ (d := noEnt) hi1 i1_1 (by simpa using c2)), ⟨(by simp only [go_sem, simprocAttr, hL, hX, e1]), (hL.2)⟩, rfl⟩
    case meas => subst hn; omega
  ·intro c1 ρ hL
   refine awl_exit (loop_break ?_)
   exact ⟨(by exact all_of_take (by omega) i1_1), (by simp only [go_sem, simprocAttr, hL, hX, e1]), rfl⟩
 case after1 =>
  clear hL
  obtain ⟨j1_0, hL, hG⟩ := hJ
  subst hG
  try simp only [go_sem, simprocAttr, e1, hX] at hL
  refine zA ?_
  intro K hK
  refine zF (sat_spec_StateOk c.s hf.1) ?_
  refine zL [1, 21] ?_
  clear hL
  intro ρ hL
  refine grp_andN (v := ?v1) 4 rfl [1] hL.2 rfl (fun hb K1 hK1 => ?run) (fun hb => skA (want := true) (b := _) (by rw [hb]; rfl) hL.2 rfl) (fun ρ hP hM => ?_)
  case run => exact zR1
  refine zPp ?_
  clear hL hP hM
  intro hL
  refine zL [1, 27] ?_
  clear hL
  intro ρ hL
  refine grp_andN (v := ?v2) 3 rfl [1] hL.2 rfl (fun hb K1 hK1 => ?run) (fun hb => skA (want := true) (b := _) (by rw [hb]; rfl) hL.2 rfl) (fun ρ hP hM => ?_)
  case run =>
   refine zRn ?_
   intro hL
   refine zF (sat_spec_WordOk c.next) ?_
   exact zK1
  refine zPp ?_
  clear hL hP hM
  intro hL
  refine zL [1, 32] ?_
  clear hL
  intro ρ hL
  refine grp_andN (v := ?v3) 3 rfl [] hL.2 rfl (fun hb K1 hK1 => ?run) (fun hb => skA (want := true) (b := _) (by rw [hb]; rfl) hL.2 rfl) (fun ρ hP hM => ?_)
  case run =>
   refine zRn ?_
   intro hL
   refine zF (sat_spec_GuessOk c.guesses c.guesses.length (Nat.le_trans hf.2.2 (by decide))) ?_
   exact zK1
  simp only [List.drop_succ_cons, List.drop_zero]
  clear hM hL
  have hL := hP
  clear hP
  try simp only [go_sem, simprocAttr, hL, hX]
  repeat' refine And.intro (by first | rfl | omega | (simp; done)) ?_
  refine zE [2] ?_
  clear hK K hL
  refine zR ?_
  try simp only [go_sem, simprocAttr]
  all_goals ((try clear hR1); rw [AV.bool.injEq, corOk, j1_0, Bool.true_and]; rw [show (decide ((c.rob.length : Int) ≤ 6)) = decide (c.rob.length ≤ 6) by rw [decide_eq_decide]; omega] <;> ac_rfl)
theorem sat_impl_setBy (x : Ent)  : Sat Tryz.prog 294 [.agg x.cells] [] (.int .i64 (setBy x)) [] := by
 have hX := trivial
 refine sat_mk [.tmp 2] 0 11 Tryz.call294 Tryz.func294 Tryz.ntmps294 rfl rfl rfl rfl rfl ?_
 refine zI [0] ?_
 refine zS [1] ?_
 refine zS [1, 4] ?_
 refine zC ?_ ?_
 ·intro c1
  refine zS [2] ?_
  refine zR ?_
  try simp only [go_sem, simprocAttr]
  all_goals (rw [setBy, if_pos c1])
 ·intro c1 ρ hL
  refine awl_skip ?_
  revert ρ hL
  refine zSF [2] (sat_impl_Sets _) ?_
  refine zR ?_
  try simp only [go_sem, simprocAttr]
  all_goals (rw [setBy, if_neg (by simpa using c1)])
theorem sat_spec_Source (c : Cor) (i : Int) (r : Int) (hf : c.fit) : Sat Tryz.prog 256 [.agg c.cells, .int .i64 i, .int .i64 r] [] (.int .i64 (source c.rob i r)) [] := by
 have hX := trivial
 refine sat_mk [.tmp 6] 0 50 Tryz.call256 Tryz.func256 Tryz.ntmps256 rfl rfl rfl rfl rfl ?_
 refine zI [0, 1, 2] ?_
 have hf1 := hf.2.1
 refine zS [1, 2, 3] ?_
 intro ρ hL
 refine zA ?_
 intro K hK
 refine zL [1, 2, 3, 11] ?_
 clear hL
 intro ρ hL
 refine grp_orN (v := ?v1) 2 rfl [1, 2, 3] hL.2.2.2 rfl (fun hb K1 hK1 => ?run) (fun hb => skA (want := false) (b := _) (by rw [hb]; rfl) hL.2.2.2 rfl) (fun ρ hP hM => ?_)
 case run => exact zR1
 refine zPp ?_
 clear hL hP hM
 intro hL
 refine zE [1, 2, 3, 14] ?_
 clear hK K hL
 refine zC ?_ ?_
 ·intro c1
  refine zS [6] ?_
  refine zR ?_
  try simp only [go_sem, simprocAttr]
  all_goals (rw [source_neg (by omega)])
 ·intro c1 ρ hL
  refine awl_skip ?_
  have w0 : IntKind.i64.wrap (min i (c.rob.length : Int) - 1) = min i (c.rob.length : Int) - 1 := wrap64 (by omega)
  revert ρ hL
  refine zSFX [2, 3, 7] (sat_spec_l1Min _ _) (And.intro w0 hX) ?_
  intro ρ hL
  have e1 := hL
  refine awl_loopH (fun H0 n σ G => ∃ (m : Nat), n = m ∧ (m ≤ c.rob.length) ∧ (lastAt (fun x => decide (setBy x = r)) noEnt c.rob m = source c.rob i r) ∧ (liveE [2, 3] σ ρ ∧ σ 7 = .int .i64 ((m : Int) - 1)) ∧ G = H0) (fun H0 σ G => (source c.rob i r = -1) ∧ (True) ∧ G = H0) ((fun (m : Nat) => m) (upTo i c.rob.length)) ?init1 (fun n ρ G hI => ?round1) (fun ρ G hJ => ?after1)
  case init1 => exact ⟨(upTo i c.rob.length), rfl, (upTo_le _ _), (by rw [source, if_neg (by omega)]), ⟨liveE_refl _ _, (by rw [hL.2.2]; congr 1; unfold upTo; omega)⟩, rfl⟩
  case round1 =>
   clear hL
   obtain ⟨m, hn, i1_0, i1_1, hL, hG⟩ := hI
   subst hG
   try simp only [go_sem, simprocAttr, e1, hX] at hL
   revert ρ hL
   refine zS [2, 3, 7, 22] ?_
   refine zC ?_ ?_
   ·intro c2 ρ hL
    refine awl_skip (awl_seq (awl_block fun R1 hw1 hR1 => ?_))
    obtain ⟨q, rfl⟩ : ∃ q : Nat, m = q + 1 := ⟨m - 1, by omega⟩
    have hq : (((q + 1 : Nat) : Int)) - 1 = (q : Int) := by omega
    rw [hq] at hL
    have hq2 : q < c.rob.length := by omega
    revert ρ hL
    refine zSX [2, 3, 7, 8] (And.intro hq2 hX) ?_
    refine zSX [2, 3, 7, 8, 38] (And.intro hq2 hX) ?_
    intro ρ hL
    have j2 := hL
    refine awl_joinH (fun H0 σ G => (liveE [2, 3, 7] σ ρ ∧ σ 8 = .int .i64 (setBy (c.rob.getD q noEnt))) ∧ G = H0) ?inner2 (fun ρ G hJ => ?after2)
    case inner2 =>
     refine zN [2, 3, 7, 8, 38] ?_
     clear hL
     refine zC ?_ ?_
     ·intro c3
      refine zSFX [2, 3, 7, 8] (sat_spec_Sets (c.rob.getD q noEnt).x) (And.intro hq2 hX) ?_
      intro ρ hL
      refine awl_nil ?_
      show wkQ _ _ _ _
      refine .mk ⟨⟨(by simp only [go_sem, simprocAttr, hL, hX, j2]), (by rw [hL.2.2.2]; simp_all [setBy])⟩, rfl⟩
     ·intro c3 ρ hL
      refine awl_skip (awl_nil ?_)
      show wkQ _ _ _ _
      refine .mk ⟨⟨(by simp only [go_sem, simprocAttr, hL, hX, j2]), (by rw [hL.2.2.2.1]; simp_all [setBy])⟩, rfl⟩
    case after2 =>
     clear hL
     obtain ⟨hL, hG⟩ := hJ
     subst hG
     try simp only [go_sem, simprocAttr, j2, hX] at hL
     revert ρ hL
     refine zS [2, 3, 7, 48] ?_
     refine zC ?_ ?_
     ·intro c4
      refine zS [6] ?_
      refine zR ?_
      try simp only [go_sem, simprocAttr]
      all_goals ((try clear hR1); rw [← i1_1, lastAt_hit (by simpa using c4)])
     ·intro c4 ρ hL
      refine awl_skip (awl_nil (blk_normal (hR1 _ _ (.mk ?_))))
      have wq : IntKind.i64.wrap ((q : Int) - 1) = (q : Int) - 1 := wrap64 (by omega)
      revert ρ hL
      refine zSX [2, 3, 7] (And.intro wq hX) ?_
      intro ρ hL
      refine awl_nil ?_
      refine loop_again _ ?meas ⟨q, rfl, (by omega), (by rw [← i1_1, lastAt_miss (by simpa using c4)]), ⟨(by simp only [go_sem, simprocAttr, hL, hX, e1]), (hL.2.2)⟩, rfl⟩
      case meas => subst hn; omega
   ·intro c2 ρ hL
    refine awl_exit (loop_break ?_)
    exact ⟨(by rw [← i1_1, show m = 0 by omega]; rfl), trivial, rfl⟩
  case after1 =>
   clear hL
   obtain ⟨j1_0, hL, hG⟩ := hJ
   subst hG
   refine zA ?_
   intro K hK
   refine zE [6] ?_
   clear hK K hL
   refine zR ?_
   try simp only [go_sem, simprocAttr]
   all_goals ((try clear hR1); rw [j1_0])
theorem sat_impl_Source (c : Cor) (i : Int) (r : Int) (hf : c.fit) : Sat Tryz.prog 277 [.agg c.cells, .int .i64 i, .int .i64 r] [] (.int .i64 (source c.rob i r)) [] := by
 have hX := trivial
 refine sat_mk [.tmp 6] 0 32 Tryz.call277 Tryz.func277 Tryz.ntmps277 rfl rfl rfl rfl rfl ?_
 refine zI [0, 1, 2] ?_
 have hf1 := hf.2.1
 refine zS [1, 2, 3] ?_
 refine zS [2, 3, 7] ?_
 intro ρ hL
 have e1 := hL
 refine awl_loopH (fun H0 n σ G => ∃ (k : Int), n = k.toNat ∧ (k ≤ c.rob.length) ∧ (0 ≤ r → lastAt (fun x => decide (setBy x = r)) noEnt c.rob k.toNat = source c.rob i r) ∧ (liveE [2, 3] σ ρ ∧ σ 7 = .int .i64 k) ∧ G = H0) (fun H0 σ G => (source c.rob i r = -1) ∧ (True) ∧ G = H0) ((fun (k : Int) => k.toNat) (min (c.rob.length : Int) i)) ?init1 (fun n ρ G hI => ?round1) (fun ρ G hJ => ?after1)
 case init1 => exact ⟨(min (c.rob.length : Int) i), rfl, (by omega), (fun hr => by rw [source, if_neg (by omega), upTo]; congr 1; omega), ⟨liveE_refl _ _, (hL.2.2)⟩, rfl⟩
 case round1 =>
  clear hL
  obtain ⟨k, hn, i1_0, i1_1, hL, hG⟩ := hI
  subst hG
  try simp only [go_sem, simprocAttr, e1, hX] at hL
  refine zA ?_
  intro K hK
  refine zL [2, 3, 7, 15] ?_
  clear hL
  intro ρ hL
  refine grp_andN (v := ?v1) 2 rfl [2, 3, 7] hL.2.2.2 rfl (fun hb K1 hK1 => ?run) (fun hb => skA (want := true) (b := _) (by rw [hb]; rfl) hL.2.2.2 rfl) (fun ρ hP hM => ?_)
  case run => exact zR1
  refine zPp ?_
  clear hL hP hM
  intro hL
  refine zE [2, 3, 7, 18] ?_
  clear hK K hL
  refine zC ?_ ?_
  ·intro c1 ρ hL
   refine awl_skip (awl_seq (awl_block fun R1 hw1 hR1 => ?_))
   obtain ⟨q, rfl⟩ : ∃ q : Nat, k = (q : Int) + 1 := ⟨(k - 1).toNat, by omega⟩
   have hq2 : q < c.rob.length := by omega
   have wq : IntKind.i64.wrap ((q : Int) + 1 - 1) = (q : Int) := by rw [wrap64 (by omega)]; omega
   rw [show ((q : Int) + 1).toNat = q + 1 by omega] at i1_1
   revert ρ hL
   refine zSFX [2, 3, 7, 29] (sat_impl_setBy (c.rob.getD q noEnt)) (And.intro hq2 (And.intro wq hX)) ?_
   refine zC ?_ ?_
   ·intro c2
    refine zSX [6] (And.intro wq hX) ?_
    refine zR ?_
    try simp only [go_sem, simprocAttr]
    all_goals ((try clear hR1); rw [← i1_1 (by omega), lastAt_hit (by simpa using c2)])
   ·intro c2 ρ hL
    refine awl_skip (awl_nil (blk_normal (hR1 _ _ (.mk ?_))))
    revert ρ hL
    refine zSX [2, 3, 7] (And.intro wq hX) ?_
    intro ρ hL
    refine awl_nil ?_
    refine loop_again _ ?meas ⟨(q : Int), rfl, (by omega), (by exact fun hr => by rw [← i1_1 hr, lastAt_miss (by simpa using c2), Int.toNat_natCast]), ⟨(by simp only [go_sem, simprocAttr, hL, hX, e1]), (hL.2.2)⟩, rfl⟩
    case meas => subst hn; omega
  ·intro c1 ρ hL
   refine awl_exit (loop_break ?_)
   exact ⟨(by exact (Classical.em (0 ≤ r)).elim (fun hr => by rw [← i1_1 hr, show k.toNat = 0 by omega]; rfl) (fun hr => source_neg (by omega))), trivial, rfl⟩
 case after1 =>
  clear hL
  obtain ⟨j1_0, hL, hG⟩ := hJ
  subst hG
  refine zA ?_
  intro K hK
  refine zE [6] ?_
  clear hK K hL
  refine zR ?_
  try simp only [go_sem, simprocAttr]
  all_goals ((try clear hR1); rw [j1_0])
theorem sat_spec_l12Value (c : Cor) (i : Int) (r : Int) (hf : c.fit) (hr : 0 ≤ r ∧ r < c.s.regs.length) : Sat Tryz.prog 215 [.agg c.cells, .int .i64 i, .int .i64 r] [] (.tuple [.agg (Word.cells (valueRaw c i r).1), .bool (valueRaw c i r).2]) [] := by
 have hX := trivial
 refine sat_mk [.cell 6 27, .tmp 7] 0 36 Tryz.call215 Tryz.func215 Tryz.ntmps215 rfl rfl rfl rfl rfl ?_
 refine zI [0, 1, 2] ?_
 have hr2 : r.toNat < c.s.regs.length := by omega
 refine zS [1, 2, 3, 6] ?_
 refine zSF [2, 3, 6, 8] (sat_spec_Source _ _ _ ?hp0) ?_
 case hp0 => first | assumption | omega | (simp; done)
 refine zS [2, 3, 6, 8, 14] ?_
 refine zC ?_ ?_
 ·intro c1
  refine zSX [6, 7] (And.intro hr2 hX) ?_
  refine zR ?_
  try simp only [go_sem, simprocAttr]
  all_goals (rw [raw_reg c1] <;> rfl)
 ·intro c1 ρ hL
  refine awl_skip ?_
  obtain ⟨m, hm, hm2⟩ := source_nat c1
  rw [hm] at hL
  revert ρ hL
  refine zSX [3, 6, 8, 27] (And.intro hm2 hX) ?_
  refine zC ?_ ?_
  ·intro c2
   refine zS [6, 7] ?_
   refine zR ?_
   try simp only [go_sem, simprocAttr]
   all_goals (rw [raw_wait hm (by simpa using c2)] <;> rfl)
  ·intro c2 ρ hL
   refine awl_skip ?_
   revert ρ hL
   refine zSX [6, 7] (And.intro hm2 hX) ?_
   refine zR ?_
   try simp only [go_sem, simprocAttr]
   all_goals (rw [raw_done hm (by simpa using c2)] <;> rfl)
theorem sat_impl_Value (c : Cor) (i : Int) (r : Int) (hf : c.fit) : Sat Tryz.prog 245 [.agg c.cells, .int .i64 i, .int .i64 r] [] (.tuple [.agg (Word.cells (value c i r).1), .bool (value c i r).2]) [] := by
 have hX := trivial
 refine sat_mk [.cell 6 27, .tmp 7] 0 47 Tryz.call245 Tryz.func245 Tryz.ntmps245 rfl rfl rfl rfl rfl ?_
 refine zI [0, 1, 2] ?_
 refine zS [1, 2, 3, 6] ?_
 intro ρ hL
 refine zA ?_
 intro K hK
 refine zF (sat_impl_in _ _ _) ?_
 refine zL [1, 2, 3, 6, 12] ?_
 clear hL
 intro ρ hL
 refine grp_orN (v := ?v1) 3 rfl [1, 2, 3, 6] hL.2.2.2.2 rfl (fun hb K1 hK1 => ?run) (fun hb => skA (want := false) (b := _) (by rw [hb]; rfl) hL.2.2.2.2 rfl) (fun ρ hP hM => ?_)
 case run =>
  refine zRn ?_
  intro hL
  refine zF (sat_impl_CoreOk _ ?hp0) ?_
  case hp0 => first | assumption | omega | (simp; done)
  exact zK1
 refine zPp ?_
 clear hL hP hM
 intro hL
 refine zE [1, 2, 3, 6, 16] ?_
 clear hK K hL
 refine zC ?_ ?_
 ·intro c1
  refine zS [6, 7] ?_
  refine zR ?_
  try simp only [go_sem, simprocAttr]
  all_goals (rw [value_no (by rintro ⟨a, b⟩; simp [a, b] at c1)] <;> rfl)
 ·intro c1 ρ hL
  refine awl_skip ?_
  have hv : inR r 0 7 = true ∧ corOk c = true := by simpa using c1
  have hr0 := corOk_reg hv.2 hv.1
  have hr2 : r.toNat < c.s.regs.length := by omega
  revert ρ hL
  refine zSF [2, 3, 6, 8] (sat_impl_Source c i r hf) ?_
  intro ρ hL
  refine awl_seq (awl_block fun R1 hw1 hR1 => ?_)
  revert ρ hL
  refine zS [2, 3, 6, 8, 22] ?_
  refine zC ?_ ?_
  ·intro c2
   refine zSX [6, 7] (And.intro hr2 hX) ?_
   refine zR ?_
   try simp only [go_sem, simprocAttr]
   all_goals ((try clear hR1); rw [value_ok hv.2 hv.1, raw_reg c2] <;> rfl)
  ·intro c2
   obtain ⟨m, hm, hm2⟩ := source_nat c2
   intro ρ hL
   rw [hm] at hL
   revert ρ hL
   refine zSX [3, 6, 8, 31] (And.intro hm2 hX) ?_
   refine zC ?_ ?_
   ·intro c3
    refine zS [6, 7] ?_
    refine zR ?_
    try simp only [go_sem, simprocAttr]
    all_goals ((try clear hR1); rw [value_ok hv.2 hv.1, raw_wait hm (by simpa using c3)] <;> rfl)
   ·intro c3 ρ hL
    refine awl_skip (awl_nil (blk_normal (hR1 _ _ (.mk ?_))))
    revert ρ hL
    refine zSX [6, 7] (And.intro hm2 hX) ?_
    refine zR ?_
    try simp only [go_sem, simprocAttr]
    all_goals ((try clear hR1); rw [value_ok hv.2 hv.1, raw_done hm (by simpa using c3)] <;> rfl)
end Go.Proofs.YtgpjgljgplngpaaGreatDoor.AM
