/- Finding in rows; is a state in order. Commands and their parts. Finding in rows of entries. Entries in order; cores in order. Cores in order; where an entry's words come from. Where an entry's words come from. No conditions but those each theorem bears. -/
import Derived.Test.YtgpjgljgplngpaaGreatDoorFa
import Derived.Test.YtgpjgljgplngpaaGreatDoorM4
import Derived.Test.YtgpjgljgplngpaaGreatDoorCb2
import Derived.Test.YtgpjgljgplngpaaGreatDoorCb1
import Derived.Test.YtgpjgljgplngpaaGreatDoorM5
set_option linter.unusedSimpArgs false
set_option linter.unusedVariables false
namespace Go.Proofs.YtgpjgljgplngpaaGreatDoor.AM
open Go
set_option maxHeartbeats 8000000
set_option maxRecDepth 100000

theorem sat_slices_IndexFunc_impl_Word_impl_Word (xs : List Word) (g : FuncId) (cap : List AV) (p : Word → Bool) (hb : xs.length ≤ 1099511627776) (hc : ∀ (Hb : Heap) (inv : Nat → Option Nat) (n : Nat), cap.map (bor Hb inv (n + 3)) = cap) (hg : ∀ x : Word, Sat Tryz.prog g (.agg (Word.cells x) :: cap) [] (.bool (p x)) []) : Sat Tryz.prog 234 [.sl xs.length xs.length (rows xs), .func g [] cap] [] (.int .i64 (firstAt p xs 0)) [] := by
 have hX := hc
 refine sat_mk [.tmp 4] 0 19 Tryz.call234 Tryz.func234 Tryz.ntmps234 rfl rfl rfl rfl rfl ?_
 refine zI [0, 1] ?_
 refine zS [0, 1] ?_
 refine zS [0, 1, 7, 8] ?_
 intro ρ hL
 have e1 := hL
 refine awl_loopH (fun H0 n σ G => ∃ (i : Nat), n = xs.length - i ∧ (i ≤ xs.length) ∧ (firstAt p (xs.drop i) i = firstAt p xs 0) ∧ (liveE [0, 1, 7] σ ρ ∧ σ 8 = .int .i64 (i : Int)) ∧ G = H0) (fun H0 σ G => (firstAt p xs 0 = -1) ∧ (True) ∧ G = H0) ((fun (i : Nat) => xs.length - i) 0) ?init1 (fun n ρ G hI => ?round1) (fun ρ G hJ => ?after1)
 case init1 => exact ⟨0, rfl, (Nat.zero_le _), (by simp), ⟨liveE_refl _ _, (hL.2.2.2)⟩, rfl⟩
 case round1 =>
  clear hL
  obtain ⟨i, hn, i1_0, i1_1, hL, hG⟩ := hI
  subst hG
  try simp only [go_sem, simprocAttr, e1, hX] at hL
  revert ρ hL
  refine zS [0, 1, 7, 8, 9] ?_
  refine zC ?_ ?_
  · intro c1
    have hi1 : i < xs.length := by omega
    replace hX := And.intro hi1 hX
    intro ρ hL
    refine awl_skip ?_
    refine awl_seq ?_
    refine awl_block fun R1 hw1 hR1 => ?_
    revert ρ hL
    refine zS [0, 1, 5, 7, 8] ?_
    intro ρ hL
    refine zA ?_
    intro K hK
    refine opS_call_ro (by simp only [go_sem, simprocAttr, hL, hX]; exact rfl) (hg (xs.getD i noWord)) ?ha ?hv ?hh ?_
    case ha => simp only [go_sem, simprocAttr, hL, hX]; first | done | rfl
    case hv => first | rfl | (simp only [go_sem]; done)
    case hh => first | rfl | (simp only [go_sem]; done)
    try simp only [go_sem, simprocAttr, hL, hX]
    repeat' refine And.intro (by first | rfl | omega | (simp; done)) ?_
    refine zE [0, 1, 5, 7, 8, 16] ?_
    clear hK K hL
    refine zC ?_ ?_
    · intro c2
      refine zS [4] ?_
      refine zR ?_
      try simp only [go_sem, simprocAttr]
      all_goals try clear hR1
      all_goals (have := firstAt_drop (p := p) (d := noWord) xs i 0 hi1; rw [← i1_1]; simp only [Nat.zero_add] at this; rw [this, if_pos (by simpa using c2)])
    · intro c2
      intro ρ hL
      refine awl_skip ?_
      refine awl_nil ?_
      refine blk_normal (hR1 _ _ (.mk ?_))
      have w1 : IntKind.i64.wrap ((i : Int) + 1) = ((i + 1 : Nat) : Int) := by rw [wrap64 (by omega)]; omega
      replace hX := And.intro w1 hX
      revert ρ hL
      refine zS [0, 1, 7, 8] ?_
      intro ρ hL
      refine awl_nil ?_
      refine loop_again _ ?meas ⟨i + 1, rfl, (by omega), (by have := firstAt_drop (p := p) (d := noWord) xs i 0 hi1; rw [← i1_1]; simp only [Nat.zero_add] at this; rw [this, if_neg (by simpa using c2)]), ⟨(by simp only [go_sem, simprocAttr, hL, hX, e1]), (hL.2.2.2)⟩, rfl⟩
      case meas => subst hn; omega
  · intro c1
    intro ρ hL
    refine awl_exit ?_
    refine loop_break ?_
    exact ⟨(by rw [← i1_1, List.drop_of_length_le (by omega)]; rfl), trivial, rfl⟩
 case after1 =>
  clear hL
  obtain ⟨j1_0, hL, hG⟩ := hJ
  subst hG
  refine zA ?_
  intro K hK
  refine zE [4] ?_
  clear hK K hL
  refine zR ?_
  try simp only [go_sem, simprocAttr]
  all_goals try clear hR1
  all_goals (rw [j1_0])
theorem sat_slices_ContainsFunc_impl_Word_impl_Word (xs : List Word) (g : FuncId) (cap : List AV) (p : Word → Bool) (hb : xs.length ≤ 1099511627776) (hc : ∀ (Hb : Heap) (inv : Nat → Option Nat) (n : Nat), cap.map (bor Hb inv (n + 3)) = cap) (hg : ∀ x : Word, Sat Tryz.prog g (.agg (Word.cells x) :: cap) [] (.bool (p x)) []) : Sat Tryz.prog 187 [.sl xs.length xs.length (rows xs), .func g [] cap] [] (.bool (xs.any p)) [] := by
 have hX := hc
 refine sat_mk [.tmp 4] 0 9 Tryz.call187 Tryz.func187 Tryz.ntmps187 rfl rfl rfl rfl rfl ?_
 refine zI [0, 1] ?_
 refine zS [0, 1] ?_
 refine zSF [4] (sat_slices_IndexFunc_impl_Word_impl_Word xs g cap p ?hp0 ?hp1 ?hp2) ?_
 case hp0 => first | assumption | omega | (simp; done)
 case hp1 => first | assumption | omega | (simp; done)
 case hp2 => first | assumption | omega | (simp; done)
 refine zR ?_
 try simp only [go_sem, simprocAttr]
 all_goals (have := firstAt_neg (p := p) xs 0; cases h : xs.any p <;> simp_all)
theorem sat_impl_wordsOk_1 (w : Word)  : Sat Tryz.prog 188 [.agg w.cells] [] (.bool (!wordOk w)) [] := by
 have hX := trivial
 refine sat_mk [.tmp 2] 0 6 Tryz.call188 Tryz.func188 Tryz.ntmps188 rfl rfl rfl rfl rfl ?_
 refine zI [0] ?_
 refine zS [1] ?_
 refine zSF [2] (sat_impl_WordOk _) ?_
 refine zR ?_
 try simp only [go_sem, simprocAttr]
 all_goals (first | done | rfl | (simp; done) | (simp [inR]; done) | (simp_all [inR]; done) | (simp [inR]; grind))
theorem sat_impl_MemoryOk_1 (w : Word)  : Sat Tryz.prog 189 [.agg w.cells] [] (.bool (!wordOk w)) [] := by
 have hX := trivial
 refine sat_mk [.tmp 2] 0 6 Tryz.call189 Tryz.func189 Tryz.ntmps189 rfl rfl rfl rfl rfl ?_
 refine zI [0] ?_
 refine zS [1] ?_
 refine zSF [2] (sat_impl_WordOk _) ?_
 refine zR ?_
 try simp only [go_sem, simprocAttr]
 all_goals (first | done | rfl | (simp; done) | (simp [inR]; done) | (simp_all [inR]; done) | (simp [inR]; grind))
theorem sat_impl_wordsOk (xs : List Word) (hb : xs.length ≤ 1099511627776) : Sat Tryz.prog 137 [.sl xs.length xs.length (rows xs)] [] (.bool (xs.all wordOk)) [] := by
 have hX := trivial
 refine sat_mk [.tmp 2] 0 6 Tryz.call137 Tryz.func137 Tryz.ntmps137 rfl rfl rfl rfl rfl ?_
 refine zI [0] ?_
 refine zS [0] ?_
 refine zSF [2] (sat_slices_ContainsFunc_impl_Word_impl_Word xs _ [] (fun x => !wordOk x) hb (fun _ _ _ => rfl) (fun x => sat_impl_wordsOk_1 x)) ?_
 refine zR ?_
 try simp only [go_sem, simprocAttr]
 all_goals (rw [List.all_eq_not_any_not])
theorem sat_impl_MemoryOk (m : Mem) (hf : m.fit) : Sat Tryz.prog 138 [.agg m.cells] [] (.bool (memOk m)) [] := by
 have hX := trivial
 refine sat_mk [.tmp 2] 0 19 Tryz.call138 Tryz.func138 Tryz.ntmps138 rfl rfl rfl rfl rfl ?_
 refine zI [0] ?_
 refine zS [1] ?_
 intro ρ hL
 refine zA ?_
 intro K hK
 refine zL [1, 7] ?_
 clear hL
 intro ρ hL
 refine grp_andN (tc := 7) (tv := 11) (td := 12) (v := ?v1) 4 rfl [1] hL.2 rfl (fun hb K1 hK1 => ?run) (fun hb => ?skip) (fun ρ hP hM => ?_)
 case skip => exact skA (want := true) (b := _) (by rw [hb]; rfl) hL.2 rfl
 case run =>
  simp only [List.take_succ_cons, List.take_zero]
  rw [hb] at hL
  try simp only [go_sem, simprocAttr, hL, hX]
  repeat' refine And.intro (by first | rfl | omega | (simp; done)) ?_
  refine hK1 _ ?_ ?_ ?_ <;> simp only [go_sem, simprocAttr, hL, hX] <;> exact rfl
 simp only [List.drop_succ_cons, List.drop_zero]
 try simp only [go_sem, simprocAttr, hL, hX] at hM
 replace hL := And.intro hP hM
 clear hP hM
 try simp only [go_sem, simprocAttr, hL, hX]
 repeat' refine And.intro (by first | rfl | omega | (simp; done)) ?_
 refine zL [1, 13] ?_
 clear hL
 intro ρ hL
 refine grp_andN (tc := 13) (tv := 17) (td := 18) (v := ?v2) 4 rfl [] hL.2 rfl (fun hb K1 hK1 => ?run) (fun hb => ?skip) (fun ρ hP hM => ?_)
 case skip => exact skA (want := true) (b := _) (by rw [hb]; rfl) hL.2 rfl
 case run =>
  simp only [List.take_succ_cons, List.take_zero]
  rw [hb] at hL
  try simp only [go_sem, simprocAttr, hL, hX]
  repeat' refine And.intro (by first | rfl | omega | (simp; done)) ?_
  refine zF (sat_slices_ContainsFunc_impl_Word_impl_Word m.words _ [] (fun x => !wordOk x) (Nat.le_trans hf.1 (by decide)) (fun _ _ _ => rfl) (fun x => sat_impl_MemoryOk_1 x)) ?_
  refine hK1 _ ?_ ?_ ?_ <;> simp only [go_sem, simprocAttr, hL, hX] <;> exact rfl
 simp only [List.drop_succ_cons, List.drop_zero]
 clear hM hL
 have hL := hP
 clear hP
 try simp only [go_sem, simprocAttr, hL, hX]
 repeat' refine And.intro (by first | rfl | omega | (simp; done)) ?_
 refine zE [2] ?_
 clear hK K hL
 refine zR ?_
 try simp only [go_sem, simprocAttr]
 all_goals (simp only [memOk, List.all_eq_not_any_not]; congr 3 <;> (rw [decide_eq_decide]; omega))
theorem sat_spec_MemoryOk (m : Mem)  : Sat Tryz.prog 116 [.agg m.cells] [] (.bool (memOk m)) [] := by
 have hX := trivial
 refine sat_mk [.tmp 2] 0 25 Tryz.call116 Tryz.func116 Tryz.ntmps116 rfl rfl rfl rfl rfl ?_
 refine zI [0] ?_
 refine zS [1] ?_
 intro ρ hL
 refine zA ?_
 intro K hK
 refine zL [1, 8] ?_
 clear hL
 intro ρ hL
 refine grp_orN (tc := 8) (tv := 12) (td := 13) (v := ?v1) 4 rfl [1] hL.2 rfl (fun hb K1 hK1 => ?run) (fun hb => ?skip) (fun ρ hP hM => ?_)
 case skip => exact skA (want := false) (b := _) (by rw [hb]; rfl) hL.2 rfl
 case run =>
  simp only [List.take_succ_cons, List.take_zero]
  rw [hb] at hL
  try simp only [go_sem, simprocAttr, hL, hX]
  repeat' refine And.intro (by first | rfl | omega | (simp; done)) ?_
  refine hK1 _ ?_ ?_ ?_ <;> simp only [go_sem, simprocAttr, hL, hX] <;> exact rfl
 simp only [List.drop_succ_cons, List.drop_zero]
 try simp only [go_sem, simprocAttr, hL, hX] at hM
 replace hL := And.intro hP hM
 clear hP hM
 try simp only [go_sem, simprocAttr, hL, hX]
 repeat' refine And.intro (by first | rfl | omega | (simp; done)) ?_
 refine zE [1, 13] ?_
 clear hK K hL
 refine zC ?_ ?_
 · intro c1
   refine zS [2] ?_
   refine zR ?_
   try simp only [go_sem, simprocAttr]
   all_goals (rw [eq_comm, AV.bool.injEq]; simp only [memOk, Bool.and_eq_false_iff, decide_eq_false_iff_not]; omega)
 · intro c1
   intro ρ hL
   refine awl_skip ?_
   revert ρ hL
   refine zS [1, 3] ?_
   intro ρ hL
   have e1 := hL
   refine awl_loopH (fun H0 n σ G => ∃ (i : Nat), n = 24 - i ∧ (i ≤ 24) ∧ ((m.words.take i).all wordOk = true) ∧ (liveE [1] σ ρ ∧ σ 3 = .int .i64 (i : Int)) ∧ G = H0) (fun H0 σ G => (m.words.all wordOk = true) ∧ (True) ∧ G = H0) ((fun (i : Nat) => 24 - i) 0) ?init1 (fun n ρ G hI => ?round1) (fun ρ G hJ => ?after1)
   case init1 => exact ⟨0, rfl, (Nat.zero_le _), (by simp), ⟨liveE_refl _ _, (hL.2)⟩, rfl⟩
   case round1 =>
    clear hL
    obtain ⟨i, hn, i1_0, i1_1, hL, hG⟩ := hI
    subst hG
    try simp only [go_sem, simprocAttr, e1, hX] at hL
    revert ρ hL
    refine zS [1, 3, 15] ?_
    refine zC ?_ ?_
    · intro c2
      have hi1 : i < 24 := by omega
      replace hX := And.intro hi1 hX
      intro ρ hL
      refine awl_skip ?_
      refine awl_seq ?_
      refine awl_block fun R1 hw1 hR1 => ?_
      have hw : i < m.words.length := by omega
      have hX0 := hX
      replace hX := And.intro hw hX
      revert ρ hL
      refine zSF [1, 3, 24] (sat_spec_WordOk _) ?_
      clear hX
      have hX := hX0
      clear hX0
      refine zC ?_ ?_
      · intro c3
        refine zS [2] ?_
        refine zR ?_
        try simp only [go_sem, simprocAttr]
        all_goals try clear hR1
        all_goals (rw [memOk, all_false_of (d := noWord) hw (by simpa using c3), Bool.and_false])
      · intro c3
        intro ρ hL
        refine awl_skip ?_
        refine awl_nil ?_
        refine blk_normal (hR1 _ _ (.mk ?_))
        have w1 : IntKind.i64.wrap ((i : Int) + 1) = ((i + 1 : Nat) : Int) := by rw [wrap64 (by omega)]; omega
        replace hX := And.intro w1 hX
        revert ρ hL
        refine zS [1, 3] ?_
        intro ρ hL
        refine awl_nil ?_
        refine loop_again _ ?meas ⟨i + 1, rfl, (by omega), (by exact all_take_succ (d := noWord) hw i1_1 (by simpa using c3)), ⟨(by simp only [go_sem, simprocAttr, hL, hX, e1]), (hL.2)⟩, rfl⟩
        case meas => subst hn; omega
    · intro c2
      intro ρ hL
      refine awl_exit ?_
      refine loop_break ?_
      exact ⟨(by exact all_of_take (by omega) i1_1), trivial, rfl⟩
   case after1 =>
    clear hL
    obtain ⟨j1_0, hL, hG⟩ := hJ
    subst hG
    refine zA ?_
    intro K hK
    refine zE [2] ?_
    clear hK K hL
    refine zR ?_
    try simp only [go_sem, simprocAttr]
    all_goals try clear hR1
    all_goals (rw [memOk, j1_0, Bool.and_true]; simp; omega)
theorem sat_spec_StateOk (s : Stt) (hf : s.fit) : Sat Tryz.prog 56 [.agg s.cells] [] (.bool (sttOk s)) [] := by
 have hX := trivial
 refine sat_mk [.tmp 2] 0 37 Tryz.call56 Tryz.func56 Tryz.ntmps56 rfl rfl rfl rfl rfl ?_
 refine zI [0] ?_
 have hf1 := hf.1
 refine zS [1] ?_
 refine zS [1, 3] ?_
 intro ρ hL
 have e1 := hL
 refine awl_loopH (fun H0 n σ G => ∃ (i : Nat), n = s.regs.length - i ∧ (i ≤ s.regs.length) ∧ ((s.regs.take i).all wordOk = true) ∧ (liveE [1] σ ρ ∧ σ 3 = .int .i64 (i : Int)) ∧ G = H0) (fun H0 σ G => (s.regs.all wordOk = true) ∧ (liveE [1] σ ρ) ∧ G = H0) ((fun (i : Nat) => s.regs.length - i) 0) ?init1 (fun n ρ G hI => ?round1) (fun ρ G hJ => ?after1)
 case init1 => exact ⟨0, rfl, (Nat.zero_le _), (by simp), ⟨liveE_refl _ _, (hL.2)⟩, rfl⟩
 case round1 =>
  clear hL
  obtain ⟨i, hn, i1_0, i1_1, hL, hG⟩ := hI
  subst hG
  try simp only [go_sem, simprocAttr, e1, hX] at hL
  revert ρ hL
  refine zS [1, 3, 8] ?_
  refine zC ?_ ?_
  · intro c1
    have hi1 : i < s.regs.length := by omega
    replace hX := And.intro hi1 hX
    intro ρ hL
    refine awl_skip ?_
    refine awl_seq ?_
    refine awl_block fun R1 hw1 hR1 => ?_
    revert ρ hL
    refine zSF [1, 3, 17] (sat_spec_WordOk _) ?_
    refine zC ?_ ?_
    · intro c2
      refine zS [2] ?_
      refine zR ?_
      try simp only [go_sem, simprocAttr]
      all_goals try clear hR1
      all_goals (rw [sttOk, all_false_of (d := noWord) hi1 (by simpa using c2)]; simp only [Bool.false_and])
    · intro c2
      intro ρ hL
      refine awl_skip ?_
      refine awl_nil ?_
      refine blk_normal (hR1 _ _ (.mk ?_))
      have w1 : IntKind.i64.wrap ((i : Int) + 1) = ((i + 1 : Nat) : Int) := by rw [wrap64 (by omega)]; omega
      replace hX := And.intro w1 hX
      revert ρ hL
      refine zS [1, 3] ?_
      intro ρ hL
      refine awl_nil ?_
      refine loop_again _ ?meas ⟨i + 1, rfl, (by omega), (by exact all_take_succ (d := noWord) hi1 i1_1 (by simpa using c2)), ⟨(by simp only [go_sem, simprocAttr, hL, hX, e1]), (hL.2)⟩, rfl⟩
      case meas => subst hn; omega
  · intro c1
    intro ρ hL
    refine awl_exit ?_
    refine loop_break ?_
    exact ⟨(by exact all_of_take (by omega) i1_1), (by simp only [go_sem, simprocAttr, hL, hX, e1]), rfl⟩
 case after1 =>
  clear hL
  obtain ⟨j1_0, hL, hG⟩ := hJ
  subst hG
  try simp only [go_sem, simprocAttr, e1, hX] at hL
  refine zA ?_
  intro K hK
  refine zL [1, 22] ?_
  clear hL
  intro ρ hL
  refine grp_andN (tc := 22) (tv := 25) (td := 26) (v := ?v1) 3 rfl [1] hL.2 rfl (fun hb K1 hK1 => ?run) (fun hb => ?skip) (fun ρ hP hM => ?_)
  case skip => exact skA (want := true) (b := _) (by rw [hb]; rfl) hL.2 rfl
  case run =>
   simp only [List.take_succ_cons, List.take_zero]
   rw [hb] at hL
   try simp only [go_sem, simprocAttr, hL, hX]
   repeat' refine And.intro (by first | rfl | omega | (simp; done)) ?_
   refine zF (sat_spec_WordOk _) ?_
   refine hK1 _ ?_ ?_ ?_ <;> simp only [go_sem, simprocAttr, hL, hX] <;> exact rfl
  simp only [List.drop_succ_cons, List.drop_zero]
  try simp only [go_sem, simprocAttr, hL, hX] at hM
  replace hL := And.intro hP hM
  clear hP hM
  try simp only [go_sem, simprocAttr, hL, hX]
  repeat' refine And.intro (by first | rfl | omega | (simp; done)) ?_
  refine zL [1, 27] ?_
  clear hL
  intro ρ hL
  refine grp_andN (tc := 27) (tv := 30) (td := 31) (v := ?v2) 3 rfl [1] hL.2 rfl (fun hb K1 hK1 => ?run) (fun hb => ?skip) (fun ρ hP hM => ?_)
  case skip => exact skA (want := true) (b := _) (by rw [hb]; rfl) hL.2 rfl
  case run =>
   simp only [List.take_succ_cons, List.take_zero]
   rw [hb] at hL
   try simp only [go_sem, simprocAttr, hL, hX]
   repeat' refine And.intro (by first | rfl | omega | (simp; done)) ?_
   refine zF (sat_spec_MemoryOk _) ?_
   refine hK1 _ ?_ ?_ ?_ <;> simp only [go_sem, simprocAttr, hL, hX] <;> exact rfl
  simp only [List.drop_succ_cons, List.drop_zero]
  try simp only [go_sem, simprocAttr, hL, hX] at hM
  replace hL := And.intro hP hM
  clear hP hM
  try simp only [go_sem, simprocAttr, hL, hX]
  repeat' refine And.intro (by first | rfl | omega | (simp; done)) ?_
  refine zL [1, 32] ?_
  clear hL
  intro ρ hL
  refine grp_andN (tc := 32) (tv := 35) (td := 36) (v := ?v3) 3 rfl [] hL.2 rfl (fun hb K1 hK1 => ?run) (fun hb => ?skip) (fun ρ hP hM => ?_)
  case skip => exact skA (want := true) (b := _) (by rw [hb]; rfl) hL.2 rfl
  case run =>
   simp only [List.take_succ_cons, List.take_zero]
   rw [hb] at hL
   try simp only [go_sem, simprocAttr, hL, hX]
   repeat' refine And.intro (by first | rfl | omega | (simp; done)) ?_
   refine zF (sat_spec_l1In _ _ _) ?_
   refine hK1 _ ?_ ?_ ?_ <;> simp only [go_sem, simprocAttr, hL, hX] <;> exact rfl
  simp only [List.drop_succ_cons, List.drop_zero]
  clear hM hL
  have hL := hP
  clear hP
  try simp only [go_sem, simprocAttr, hL, hX]
  repeat' refine And.intro (by first | rfl | omega | (simp; done)) ?_
  refine zE [2] ?_
  clear hK K hL
  refine zR ?_
  try simp only [go_sem, simprocAttr]
  all_goals try clear hR1
  all_goals (rw [sttOk, j1_0, Bool.true_and]; congr 4; rw [decide_eq_decide]; omega)
theorem sat_impl_StateOk (s : Stt) (hf : s.fit) : Sat Tryz.prog 72 [.agg s.cells] [] (.bool (sttOk s)) [] := by
 have hX := trivial
 refine sat_mk [.tmp 2] 0 27 Tryz.call72 Tryz.func72 Tryz.ntmps72 rfl rfl rfl rfl rfl ?_
 refine zI [0] ?_
 refine zS [1] ?_
 intro ρ hL
 refine zA ?_
 intro K hK
 refine zL [1, 7] ?_
 clear hL
 intro ρ hL
 refine grp_andN (tc := 7) (tv := 10) (td := 11) (v := ?v1) 3 rfl [1] hL.2 rfl (fun hb K1 hK1 => ?run) (fun hb => ?skip) (fun ρ hP hM => ?_)
 case skip => exact skA (want := true) (b := _) (by rw [hb]; rfl) hL.2 rfl
 case run =>
  simp only [List.take_succ_cons, List.take_zero]
  rw [hb] at hL
  try simp only [go_sem, simprocAttr, hL, hX]
  repeat' refine And.intro (by first | rfl | omega | (simp; done)) ?_
  refine zF (sat_impl_wordsOk s.regs (Nat.le_trans hf.1 (by decide))) ?_
  refine hK1 _ ?_ ?_ ?_ <;> simp only [go_sem, simprocAttr, hL, hX] <;> exact rfl
 simp only [List.drop_succ_cons, List.drop_zero]
 try simp only [go_sem, simprocAttr, hL, hX] at hM
 replace hL := And.intro hP hM
 clear hP hM
 try simp only [go_sem, simprocAttr, hL, hX]
 repeat' refine And.intro (by first | rfl | omega | (simp; done)) ?_
 refine zL [1, 12] ?_
 clear hL
 intro ρ hL
 refine grp_andN (tc := 12) (tv := 15) (td := 16) (v := ?v2) 3 rfl [1] hL.2 rfl (fun hb K1 hK1 => ?run) (fun hb => ?skip) (fun ρ hP hM => ?_)
 case skip => exact skA (want := true) (b := _) (by rw [hb]; rfl) hL.2 rfl
 case run =>
  simp only [List.take_succ_cons, List.take_zero]
  rw [hb] at hL
  try simp only [go_sem, simprocAttr, hL, hX]
  repeat' refine And.intro (by first | rfl | omega | (simp; done)) ?_
  refine zF (sat_impl_WordOk _) ?_
  refine hK1 _ ?_ ?_ ?_ <;> simp only [go_sem, simprocAttr, hL, hX] <;> exact rfl
 simp only [List.drop_succ_cons, List.drop_zero]
 try simp only [go_sem, simprocAttr, hL, hX] at hM
 replace hL := And.intro hP hM
 clear hP hM
 try simp only [go_sem, simprocAttr, hL, hX]
 repeat' refine And.intro (by first | rfl | omega | (simp; done)) ?_
 refine zL [1, 17] ?_
 clear hL
 intro ρ hL
 refine grp_andN (tc := 17) (tv := 20) (td := 21) (v := ?v3) 3 rfl [1] hL.2 rfl (fun hb K1 hK1 => ?run) (fun hb => ?skip) (fun ρ hP hM => ?_)
 case skip => exact skA (want := true) (b := _) (by rw [hb]; rfl) hL.2 rfl
 case run =>
  simp only [List.take_succ_cons, List.take_zero]
  rw [hb] at hL
  try simp only [go_sem, simprocAttr, hL, hX]
  repeat' refine And.intro (by first | rfl | omega | (simp; done)) ?_
  refine zF (sat_impl_MemoryOk s.mem hf.2) ?_
  refine hK1 _ ?_ ?_ ?_ <;> simp only [go_sem, simprocAttr, hL, hX] <;> exact rfl
 simp only [List.drop_succ_cons, List.drop_zero]
 try simp only [go_sem, simprocAttr, hL, hX] at hM
 replace hL := And.intro hP hM
 clear hP hM
 try simp only [go_sem, simprocAttr, hL, hX]
 repeat' refine And.intro (by first | rfl | omega | (simp; done)) ?_
 refine zL [1, 22] ?_
 clear hL
 intro ρ hL
 refine grp_andN (tc := 22) (tv := 25) (td := 26) (v := ?v4) 3 rfl [] hL.2 rfl (fun hb K1 hK1 => ?run) (fun hb => ?skip) (fun ρ hP hM => ?_)
 case skip => exact skA (want := true) (b := _) (by rw [hb]; rfl) hL.2 rfl
 case run =>
  simp only [List.take_succ_cons, List.take_zero]
  rw [hb] at hL
  try simp only [go_sem, simprocAttr, hL, hX]
  repeat' refine And.intro (by first | rfl | omega | (simp; done)) ?_
  refine zF (sat_impl_in _ _ _) ?_
  refine hK1 _ ?_ ?_ ?_ <;> simp only [go_sem, simprocAttr, hL, hX] <;> exact rfl
 simp only [List.drop_succ_cons, List.drop_zero]
 clear hM hL
 have hL := hP
 clear hP
 try simp only [go_sem, simprocAttr, hL, hX]
 repeat' refine And.intro (by first | rfl | omega | (simp; done)) ?_
 refine zE [2] ?_
 clear hK K hL
 refine zR ?_
 try simp only [go_sem, simprocAttr]
 all_goals (rw [sttOk, Bool.and_comm (s.regs.all wordOk)]; congr 5; rw [decide_eq_decide]; omega)
theorem sat_impl_formOf (op : Int)  : Sat Tryz.prog 132 [.int .i64 op] [] (.tuple [.str (form op), .bool (inR op 1 15)]) [] := by
 have hX := trivial
 refine sat_mk [.tmp 2, .tmp 3] 0 29 Tryz.call132 Tryz.func132 Tryz.ntmps132 rfl rfl rfl rfl rfl ?_
 refine zI [0] ?_
 refine zS [0] ?_
 refine zS [4] ?_
 intro ρ hL
 refine awl_block fun R1 hw1 hR1 => ?_
 revert ρ hL
 refine zS [4, 5] ?_
 refine zC ?_ ?_
 · intro c1
   refine zS [2, 3] ?_
   refine zR ?_
   try simp only [go_sem, simprocAttr]
   all_goals try clear hR1
   all_goals (first | (simp_all [form, formL, inR]; done) | (rcases c6 with c6 | c6 | c6 | c6 | c6 <;> subst c6 <;> rfl) | (rcases c9 with c9 | c9 | c9 <;> subst c9 <;> rfl) | (rcases c5 with c5 | c5 | c5 | c5 | c5 <;> subst c5 <;> rfl) | (rcases c8 with c8 | c8 | c8 <;> subst c8 <;> rfl) | (refine (Bool.eq_false_or_eq_true (inR op 1 15)).elim (fun h => ?_) (fun h => ?_) <;> first | (exfalso; rcases op_cases h with rfl | rfl | rfl | rfl | rfl | rfl | rfl | rfl | rfl | rfl | rfl | rfl | rfl | rfl | rfl <;> simp_all; done) | (simp_all [form, formL]; done)))
 · intro c1
   refine zS [4, 7] ?_
   intro ρ hL
   have j1 := hL
   refine awl_joinH (fun H0 σ G => (liveE [4] σ ρ ∧ σ 7 = .bool (decide (op = 2 ∨ op = 4 ∨ op = 5 ∨ op = 7 ∨ op = 8))) ∧ G = H0) ?inner1 (fun ρ G hJ => ?after1)
   case inner1 =>
    refine zN [4, 7] ?_
    clear hL
    refine zC ?_ ?_
    · intro c2
      intro ρ hL
      refine awl_skip ?_
      refine awl_nil ?_
      show wkQ _ _ _ _
      refine .mk ⟨⟨(by simp only [go_sem, simprocAttr, hL, hX, j1]), (by rw [hL.2]; first | rfl | (congr 1; rw [Bool.eq_iff_iff]; simp; omega))⟩, rfl⟩
    · intro c2
      refine zS [4, 7] ?_
      refine zC ?_ ?_
      · intro c3
        intro ρ hL
        refine awl_skip ?_
        refine awl_nil ?_
        show wkQ _ _ _ _
        refine .mk ⟨⟨(by simp only [go_sem, simprocAttr, hL, hX, j1]), (by rw [hL.2]; first | rfl | (congr 1; rw [Bool.eq_iff_iff]; simp; omega))⟩, rfl⟩
      · intro c3
        refine zS [4, 7] ?_
        refine zC ?_ ?_
        · intro c4
          intro ρ hL
          refine awl_skip ?_
          refine awl_nil ?_
          show wkQ _ _ _ _
          refine .mk ⟨⟨(by simp only [go_sem, simprocAttr, hL, hX, j1]), (by rw [hL.2]; first | rfl | (congr 1; rw [Bool.eq_iff_iff]; simp; omega))⟩, rfl⟩
        · intro c4
          refine zS [4, 7] ?_
          refine zC ?_ ?_
          · intro c5
            intro ρ hL
            refine awl_skip ?_
            refine awl_nil ?_
            show wkQ _ _ _ _
            refine .mk ⟨⟨(by simp only [go_sem, simprocAttr, hL, hX, j1]), (by rw [hL.2]; first | rfl | (congr 1; rw [Bool.eq_iff_iff]; simp; omega))⟩, rfl⟩
          · intro c5
            refine zS [4, 7] ?_
            intro ρ hL
            refine awl_nil ?_
            show wkQ _ _ _ _
            refine .mk ⟨⟨(by simp only [go_sem, simprocAttr, hL, hX, j1]), (by rw [hL.2]; first | rfl | (congr 1; rw [Bool.eq_iff_iff]; simp; omega))⟩, rfl⟩
   case after1 =>
    clear hL
    obtain ⟨hL, hG⟩ := hJ
    subst hG
    try simp only [go_sem, simprocAttr, j1, hX] at hL
    revert ρ hL
    refine zC ?_ ?_
    · intro c6
      refine zS [2, 3] ?_
      refine zR ?_
      try simp only [go_sem, simprocAttr]
      all_goals try clear hR1
      all_goals (first | (simp_all [form, formL, inR]; done) | (rcases c6 with c6 | c6 | c6 | c6 | c6 <;> subst c6 <;> rfl) | (rcases c9 with c9 | c9 | c9 <;> subst c9 <;> rfl) | (rcases c5 with c5 | c5 | c5 | c5 | c5 <;> subst c5 <;> rfl) | (rcases c8 with c8 | c8 | c8 <;> subst c8 <;> rfl) | (refine (Bool.eq_false_or_eq_true (inR op 1 15)).elim (fun h => ?_) (fun h => ?_) <;> first | (exfalso; rcases op_cases h with rfl | rfl | rfl | rfl | rfl | rfl | rfl | rfl | rfl | rfl | rfl | rfl | rfl | rfl | rfl <;> simp_all; done) | (simp_all [form, formL]; done)))
    · intro c6
      refine zS [4, 13] ?_
      intro ρ hL
      have j2 := hL
      refine awl_joinH (fun H0 σ G => (liveE [4] σ ρ ∧ σ 13 = .bool (decide (op = 3 ∨ op = 9 ∨ op = 12))) ∧ G = H0) ?inner2 (fun ρ G hJ => ?after2)
      case inner2 =>
       refine zN [4, 13] ?_
       clear hL
       refine zC ?_ ?_
       · intro c7
         intro ρ hL
         refine awl_skip ?_
         refine awl_nil ?_
         show wkQ _ _ _ _
         refine .mk ⟨⟨(by simp only [go_sem, simprocAttr, hL, hX, j2]), (by rw [hL.2]; first | rfl | (congr 1; rw [Bool.eq_iff_iff]; simp; omega))⟩, rfl⟩
       · intro c7
         refine zS [4, 13] ?_
         refine zC ?_ ?_
         · intro c8
           intro ρ hL
           refine awl_skip ?_
           refine awl_nil ?_
           show wkQ _ _ _ _
           refine .mk ⟨⟨(by simp only [go_sem, simprocAttr, hL, hX, j2]), (by rw [hL.2]; first | rfl | (congr 1; rw [Bool.eq_iff_iff]; simp; omega))⟩, rfl⟩
         · intro c8
           refine zS [4, 13] ?_
           intro ρ hL
           refine awl_nil ?_
           show wkQ _ _ _ _
           refine .mk ⟨⟨(by simp only [go_sem, simprocAttr, hL, hX, j2]), (by rw [hL.2]; first | rfl | (congr 1; rw [Bool.eq_iff_iff]; simp; omega))⟩, rfl⟩
      case after2 =>
       clear hL
       obtain ⟨hL, hG⟩ := hJ
       subst hG
       try simp only [go_sem, simprocAttr, j2, hX] at hL
       revert ρ hL
       refine zC ?_ ?_
       · intro c9
         refine zS [2, 3] ?_
         refine zR ?_
         try simp only [go_sem, simprocAttr]
         all_goals try clear hR1
         all_goals (first | (simp_all [form, formL, inR]; done) | (rcases c6 with c6 | c6 | c6 | c6 | c6 <;> subst c6 <;> rfl) | (rcases c9 with c9 | c9 | c9 <;> subst c9 <;> rfl) | (rcases c5 with c5 | c5 | c5 | c5 | c5 <;> subst c5 <;> rfl) | (rcases c8 with c8 | c8 | c8 <;> subst c8 <;> rfl) | (refine (Bool.eq_false_or_eq_true (inR op 1 15)).elim (fun h => ?_) (fun h => ?_) <;> first | (exfalso; rcases op_cases h with rfl | rfl | rfl | rfl | rfl | rfl | rfl | rfl | rfl | rfl | rfl | rfl | rfl | rfl | rfl <;> simp_all; done) | (simp_all [form, formL]; done)))
       · intro c9
         refine zS [4, 17] ?_
         refine zC ?_ ?_
         · intro c10
           refine zS [2, 3] ?_
           refine zR ?_
           try simp only [go_sem, simprocAttr]
           all_goals try clear hR1
           all_goals (first | (simp_all [form, formL, inR]; done) | (rcases c6 with c6 | c6 | c6 | c6 | c6 <;> subst c6 <;> rfl) | (rcases c9 with c9 | c9 | c9 <;> subst c9 <;> rfl) | (rcases c5 with c5 | c5 | c5 | c5 | c5 <;> subst c5 <;> rfl) | (rcases c8 with c8 | c8 | c8 <;> subst c8 <;> rfl) | (refine (Bool.eq_false_or_eq_true (inR op 1 15)).elim (fun h => ?_) (fun h => ?_) <;> first | (exfalso; rcases op_cases h with rfl | rfl | rfl | rfl | rfl | rfl | rfl | rfl | rfl | rfl | rfl | rfl | rfl | rfl | rfl <;> simp_all; done) | (simp_all [form, formL]; done)))
         · intro c10
           refine zS [4, 19] ?_
           refine zC ?_ ?_
           · intro c11
             refine zS [2, 3] ?_
             refine zR ?_
             try simp only [go_sem, simprocAttr]
             all_goals try clear hR1
             all_goals (first | (simp_all [form, formL, inR]; done) | (rcases c6 with c6 | c6 | c6 | c6 | c6 <;> subst c6 <;> rfl) | (rcases c9 with c9 | c9 | c9 <;> subst c9 <;> rfl) | (rcases c5 with c5 | c5 | c5 | c5 | c5 <;> subst c5 <;> rfl) | (rcases c8 with c8 | c8 | c8 <;> subst c8 <;> rfl) | (refine (Bool.eq_false_or_eq_true (inR op 1 15)).elim (fun h => ?_) (fun h => ?_) <;> first | (exfalso; rcases op_cases h with rfl | rfl | rfl | rfl | rfl | rfl | rfl | rfl | rfl | rfl | rfl | rfl | rfl | rfl | rfl <;> simp_all; done) | (simp_all [form, formL]; done)))
           · intro c11
             refine zS [4, 21] ?_
             refine zC ?_ ?_
             · intro c12
               refine zS [2, 3] ?_
               refine zR ?_
               try simp only [go_sem, simprocAttr]
               all_goals try clear hR1
               all_goals (first | (simp_all [form, formL, inR]; done) | (rcases c6 with c6 | c6 | c6 | c6 | c6 <;> subst c6 <;> rfl) | (rcases c9 with c9 | c9 | c9 <;> subst c9 <;> rfl) | (rcases c5 with c5 | c5 | c5 | c5 | c5 <;> subst c5 <;> rfl) | (rcases c8 with c8 | c8 | c8 <;> subst c8 <;> rfl) | (refine (Bool.eq_false_or_eq_true (inR op 1 15)).elim (fun h => ?_) (fun h => ?_) <;> first | (exfalso; rcases op_cases h with rfl | rfl | rfl | rfl | rfl | rfl | rfl | rfl | rfl | rfl | rfl | rfl | rfl | rfl | rfl <;> simp_all; done) | (simp_all [form, formL]; done)))
             · intro c12
               refine zS [4, 23] ?_
               refine zC ?_ ?_
               · intro c13
                 refine zS [2, 3] ?_
                 refine zR ?_
                 try simp only [go_sem, simprocAttr]
                 all_goals try clear hR1
                 all_goals (first | (simp_all [form, formL, inR]; done) | (rcases c6 with c6 | c6 | c6 | c6 | c6 <;> subst c6 <;> rfl) | (rcases c9 with c9 | c9 | c9 <;> subst c9 <;> rfl) | (rcases c5 with c5 | c5 | c5 | c5 | c5 <;> subst c5 <;> rfl) | (rcases c8 with c8 | c8 | c8 <;> subst c8 <;> rfl) | (refine (Bool.eq_false_or_eq_true (inR op 1 15)).elim (fun h => ?_) (fun h => ?_) <;> first | (exfalso; rcases op_cases h with rfl | rfl | rfl | rfl | rfl | rfl | rfl | rfl | rfl | rfl | rfl | rfl | rfl | rfl | rfl <;> simp_all; done) | (simp_all [form, formL]; done)))
               · intro c13
                 refine zS [4, 25] ?_
                 refine zC ?_ ?_
                 · intro c14
                   refine zS [2, 3] ?_
                   refine zR ?_
                   try simp only [go_sem, simprocAttr]
                   all_goals try clear hR1
                   all_goals (first | (simp_all [form, formL, inR]; done) | (rcases c6 with c6 | c6 | c6 | c6 | c6 <;> subst c6 <;> rfl) | (rcases c9 with c9 | c9 | c9 <;> subst c9 <;> rfl) | (rcases c5 with c5 | c5 | c5 | c5 | c5 <;> subst c5 <;> rfl) | (rcases c8 with c8 | c8 | c8 <;> subst c8 <;> rfl) | (refine (Bool.eq_false_or_eq_true (inR op 1 15)).elim (fun h => ?_) (fun h => ?_) <;> first | (exfalso; rcases op_cases h with rfl | rfl | rfl | rfl | rfl | rfl | rfl | rfl | rfl | rfl | rfl | rfl | rfl | rfl | rfl <;> simp_all; done) | (simp_all [form, formL]; done)))
                 · intro c14
                   refine zS [27] ?_
                   refine zC ?_ ?_
                   · intro c15
                     refine zS [2, 3] ?_
                     refine zR ?_
                     try simp only [go_sem, simprocAttr]
                     all_goals try clear hR1
                     all_goals (first | (simp_all [form, formL, inR]; done) | (rcases c6 with c6 | c6 | c6 | c6 | c6 <;> subst c6 <;> rfl) | (rcases c9 with c9 | c9 | c9 <;> subst c9 <;> rfl) | (rcases c5 with c5 | c5 | c5 | c5 | c5 <;> subst c5 <;> rfl) | (rcases c8 with c8 | c8 | c8 <;> subst c8 <;> rfl) | (refine (Bool.eq_false_or_eq_true (inR op 1 15)).elim (fun h => ?_) (fun h => ?_) <;> first | (exfalso; rcases op_cases h with rfl | rfl | rfl | rfl | rfl | rfl | rfl | rfl | rfl | rfl | rfl | rfl | rfl | rfl | rfl <;> simp_all; done) | (simp_all [form, formL]; done)))
                   · intro c15
                     intro ρ hL
                     refine awl_skip ?_
                     refine awl_nil ?_
                     refine blk_normal (hR1 _ _ (.mk ?_))
                     revert ρ hL
                     refine zS [2, 3] ?_
                     refine zR ?_
                     try simp only [go_sem, simprocAttr]
                     all_goals try clear hR1
                     all_goals (first | (simp_all [form, formL, inR]; done) | (rcases c6 with c6 | c6 | c6 | c6 | c6 <;> subst c6 <;> rfl) | (rcases c9 with c9 | c9 | c9 <;> subst c9 <;> rfl) | (rcases c5 with c5 | c5 | c5 | c5 | c5 <;> subst c5 <;> rfl) | (rcases c8 with c8 | c8 | c8 <;> subst c8 <;> rfl) | (refine (Bool.eq_false_or_eq_true (inR op 1 15)).elim (fun h => ?_) (fun h => ?_) <;> first | (exfalso; rcases op_cases h with rfl | rfl | rfl | rfl | rfl | rfl | rfl | rfl | rfl | rfl | rfl | rfl | rfl | rfl | rfl <;> simp_all; done) | (simp_all [form, formL]; done)))
theorem sat_impl_partOf (x : Ins) (p : Int)  : Sat Tryz.prog 186 [.agg x.cells, .int .u8 p] [] (.int .i64 (partI x p)) [] := by
 have hX := trivial
 refine sat_mk [.tmp 4] 0 20 Tryz.call186 Tryz.func186 Tryz.ntmps186 rfl rfl rfl rfl rfl ?_
 refine zI [0, 1] ?_
 refine zS [1, 2] ?_
 refine zS [2, 5] ?_
 intro ρ hL
 refine awl_block fun R1 hw1 hR1 => ?_
 revert ρ hL
 refine zS [2, 5, 6] ?_
 refine zC ?_ ?_
 · intro c1
   refine zS [4] ?_
   refine zR ?_
   try simp only [go_sem, simprocAttr]
   all_goals try clear hR1
   all_goals (simp_all [partI])
 · intro c1
   refine zS [2, 5, 10] ?_
   refine zC ?_ ?_
   · intro c2
     refine zS [4] ?_
     refine zR ?_
     try simp only [go_sem, simprocAttr]
     all_goals try clear hR1
     all_goals (simp_all [partI])
   · intro c2
     refine zS [2, 14] ?_
     refine zC ?_ ?_
     · intro c3
       refine zS [4] ?_
       refine zR ?_
       try simp only [go_sem, simprocAttr]
       all_goals try clear hR1
       all_goals (simp_all [partI])
     · intro c3
       intro ρ hL
       refine awl_skip ?_
       refine awl_nil ?_
       refine blk_normal (hR1 _ _ (.mk ?_))
       revert ρ hL
       refine zS [4] ?_
       refine zR ?_
       try simp only [go_sem, simprocAttr]
       all_goals try clear hR1
       all_goals (simp_all [partI])
theorem sat_slices_Index_byte_byte (xs : List UInt8) (p : Int) (hb : xs.length ≤ 1099511627776) : Sat Tryz.prog 274 [.sl xs.length xs.length (bytesV xs), .int .u8 p] [] (.int .i64 (firstAt (fun b : UInt8 => decide (p = (b.toNat : Int))) xs 0)) [] := by
 have hX := trivial
 refine sat_mk [.tmp 4] 0 19 Tryz.call274 Tryz.func274 Tryz.ntmps274 rfl rfl rfl rfl rfl ?_
 refine zI [0, 1] ?_
 refine zS [0, 1] ?_
 refine zS [0, 1, 7, 8] ?_
 intro ρ hL
 have e1 := hL
 refine awl_loopH (fun H0 n σ G => ∃ (i : Nat), n = xs.length - i ∧ (i ≤ xs.length) ∧ (firstAt (fun b : UInt8 => decide (p = (b.toNat : Int))) (xs.drop i) i = firstAt (fun b : UInt8 => decide (p = (b.toNat : Int))) xs 0) ∧ (liveE [0, 1, 7] σ ρ ∧ σ 8 = .int .i64 (i : Int)) ∧ G = H0) (fun H0 σ G => (firstAt (fun b : UInt8 => decide (p = (b.toNat : Int))) xs 0 = -1) ∧ (True) ∧ G = H0) ((fun (i : Nat) => xs.length - i) 0) ?init1 (fun n ρ G hI => ?round1) (fun ρ G hJ => ?after1)
 case init1 => exact ⟨0, rfl, (Nat.zero_le _), (by simp), ⟨liveE_refl _ _, (hL.2.2.2)⟩, rfl⟩
 case round1 =>
  clear hL
  obtain ⟨i, hn, i1_0, i1_1, hL, hG⟩ := hI
  subst hG
  try simp only [go_sem, simprocAttr, e1, hX] at hL
  revert ρ hL
  refine zS [0, 1, 7, 8, 9] ?_
  refine zC ?_ ?_
  · intro c1
    have hi1 : i < xs.length := by omega
    replace hX := And.intro hi1 hX
    intro ρ hL
    refine awl_skip ?_
    refine awl_seq ?_
    refine awl_block fun R1 hw1 hR1 => ?_
    revert ρ hL
    refine zS [0, 1, 5, 7, 8] ?_
    refine zS [0, 1, 5, 7, 8, 16] ?_
    refine zC ?_ ?_
    · intro c2
      refine zS [4] ?_
      refine zR ?_
      try simp only [go_sem, simprocAttr]
      all_goals try clear hR1
      all_goals (have := firstAt_drop (p := fun b : UInt8 => decide (p = (b.toNat : Int))) (d := 0) xs i 0 hi1; rw [← i1_1]; simp only [Nat.zero_add] at this; rw [this, if_pos (by simpa using c2)])
    · intro c2
      intro ρ hL
      refine awl_skip ?_
      refine awl_nil ?_
      refine blk_normal (hR1 _ _ (.mk ?_))
      have w1 : IntKind.i64.wrap ((i : Int) + 1) = ((i + 1 : Nat) : Int) := by rw [wrap64 (by omega)]; omega
      replace hX := And.intro w1 hX
      revert ρ hL
      refine zS [0, 1, 7, 8] ?_
      intro ρ hL
      refine awl_nil ?_
      refine loop_again _ ?meas ⟨i + 1, rfl, (by omega), (by have := firstAt_drop (p := fun b : UInt8 => decide (p = (b.toNat : Int))) (d := 0) xs i 0 hi1; rw [← i1_1]; simp only [Nat.zero_add] at this; rw [this, if_neg (by simpa using c2)]), ⟨(by simp only [go_sem, simprocAttr, hL, hX, e1]), (hL.2.2.2)⟩, rfl⟩
      case meas => subst hn; omega
  · intro c1
    intro ρ hL
    refine awl_exit ?_
    refine loop_break ?_
    exact ⟨(by rw [← i1_1, List.drop_of_length_le (by omega)]; rfl), trivial, rfl⟩
 case after1 =>
  clear hL
  obtain ⟨j1_0, hL, hG⟩ := hJ
  subst hG
  refine zA ?_
  intro K hK
  refine zE [4] ?_
  clear hK K hL
  refine zR ?_
  try simp only [go_sem, simprocAttr]
  all_goals try clear hR1
  all_goals (rw [j1_0])
theorem sat_slices_Contains_byte_byte (xs : List UInt8) (p : Int) (hb : xs.length ≤ 1099511627776) : Sat Tryz.prog 238 [.sl xs.length xs.length (bytesV xs), .int .u8 p] [] (.bool (xs.any fun b => decide (p = (b.toNat : Int)))) [] := by
 have hX := trivial
 refine sat_mk [.tmp 4] 0 9 Tryz.call238 Tryz.func238 Tryz.ntmps238 rfl rfl rfl rfl rfl ?_
 refine zI [0, 1] ?_
 refine zS [0, 1] ?_
 refine zSF [4] (sat_slices_Index_byte_byte _ _ ?hp0) ?_
 case hp0 => first | assumption | omega | (simp; done)
 refine zR ?_
 try simp only [go_sem, simprocAttr]
 all_goals (have := firstAt_neg (p := fun b : UInt8 => decide (p = (b.toNat : Int))) xs 0; cases h : xs.any (fun b => decide (p = (b.toNat : Int))) <;> simp_all)
theorem sat_impl_hasPart (x : Ins) (p : Int)  : Sat Tryz.prog 199 [.agg x.cells, .int .u8 p] [] (.bool (hasI x.op p)) [] := by
 have hX := trivial
 refine sat_mk [.tmp 4] 0 17 Tryz.call199 Tryz.func199 Tryz.ntmps199 rfl rfl rfl rfl rfl ?_
 refine zI [0, 1] ?_
 refine zS [1, 2] ?_
 refine zSF [1, 5] (sat_impl_formOf _) ?_
 have hfl := formL_len (op := x.op)
 refine zSF [4] (sat_slices_Contains_byte_byte (formL x.op) p (by omega)) ?_
 refine zR ?_
 try simp only [go_sem, simprocAttr]
 all_goals (rfl)
theorem sat_spec_l6Has (op : Int)  : Sat Tryz.prog 125 [.int .i64 op] [] (.int .i64 (has op)) [] := by
 have hX := trivial
 refine sat_mk [.tmp 2] 0 10 Tryz.call125 Tryz.func125 Tryz.ntmps125 rfl rfl rfl rfl rfl ?_
 refine zI [0] ?_
 refine zS [0] ?_
 refine zSF [0, 5] (sat_spec_l1In _ _ _) ?_
 refine zC ?_ ?_
 · intro c1
   refine zS [2] ?_
   refine zR ?_
   try simp only [go_sem, simprocAttr]
   all_goals (rw [has, if_neg (by simp_all)])
 · intro c1
   intro ρ hL
   refine awl_skip ?_
   have hop0 : inR op 1 15 = true := by simpa using c1
   have hop := inR_iff.1 hop0
   have hr := has_row hop0
   have hX0 := hX
   replace hX := And.intro hr hX
   revert ρ hL
   refine zS [2] ?_
   clear hX
   have hX := hX0
   clear hX0
   refine zR ?_
   try simp only [go_sem, simprocAttr]
   all_goals (rfl)
theorem sat_spec_l6Field (x : Int) (h : Bool)  : Sat Tryz.prog 179 [.int .i64 x, .bool h] [] (.bool (fieldOk x h)) [] := by
 have hX := trivial
 refine sat_mk [.tmp 4] 0 14 Tryz.call179 Tryz.func179 Tryz.ntmps179 rfl rfl rfl rfl rfl ?_
 refine zI [0, 1] ?_
 refine zS [0, 1] ?_
 intro ρ hL
 refine zA ?_
 intro K hK
 refine zF (sat_spec_l1In _ _ _) ?_
 refine zL [0, 1, 7] ?_
 clear hL
 intro ρ hL
 refine grp_andN (tc := 7) (tv := 12) (td := 13) (v := ?v1) 5 rfl [] hL.2.2 rfl (fun hb K1 hK1 => ?run) (fun hb => ?skip) (fun ρ hP hM => ?_)
 case skip => exact skA (want := true) (b := _) (by rw [hb]; rfl) hL.2.2 rfl
 case run =>
  simp only [List.take_succ_cons, List.take_zero]
  rw [hb] at hL
  have g2 := hL
  have hK1_2 := hK1
  try simp only [go_sem, simprocAttr, hL, hX]
  repeat' refine And.intro (by first | rfl | omega | (simp; done)) ?_
  refine zL [0, 7, 9] ?_
  clear hL
  intro ρ hL
  refine grp_orGN (tc := 9) (tv := 11) (td := 12) (v := ?v3) 2 7 true rfl hL.2.1 [7] rfl hL.2.2 rfl (fun hb K1 hK1 => ?run) (fun hb => ?skip) (fun ρ hP hM => ?_)
  case skip => exact skA (want := false) (b := _) (by rw [hb]; rfl) hL.2.2 rfl
  case run =>
   simp only [List.take_succ_cons, List.take_zero]
   rw [hb] at hL
   try simp only [go_sem, simprocAttr, hL, hX]
   repeat' refine And.intro (by first | rfl | omega | (simp; done)) ?_
   refine hK1 _ ?_ ?_ ?_ <;> simp only [go_sem, simprocAttr, hL, hX] <;> exact rfl
  simp only [List.drop_succ_cons, List.drop_zero]
  try simp only [go_sem, simprocAttr, hL, hX] at hM
  replace hL := And.intro hP hM
  clear hP hM
  try simp only [go_sem, simprocAttr, hL, hX]
  repeat' refine And.intro (by first | rfl | omega | (simp; done)) ?_
  refine hK1_2 _ ?_ ?_ ?_ <;> simp only [go_sem, simprocAttr, hL, hX, g2] <;> exact rfl
 simp only [List.drop_succ_cons, List.drop_zero]
 clear hM hL
 have hL := hP
 clear hP
 try simp only [go_sem, simprocAttr, hL, hX]
 repeat' refine And.intro (by first | rfl | omega | (simp; done)) ?_
 refine zE [4] ?_
 clear hK K hL
 refine zR ?_
 try simp only [go_sem, simprocAttr]
 all_goals (rfl)
theorem sat_spec_InsOk (x : Ins)  : Sat Tryz.prog 115 [.agg x.cells] [] (.bool (insOk x)) [] := by
 have hX := trivial
 refine sat_mk [.tmp 2] 0 49 Tryz.call115 Tryz.func115 Tryz.ntmps115 rfl rfl rfl rfl rfl ?_
 refine zI [0] ?_
 refine zS [1] ?_
 refine zSF [1, 3] (sat_spec_l6Has _) ?_
 intro ρ hL
 refine zA ?_
 intro K hK
 refine zF (sat_spec_l1In _ _ _) ?_
 refine zL [1, 3, 10] ?_
 clear hL
 intro ρ hL
 refine grp_andN (tc := 10) (tv := 16) (td := 17) (v := ?v1) 6 rfl [1, 3] hL.2.2 rfl (fun hb K1 hK1 => ?run) (fun hb => ?skip) (fun ρ hP hM => ?_)
 case skip => exact skA (want := true) (b := _) (by rw [hb]; rfl) hL.2.2 rfl
 case run =>
  simp only [List.take_succ_cons, List.take_zero]
  rw [hb] at hL
  try simp only [go_sem, simprocAttr, hL, hX]
  repeat' refine And.intro (by first | rfl | omega | (simp; done)) ?_
  refine zF (sat_spec_l6Field _ _) ?_
  refine hK1 _ ?_ ?_ ?_ <;> simp only [go_sem, simprocAttr, hL, hX] <;> exact rfl
 simp only [List.drop_succ_cons, List.drop_zero]
 try simp only [go_sem, simprocAttr, hL, hX] at hM
 replace hL := And.intro hP hM
 clear hP hM
 try simp only [go_sem, simprocAttr, hL, hX]
 repeat' refine And.intro (by first | rfl | omega | (simp; done)) ?_
 refine zL [1, 3, 18] ?_
 clear hL
 intro ρ hL
 refine grp_andN (tc := 18) (tv := 24) (td := 25) (v := ?v2) 6 rfl [1, 3] hL.2.2 rfl (fun hb K1 hK1 => ?run) (fun hb => ?skip) (fun ρ hP hM => ?_)
 case skip => exact skA (want := true) (b := _) (by rw [hb]; rfl) hL.2.2 rfl
 case run =>
  simp only [List.take_succ_cons, List.take_zero]
  rw [hb] at hL
  try simp only [go_sem, simprocAttr, hL, hX]
  repeat' refine And.intro (by first | rfl | omega | (simp; done)) ?_
  refine zF (sat_spec_l6Field _ _) ?_
  refine hK1 _ ?_ ?_ ?_ <;> simp only [go_sem, simprocAttr, hL, hX] <;> exact rfl
 simp only [List.drop_succ_cons, List.drop_zero]
 try simp only [go_sem, simprocAttr, hL, hX] at hM
 replace hL := And.intro hP hM
 clear hP hM
 try simp only [go_sem, simprocAttr, hL, hX]
 repeat' refine And.intro (by first | rfl | omega | (simp; done)) ?_
 refine zL [1, 3, 26] ?_
 clear hL
 intro ρ hL
 refine grp_andN (tc := 26) (tv := 32) (td := 33) (v := ?v3) 6 rfl [1, 3] hL.2.2 rfl (fun hb K1 hK1 => ?run) (fun hb => ?skip) (fun ρ hP hM => ?_)
 case skip => exact skA (want := true) (b := _) (by rw [hb]; rfl) hL.2.2 rfl
 case run =>
  simp only [List.take_succ_cons, List.take_zero]
  rw [hb] at hL
  try simp only [go_sem, simprocAttr, hL, hX]
  repeat' refine And.intro (by first | rfl | omega | (simp; done)) ?_
  refine zF (sat_spec_l6Field _ _) ?_
  refine hK1 _ ?_ ?_ ?_ <;> simp only [go_sem, simprocAttr, hL, hX] <;> exact rfl
 simp only [List.drop_succ_cons, List.drop_zero]
 try simp only [go_sem, simprocAttr, hL, hX] at hM
 replace hL := And.intro hP hM
 clear hP hM
 try simp only [go_sem, simprocAttr, hL, hX]
 repeat' refine And.intro (by first | rfl | omega | (simp; done)) ?_
 refine zL [1, 3, 34] ?_
 clear hL
 intro ρ hL
 refine grp_andN (tc := 34) (tv := 37) (td := 38) (v := ?v4) 3 rfl [1, 3] hL.2.2 rfl (fun hb K1 hK1 => ?run) (fun hb => ?skip) (fun ρ hP hM => ?_)
 case skip => exact skA (want := true) (b := _) (by rw [hb]; rfl) hL.2.2 rfl
 case run =>
  simp only [List.take_succ_cons, List.take_zero]
  rw [hb] at hL
  try simp only [go_sem, simprocAttr, hL, hX]
  repeat' refine And.intro (by first | rfl | omega | (simp; done)) ?_
  refine zF (sat_spec_l1In _ _ _) ?_
  refine hK1 _ ?_ ?_ ?_ <;> simp only [go_sem, simprocAttr, hL, hX] <;> exact rfl
 simp only [List.drop_succ_cons, List.drop_zero]
 try simp only [go_sem, simprocAttr, hL, hX] at hM
 replace hL := And.intro hP hM
 clear hP hM
 try simp only [go_sem, simprocAttr, hL, hX]
 repeat' refine And.intro (by first | rfl | omega | (simp; done)) ?_
 refine zL [1, 3, 39] ?_
 clear hL
 intro ρ hL
 refine grp_andN (tc := 39) (tv := 47) (td := 48) (v := ?v5) 8 rfl [] hL.2.2 rfl (fun hb K1 hK1 => ?run) (fun hb => ?skip) (fun ρ hP hM => ?_)
 case skip => exact skA (want := true) (b := _) (by rw [hb]; rfl) hL.2.2 rfl
 case run =>
  simp only [List.take_succ_cons, List.take_zero]
  rw [hb] at hL
  have g6 := hL
  have hK1_6 := hK1
  try simp only [go_sem, simprocAttr, hL, hX]
  repeat' refine And.intro (by first | rfl | omega | (simp; done)) ?_
  refine zL [1, 39, 43] ?_
  clear hL
  intro ρ hL
  refine grp_orGN (tc := 43) (tv := 46) (td := 47) (v := ?v7) 3 39 true rfl hL.2.1 [39] rfl hL.2.2 rfl (fun hb K1 hK1 => ?run) (fun hb => ?skip) (fun ρ hP hM => ?_)
  case skip => exact skA (want := false) (b := _) (by rw [hb]; rfl) hL.2.2 rfl
  case run =>
   simp only [List.take_succ_cons, List.take_zero]
   rw [hb] at hL
   try simp only [go_sem, simprocAttr, hL, hX]
   repeat' refine And.intro (by first | rfl | omega | (simp; done)) ?_
   refine hK1 _ ?_ ?_ ?_ <;> simp only [go_sem, simprocAttr, hL, hX] <;> exact rfl
  simp only [List.drop_succ_cons, List.drop_zero]
  try simp only [go_sem, simprocAttr, hL, hX] at hM
  replace hL := And.intro hP hM
  clear hP hM
  try simp only [go_sem, simprocAttr, hL, hX]
  repeat' refine And.intro (by first | rfl | omega | (simp; done)) ?_
  refine hK1_6 _ ?_ ?_ ?_ <;> simp only [go_sem, simprocAttr, hL, hX, g6] <;> exact rfl
 simp only [List.drop_succ_cons, List.drop_zero]
 clear hM hL
 have hL := hP
 clear hP
 try simp only [go_sem, simprocAttr, hL, hX]
 repeat' refine And.intro (by first | rfl | omega | (simp; done)) ?_
 refine zE [2] ?_
 clear hK K hL
 refine zR ?_
 try simp only [go_sem, simprocAttr]
 all_goals (rfl)
theorem sat_impl_InsOk (x : Ins)  : Sat Tryz.prog 157 [.agg x.cells] [] (.bool (insOk x)) [] := by
 have hX := trivial
 refine sat_mk [.tmp 2] 0 49 Tryz.call157 Tryz.func157 Tryz.ntmps157 rfl rfl rfl rfl rfl ?_
 refine zI [0] ?_
 refine zS [1] ?_
 refine zSF [1, 4] (sat_impl_formOf _) ?_
 refine zS [1, 4, 15, 16, 17] ?_
 intro ρ hL
 have e1 := hL
 refine awl_loopH (fun H0 n σ G => ∃ (i : Nat), n = 4 - i ∧ (i ≤ 4) ∧ (liveE [1, 15, 16] σ ρ ∧ σ 4 = .bool (okU x i) ∧ σ 17 = .int .i64 (i : Int)) ∧ G = H0) (fun H0 σ G => (σ 4 = .bool (okU x 4)) ∧ G = H0) ((fun (i : Nat) => 4 - i) 0) ?init1 (fun n ρ G hI => ?round1) (fun ρ G hJ => ?after1)
 case init1 => exact ⟨0, rfl, (Nat.zero_le _), ⟨liveE_refl _ _, (by rw [hL.2.1]; rfl), (hL.2.2.2.2)⟩, rfl⟩
 case round1 =>
  clear hL
  obtain ⟨i, hn, i1_0, hL, hG⟩ := hI
  subst hG
  try simp only [go_sem, simprocAttr, e1, hX] at hL
  revert ρ hL
  refine zS [1, 4, 15, 16, 17, 18] ?_
  refine zC ?_ ?_
  · intro c1
    have hi1 : i < 4 := by omega
    replace hX := And.intro hi1 hX
    intro ρ hL
    refine awl_skip ?_
    refine awl_seq ?_
    refine awl_block fun R1 hw1 hR1 => ?_
    have hpr := pL_row hi1
    have hX0 := hX
    replace hX := And.intro hpr hX
    revert ρ hL
    refine zS [1, 4, 6, 15, 16, 17] ?_
    clear hX
    have hX := hX0
    clear hX0
    refine zSF [1, 4, 6, 7, 15, 16, 17] (sat_impl_partOf _ _) ?_
    intro ρ hL
    refine awl_block fun R2 hw2 hR2 => ?_
    revert ρ hL
    refine zSF [1, 4, 6, 7, 15, 16, 17, 29] (sat_impl_hasPart _ _) ?_
    refine zC ?_ ?_
    · intro c2
      intro ρ hL
      refine zA ?_
      intro K hK
      refine zL [1, 7, 15, 16, 17, 35] ?_
      clear hL
      intro ρ hL
      refine grp_andN (tc := 35) (tv := 37) (td := 38) (v := ?v1) 2 rfl [1, 15, 16, 17] hL.2.2.2.2.2 rfl (fun hb K1 hK1 => ?run) (fun hb => ?skip) (fun ρ hP hM => ?_)
      case skip => exact skA (want := true) (b := _) (by rw [hb]; rfl) hL.2.2.2.2.2 rfl
      case run =>
       simp only [List.take_succ_cons, List.take_zero]
       rw [hb] at hL
       try simp only [go_sem, simprocAttr, hL, hX]
       repeat' refine And.intro (by first | rfl | omega | (simp; done)) ?_
       refine hK1 _ ?_ ?_ ?_ <;> simp only [go_sem, simprocAttr, hL, hX] <;> exact rfl
      simp only [List.drop_succ_cons, List.drop_zero]
      try simp only [go_sem, simprocAttr, hL, hX] at hM
      replace hL := And.intro hP hM
      clear hP hM
      try simp only [go_sem, simprocAttr, hL, hX]
      repeat' refine And.intro (by first | rfl | omega | (simp; done)) ?_
      refine zE [1, 4, 15, 16, 17] ?_
      clear hK K hL
      intro ρ hL
      refine awl_nil ?_
      refine blk_normal (hR2 _ _ (.mk ?_))
      refine awl_nil ?_
      refine blk_normal (hR1 _ _ (.mk ?_))
      have w1 : IntKind.i64.wrap ((i : Int) + 1) = ((i + 1 : Nat) : Int) := by rw [wrap64 (by omega)]; omega
      replace hX := And.intro w1 hX
      revert ρ hL
      refine zS [1, 4, 15, 16, 17] ?_
      intro ρ hL
      refine awl_nil ?_
      have h4 := hL.2.1
      refine loop_again _ ?meas ⟨i + 1, rfl, (by omega), ⟨(by simp only [go_sem, simprocAttr, hL, hX, e1]), (by rw [h4]; congr 1; simp_all [okU, okP]), (hL.2.2.2.2)⟩, rfl⟩
      case meas => subst hn; omega
    · intro c2
      refine zS [1, 4, 7, 15, 16, 17, 39] ?_
      refine zC ?_ ?_
      · intro c3
        intro ρ hL
        refine zA ?_
        intro K hK
        refine zL [1, 7, 15, 16, 17, 43] ?_
        clear hL
        intro ρ hL
        refine grp_andN (tc := 43) (tv := 45) (td := 46) (v := ?v2) 2 rfl [1, 15, 16, 17] hL.2.2.2.2.2 rfl (fun hb K1 hK1 => ?run) (fun hb => ?skip) (fun ρ hP hM => ?_)
        case skip => exact skA (want := true) (b := _) (by rw [hb]; rfl) hL.2.2.2.2.2 rfl
        case run =>
         simp only [List.take_succ_cons, List.take_zero]
         rw [hb] at hL
         try simp only [go_sem, simprocAttr, hL, hX]
         repeat' refine And.intro (by first | rfl | omega | (simp; done)) ?_
         refine zF (sat_impl_in _ _ _) ?_
         refine hK1 _ ?_ ?_ ?_ <;> simp only [go_sem, simprocAttr, hL, hX] <;> exact rfl
        simp only [List.drop_succ_cons, List.drop_zero]
        try simp only [go_sem, simprocAttr, hL, hX] at hM
        replace hL := And.intro hP hM
        clear hP hM
        try simp only [go_sem, simprocAttr, hL, hX]
        repeat' refine And.intro (by first | rfl | omega | (simp; done)) ?_
        refine zE [1, 4, 15, 16, 17] ?_
        clear hK K hL
        intro ρ hL
        refine awl_nil ?_
        refine blk_normal (hR2 _ _ (.mk ?_))
        refine awl_nil ?_
        refine blk_normal (hR1 _ _ (.mk ?_))
        have w1 : IntKind.i64.wrap ((i : Int) + 1) = ((i + 1 : Nat) : Int) := by rw [wrap64 (by omega)]; omega
        replace hX := And.intro w1 hX
        revert ρ hL
        refine zS [1, 4, 15, 16, 17] ?_
        intro ρ hL
        refine awl_nil ?_
        have h4 := hL.2.1
        refine loop_again _ ?meas ⟨i + 1, rfl, (by omega), ⟨(by simp only [go_sem, simprocAttr, hL, hX, e1]), (by rw [h4]; congr 1; simp_all [okU, okP]), (hL.2.2.2.2)⟩, rfl⟩
        case meas => subst hn; omega
      · intro c3
        intro ρ hL
        refine zA ?_
        intro K hK
        refine zL [1, 7, 15, 16, 17, 25] ?_
        clear hL
        intro ρ hL
        refine grp_andN (tc := 25) (tv := 27) (td := 28) (v := ?v3) 2 rfl [1, 15, 16, 17] hL.2.2.2.2.2 rfl (fun hb K1 hK1 => ?run) (fun hb => ?skip) (fun ρ hP hM => ?_)
        case skip => exact skA (want := true) (b := _) (by rw [hb]; rfl) hL.2.2.2.2.2 rfl
        case run =>
         simp only [List.take_succ_cons, List.take_zero]
         rw [hb] at hL
         try simp only [go_sem, simprocAttr, hL, hX]
         repeat' refine And.intro (by first | rfl | omega | (simp; done)) ?_
         refine zF (sat_impl_in _ _ _) ?_
         refine hK1 _ ?_ ?_ ?_ <;> simp only [go_sem, simprocAttr, hL, hX] <;> exact rfl
        simp only [List.drop_succ_cons, List.drop_zero]
        try simp only [go_sem, simprocAttr, hL, hX] at hM
        replace hL := And.intro hP hM
        clear hP hM
        try simp only [go_sem, simprocAttr, hL, hX]
        repeat' refine And.intro (by first | rfl | omega | (simp; done)) ?_
        refine zE [1, 4, 15, 16, 17] ?_
        clear hK K hL
        intro ρ hL
        refine awl_nil ?_
        refine blk_normal (hR2 _ _ (.mk ?_))
        refine awl_nil ?_
        refine blk_normal (hR1 _ _ (.mk ?_))
        have w1 : IntKind.i64.wrap ((i : Int) + 1) = ((i + 1 : Nat) : Int) := by rw [wrap64 (by omega)]; omega
        replace hX := And.intro w1 hX
        revert ρ hL
        refine zS [1, 4, 15, 16, 17] ?_
        intro ρ hL
        refine awl_nil ?_
        have h4 := hL.2.1
        refine loop_again _ ?meas ⟨i + 1, rfl, (by omega), ⟨(by simp only [go_sem, simprocAttr, hL, hX, e1]), (by rw [h4]; congr 1; simp_all [okU, okP]), (hL.2.2.2.2)⟩, rfl⟩
        case meas => subst hn; omega
  · intro c1
    intro ρ hL
    refine awl_exit ?_
    refine loop_break ?_
    have h4 := hL.2.1
    exact ⟨(by rw [h4, show i = 4 by omega]), rfl⟩
 case after1 =>
  clear hL
  obtain ⟨hL, hG⟩ := hJ
  subst hG
  revert ρ hL
  refine zS [2] ?_
  refine zR ?_
  try simp only [go_sem, simprocAttr]
  all_goals try clear hR1
  all_goals try clear hR2
  all_goals (rw [okU_all])
end Go.Proofs.YtgpjgljgplngpaaGreatDoor.AM
