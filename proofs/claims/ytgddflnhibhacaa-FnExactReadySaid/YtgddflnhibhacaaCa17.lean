/- What is ready. No conditions but those each theorem bears. -/
import Derived.Test.YtgddflnhibhacaaFa
import Derived.Test.YtgddflnhibhacaaSp8
import Derived.Test.YtgddflnhibhacaaCa14
set_option linter.unusedSimpArgs false
set_option linter.unusedVariables false
namespace Go.Proofs.Ytgddflnhibhacaa.AM
open Go

set_option maxHeartbeats 8000000 in
set_option maxRecDepth 100000 in
theorem sat_spec_Ready (c : Cor) (i : Int) (hf : c.fit) : Sat Try.prog 45 [.agg c.cells, .int .i64 i] [] (.bool (ready c i)) [] := by
  refine sat_mk [.tmp 4] 0 104 Try.call45 Try.func45 Try.ntmps45 rfl rfl rfl rfl rfl ?_
  refine awl_live' [0, 1] fun ρ hL => ?_
  try simp only [go_sem, simprocAttr] at hL
  obtain ⟨h0, h1⟩ := hL
  refine awl_seq ?_
  refine awl_regS [(some 2, (.box 61 (.tmp 0)), none), (some 4, (.assign (.const (.bool false))), none)] rfl fun K hK => ?_
  try simp only [go_sem, simprocAttr, h0, h1]
  repeat' (refine And.intro (by first | rfl | omega | (simp; done)) ?_)
  refine hK _ _ (.mk (awl_live' [1, 2] fun ρ hL => ?_))
  try simp only [go_sem, simprocAttr, h0, h1] at hL
  try clear h0 h1
  obtain ⟨h1, h2⟩ := hL
  clear hK K
  refine awl_seq ?_
  refine awl_seq ?_
  have hf1 := hf.2.1
  have w0 : IntKind.i64.wrap ((c.rob.length : Int) - 1) = (c.rob.length : Int) - 1 := wrap64 (by omega)
  refine awl_regS [(some 13, (.load 61 (.tmp 2)), none), (some 14, (.call ⟨(.value (.func 38)), #[(.tmp 13)], #[61]⟩), none), (some 15, (.unOp .not 4 (.tmp 14)), none), (some 16, (.move (.tmp 15)), none), (some 17, (.move (.tmp 1)), some (16, false)), (some 18, (.fieldAddr 61 (.tmp 2) 1), some (16, false)), (some 19, (.load 59 (.tmp 18)), some (16, false)), (some 20, (.call ⟨(.builtin .len), #[(.tmp 19)], #[59]⟩), some (16, false)), (some 21, (.binOp .sub 3 (.tmp 20) (.const (.int .i64 1)) 3), some (16, false)), (some 22, (.call ⟨(.value (.func 89)), #[(.tmp 17), (.const (.int .i64 0)), (.tmp 21)], #[3, 3, 3]⟩), some (16, false)), (some 23, (.unOp .not 4 (.tmp 22)), some (16, false)), (some 24, (.pick (.tmp 16) (.const (.bool true)) (.tmp 23)), none), (some 25, (.move (.tmp 24)), none), (some 26, (.fieldAddr 61 (.tmp 2) 1), some (25, false)), (some 27, (.load 59 (.tmp 26)), some (25, false)), (some 28, (.move (.tmp 1)), some (25, false)), (some 29, (.indexAddr 59 (.tmp 27) (.tmp 28)), some (25, false)), (some 30, (.fieldAddr 96 (.tmp 29) 2), some (25, false)), (some 31, (.load 4 (.tmp 30)), some (25, false)), (some 32, (.pick (.tmp 25) (.const (.bool true)) (.tmp 31)), none)] rfl fun K hK => ?_
  try simp only [go_sem, simprocAttr, h1, h2, w0]
  repeat' (refine And.intro (by first | rfl | omega | (simp; done)) ?_)
  refine opS_call_ro rfl (sat_spec_CoreOk c hf) ?ha ?hv ?hh ?_
  case ha => simp only [go_sem, simprocAttr, h1, h2, w0]; first | done | rfl
  case hv => first | rfl | (simp only [go_sem]; done)
  case hh => first | rfl | (simp only [go_sem]; done)
  try simp only [go_sem, simprocAttr, h1, h2, w0]
  repeat' (refine And.intro (by first | rfl | omega | (simp; done)) ?_)
  refine awpS_live [1, 2, 16] fun ρ hL => ?_
  try simp only [go_sem, simprocAttr, h1, h2, w0] at hL
  try clear h1 h2
  obtain ⟨h1, h2, h16⟩ := hL
  refine grp_orN (tc := 16) (tv := 23) (td := 24) (v := ?v1) 7 rfl [1, 2] h16 rfl (fun hb K1 hK1 => ?run) (fun hb => ?skip) (fun ρ hP hL => ?_)
  case skip =>
    exact awpS_skip (want := false) (b := _) (by rw [hb]; rfl) _ [] ρ h16 (fun _ _ => rfl) (by simp) rfl
  case run =>
    simp only [List.take_succ_cons, List.take_zero]
    rw [hb] at h16
    try simp only [go_sem, simprocAttr, h1, h2, h16, w0]
    repeat' (refine And.intro (by first | rfl | omega | (simp; done)) ?_)
    refine opS_call_ro rfl (sat_spec_l1In ?_ ?_ ?_) ?ha ?hv ?hh ?_
    case ha => simp only [go_sem, simprocAttr, h1, h2, h16, w0]; first | done | rfl
    case hv => first | rfl | (simp only [go_sem]; done)
    case hh => first | rfl | (simp only [go_sem]; done)
    try simp only [go_sem, simprocAttr, h1, h2, h16, w0]
    repeat' (refine And.intro (by first | rfl | omega | (simp; done)) ?_)
    exact hK1 _ (by simp only [go_sem, simprocAttr, h1, h2, h16, w0]) (by simp only [go_sem, simprocAttr, h1, h2, h16, w0]; exact rfl) (by simp only [go_sem, simprocAttr, h1, h2, h16, w0])
  simp only [List.drop_succ_cons, List.drop_zero]
  try simp only [go_sem, simprocAttr, h1, h2, h16, w0] at hL
  try clear h1 h2 h16
  obtain ⟨h1, h2⟩ := hL
  have h24 := hP
  clear hP
  try simp only [go_sem, simprocAttr, h1, h2, h24, w0]
  repeat' (refine And.intro (by first | rfl | omega | (simp; done)) ?_)
  refine awpS_live [1, 2, 25] fun ρ hL => ?_
  try simp only [go_sem, simprocAttr, h1, h2, h24, w0] at hL
  try clear h1 h2 h24
  obtain ⟨h1, h2, h25⟩ := hL
  refine grp_orN (tc := 25) (tv := 31) (td := 32) (v := ?v2) 6 rfl [1, 2] h25 rfl (fun hb K1 hK1 => ?run) (fun hb => ?skip) (fun ρ hP hL => ?_)
  case skip =>
    exact awpS_skip (want := false) (b := _) (by rw [hb]; rfl) _ [] ρ h25 (fun _ _ => rfl) (by simp) rfl
  case run =>
    simp only [List.take_succ_cons, List.take_zero]
    rw [hb] at h25
    have hb2 : inR i 0 ((c.rob.length : Int) - 1) = true := by revert hb; cases inR i 0 ((c.rob.length : Int) - 1) <;> simp
    have hw := inR_iff.1 hb2
    have hn2 : i.toNat < c.rob.length := by omega
    try simp only [go_sem, simprocAttr, h1, h2, h25, hn2, w0]
    repeat' (refine And.intro (by first | rfl | omega | (simp; done)) ?_)
    exact hK1 _ (by simp only [go_sem, simprocAttr, h1, h2, h25, hn2, w0]) (by simp only [go_sem, simprocAttr, h1, h2, h25, hn2, w0]; exact rfl) (by simp only [go_sem, simprocAttr, h1, h2, h25, hn2, w0])
  simp only [List.drop_succ_cons, List.drop_zero]
  try simp only [go_sem, simprocAttr, h1, h2, h25, w0] at hL
  try clear h1 h2 h25
  obtain ⟨h1, h2⟩ := hL
  have h32 := hP
  clear hP
  try simp only [go_sem, simprocAttr, h1, h2, h32, w0]
  repeat' (refine And.intro (by first | rfl | omega | (simp; done)) ?_)
  refine hK _ _ (.mk (awl_live' [1, 2, 32] fun ρ hL => ?_))
  try simp only [go_sem, simprocAttr, h1, h2, h32, w0] at hL
  try clear h1 h2 h32
  obtain ⟨h1, h2, h32⟩ := hL
  clear hK K
  refine awl_cond h32 (fun c1 => ?_) (fun c1 => ?_)
  ·
    try simp only [cnd] at c1
    refine awl_seq ?_
    refine awl_regS [(some 4, (.assign (.const (.bool false))), none)] rfl fun K hK => ?_
    try simp only [go_sem, simprocAttr, h1, h2, h32]
    repeat' (refine And.intro (by first | rfl | omega | (simp; done)) ?_)
    refine hK _ _ (.mk (awl_live' [4] fun ρ hL => ?_))
    try simp only [go_sem, simprocAttr, h1, h2, h32] at hL
    try clear h1 h2 h32
    have h4 := hL
    clear hL
    clear hK K
    refine awl_ret ?_
    refine ret0 (by simp only [go_sem, simprocAttr, h4]; exact rfl) ?_
    try simp only [go_sem, simprocAttr]
    all_goals (rw [ready_no (by rintro ⟨a, b, d⟩; rw [a, b, d] at c1; simp at c1)])
  ·
    try simp only [cnd] at c1
    refine awl_skip ?_
    refine awl_seq ?_
    have hc0 : corOk c = true ∧ inR i 0 ((c.rob.length : Int) - 1) = true ∧ (c.rob.getD i.toNat noEnt).done = false := by revert c1; cases corOk c <;> cases inR i 0 ((c.rob.length : Int) - 1) <;> cases (c.rob.getD i.toNat noEnt).done <;> simp
    have hw := inR_iff.1 hc0.2.1
    have hn2 : i.toNat < c.rob.length := by omega
    have hk := ent_regs hc0.1 hn2
    refine awl_regS [(some 33, (.fieldAddr 61 (.tmp 2) 1), none), (some 34, (.load 59 (.tmp 33)), none), (some 35, (.move (.tmp 1)), none), (some 36, (.indexAddr 59 (.tmp 34) (.tmp 35)), none), (some 37, (.fieldAddr 96 (.tmp 36) 1), none), (some 38, (.load 94 (.tmp 37)), none), (some 5, (.alloc 94), none), (none, (.store 94 (.tmp 5) (.tmp 38)), none)] rfl fun K hK => ?_
    try simp only [go_sem, simprocAttr, h1, h2, h32, hn2]
    repeat' (refine And.intro (by first | rfl | omega | (simp; done)) ?_)
    refine hK _ _ (.mk (awl_live' [1, 2, 5] fun ρ hL => ?_))
    try simp only [go_sem, simprocAttr, h1, h2, h32, hn2] at hL
    try clear h1 h2 h32
    obtain ⟨h1, h2, h5⟩ := hL
    clear hK K
    refine awl_seq ?_
    refine awl_regS [(some 39, (.fieldAddr 94 (.tmp 5) 0), none), (some 40, (.load 3 (.tmp 39)), none), (some 41, (.call ⟨(.value (.func 92)), #[(.tmp 40)], #[3]⟩), none), (some 6, (.assign (.tmp 41)), none)] rfl fun K hK => ?_
    try simp only [go_sem, simprocAttr, h1, h2, h5]
    repeat' (refine And.intro (by first | rfl | omega | (simp; done)) ?_)
    refine opS_call_ro rfl (sat_spec_l6Has (c.rob.getD i.toNat noEnt).x.op) ?ha ?hv ?hh ?_
    case ha => simp only [go_sem, simprocAttr, h1, h2, h5]; first | done | rfl
    case hv => first | rfl | (simp only [go_sem]; done)
    case hh => first | rfl | (simp only [go_sem]; done)
    try simp only [go_sem, simprocAttr, h1, h2, h5]
    repeat' (refine And.intro (by first | rfl | omega | (simp; done)) ?_)
    refine hK _ _ (.mk (awl_live' [1, 2, 5, 6] fun ρ hL => ?_))
    try simp only [go_sem, simprocAttr, h1, h2, h5] at hL
    try clear h1 h2 h5
    obtain ⟨h1, h2, h5, h6⟩ := hL
    clear hK K
    refine awl_seq ?_
    refine awl_regS [(some 43, (.load 61 (.tmp 2)), none), (some 44, (.move (.tmp 1)), none), (some 45, (.fieldAddr 94 (.tmp 5) 2), none), (some 46, (.load 3 (.tmp 45)), none), (some 47, (.call ⟨(.value (.func 90)), #[(.tmp 43), (.tmp 44), (.tmp 46)], #[61, 3, 3]⟩), none), (some 42, (.move (.tmp 47)), none), (some 48, (.extract (.tmp 42) 0), none), (some 49, (.extract (.tmp 42) 1), none), (some 7, (.alloc 42), none), (none, (.store 42 (.tmp 7) (.tmp 48)), none), (some 8, (.assign (.tmp 49)), none)] rfl fun K hK => ?_
    try simp only [go_sem, simprocAttr, h1, h2, h5, h6]
    repeat' (refine And.intro (by first | rfl | omega | (simp; done)) ?_)
    refine opS_call_ro rfl (sat_spec_l12Value c i (c.rob.getD i.toNat noEnt).x.a hf (corOk_reg hc0.1 hk.2.1)) ?ha ?hv ?hh ?_
    case ha => simp only [go_sem, simprocAttr, h1, h2, h5, h6]; first | done | rfl
    case hv => first | rfl | (simp only [go_sem]; done)
    case hh => first | rfl | (simp only [go_sem]; done)
    try simp only [go_sem, simprocAttr, h1, h2, h5, h6]
    repeat' (refine And.intro (by first | rfl | omega | (simp; done)) ?_)
    refine hK _ _ (.mk (awl_live' [1, 2, 5, 6, 8] fun ρ hL => ?_))
    try simp only [go_sem, simprocAttr, h1, h2, h5, h6] at hL
    try clear h1 h2 h5 h6
    obtain ⟨h1, h2, h5, h6, h8⟩ := hL
    clear hK K
    refine awl_seq ?_
    refine awl_regS [(some 51, (.load 61 (.tmp 2)), none), (some 52, (.move (.tmp 1)), none), (some 53, (.fieldAddr 94 (.tmp 5) 3), none), (some 54, (.load 3 (.tmp 53)), none), (some 55, (.call ⟨(.value (.func 90)), #[(.tmp 51), (.tmp 52), (.tmp 54)], #[61, 3, 3]⟩), none), (some 50, (.move (.tmp 55)), none), (some 56, (.extract (.tmp 50) 0), none), (some 57, (.extract (.tmp 50) 1), none), (some 9, (.alloc 42), none), (none, (.store 42 (.tmp 9) (.tmp 56)), none), (some 10, (.assign (.tmp 57)), none)] rfl fun K hK => ?_
    try simp only [go_sem, simprocAttr, h1, h2, h5, h6, h8]
    repeat' (refine And.intro (by first | rfl | omega | (simp; done)) ?_)
    refine opS_call_ro rfl (sat_spec_l12Value c i (c.rob.getD i.toNat noEnt).x.b hf (corOk_reg hc0.1 hk.2.2)) ?ha ?hv ?hh ?_
    case ha => simp only [go_sem, simprocAttr, h1, h2, h5, h6, h8]; first | done | rfl
    case hv => first | rfl | (simp only [go_sem]; done)
    case hh => first | rfl | (simp only [go_sem]; done)
    try simp only [go_sem, simprocAttr, h1, h2, h5, h6, h8]
    repeat' (refine And.intro (by first | rfl | omega | (simp; done)) ?_)
    refine hK _ _ (.mk (awl_live' [1, 2, 5, 6, 8, 10] fun ρ hL => ?_))
    try simp only [go_sem, simprocAttr, h1, h2, h5, h6, h8] at hL
    try clear h1 h2 h5 h6 h8
    obtain ⟨h1, h2, h5, h6, h8, h10⟩ := hL
    clear hK K
    refine awl_seq ?_
    refine awl_seq ?_
    refine awl_regS [(some 58, (.move (.tmp 6)), none), (some 59, (.binOp .and 3 (.tmp 58) (.const (.int .i64 2)) 3), none), (some 60, (.binOp .neq 3 (.tmp 59) (.const (.int .i64 0)) 3), none), (some 61, (.move (.tmp 60)), none), (some 62, (.move (.tmp 8)), some (61, true)), (some 63, (.unOp .not 4 (.tmp 62)), some (61, true)), (some 64, (.pick (.tmp 61) (.tmp 63) (.const (.bool false))), none), (some 65, (.move (.tmp 64)), none), (some 66, (.move (.tmp 6)), some (65, false)), (some 67, (.binOp .and 3 (.tmp 66) (.const (.int .i64 4)) 3), some (65, false)), (some 68, (.binOp .neq 3 (.tmp 67) (.const (.int .i64 0)) 3), some (65, false)), (some 69, (.move (.tmp 68)), some (65, false)), (some 70, (.move (.tmp 10)), some (69, true)), (some 71, (.unOp .not 4 (.tmp 70)), some (69, true)), (some 72, (.pick (.tmp 69) (.tmp 71) (.const (.bool false))), some (65, false)), (some 73, (.pick (.tmp 65) (.const (.bool true)) (.tmp 72)), none)] rfl fun K hK => ?_
    try simp only [go_sem, simprocAttr, h1, h2, h5, h6, h8, h10]
    repeat' (refine And.intro (by first | rfl | omega | (simp; done)) ?_)
    refine awpS_live [1, 2, 5, 6, 8, 10, 61] fun ρ hL => ?_
    try simp only [go_sem, simprocAttr, h1, h2, h5, h6, h8, h10] at hL
    try clear h1 h2 h5 h6 h8 h10
    obtain ⟨h1, h2, h5, h6, h8, h10, h61⟩ := hL
    refine grp_andN (tc := 61) (tv := 63) (td := 64) (v := ?v3) 2 rfl [1, 2, 5, 6, 10] h61 rfl (fun hb K1 hK1 => ?run) (fun hb => ?skip) (fun ρ hP hL => ?_)
    case skip =>
      exact awpS_skip (want := true) (b := _) (by rw [hb]; rfl) _ [] ρ h61 (fun _ _ => rfl) (by simp) rfl
    case run =>
      simp only [List.take_succ_cons, List.take_zero]
      rw [hb] at h61
      try simp only [go_sem, simprocAttr, h1, h2, h5, h6, h8, h10, h61]
      repeat' (refine And.intro (by first | rfl | omega | (simp; done)) ?_)
      exact hK1 _ (by simp only [go_sem, simprocAttr, h1, h2, h5, h6, h8, h10, h61]) (by simp only [go_sem, simprocAttr, h1, h2, h5, h6, h8, h10, h61]; exact rfl) (by simp only [go_sem, simprocAttr, h1, h2, h5, h6, h8, h10, h61])
    simp only [List.drop_succ_cons, List.drop_zero]
    try simp only [go_sem, simprocAttr, h1, h2, h5, h6, h8, h10, h61] at hL
    try clear h1 h2 h5 h6 h8 h10 h61
    obtain ⟨h1, h2, h5, h6, h10⟩ := hL
    have h64 := hP
    clear hP
    try simp only [go_sem, simprocAttr, h1, h2, h5, h6, h10, h64]
    repeat' (refine And.intro (by first | rfl | omega | (simp; done)) ?_)
    refine awpS_live [1, 2, 5, 6, 10, 65] fun ρ hL => ?_
    try simp only [go_sem, simprocAttr, h1, h2, h5, h6, h10, h64] at hL
    try clear h1 h2 h5 h6 h10 h64
    obtain ⟨h1, h2, h5, h6, h10, h65⟩ := hL
    refine grp_orN (tc := 65) (tv := 72) (td := 73) (v := ?v4) 7 rfl [1, 2, 5] h65 rfl (fun hb K1 hK1 => ?run) (fun hb => ?skip) (fun ρ hP hL => ?_)
    case skip =>
      exact awpS_skip (want := false) (b := _) (by rw [hb]; rfl) _ [] ρ h65 (fun _ _ => rfl) (by simp) rfl
    case run =>
      simp only [List.take_succ_cons, List.take_zero]
      rw [hb] at h65
      have g5_1 := h1
      have g5_2 := h2
      have g5_5 := h5
      have g5_65 := h65
      have hK1_5 := hK1
      try simp only [go_sem, simprocAttr, h1, h2, h5, h6, h10, h65]
      repeat' (refine And.intro (by first | rfl | omega | (simp; done)) ?_)
      refine awpS_live [1, 2, 5, 10, 65, 69] fun ρ hL => ?_
      try simp only [go_sem, simprocAttr, h1, h2, h5, h6, h10, h65] at hL
      try clear h1 h2 h5 h6 h10 h65
      obtain ⟨h1, h2, h5, h10, h65, h69⟩ := hL
      refine grp_andGN (tc := 69) (tv := 71) (td := 72) (v := ?v6) 2 65 false rfl h65 [1, 2, 5, 65] rfl h69 rfl (fun hb K1 hK1 => ?run) (fun hb => ?skip) (fun ρ hP hL => ?_)
      case skip =>
        exact awpS_skip (want := true) (b := _) (by rw [hb]; rfl) _ [] ρ h69 (fun _ _ => rfl) (by simp) rfl
      case run =>
        simp only [List.take_succ_cons, List.take_zero]
        rw [hb] at h69
        try simp only [go_sem, simprocAttr, h1, h2, h5, h10, h65, h69]
        repeat' (refine And.intro (by first | rfl | omega | (simp; done)) ?_)
        exact hK1 _ (by simp only [go_sem, simprocAttr, h1, h2, h5, h10, h65, h69]) (by simp only [go_sem, simprocAttr, h1, h2, h5, h10, h65, h69]; exact rfl) (by simp only [go_sem, simprocAttr, h1, h2, h5, h10, h65, h69])
      simp only [List.drop_succ_cons, List.drop_zero]
      try simp only [go_sem, simprocAttr, h1, h2, h5, h10, h65, h69] at hL
      try clear h1 h2 h5 h10 h65 h69
      obtain ⟨h1, h2, h5, h65⟩ := hL
      have h72 := hP
      clear hP
      try simp only [go_sem, simprocAttr, h1, h2, h5, h65, h72]
      repeat' (refine And.intro (by first | rfl | omega | (simp; done)) ?_)
      exact hK1_5 _ (by simp only [go_sem, simprocAttr, h1, h2, h5, h65, h72, g5_1, g5_2, g5_5, g5_65]) (by simp only [go_sem, simprocAttr, h1, h2, h5, h65, h72, g5_1, g5_2, g5_5, g5_65]; exact rfl) (by simp only [go_sem, simprocAttr, h1, h2, h5, h65, h72, g5_1, g5_2, g5_5, g5_65])
    simp only [List.drop_succ_cons, List.drop_zero]
    try simp only [go_sem, simprocAttr, h1, h2, h5, h6, h10, h65] at hL
    try clear h1 h2 h5 h6 h10 h65
    obtain ⟨h1, h2, h5⟩ := hL
    have h73 := hP
    clear hP
    try simp only [go_sem, simprocAttr, h1, h2, h5, h73]
    repeat' (refine And.intro (by first | rfl | omega | (simp; done)) ?_)
    refine hK _ _ (.mk (awl_live' [1, 2, 5, 73] fun ρ hL => ?_))
    try simp only [go_sem, simprocAttr, h1, h2, h5, h73] at hL
    try clear h1 h2 h5 h73
    obtain ⟨h1, h2, h5, h73⟩ := hL
    clear hK K
    refine awl_cond h73 (fun c2 => ?_) (fun c2 => ?_)
    ·
      try simp only [cnd] at c2
      refine awl_seq ?_
      refine awl_regS [(some 4, (.assign (.const (.bool false))), none)] rfl fun K hK => ?_
      try simp only [go_sem, simprocAttr, h1, h2, h5, h73]
      repeat' (refine And.intro (by first | rfl | omega | (simp; done)) ?_)
      refine hK _ _ (.mk (awl_live' [4] fun ρ hL => ?_))
      try simp only [go_sem, simprocAttr, h1, h2, h5, h73] at hL
      try clear h1 h2 h5 h73
      have h4 := hL
      clear hL
      clear hK K
      refine awl_ret ?_
      refine ret0 (by simp only [go_sem, simprocAttr, h4]; exact rfl) ?_
      try simp only [go_sem, simprocAttr]
      all_goals (rw [ready_eq hc0]; rcases c2 with ⟨a, b⟩ | ⟨a, b⟩ <;> (first | rw [hasA_of a, b] | rw [hasB_of a, b]) <;> simp only [Bool.not_false, Bool.not_true, Bool.or_false, Bool.and_false, Bool.false_and])
    ·
      try simp only [cnd] at c2
      refine awl_skip ?_
      refine awl_seq ?_
      refine awl_seq ?_
      refine awl_regS [(some 11, (.assign (.const (.int .i64 0))), none)] rfl fun K hK => ?_
      try simp only [go_sem, simprocAttr, h1, h2, h5, h73]
      repeat' (refine And.intro (by first | rfl | omega | (simp; done)) ?_)
      refine hK _ _ (.mk (awl_live' [1, 2, 5, 11] fun ρ hL => ?_))
      try simp only [go_sem, simprocAttr, h1, h2, h5, h73] at hL
      try clear h1 h2 h5 h73
      obtain ⟨h1, h2, h5, h11⟩ := hL
      clear hK K
      have e1_1 := h1
      have e1_2 := h2
      have e1_5 := h5
      refine awl_loopH (fun H0 n σ G => ∃ (k : Nat), n = i.toNat - k ∧ (k ≤ i.toNat) ∧ ((c.rob.take k).any waits = false) ∧ liveE [1, 2, 5] σ ρ ∧ σ 11 = .int .i64 (k : Int) ∧ G = H0) (fun H0 σ G => ((c.rob.getD i.toNat noEnt).x.op = 10 → (c.rob.take i.toNat).any waits = false) ∧ liveE [] σ ρ ∧ G = H0) ((fun (k : Nat) => i.toNat - k) 0) ?init1 (fun n ρ G hI => ?round1) (fun ρ G hJ => ?after1)
      case init1 => exact ⟨0, rfl, (Nat.zero_le _), (rfl), liveE_refl _ _, (h11), rfl⟩
      case round1 =>
        obtain ⟨k, hn, i1_0, i1_1, hL, k11, hG⟩ := hI
        subst hG
        try simp only [go_sem, simprocAttr, h1, h2, h5, h11] at hL
        clear h1 h2 h5 h11
        obtain ⟨h1, h2, h5⟩ := hL
        have h11 := k11
        clear k11
        refine awl_seq ?_
        refine awl_seq ?_
        refine awl_regS [(some 74, (.move (.tmp 11)), none), (some 75, (.move (.tmp 1)), none), (some 76, (.binOp .lss 3 (.tmp 74) (.tmp 75) 3), none), (some 77, (.move (.tmp 76)), none), (some 78, (.fieldAddr 94 (.tmp 5) 0), some (77, true)), (some 79, (.load 3 (.tmp 78)), some (77, true)), (some 80, (.binOp .eql 3 (.tmp 79) (.const (.int .i64 10)) 3), some (77, true)), (some 81, (.pick (.tmp 77) (.tmp 80) (.const (.bool false))), none)] rfl fun K hK => ?_
        try simp only [go_sem, simprocAttr, h1, h2, h5, h11]
        repeat' (refine And.intro (by first | rfl | omega | (simp; done)) ?_)
        refine awpS_live [1, 2, 5, 11, 77] fun ρ hL => ?_
        try simp only [go_sem, simprocAttr, h1, h2, h5, h11] at hL
        try clear h1 h2 h5 h11
        obtain ⟨h1, h2, h5, h11, h77⟩ := hL
        refine grp_andN (tc := 77) (tv := 80) (td := 81) (v := ?v7) 3 rfl [1, 2, 5, 11] h77 rfl (fun hb K1 hK1 => ?run) (fun hb => ?skip) (fun ρ hP hL => ?_)
        case skip =>
          exact awpS_skip (want := true) (b := _) (by rw [hb]; rfl) _ [] ρ h77 (fun _ _ => rfl) (by simp) rfl
        case run =>
          simp only [List.take_succ_cons, List.take_zero]
          rw [hb] at h77
          try simp only [go_sem, simprocAttr, h1, h2, h5, h11, h77]
          repeat' (refine And.intro (by first | rfl | omega | (simp; done)) ?_)
          exact hK1 _ (by simp only [go_sem, simprocAttr, h1, h2, h5, h11, h77]) (by simp only [go_sem, simprocAttr, h1, h2, h5, h11, h77]; exact rfl) (by simp only [go_sem, simprocAttr, h1, h2, h5, h11, h77])
        simp only [List.drop_succ_cons, List.drop_zero]
        try simp only [go_sem, simprocAttr, h1, h2, h5, h11, h77] at hL
        try clear h1 h2 h5 h11 h77
        obtain ⟨h1, h2, h5, h11⟩ := hL
        have h81 := hP
        clear hP
        try simp only [go_sem, simprocAttr, h1, h2, h5, h11, h81]
        repeat' (refine And.intro (by first | rfl | omega | (simp; done)) ?_)
        refine hK _ _ (.mk (awl_live' [1, 2, 5, 11, 81] fun ρ hL => ?_))
        try simp only [go_sem, simprocAttr, h1, h2, h5, h11, h81] at hL
        try clear h1 h2 h5 h11 h81
        obtain ⟨h1, h2, h5, h11, h81⟩ := hL
        clear hK K
        refine awl_cond h81 (fun c3 => ?_) (fun c3 => ?_)
        ·
          try simp only [cnd] at c3
          have hi1 : k < i.toNat := by omega
          refine awl_skip ?_
          refine awl_seq ?_
          refine awl_block fun R1 hw1 hR1 => ?_
          refine awl_seq ?_
          have hk2 : k < c.rob.length := by omega
          refine awl_regS [(some 84, (.fieldAddr 61 (.tmp 2) 1), none), (some 85, (.load 59 (.tmp 84)), none), (some 86, (.move (.tmp 11)), none), (some 87, (.indexAddr 59 (.tmp 85) (.tmp 86)), none), (some 88, (.load 96 (.tmp 87)), none), (some 12, (.alloc 96), none), (none, (.store 96 (.tmp 12) (.tmp 88)), none)] rfl fun K hK => ?_
          try simp only [go_sem, simprocAttr, h1, h2, h5, h11, h81, hi1, hk2]
          repeat' (refine And.intro (by first | rfl | omega | (simp; done)) ?_)
          refine hK _ _ (.mk (awl_live' [1, 2, 5, 11, 12] fun ρ hL => ?_))
          try simp only [go_sem, simprocAttr, h1, h2, h5, h11, h81, hi1, hk2] at hL
          try clear h1 h2 h5 h11 h81
          obtain ⟨h1, h2, h5, h11, h12⟩ := hL
          clear hK K
          refine awl_seq ?_
          refine awl_regS [(some 89, (.fieldAddr 96 (.tmp 12) 1), none), (some 90, (.fieldAddr 94 (.tmp 89) 0), none), (some 91, (.load 3 (.tmp 90)), none), (some 92, (.binOp .eql 3 (.tmp 91) (.const (.int .i64 11)) 3), none), (some 93, (.move (.tmp 92)), none), (some 94, (.fieldAddr 96 (.tmp 12) 2), some (93, true)), (some 95, (.load 4 (.tmp 94)), some (93, true)), (some 96, (.unOp .not 4 (.tmp 95)), some (93, true)), (some 97, (.pick (.tmp 93) (.tmp 96) (.const (.bool false))), none), (some 98, (.move (.tmp 97)), none), (some 99, (.fieldAddr 96 (.tmp 12) 1), some (98, false)), (some 100, (.fieldAddr 94 (.tmp 99) 0), some (98, false)), (some 101, (.load 3 (.tmp 100)), some (98, false)), (some 102, (.binOp .eql 3 (.tmp 101) (.const (.int .i64 14)) 3), some (98, false)), (some 103, (.pick (.tmp 98) (.const (.bool true)) (.tmp 102)), none)] rfl fun K hK => ?_
          try simp only [go_sem, simprocAttr, h1, h2, h5, h11, h12, hi1]
          repeat' (refine And.intro (by first | rfl | omega | (simp; done)) ?_)
          refine awpS_live [1, 2, 5, 11, 12, 93] fun ρ hL => ?_
          try simp only [go_sem, simprocAttr, h1, h2, h5, h11, h12, hi1] at hL
          try clear h1 h2 h5 h11 h12
          obtain ⟨h1, h2, h5, h11, h12, h93⟩ := hL
          refine grp_andN (tc := 93) (tv := 96) (td := 97) (v := ?v8) 3 rfl [1, 2, 5, 11, 12] h93 rfl (fun hb K1 hK1 => ?run) (fun hb => ?skip) (fun ρ hP hL => ?_)
          case skip =>
            exact awpS_skip (want := true) (b := _) (by rw [hb]; rfl) _ [] ρ h93 (fun _ _ => rfl) (by simp) rfl
          case run =>
            simp only [List.take_succ_cons, List.take_zero]
            rw [hb] at h93
            try simp only [go_sem, simprocAttr, h1, h2, h5, h11, h12, h93, hi1]
            repeat' (refine And.intro (by first | rfl | omega | (simp; done)) ?_)
            exact hK1 _ (by simp only [go_sem, simprocAttr, h1, h2, h5, h11, h12, h93, hi1]) (by simp only [go_sem, simprocAttr, h1, h2, h5, h11, h12, h93, hi1]; exact rfl) (by simp only [go_sem, simprocAttr, h1, h2, h5, h11, h12, h93, hi1])
          simp only [List.drop_succ_cons, List.drop_zero]
          try simp only [go_sem, simprocAttr, h1, h2, h5, h11, h12, h93, hi1] at hL
          try clear h1 h2 h5 h11 h12 h93
          obtain ⟨h1, h2, h5, h11, h12⟩ := hL
          have h97 := hP
          clear hP
          try simp only [go_sem, simprocAttr, h1, h2, h5, h11, h12, h97, hi1]
          repeat' (refine And.intro (by first | rfl | omega | (simp; done)) ?_)
          refine awpS_live [1, 2, 5, 11, 12, 98] fun ρ hL => ?_
          try simp only [go_sem, simprocAttr, h1, h2, h5, h11, h12, h97, hi1] at hL
          try clear h1 h2 h5 h11 h12 h97
          obtain ⟨h1, h2, h5, h11, h12, h98⟩ := hL
          refine grp_orN (tc := 98) (tv := 102) (td := 103) (v := ?v9) 4 rfl [1, 2, 5, 11] h98 rfl (fun hb K1 hK1 => ?run) (fun hb => ?skip) (fun ρ hP hL => ?_)
          case skip =>
            exact awpS_skip (want := false) (b := _) (by rw [hb]; rfl) _ [] ρ h98 (fun _ _ => rfl) (by simp) rfl
          case run =>
            simp only [List.take_succ_cons, List.take_zero]
            rw [hb] at h98
            try simp only [go_sem, simprocAttr, h1, h2, h5, h11, h12, h98, hi1]
            repeat' (refine And.intro (by first | rfl | omega | (simp; done)) ?_)
            exact hK1 _ (by simp only [go_sem, simprocAttr, h1, h2, h5, h11, h12, h98, hi1]) (by simp only [go_sem, simprocAttr, h1, h2, h5, h11, h12, h98, hi1]; exact rfl) (by simp only [go_sem, simprocAttr, h1, h2, h5, h11, h12, h98, hi1])
          simp only [List.drop_succ_cons, List.drop_zero]
          try simp only [go_sem, simprocAttr, h1, h2, h5, h11, h12, h98, hi1] at hL
          try clear h1 h2 h5 h11 h12 h98
          obtain ⟨h1, h2, h5, h11⟩ := hL
          have h103 := hP
          clear hP
          try simp only [go_sem, simprocAttr, h1, h2, h5, h11, h103, hi1]
          repeat' (refine And.intro (by first | rfl | omega | (simp; done)) ?_)
          refine hK _ _ (.mk (awl_live' [1, 2, 5, 11, 103] fun ρ hL => ?_))
          try simp only [go_sem, simprocAttr, h1, h2, h5, h11, h103, hi1] at hL
          try clear h1 h2 h5 h11 h103
          obtain ⟨h1, h2, h5, h11, h103⟩ := hL
          clear hK K
          refine awl_cond h103 (fun c4 => ?_) (fun c4 => ?_)
          ·
            try simp only [cnd] at c4
            refine awl_seq ?_
            refine awl_regS [(some 4, (.assign (.const (.bool false))), none)] rfl fun K hK => ?_
            try simp only [go_sem, simprocAttr, h1, h2, h5, h11, h103, hi1]
            repeat' (refine And.intro (by first | rfl | omega | (simp; done)) ?_)
            refine hK _ _ (.mk (awl_live' [4] fun ρ hL => ?_))
            try simp only [go_sem, simprocAttr, h1, h2, h5, h11, h103, hi1] at hL
            try clear h1 h2 h5 h11 h103
            have h4 := hL
            clear hL
            clear hK K
            refine awl_ret ?_
            refine blk_ret ?_
            refine loop_ret ?_
            refine ret0 (by simp only [go_sem, simprocAttr, h4, hi1]; exact rfl) ?_
            try simp only [go_sem, simprocAttr]
            all_goals try clear hR1
            all_goals (have hy : waits (c.rob.getD k noEnt) = true := (by simp only [waits, Bool.or_eq_true, Bool.and_eq_true, decide_eq_true_eq, Bool.not_eq_true']; exact c4); rw [ready_eq hc0, any_at (d := noEnt) (show k < i.toNat by omega) hk2 hy, decide_eq_true c3.2]; simp only [Bool.not_true, Bool.or_false, Bool.and_false])
          ·
            try simp only [cnd] at c4
            refine awl_skip ?_
            refine awl_nil ?_
            refine blk_normal (hR1 _ _ (.mk ?_))
            have w1 : IntKind.i64.wrap ((k : Int) + 1) = ((k + 1 : Nat) : Int) := by rw [wrap64 (by omega)]; omega
            refine awl_regS [(some 82, (.move (.tmp 11)), none), (some 83, (.binOp .add 3 (.tmp 82) (.const (.int .i64 1)) 3), none), (some 11, (.assign (.tmp 83)), none)] rfl fun K hK => ?_
            try simp only [go_sem, simprocAttr, h1, h2, h5, h11, h103, hi1, w1]
            repeat' (refine And.intro (by first | rfl | omega | (simp; done)) ?_)
            refine hK _ _ (.mk (awl_live' [1, 2, 5, 11] fun ρ hL => ?_))
            try simp only [go_sem, simprocAttr, h1, h2, h5, h11, h103, hi1, w1] at hL
            try clear h1 h2 h5 h11 h103
            obtain ⟨h1, h2, h5, h11⟩ := hL
            clear hK K
            refine awl_nil ?_
            refine loop_againW (Wk.keep [0, 1, 2, 3] rfl) _ ?meas ⟨k + 1, rfl, (by omega), (by exact any_take_succ (d := noEnt) hk2 i1_1 (by simp only [waits, Bool.or_eq_false_iff, Bool.and_eq_false_iff, decide_eq_false_iff_not, Bool.not_eq_false']; exact c4)), (by simp only [go_sem, simprocAttr, h1, h2, h5, h11, hi1, e1_1, e1_2, e1_5]), (by simp only [go_sem, simprocAttr, h1, h2, h5, h11, hi1, e1_1, e1_2, e1_5]; first | done | rfl), (by simp only [go_sem, simprocAttr, h1, h2, h5, h11, hi1, e1_1, e1_2, e1_5]; first | done | rfl)⟩
            case meas => subst hn; omega
        ·
          try simp only [cnd] at c3
          refine awl_exit ?_
          refine loop_break ?_
          exact ⟨(by exact fun h10 => by rw [show i.toNat = k by omega]; exact i1_1), (by simp only [go_sem, simprocAttr, h1, h2, h5, h11, h81, e1_1, e1_2, e1_5]), rfl⟩
      case after1 =>
        obtain ⟨j1_0, hL, hG⟩ := hJ
        subst hG
        clear h1 h2 h5 h11
        clear hL
        refine awl_seq ?_
        refine awl_regS [(some 4, (.assign (.const (.bool true))), none)] rfl fun K hK => ?_
        try simp only [go_sem, simprocAttr]
        repeat' (refine And.intro (by first | rfl | omega | (simp; done)) ?_)
        refine hK _ _ (.mk (awl_live' [4] fun ρ hL => ?_))
        try simp only [go_sem, simprocAttr] at hL
        have h4 := hL
        clear hL
        clear hK K
        refine awl_ret ?_
        refine ret0 (by simp only [go_sem, simprocAttr, h4]; exact rfl) ?_
        try simp only [go_sem, simprocAttr]
        all_goals try clear hR1
        all_goals (rw [ready_eq hc0, ready_fin c2, ready_third j1_0]; rfl)
set_option maxHeartbeats 8000000 in
set_option maxRecDepth 100000 in
theorem sat_impl_known (c : Cor) (i : Int) (p : Int) (hf : c.fit) (hw : 0 ≤ i ∧ i < c.rob.length) : Sat Try.prog 93 [.agg c.cells, .int .i64 i, .int .u8 p] [] (.bool (knownB c i p)) [] := by
  refine sat_mk [.tmp 6] 0 30 Try.call93 Try.func93 Try.ntmps93 rfl rfl rfl rfl rfl ?_
  refine awl_live' [0, 1, 2] fun ρ hL => ?_
  try simp only [go_sem, simprocAttr] at hL
  obtain ⟨h0, h1, h2⟩ := hL
  refine awl_seq ?_
  refine awl_regS [(some 3, (.box 61 (.tmp 0)), none), (some 6, (.assign (.const (.bool false))), none)] rfl fun K hK => ?_
  try simp only [go_sem, simprocAttr, h0, h1, h2]
  repeat' (refine And.intro (by first | rfl | omega | (simp; done)) ?_)
  refine hK _ _ (.mk (awl_live' [1, 2, 3] fun ρ hL => ?_))
  try simp only [go_sem, simprocAttr, h0, h1, h2] at hL
  try clear h0 h1 h2
  obtain ⟨h1, h2, h3⟩ := hL
  clear hK K
  refine awl_seq ?_
  have hn2 : i.toNat < c.rob.length := by omega
  refine awl_regS [(some 10, (.fieldAddr 61 (.tmp 3) 1), none), (some 11, (.load 59 (.tmp 10)), none), (some 12, (.move (.tmp 1)), none), (some 13, (.indexAddr 59 (.tmp 11) (.tmp 12)), none), (some 14, (.fieldAddr 96 (.tmp 13) 1), none), (some 15, (.load 94 (.tmp 14)), none), (some 7, (.alloc 94), none), (none, (.store 94 (.tmp 7) (.tmp 15)), none)] rfl fun K hK => ?_
  try simp only [go_sem, simprocAttr, h1, h2, h3, hn2]
  repeat' (refine And.intro (by first | rfl | omega | (simp; done)) ?_)
  refine hK _ _ (.mk (awl_live' [1, 2, 3, 7] fun ρ hL => ?_))
  try simp only [go_sem, simprocAttr, h1, h2, h3, hn2] at hL
  try clear h1 h2 h3
  obtain ⟨h1, h2, h3, h7⟩ := hL
  clear hK K
  refine awl_seq ?_
  refine awl_seq ?_
  refine awl_regS [(some 16, (.load 94 (.tmp 7)), none), (some 17, (.move (.tmp 2)), none), (some 18, (.call ⟨(.value (.func 130)), #[(.tmp 16), (.tmp 17)], #[94, 5]⟩), none), (some 19, (.unOp .not 4 (.tmp 18)), none)] rfl fun K hK => ?_
  try simp only [go_sem, simprocAttr, h1, h2, h3, h7]
  repeat' (refine And.intro (by first | rfl | omega | (simp; done)) ?_)
  refine opS_call_ro rfl (sat_impl_hasPart (c.rob.getD i.toNat noEnt).x p) ?ha ?hv ?hh ?_
  case ha => simp only [go_sem, simprocAttr, h1, h2, h3, h7]; first | done | rfl
  case hv => first | rfl | (simp only [go_sem]; done)
  case hh => first | rfl | (simp only [go_sem]; done)
  try simp only [go_sem, simprocAttr, h1, h2, h3, h7]
  repeat' (refine And.intro (by first | rfl | omega | (simp; done)) ?_)
  refine hK _ _ (.mk (awl_live' [1, 2, 3, 7, 19] fun ρ hL => ?_))
  try simp only [go_sem, simprocAttr, h1, h2, h3, h7] at hL
  try clear h1 h2 h3 h7
  obtain ⟨h1, h2, h3, h7, h19⟩ := hL
  clear hK K
  refine awl_cond h19 (fun c1 => ?_) (fun c1 => ?_)
  ·
    try simp only [cnd] at c1
    refine awl_seq ?_
    refine awl_regS [(some 6, (.assign (.const (.bool true))), none)] rfl fun K hK => ?_
    try simp only [go_sem, simprocAttr, h1, h2, h3, h7, h19]
    repeat' (refine And.intro (by first | rfl | omega | (simp; done)) ?_)
    refine hK _ _ (.mk (awl_live' [6] fun ρ hL => ?_))
    try simp only [go_sem, simprocAttr, h1, h2, h3, h7, h19] at hL
    try clear h1 h2 h3 h7 h19
    have h6 := hL
    clear hL
    clear hK K
    refine awl_ret ?_
    refine ret0 (by simp only [go_sem, simprocAttr, h6]; exact rfl) ?_
    try simp only [go_sem, simprocAttr]
    all_goals (rw [knownB, c1]; rfl)
  ·
    try simp only [cnd] at c1
    refine awl_skip ?_
    refine awl_seq ?_
    refine awl_regD mixed [(some 21, (.load 61 (.tmp 3)), none), (some 22, (.move (.tmp 1)), none), (some 23, (.load 94 (.tmp 7)), none), (some 24, (.move (.tmp 2)), none), (some 25, (.call ⟨(.value (.func 131)), #[(.tmp 23), (.tmp 24)], #[94, 5]⟩), none), (some 26, (.call ⟨(.value (.func 44)), #[(.tmp 21), (.tmp 22), (.tmp 25)], #[61, 3, 3]⟩), none), (some 20, (.move (.tmp 26)), none), (some 27, (.extract (.tmp 20) 0), none), (some 28, (.extract (.tmp 20) 1), none), (some 8, (.alloc 42), none), (none, (.store 42 (.tmp 8) (.tmp 27)), none), (some 9, (.assign (.tmp 28)), none)] rfl fun K hK => ?_
    try simp only [go_sem, simprocAttr, h1, h2, h3, h7, h19]
    repeat' (refine And.intro (by first | omega | (exact ⟨[0, 0, 0, 0, 12, 31, 63, 127, 127, 0, 767, 2047], by kernel_rfl⟩) | kernel_rfl) ?_)
    refine dS_call_ro rfl (sat_impl_partOf (c.rob.getD i.toNat noEnt).x p) ?ha ?hv ?hh ?_
    case ha => simp only [go_sem, simprocAttr, h1, h2, h3, h7, h19]; first | done | rfl
    case hv => first | rfl | (simp only [go_sem]; done)
    case hh => first | rfl | (simp only [go_sem]; done)
    try simp only [go_sem, simprocAttr, h1, h2, h3, h7, h19]
    repeat' (refine And.intro (by first | omega | (exact ⟨[0, 0, 0, 0, 12, 31, 63, 127, 127, 0, 767, 2047], by kernel_rfl⟩) | kernel_rfl) ?_)
    refine dS_call_ro rfl (sat_impl_Value c i (partI (c.rob.getD i.toNat noEnt).x p) hf) ?ha ?hv ?hh ?_
    case ha => simp only [go_sem, simprocAttr, h1, h2, h3, h7, h19]; first | done | rfl
    case hv => first | rfl | (simp only [go_sem]; done)
    case hh => first | rfl | (simp only [go_sem]; done)
    try simp only [go_sem, simprocAttr, h1, h2, h3, h7, h19]
    repeat' (refine And.intro (by first | omega | (exact ⟨[0, 0, 0, 0, 12, 31, 63, 127, 127, 0, 767, 2047], by kernel_rfl⟩) | kernel_rfl) ?_)
    refine hK _ _ (.mk (awl_live' [9] fun ρ hL => ?_))
    try simp only [go_sem, simprocAttr, h1, h2, h3, h7, h19] at hL
    try clear h1 h2 h3 h7 h19
    have h9 := hL
    clear hL
    clear hK K
    refine awl_seq ?_
    refine awl_regS [(some 29, (.move (.tmp 9)), none), (some 6, (.assign (.tmp 29)), none)] rfl fun K hK => ?_
    try simp only [go_sem, simprocAttr, h9]
    repeat' (refine And.intro (by first | rfl | omega | (simp; done)) ?_)
    refine hK _ _ (.mk (awl_live' [6] fun ρ hL => ?_))
    try simp only [go_sem, simprocAttr, h9] at hL
    try clear h9
    have h6 := hL
    clear hL
    clear hK K
    refine awl_ret ?_
    refine ret0 (by simp only [go_sem, simprocAttr, h6]; exact rfl) ?_
    try simp only [go_sem, simprocAttr]
    all_goals (rw [knownB, c1]; rfl)
set_option maxHeartbeats 8000000 in
set_option maxRecDepth 100000 in
theorem sat_impl_Ready_1 (x : Ent)  : Sat Try.prog 94 [.agg x.cells] [] (.bool (waits x)) [] := by
  refine sat_mk [.tmp 2] 0 18 Try.call94 Try.func94 Try.ntmps94 rfl rfl rfl rfl rfl ?_
  refine awl_live' [0] fun ρ hL => ?_
  try simp only [go_sem, simprocAttr] at hL
  have h0 := hL
  clear hL
  refine awl_seq ?_
  refine awl_regS [(some 1, (.box 96 (.tmp 0)), none), (some 2, (.assign (.const (.bool false))), none)] rfl fun K hK => ?_
  try simp only [go_sem, simprocAttr, h0]
  repeat' (refine And.intro (by first | rfl | omega | (simp; done)) ?_)
  refine hK _ _ (.mk (awl_live' [1] fun ρ hL => ?_))
  try simp only [go_sem, simprocAttr, h0] at hL
  try clear h0
  have h1 := hL
  clear hL
  clear hK K
  refine awl_seq ?_
  refine awl_regS [(some 3, (.fieldAddr 96 (.tmp 1) 1), none), (some 4, (.fieldAddr 94 (.tmp 3) 0), none), (some 5, (.load 3 (.tmp 4)), none), (some 6, (.binOp .eql 3 (.tmp 5) (.const (.int .i64 11)) 3), none), (some 7, (.move (.tmp 6)), none), (some 8, (.fieldAddr 96 (.tmp 1) 2), some (7, true)), (some 9, (.load 4 (.tmp 8)), some (7, true)), (some 10, (.unOp .not 4 (.tmp 9)), some (7, true)), (some 11, (.pick (.tmp 7) (.tmp 10) (.const (.bool false))), none), (some 12, (.move (.tmp 11)), none), (some 13, (.fieldAddr 96 (.tmp 1) 1), some (12, false)), (some 14, (.fieldAddr 94 (.tmp 13) 0), some (12, false)), (some 15, (.load 3 (.tmp 14)), some (12, false)), (some 16, (.binOp .eql 3 (.tmp 15) (.const (.int .i64 14)) 3), some (12, false)), (some 17, (.pick (.tmp 12) (.const (.bool true)) (.tmp 16)), none), (some 2, (.assign (.tmp 17)), none)] rfl fun K hK => ?_
  try simp only [go_sem, simprocAttr, h1]
  repeat' (refine And.intro (by first | rfl | omega | (simp; done)) ?_)
  refine awpS_live [1, 7] fun ρ hL => ?_
  try simp only [go_sem, simprocAttr, h1] at hL
  try clear h1
  obtain ⟨h1, h7⟩ := hL
  refine grp_andN (tc := 7) (tv := 10) (td := 11) (v := ?v1) 3 rfl [1] h7 rfl (fun hb K1 hK1 => ?run) (fun hb => ?skip) (fun ρ hP hL => ?_)
  case skip =>
    exact awpS_skip (want := true) (b := _) (by rw [hb]; rfl) _ [] ρ h7 (fun _ _ => rfl) (by simp) rfl
  case run =>
    simp only [List.take_succ_cons, List.take_zero]
    rw [hb] at h7
    try simp only [go_sem, simprocAttr, h1, h7]
    repeat' (refine And.intro (by first | rfl | omega | (simp; done)) ?_)
    exact hK1 _ (by simp only [go_sem, simprocAttr, h1, h7]) (by simp only [go_sem, simprocAttr, h1, h7]; exact rfl) (by simp only [go_sem, simprocAttr, h1, h7])
  simp only [List.drop_succ_cons, List.drop_zero]
  try simp only [go_sem, simprocAttr, h1, h7] at hL
  try clear h1 h7
  have h1 := hL
  clear hL
  have h11 := hP
  clear hP
  try simp only [go_sem, simprocAttr, h1, h11]
  repeat' (refine And.intro (by first | rfl | omega | (simp; done)) ?_)
  refine awpS_live [1, 12] fun ρ hL => ?_
  try simp only [go_sem, simprocAttr, h1, h11] at hL
  try clear h1 h11
  obtain ⟨h1, h12⟩ := hL
  refine grp_orN (tc := 12) (tv := 16) (td := 17) (v := ?v2) 4 rfl [] h12 rfl (fun hb K1 hK1 => ?run) (fun hb => ?skip) (fun ρ hP hL => ?_)
  case skip =>
    exact awpS_skip (want := false) (b := _) (by rw [hb]; rfl) _ [] ρ h12 (fun _ _ => rfl) (by simp) rfl
  case run =>
    simp only [List.take_succ_cons, List.take_zero]
    rw [hb] at h12
    try simp only [go_sem, simprocAttr, h1, h12]
    repeat' (refine And.intro (by first | rfl | omega | (simp; done)) ?_)
    exact hK1 _ (by simp only [go_sem, simprocAttr, h1, h12]) (by simp only [go_sem, simprocAttr, h1, h12]; exact rfl) (by simp only [go_sem, simprocAttr, h1, h12])
  simp only [List.drop_succ_cons, List.drop_zero]
  clear hL h1 h12
  have h17 := hP
  clear hP
  try simp only [go_sem, simprocAttr, h17]
  repeat' (refine And.intro (by first | rfl | omega | (simp; done)) ?_)
  refine hK _ _ (.mk (awl_live' [2] fun ρ hL => ?_))
  try simp only [go_sem, simprocAttr, h17] at hL
  try clear h17
  have h2 := hL
  clear hL
  clear hK K
  refine awl_ret ?_
  refine ret0 (by simp only [go_sem, simprocAttr, h2]; exact rfl) ?_
  try simp only [go_sem, simprocAttr]
  all_goals (rfl)
set_option maxHeartbeats 8000000 in
set_option maxRecDepth 100000 in
theorem sat_impl_Ready (c : Cor) (i : Int) (hf : c.fit) : Sat Try.prog 46 [.agg c.cells, .int .i64 i] [] (.bool (ready c i)) [] := by
  refine sat_mk [.tmp 4] 0 53 Try.call46 Try.func46 Try.ntmps46 rfl rfl rfl rfl rfl ?_
  refine awl_live' [0, 1] fun ρ hL => ?_
  try simp only [go_sem, simprocAttr] at hL
  obtain ⟨h0, h1⟩ := hL
  refine awl_seq ?_
  refine awl_regS [(some 2, (.box 61 (.tmp 0)), none), (some 4, (.assign (.const (.bool false))), none)] rfl fun K hK => ?_
  try simp only [go_sem, simprocAttr, h0, h1]
  repeat' (refine And.intro (by first | rfl | omega | (simp; done)) ?_)
  refine hK _ _ (.mk (awl_live' [1, 2] fun ρ hL => ?_))
  try simp only [go_sem, simprocAttr, h0, h1] at hL
  try clear h0 h1
  obtain ⟨h1, h2⟩ := hL
  clear hK K
  refine awl_seq ?_
  refine awl_seq ?_
  have hf1 := hf.2.1
  have w0 : IntKind.i64.wrap ((c.rob.length : Int) - 1) = (c.rob.length : Int) - 1 := wrap64 (by omega)
  refine awl_regS [(some 5, (.load 61 (.tmp 2)), none), (some 6, (.call ⟨(.value (.func 39)), #[(.tmp 5)], #[61]⟩), none), (some 7, (.unOp .not 4 (.tmp 6)), none), (some 8, (.move (.tmp 7)), none), (some 9, (.move (.tmp 1)), some (8, false)), (some 10, (.fieldAddr 61 (.tmp 2) 1), some (8, false)), (some 11, (.load 59 (.tmp 10)), some (8, false)), (some 12, (.call ⟨(.builtin .len), #[(.tmp 11)], #[59]⟩), some (8, false)), (some 13, (.binOp .sub 3 (.tmp 12) (.const (.int .i64 1)) 3), some (8, false)), (some 14, (.call ⟨(.value (.func 91)), #[(.tmp 9), (.const (.int .i64 0)), (.tmp 13)], #[3, 3, 3]⟩), some (8, false)), (some 15, (.unOp .not 4 (.tmp 14)), some (8, false)), (some 16, (.pick (.tmp 8) (.const (.bool true)) (.tmp 15)), none), (some 17, (.move (.tmp 16)), none), (some 18, (.fieldAddr 61 (.tmp 2) 1), some (17, false)), (some 19, (.load 59 (.tmp 18)), some (17, false)), (some 20, (.move (.tmp 1)), some (17, false)), (some 21, (.indexAddr 59 (.tmp 19) (.tmp 20)), some (17, false)), (some 22, (.fieldAddr 96 (.tmp 21) 2), some (17, false)), (some 23, (.load 4 (.tmp 22)), some (17, false)), (some 24, (.pick (.tmp 17) (.const (.bool true)) (.tmp 23)), none), (some 25, (.move (.tmp 24)), none), (some 26, (.load 61 (.tmp 2)), some (25, false)), (some 27, (.move (.tmp 1)), some (25, false)), (some 28, (.call ⟨(.value (.func 93)), #[(.tmp 26), (.tmp 27), (.const (.int .u8 65))], #[61, 3, 5]⟩), some (25, false)), (some 29, (.unOp .not 4 (.tmp 28)), some (25, false)), (some 30, (.pick (.tmp 25) (.const (.bool true)) (.tmp 29)), none), (some 31, (.move (.tmp 30)), none), (some 32, (.load 61 (.tmp 2)), some (31, false)), (some 33, (.move (.tmp 1)), some (31, false)), (some 34, (.call ⟨(.value (.func 93)), #[(.tmp 32), (.tmp 33), (.const (.int .u8 66))], #[61, 3, 5]⟩), some (31, false)), (some 35, (.unOp .not 4 (.tmp 34)), some (31, false)), (some 36, (.pick (.tmp 31) (.const (.bool true)) (.tmp 35)), none)] rfl fun K hK => ?_
  try simp only [go_sem, simprocAttr, h1, h2, w0]
  repeat' (refine And.intro (by first | rfl | omega | (simp; done)) ?_)
  refine opS_call_ro rfl (sat_impl_CoreOk c hf) ?ha ?hv ?hh ?_
  case ha => simp only [go_sem, simprocAttr, h1, h2, w0]; first | done | rfl
  case hv => first | rfl | (simp only [go_sem]; done)
  case hh => first | rfl | (simp only [go_sem]; done)
  try simp only [go_sem, simprocAttr, h1, h2, w0]
  repeat' (refine And.intro (by first | rfl | omega | (simp; done)) ?_)
  refine awpS_live [1, 2, 8] fun ρ hL => ?_
  try simp only [go_sem, simprocAttr, h1, h2, w0] at hL
  try clear h1 h2
  obtain ⟨h1, h2, h8⟩ := hL
  refine grp_orN (tc := 8) (tv := 15) (td := 16) (v := ?v1) 7 rfl [1, 2] h8 rfl (fun hb K1 hK1 => ?run) (fun hb => ?skip) (fun ρ hP hL => ?_)
  case skip =>
    exact awpS_skip (want := false) (b := _) (by rw [hb]; rfl) _ [] ρ h8 (fun _ _ => rfl) (by simp) rfl
  case run =>
    simp only [List.take_succ_cons, List.take_zero]
    rw [hb] at h8
    try simp only [go_sem, simprocAttr, h1, h2, h8, w0]
    repeat' (refine And.intro (by first | rfl | omega | (simp; done)) ?_)
    refine opS_call_ro rfl (sat_impl_in ?_ ?_ ?_) ?ha ?hv ?hh ?_
    case ha => simp only [go_sem, simprocAttr, h1, h2, h8, w0]; first | done | rfl
    case hv => first | rfl | (simp only [go_sem]; done)
    case hh => first | rfl | (simp only [go_sem]; done)
    try simp only [go_sem, simprocAttr, h1, h2, h8, w0]
    repeat' (refine And.intro (by first | rfl | omega | (simp; done)) ?_)
    exact hK1 _ (by simp only [go_sem, simprocAttr, h1, h2, h8, w0]) (by simp only [go_sem, simprocAttr, h1, h2, h8, w0]; exact rfl) (by simp only [go_sem, simprocAttr, h1, h2, h8, w0])
  simp only [List.drop_succ_cons, List.drop_zero]
  try simp only [go_sem, simprocAttr, h1, h2, h8, w0] at hL
  try clear h1 h2 h8
  obtain ⟨h1, h2⟩ := hL
  have h16 := hP
  clear hP
  try simp only [go_sem, simprocAttr, h1, h2, h16, w0]
  repeat' (refine And.intro (by first | rfl | omega | (simp; done)) ?_)
  refine awpS_live [1, 2, 17] fun ρ hL => ?_
  try simp only [go_sem, simprocAttr, h1, h2, h16, w0] at hL
  try clear h1 h2 h16
  obtain ⟨h1, h2, h17⟩ := hL
  refine grp_orN (tc := 17) (tv := 23) (td := 24) (v := ?v2) 6 rfl [1, 2] h17 rfl (fun hb K1 hK1 => ?run) (fun hb => ?skip) (fun ρ hP hL => ?_)
  case skip =>
    exact awpS_skip (want := false) (b := _) (by rw [hb]; rfl) _ [] ρ h17 (fun _ _ => rfl) (by simp) rfl
  case run =>
    simp only [List.take_succ_cons, List.take_zero]
    rw [hb] at h17
    have hb2 : inR i 0 ((c.rob.length : Int) - 1) = true := by revert hb; cases inR i 0 ((c.rob.length : Int) - 1) <;> simp
    have hw := inR_iff.1 hb2
    have hn2 : i.toNat < c.rob.length := by omega
    try simp only [go_sem, simprocAttr, h1, h2, h17, hn2, w0]
    repeat' (refine And.intro (by first | rfl | omega | (simp; done)) ?_)
    exact hK1 _ (by simp only [go_sem, simprocAttr, h1, h2, h17, hn2, w0]) (by simp only [go_sem, simprocAttr, h1, h2, h17, hn2, w0]; exact rfl) (by simp only [go_sem, simprocAttr, h1, h2, h17, hn2, w0])
  simp only [List.drop_succ_cons, List.drop_zero]
  try simp only [go_sem, simprocAttr, h1, h2, h17, w0] at hL
  try clear h1 h2 h17
  obtain ⟨h1, h2⟩ := hL
  have h24 := hP
  clear hP
  try simp only [go_sem, simprocAttr, h1, h2, h24, w0]
  repeat' (refine And.intro (by first | rfl | omega | (simp; done)) ?_)
  refine awpS_live [1, 2, 25] fun ρ hL => ?_
  try simp only [go_sem, simprocAttr, h1, h2, h24, w0] at hL
  try clear h1 h2 h24
  obtain ⟨h1, h2, h25⟩ := hL
  refine grp_orN (tc := 25) (tv := 29) (td := 30) (v := ?v3) 4 rfl [1, 2] h25 rfl (fun hb K1 hK1 => ?run) (fun hb => ?skip) (fun ρ hP hL => ?_)
  case skip =>
    exact awpS_skip (want := false) (b := _) (by rw [hb]; rfl) _ [] ρ h25 (fun _ _ => rfl) (by simp) rfl
  case run =>
    simp only [List.take_succ_cons, List.take_zero]
    rw [hb] at h25
    have hb2 : inR i 0 ((c.rob.length : Int) - 1) = true := by revert hb; cases inR i 0 ((c.rob.length : Int) - 1) <;> simp
    have hw := inR_iff.1 hb2
    have hn2 : i.toNat < c.rob.length := by omega
    try simp only [go_sem, simprocAttr, h1, h2, h25, w0]
    repeat' (refine And.intro (by first | rfl | omega | (simp; done)) ?_)
    refine opS_call_ro rfl (sat_impl_known c i 65 hf (by omega)) ?ha ?hv ?hh ?_
    case ha => simp only [go_sem, simprocAttr, h1, h2, h25, w0]; first | done | rfl
    case hv => first | rfl | (simp only [go_sem]; done)
    case hh => first | rfl | (simp only [go_sem]; done)
    try simp only [go_sem, simprocAttr, h1, h2, h25, w0]
    repeat' (refine And.intro (by first | rfl | omega | (simp; done)) ?_)
    exact hK1 _ (by simp only [go_sem, simprocAttr, h1, h2, h25, w0]) (by simp only [go_sem, simprocAttr, h1, h2, h25, w0]; exact rfl) (by simp only [go_sem, simprocAttr, h1, h2, h25, w0])
  simp only [List.drop_succ_cons, List.drop_zero]
  try simp only [go_sem, simprocAttr, h1, h2, h25, w0] at hL
  try clear h1 h2 h25
  obtain ⟨h1, h2⟩ := hL
  have h30 := hP
  clear hP
  try simp only [go_sem, simprocAttr, h1, h2, h30, w0]
  repeat' (refine And.intro (by first | rfl | omega | (simp; done)) ?_)
  refine awpS_live [1, 2, 31] fun ρ hL => ?_
  try simp only [go_sem, simprocAttr, h1, h2, h30, w0] at hL
  try clear h1 h2 h30
  obtain ⟨h1, h2, h31⟩ := hL
  refine grp_orN (tc := 31) (tv := 35) (td := 36) (v := ?v4) 4 rfl [1, 2] h31 rfl (fun hb K1 hK1 => ?run) (fun hb => ?skip) (fun ρ hP hL => ?_)
  case skip =>
    exact awpS_skip (want := false) (b := _) (by rw [hb]; rfl) _ [] ρ h31 (fun _ _ => rfl) (by simp) rfl
  case run =>
    simp only [List.take_succ_cons, List.take_zero]
    rw [hb] at h31
    have hb2 : inR i 0 ((c.rob.length : Int) - 1) = true := by revert hb; cases inR i 0 ((c.rob.length : Int) - 1) <;> simp
    have hw := inR_iff.1 hb2
    have hn2 : i.toNat < c.rob.length := by omega
    try simp only [go_sem, simprocAttr, h1, h2, h31, w0]
    repeat' (refine And.intro (by first | rfl | omega | (simp; done)) ?_)
    refine opS_call_ro rfl (sat_impl_known c i 66 hf (by omega)) ?ha ?hv ?hh ?_
    case ha => simp only [go_sem, simprocAttr, h1, h2, h31, w0]; first | done | rfl
    case hv => first | rfl | (simp only [go_sem]; done)
    case hh => first | rfl | (simp only [go_sem]; done)
    try simp only [go_sem, simprocAttr, h1, h2, h31, w0]
    repeat' (refine And.intro (by first | rfl | omega | (simp; done)) ?_)
    exact hK1 _ (by simp only [go_sem, simprocAttr, h1, h2, h31, w0]) (by simp only [go_sem, simprocAttr, h1, h2, h31, w0]; exact rfl) (by simp only [go_sem, simprocAttr, h1, h2, h31, w0])
  simp only [List.drop_succ_cons, List.drop_zero]
  try simp only [go_sem, simprocAttr, h1, h2, h31, w0] at hL
  try clear h1 h2 h31
  obtain ⟨h1, h2⟩ := hL
  have h36 := hP
  clear hP
  try simp only [go_sem, simprocAttr, h1, h2, h36, w0]
  repeat' (refine And.intro (by first | rfl | omega | (simp; done)) ?_)
  refine hK _ _ (.mk (awl_live' [1, 2, 36] fun ρ hL => ?_))
  try simp only [go_sem, simprocAttr, h1, h2, h36, w0] at hL
  try clear h1 h2 h36
  obtain ⟨h1, h2, h36⟩ := hL
  clear hK K
  refine awl_cond h36 (fun c1 => ?_) (fun c1 => ?_)
  ·
    try simp only [cnd] at c1
    refine awl_seq ?_
    refine awl_regS [(some 4, (.assign (.const (.bool false))), none)] rfl fun K hK => ?_
    try simp only [go_sem, simprocAttr, h1, h2, h36]
    repeat' (refine And.intro (by first | rfl | omega | (simp; done)) ?_)
    refine hK _ _ (.mk (awl_live' [4] fun ρ hL => ?_))
    try simp only [go_sem, simprocAttr, h1, h2, h36] at hL
    try clear h1 h2 h36
    have h4 := hL
    clear hL
    clear hK K
    refine awl_ret ?_
    refine ret0 (by simp only [go_sem, simprocAttr, h4]; exact rfl) ?_
    try simp only [go_sem, simprocAttr]
    all_goals (rw [ready_not c1])
  ·
    try simp only [cnd] at c1
    refine awl_skip ?_
    refine awl_seq ?_
    have hc0 : corOk c = true ∧ inR i 0 ((c.rob.length : Int) - 1) = true ∧ (c.rob.getD i.toNat noEnt).done = false := by revert c1; cases corOk c <;> cases inR i 0 ((c.rob.length : Int) - 1) <;> cases (c.rob.getD i.toNat noEnt).done <;> simp
    have hw := inR_iff.1 hc0.2.1
    have hn2 : i.toNat < c.rob.length := by omega
    have hmin : min i.toNat c.rob.length = i.toNat := by omega
    have hi0 : 0 ≤ i := hw.1
    have hi9 : i ≤ (c.rob.length : Int) := by omega
    refine awl_regS [(some 37, (.fieldAddr 61 (.tmp 2) 1), none), (some 38, (.load 59 (.tmp 37)), none), (some 39, (.move (.tmp 1)), none), (some 40, (.indexAddr 59 (.tmp 38) (.tmp 39)), none), (some 41, (.fieldAddr 96 (.tmp 40) 1), none), (some 42, (.fieldAddr 94 (.tmp 41) 0), none), (some 43, (.load 3 (.tmp 42)), none), (some 44, (.binOp .neq 3 (.tmp 43) (.const (.int .i64 10)) 3), none), (some 45, (.move (.tmp 44)), none), (some 46, (.fieldAddr 61 (.tmp 2) 1), some (45, false)), (some 47, (.load 59 (.tmp 46)), some (45, false)), (some 48, (.move (.tmp 1)), some (45, false)), (some 49, (.slice 59 (.tmp 47) none (some (.tmp 48)) none), some (45, false)), (some 50, (.call ⟨(.value (.func 83)), #[(.tmp 49), (.func 94)], #[59, 107]⟩), some (45, false)), (some 51, (.unOp .not 4 (.tmp 50)), some (45, false)), (some 52, (.pick (.tmp 45) (.const (.bool true)) (.tmp 51)), none), (some 4, (.assign (.tmp 52)), none)] rfl fun K hK => ?_
    try simp only [go_sem, simprocAttr, h1, h2, h36, hn2, ents_takeN, List.length_take, hmin, hi0, hi9, Nat.sub_zero, Option.isSome_none]
    repeat' (refine And.intro (by first | rfl | omega | (simp; done)) ?_)
    refine awpS_live [1, 2, 45] fun ρ hL => ?_
    try simp only [go_sem, simprocAttr, h1, h2, h36, hn2, ents_takeN, List.length_take, hmin, hi0, hi9, Nat.sub_zero, Option.isSome_none] at hL
    try clear h1 h2 h36
    obtain ⟨h1, h2, h45⟩ := hL
    refine grp_orN (tc := 45) (tv := 51) (td := 52) (v := ?v5) 6 rfl [] h45 rfl (fun hb K1 hK1 => ?run) (fun hb => ?skip) (fun ρ hP hL => ?_)
    case skip =>
      exact awpS_skip (want := false) (b := _) (by rw [hb]; rfl) _ [] ρ h45 (fun _ _ => rfl) (by simp) rfl
    case run =>
      simp only [List.take_succ_cons, List.take_zero]
      rw [hb] at h45
      try simp only [go_sem, simprocAttr, h1, h2, h45, hn2, ents_takeN, List.length_take, hmin, hi0, hi9, Nat.sub_zero, Option.isSome_none]
      repeat' (refine And.intro (by first | rfl | omega | (simp; done)) ?_)
      refine opS_call_ro rfl (sat_slices_ContainsFunc_impl_Entry_impl_Entry (c.rob.take i.toNat) _ [] waits (by rw [List.length_take]; omega) (fun _ _ _ => rfl) (fun x => sat_impl_Ready_1 x)) ?ha ?hv ?hh ?_
      case ha => simp only [go_sem, simprocAttr, h1, h2, h45, hn2, ents_takeN, List.length_take, hmin, hi0, hi9, Nat.sub_zero, Option.isSome_none]; first | done | rfl
      case hv => first | rfl | (simp only [go_sem]; done)
      case hh => first | rfl | (simp only [go_sem]; done)
      try simp only [go_sem, simprocAttr, h1, h2, h45, hn2, ents_takeN, List.length_take, hmin, hi0, hi9, Nat.sub_zero, Option.isSome_none]
      repeat' (refine And.intro (by first | rfl | omega | (simp; done)) ?_)
      exact hK1 _ (by simp only [go_sem, simprocAttr, h1, h2, h45, hn2, ents_takeN, List.length_take, hmin, hi0, hi9, Nat.sub_zero, Option.isSome_none]) (by simp only [go_sem, simprocAttr, h1, h2, h45, hn2, ents_takeN, List.length_take, hmin, hi0, hi9, Nat.sub_zero, Option.isSome_none]; exact rfl) (by simp only [go_sem, simprocAttr, h1, h2, h45, hn2, ents_takeN, List.length_take, hmin, hi0, hi9, Nat.sub_zero, Option.isSome_none])
    simp only [List.drop_succ_cons, List.drop_zero]
    clear hL h1 h2 h45
    have h52 := hP
    clear hP
    try simp only [go_sem, simprocAttr, h52, hn2, ents_takeN, List.length_take, hmin, hi0, hi9, Nat.sub_zero, Option.isSome_none]
    repeat' (refine And.intro (by first | rfl | omega | (simp; done)) ?_)
    refine hK _ _ (.mk (awl_live' [4] fun ρ hL => ?_))
    try simp only [go_sem, simprocAttr, h52, hn2, ents_takeN, List.length_take, hmin, hi0, hi9, Nat.sub_zero, Option.isSome_none] at hL
    try clear h52
    have h4 := hL
    clear hL
    clear hK K
    refine awl_ret ?_
    refine ret0 (by simp only [go_sem, simprocAttr, h4]; exact rfl) ?_
    try simp only [go_sem, simprocAttr]
    all_goals (rw [ready_is c1])
end Go.Proofs.Ytgddflnhibhacaa.AM
