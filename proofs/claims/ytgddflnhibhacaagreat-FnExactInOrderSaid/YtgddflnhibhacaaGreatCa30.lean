/- A step; steps in order. No conditions but those each theorem bears. -/
import Derived.Test.YtgddflnhibhacaaGreatFa
import Derived.Test.YtgddflnhibhacaaGreatSp10
import Derived.Test.YtgddflnhibhacaaGreatCa29
set_option linter.unusedSimpArgs false
set_option linter.unusedVariables false
namespace Go.Proofs.YtgddflnhibhacaaGreat.AM
open Go

set_option maxHeartbeats 8000000 in
set_option maxRecDepth 100000 in
theorem sat_spec_Step (l : List Ins) (s : Stt) (hl : l.length ≤ 1048576) (hf : s.fit) : Sat Tryz.prog 8 [.sl l.length l.length (rows l), .agg s.cells] [] (.agg ((step l s).own 0 1 2)) (step l s).blks := by
 refine sat_mk [.cell 4 42] 0 73 Tryz.call8 Tryz.func8 Tryz.ntmps8 rfl rfl rfl rfl rfl ?_
 refine awl_live' [0, 1] fun ρ hL => ?_
 try simp only [go_sem, simprocAttr] at hL
 obtain ⟨h0, h1⟩ := hL
 refine awl_seq ?_
 refine awl_regS _ rfl fun K hK => ?_
 try simp only [go_sem, simprocAttr, h0, h1]
 repeat' (refine And.intro (by first | rfl | omega | (simp; done)) ?_)
 refine hK _ _ (.mk (awl_live' [0, 3, 4] fun ρ hL => ?_))
 try simp only [go_sem, simprocAttr, h0, h1] at hL
 try clear h0 h1
 obtain ⟨h0, h3, h4⟩ := hL
 clear hK K
 refine awl_seq ?_
 refine awl_seq ?_
 refine awl_regS _ rfl fun K hK => ?_
 try simp only [go_sem, simprocAttr, h0, h3, h4]
 repeat' (refine And.intro (by first | rfl | omega | (simp; done)) ?_)
 refine opS_call_ro rfl (sat_spec_StateOk s hf) ?ha ?hv ?hh ?_
 case ha => simp only [go_sem, simprocAttr, h0, h3, h4]; first | done | rfl
 case hv => first | rfl | (simp only [go_sem]; done)
 case hh => first | rfl | (simp only [go_sem]; done)
 try simp only [go_sem, simprocAttr, h0, h3, h4]
 repeat' (refine And.intro (by first | rfl | omega | (simp; done)) ?_)
 refine hK _ _ (.mk (awl_live' [0, 3, 4, 15] fun ρ hL => ?_))
 try simp only [go_sem, simprocAttr, h0, h3, h4] at hL
 try clear h0 h3 h4
 obtain ⟨h0, h3, h4, h15⟩ := hL
 clear hK K
 refine awl_cond h15 (fun c1 => ?_) (fun c1 => ?_)
 ·
  try simp only [cnd] at c1
  refine awl_seq ?_
  refine awl_regS _ rfl fun K hK => ?_
  try simp only [go_sem, simprocAttr, h0, h3, h4, h15]
  repeat' (refine And.intro (by first | rfl | omega | (simp; done)) ?_)
  refine hK _ _ (.mk (awl_live' [4] fun ρ hL => ?_))
  try simp only [go_sem, simprocAttr, h0, h3, h4, h15] at hL
  try clear h0 h3 h4 h15
  have h4 := hL
  clear hL
  clear hK K
  refine awl_ret ?_
  refine retN (v := .agg [.nilsl, .int .i64 0, .bool false, .int .i64 0, .int .i64 0, .int .i64 0, .int .i64 0, .nilsl, .nilsl, .int .i64 0]) [6, 6, 1] [2, 3, 4] [2, 3, 4] rfl (by simp only [go_sem, simprocAttr, h4]; exact rfl) (by first | rfl | (simp only [go_sem, simprocAttr, h4]; first | done | rfl)) (Ref.agg (RefL.cons (Ref.nil 2 ⟨Nat.le_of_ble_eq_true rfl, Nat.le_of_ble_eq_true rfl⟩) (RefL.cons (Ref.refl _) (RefL.cons (Ref.refl _) (RefL.cons (Ref.refl _) (RefL.cons (Ref.refl _) (RefL.cons (Ref.refl _) (RefL.cons (Ref.refl _) (RefL.cons (Ref.nil 3 ⟨Nat.le_of_ble_eq_true rfl, Nat.le_of_ble_eq_true rfl⟩) (RefL.cons (Ref.nil 4 ⟨Nat.le_of_ble_eq_true rfl, Nat.le_of_ble_eq_true rfl⟩) (RefL.cons (Ref.refl _) (RefL.same [])))))))))))) rfl (by decide) rfl rfl ?_ ?_
  all_goals try simp only [go_sem, simprocAttr, h4]
  all_goals (rw [step_no c1] <;> rfl)
 ·
  try simp only [cnd] at c1
  refine awl_skip ?_
  refine awl_seq ?_
  refine awl_regS _ rfl fun K hK => ?_
  try simp only [go_sem, simprocAttr, h0, h3, h4, h15]
  repeat' (refine And.intro (by first | rfl | omega | (simp; done)) ?_)
  refine opS_call_ro rfl (sat_spec_l9Copy s hf) ?ha ?hv ?hh ?_
  case ha => simp only [go_sem, simprocAttr, h0, h3, h4, h15]; first | done | rfl
  case hv => first | rfl | (simp only [go_sem]; done)
  case hh => first | rfl | (simp only [go_sem]; done)
  try simp only [go_sem, simprocAttr, h0, h3, h4, h15]
  repeat' (refine And.intro (by first | rfl | omega | (simp; done)) ?_)
  refine hK _ _ (.mk (awl_live' [0, 3, 4, 5] fun ρ hL => ?_))
  try simp only [go_sem, simprocAttr, h0, h3, h4, h15] at hL
  try clear h0 h3 h4 h15
  obtain ⟨h0, h3, h4, h5⟩ := hL
  clear hK K
  refine awl_seq ?_
  refine awl_seq ?_
  refine awl_regS _ rfl fun K hK => ?_
  try simp only [go_sem, simprocAttr, h0, h3, h4, h5]
  repeat' (refine And.intro (by first | rfl | omega | (simp; done)) ?_)
  refine hK _ _ (.mk (awl_live' [0, 3, 4, 5, 21] fun ρ hL => ?_))
  try simp only [go_sem, simprocAttr, h0, h3, h4, h5] at hL
  try clear h0 h3 h4 h5
  obtain ⟨h0, h3, h4, h5, h21⟩ := hL
  clear hK K
  refine awl_cond h21 (fun c2 => ?_) (fun c2 => ?_)
  ·
   try simp only [cnd] at c2
   refine awl_seq ?_
   refine awl_regS _ rfl fun K hK => ?_
   try simp only [go_sem, simprocAttr, h0, h3, h4, h5, h21]
   repeat' (refine And.intro (by first | rfl | omega | (simp; done)) ?_)
   refine hK _ _ (.mk (awl_live' [4] fun ρ hL => ?_))
   try simp only [go_sem, simprocAttr, h0, h3, h4, h5, h21] at hL
   try clear h0 h3 h4 h5 h21
   have h4 := hL
   clear hL
   clear hK K
   refine awl_ret ?_
   refine retK [2, 3, 4] [2, 3, 4] rfl (by simp only [go_sem, simprocAttr, h4]; exact rfl) (by decide) (by first | rfl | (simp only [go_sem, simprocAttr, h4]; first | done | rfl)) (by first | rfl | (simp only [go_sem, simprocAttr, h4]; first | done | rfl)) ?_ ?_
   all_goals try simp only [go_sem, simprocAttr, h4]
   all_goals (rw [step_trap c1 c2] <;> rfl)
  ·
   try simp only [cnd] at c2
   refine awl_skip ?_
   refine awl_seq ?_
   refine awl_regS _ rfl fun K hK => ?_
   try simp only [go_sem, simprocAttr, h0, h3, h4, h5, h21]
   repeat' (refine And.intro (by first | rfl | omega | (simp; done)) ?_)
   refine opS_call_ro rfl (sat_spec_Fetch l s.pc hl) ?ha ?hv ?hh ?_
   case ha => simp only [go_sem, simprocAttr, h0, h3, h4, h5, h21]; first | done | rfl
   case hv => first | rfl | (simp only [go_sem]; done)
   case hh => first | rfl | (simp only [go_sem]; done)
   try simp only [go_sem, simprocAttr, h0, h3, h4, h5, h21]
   repeat' (refine And.intro (by first | rfl | omega | (simp; done)) ?_)
   refine hK _ _ (.mk (awl_live' [3, 4, 5, 6, 7] fun ρ hL => ?_))
   try simp only [go_sem, simprocAttr, h0, h3, h4, h5, h21] at hL
   try clear h0 h3 h4 h5 h21
   obtain ⟨h3, h4, h5, h6, h7⟩ := hL
   clear hK K
   refine awl_seq ?_
   refine awl_seq ?_
   refine awl_regS _ rfl fun K hK => ?_
   try simp only [go_sem, simprocAttr, h3, h4, h5, h6, h7]
   repeat' (refine And.intro (by first | rfl | omega | (simp; done)) ?_)
   refine hK _ _ (.mk (awl_live' [3, 4, 5, 6, 7, 31] fun ρ hL => ?_))
   try simp only [go_sem, simprocAttr, h3, h4, h5, h6, h7] at hL
   try clear h3 h4 h5 h6 h7
   obtain ⟨h3, h4, h5, h6, h7, h31⟩ := hL
   clear hK K
   refine awl_cond h31 (fun c3 => ?_) (fun c3 => ?_)
   ·
    try simp only [cnd] at c3
    refine awl_seq ?_
    have hk := c1
    have hx := fetch_regs c3
    have h8 := (sttOk_parts hk).2.1
    have hna : (fetch l s.pc).1.a.toNat < s.regs.length := by omega
    have hnb : (fetch l s.pc).1.b.toNat < s.regs.length := by omega
    refine awl_regD mixed _ rfl fun K hK => ?_
    try simp only [go_sem, simprocAttr, h3, h4, h5, h6, h7, h31, hna, hnb]
    repeat' (refine And.intro (by first | omega | (exact ⟨[0, 1, 0, 4, 15, 31, 0, 64, 0, 256, 960, 1984, 0, 0, 12351, 32767], by kernel_rfl⟩) | kernel_rfl) ?_)
    refine hK _ _ (.mk (awl_live' [3, 4, 5, 6, 8, 9] fun ρ hL => ?_))
    try simp only [go_sem, simprocAttr, h3, h4, h5, h6, h7, h31, hna, hnb] at hL
    try clear h3 h4 h5 h6 h7 h31
    obtain ⟨h3, h4, h5, h6, h8, h9⟩ := hL
    clear hK K
    refine awl_seq ?_
    refine awl_regS _ rfl fun K hK => ?_
    try simp only [go_sem, simprocAttr, h3, h4, h5, h6, h8, h9]
    repeat' (refine And.intro (by first | rfl | omega | (simp; done)) ?_)
    refine opS_call_ro rfl (sat_spec_l9Mem s.mem (fetch l s.pc).1 (reg s (fetch l s.pc).1.a) (reg s (fetch l s.pc).1.b) hf.2) ?ha ?hv ?hh ?_
    case ha => simp only [go_sem, simprocAttr, h3, h4, h5, h6, h8, h9]; first | done | rfl
    case hv => first | rfl | (simp only [go_sem]; done)
    case hh => first | rfl | (simp only [go_sem]; done)
    try simp only [go_sem, simprocAttr, h3, h4, h5, h6, h8, h9]
    repeat' (refine And.intro (by first | rfl | omega | (simp; done)) ?_)
    refine hK _ _ (.mk (awl_live' [3, 4, 5, 6, 8, 9, 10, 11] fun ρ hL => ?_))
    try simp only [go_sem, simprocAttr, h3, h4, h5, h6, h8, h9] at hL
    try clear h3 h4 h5 h6 h8 h9
    obtain ⟨h3, h4, h5, h6, h8, h9, h10, h11⟩ := hL
    clear hK K
    refine awl_seq ?_
    refine awl_regS _ rfl fun K hK => ?_
    try simp only [go_sem, simprocAttr, h3, h4, h5, h6, h8, h9, h10, h11]
    repeat' (refine And.intro (by first | rfl | omega | (simp; done)) ?_)
    refine opS_call_ro rfl (sat_spec_Work (fetch l s.pc).1 s.pc (reg s (fetch l s.pc).1.a) (reg s (fetch l s.pc).1.b) (memOf s.mem (fetch l s.pc).1 (reg s (fetch l s.pc).1.a) (reg s (fetch l s.pc).1.b)).1) ?ha ?hv ?hh ?_
    case ha => simp only [go_sem, simprocAttr, h3, h4, h5, h6, h8, h9, h10, h11]; first | done | rfl
    case hv => first | rfl | (simp only [go_sem]; done)
    case hh => first | rfl | (simp only [go_sem]; done)
    try simp only [go_sem, simprocAttr, h3, h4, h5, h6, h8, h9, h10, h11]
    repeat' (refine And.intro (by first | rfl | omega | (simp; done)) ?_)
    refine hK _ _ (.mk (awl_live' [4, 5, 11, 12] fun ρ hL => ?_))
    try simp only [go_sem, simprocAttr, h3, h4, h5, h6, h8, h9, h10, h11] at hL
    try clear h3 h4 h5 h6 h8 h9 h10 h11
    obtain ⟨h4, h5, h11, h12⟩ := hL
    clear hK K
    refine awl_seq ?_
    refine awl_regS _ rfl fun K hK => ?_
    try simp only [go_sem, simprocAttr, h4, h5, h11, h12]
    repeat' (refine And.intro (by first | rfl | omega | (simp; done)) ?_)
    refine hK _ _ (.mk (awl_live' [4, 5, 7, 12] fun ρ hL => ?_))
    try simp only [go_sem, simprocAttr, h4, h5, h11, h12] at hL
    try clear h4 h5 h11 h12
    obtain ⟨h4, h5, h7, h12⟩ := hL
    clear hK K
    refine awl_seq ?_
    refine awl_seq ?_
    refine awl_regS _ rfl fun K hK => ?_
    try simp only [go_sem, simprocAttr, h4, h5, h7, h12]
    repeat' (refine And.intro (by first | rfl | omega | (simp; done)) ?_)
    refine hK _ _ (.mk (awl_live' [4, 5, 7, 12, 62] fun ρ hL => ?_))
    try simp only [go_sem, simprocAttr, h4, h5, h7, h12] at hL
    try clear h4 h5 h7 h12
    obtain ⟨h4, h5, h7, h12, h62⟩ := hL
    clear hK K
    refine awl_cond h62 (fun c4 => ?_) (fun c4 => ?_)
    ·
     try simp only [cnd] at c4
     refine awl_regS _ rfl fun K hK => ?_
     try simp only [go_sem, simprocAttr, h4, h5, h7, h12, h62]
     repeat' (refine And.intro (by first | rfl | omega | (simp; done)) ?_)
     refine hK _ _ (.mk (awl_live' [4, 5, 7, 12] fun ρ hL => ?_))
     try simp only [go_sem, simprocAttr, h4, h5, h7, h12, h62] at hL
     try clear h4 h5 h7 h12 h62
     obtain ⟨h4, h5, h7, h12⟩ := hL
     clear hK K
     refine awl_seq ?_
     refine awl_regS _ rfl fun K hK => ?_
     try simp only [go_sem, simprocAttr, h4, h5, h7, h12]
     repeat' (refine And.intro (by first | rfl | omega | (simp; done)) ?_)
     refine hK _ _ (.mk (awl_live' [4, 5, 7, 12, 66] fun ρ hL => ?_))
     try simp only [go_sem, simprocAttr, h4, h5, h7, h12] at hL
     try clear h4 h5 h7 h12
     obtain ⟨h4, h5, h7, h12, h66⟩ := hL
     clear hK K
     refine awl_cond h66 (fun c5 => ?_) (fun c5 => ?_)
     ·
      try simp only [cnd] at c5
      refine awl_seq ?_
      refine awl_regS _ rfl fun K hK => ?_
      try simp only [go_sem, simprocAttr, h4, h5, h7, h12, h66]
      repeat' (refine And.intro (by first | rfl | omega | (simp; done)) ?_)
      refine opS_call_in [2, 3, 4] rfl (sat_spec_l9Apply s (work (fetch l s.pc).1 s.pc (reg s (fetch l s.pc).1.a) (reg s (fetch l s.pc).1.b) (memOf s.mem (fetch l s.pc).1 (reg s (fetch l s.pc).1.a) (reg s (fetch l s.pc).1.b)).1) c1) ?ha ?hb ?hv ?hh (by decide) rfl ?_
      case ha => simp only [go_sem, simprocAttr, h4, h5, h7, h12, h66]; first | done | rfl
      case hb => simp only [go_sem, simprocAttr, h4, h5, h7, h12, h66]; first | done | rfl
      case hv => first | rfl | (simp only [go_sem]; done)
      case hh => first | rfl | (simp only [go_sem]; done)
      try simp only [go_sem, simprocAttr, h4, h5, h7, h12, h66]
      repeat' (refine And.intro (by first | rfl | omega | (simp; done)) ?_)
      refine hK _ _ (.mk (awl_live' [4] fun ρ hL => ?_))
      try simp only [go_sem, simprocAttr, h4, h5, h7, h12, h66] at hL
      try clear h4 h5 h7 h12 h66
      have h4 := hL
      clear hL
      clear hK K
      refine awl_ret ?_
      refine retK [2, 3, 4] [2, 3, 4] rfl (by simp only [go_sem, simprocAttr, h4]; exact rfl) (by decide) (by first | rfl | (simp only [go_sem, simprocAttr, h4]; first | done | rfl)) (by first | rfl | (simp only [go_sem, simprocAttr, h4]; first | done | rfl)) ?_ ?_
      all_goals try simp only [go_sem, simprocAttr, h4]
      all_goals (rw [step_go c1 c2 (by rw [fx_work c3 c4]; exact c5), fx_work c3 c4] <;> rfl)
     ·
      try simp only [cnd] at c5
      refine awl_skip ?_
      refine awl_seq ?_
      refine awl_regS _ rfl fun K hK => ?_
      try simp only [go_sem, simprocAttr, h4, h5, h7, h12, h66]
      repeat' (refine And.intro (by first | rfl | omega | (simp; done)) ?_)
      refine hK _ _ (.mk (awl_live' [4, 5] fun ρ hL => ?_))
      try simp only [go_sem, simprocAttr, h4, h5, h7, h12, h66] at hL
      try clear h4 h5 h7 h12 h66
      obtain ⟨h4, h5⟩ := hL
      clear hK K
      refine awl_seq ?_
      refine awl_regS _ rfl fun K hK => ?_
      try simp only [go_sem, simprocAttr, h4, h5]
      repeat' (refine And.intro (by first | rfl | omega | (simp; done)) ?_)
      refine hK _ _ (.mk (awl_live' [4] fun ρ hL => ?_))
      try simp only [go_sem, simprocAttr, h4, h5] at hL
      try clear h4 h5
      have h4 := hL
      clear hL
      clear hK K
      refine awl_ret ?_
      refine retK [2, 3, 4] [2, 3, 4] rfl (by simp only [go_sem, simprocAttr, h4]; exact rfl) (by decide) (by first | rfl | (simp only [go_sem, simprocAttr, h4]; first | done | rfl)) (by first | rfl | (simp only [go_sem, simprocAttr, h4]; first | done | rfl)) ?_ ?_
      all_goals try simp only [go_sem, simprocAttr, h4]
      all_goals (rw [step_stop c1 c2 (t := (work (fetch l s.pc).1 s.pc (reg s (fetch l s.pc).1.a) (reg s (fetch l s.pc).1.b) (memOf s.mem (fetch l s.pc).1 (reg s (fetch l s.pc).1.a) (reg s (fetch l s.pc).1.b)).1).trap) (by rw [fx_work c3 c4]) c5] <;> rfl)
    ·
     try simp only [cnd] at c4
     refine awl_skip ?_
     refine awl_seq ?_
     refine awl_regS _ rfl fun K hK => ?_
     try simp only [go_sem, simprocAttr, h4, h5, h7, h12, h62]
     repeat' (refine And.intro (by first | rfl | omega | (simp; done)) ?_)
     refine hK _ _ (.mk (awl_live' [4, 5, 7, 12, 66] fun ρ hL => ?_))
     try simp only [go_sem, simprocAttr, h4, h5, h7, h12, h62] at hL
     try clear h4 h5 h7 h12 h62
     obtain ⟨h4, h5, h7, h12, h66⟩ := hL
     clear hK K
     refine awl_cond h66 (fun c6 => ?_) (fun c6 => ?_)
     ·
      try simp only [cnd] at c6
      exact absurd c6 c4
     ·
      try simp only [cnd] at c6
      refine awl_skip ?_
      refine awl_seq ?_
      refine awl_regS _ rfl fun K hK => ?_
      try simp only [go_sem, simprocAttr, h4, h5, h7, h12, h66]
      repeat' (refine And.intro (by first | rfl | omega | (simp; done)) ?_)
      refine hK _ _ (.mk (awl_live' [4, 5] fun ρ hL => ?_))
      try simp only [go_sem, simprocAttr, h4, h5, h7, h12, h66] at hL
      try clear h4 h5 h7 h12 h66
      obtain ⟨h4, h5⟩ := hL
      clear hK K
      refine awl_seq ?_
      refine awl_regS _ rfl fun K hK => ?_
      try simp only [go_sem, simprocAttr, h4, h5]
      repeat' (refine And.intro (by first | rfl | omega | (simp; done)) ?_)
      refine hK _ _ (.mk (awl_live' [4] fun ρ hL => ?_))
      try simp only [go_sem, simprocAttr, h4, h5] at hL
      try clear h4 h5
      have h4 := hL
      clear hL
      clear hK K
      refine awl_ret ?_
      refine retK [2, 3, 4] [2, 3, 4] rfl (by simp only [go_sem, simprocAttr, h4]; exact rfl) (by decide) (by first | rfl | (simp only [go_sem, simprocAttr, h4]; first | done | rfl)) (by first | rfl | (simp only [go_sem, simprocAttr, h4]; first | done | rfl)) ?_ ?_
      all_goals try simp only [go_sem, simprocAttr, h4]
      all_goals (rw [step_stop c1 c2 (t := (memOf s.mem (fetch l s.pc).1 (reg s (fetch l s.pc).1.a) (reg s (fetch l s.pc).1.b)).2) (by rw [fx_mem c3 c4]; rfl) c4] <;> rfl)
   ·
    try simp only [cnd] at c3
    refine awl_skip ?_
    refine awl_seq ?_
    refine awl_regS _ rfl fun K hK => ?_
    try simp only [go_sem, simprocAttr, h3, h4, h5, h6, h7, h31]
    repeat' (refine And.intro (by first | rfl | omega | (simp; done)) ?_)
    refine hK _ _ (.mk (awl_live' [4, 5] fun ρ hL => ?_))
    try simp only [go_sem, simprocAttr, h3, h4, h5, h6, h7, h31] at hL
    try clear h3 h4 h5 h6 h7 h31
    obtain ⟨h4, h5⟩ := hL
    clear hK K
    refine awl_seq ?_
    refine awl_regS _ rfl fun K hK => ?_
    try simp only [go_sem, simprocAttr, h4, h5]
    repeat' (refine And.intro (by first | rfl | omega | (simp; done)) ?_)
    refine hK _ _ (.mk (awl_live' [4] fun ρ hL => ?_))
    try simp only [go_sem, simprocAttr, h4, h5] at hL
    try clear h4 h5
    have h4 := hL
    clear hL
    clear hK K
    refine awl_ret ?_
    refine retK [2, 3, 4] [2, 3, 4] rfl (by simp only [go_sem, simprocAttr, h4]; exact rfl) (by decide) (by first | rfl | (simp only [go_sem, simprocAttr, h4]; first | done | rfl)) (by first | rfl | (simp only [go_sem, simprocAttr, h4]; first | done | rfl)) ?_ ?_
    all_goals try simp only [go_sem, simprocAttr, h4]
    all_goals (rw [step_stop c1 c2 (t := (fetch l s.pc).2) (by rw [fx_fetch c3]; rfl) c3] <;> rfl)
set_option maxHeartbeats 8000000 in
set_option maxRecDepth 100000 in
theorem sat_impl_Step (l : List Ins) (s : Stt) (hl : l.length ≤ 1048576) (hf : s.fit) : Sat Tryz.prog 11 [.sl l.length l.length (rows l), .agg s.cells] [] (.agg ((step l s).own 0 1 2)) (step l s).blks := by
 refine sat_mk [.cell 4 42] 0 30 Tryz.call11 Tryz.func11 Tryz.ntmps11 rfl rfl rfl rfl rfl ?_
 refine awl_live' [0, 1] fun ρ hL => ?_
 try simp only [go_sem, simprocAttr] at hL
 obtain ⟨h0, h1⟩ := hL
 refine awl_seq ?_
 refine awl_regS _ rfl fun K hK => ?_
 try simp only [go_sem, simprocAttr, h0, h1]
 repeat' (refine And.intro (by first | rfl | omega | (simp; done)) ?_)
 refine hK _ _ (.mk (awl_live' [0, 3, 4] fun ρ hL => ?_))
 try simp only [go_sem, simprocAttr, h0, h1] at hL
 try clear h0 h1
 obtain ⟨h0, h3, h4⟩ := hL
 clear hK K
 refine awl_seq ?_
 refine awl_seq ?_
 refine awl_regS _ rfl fun K hK => ?_
 try simp only [go_sem, simprocAttr, h0, h3, h4]
 repeat' (refine And.intro (by first | rfl | omega | (simp; done)) ?_)
 refine opS_call_ro rfl (sat_impl_StateOk s hf) ?ha ?hv ?hh ?_
 case ha => simp only [go_sem, simprocAttr, h0, h3, h4]; first | done | rfl
 case hv => first | rfl | (simp only [go_sem]; done)
 case hh => first | rfl | (simp only [go_sem]; done)
 try simp only [go_sem, simprocAttr, h0, h3, h4]
 repeat' (refine And.intro (by first | rfl | omega | (simp; done)) ?_)
 refine hK _ _ (.mk (awl_live' [0, 3, 4, 9] fun ρ hL => ?_))
 try simp only [go_sem, simprocAttr, h0, h3, h4] at hL
 try clear h0 h3 h4
 obtain ⟨h0, h3, h4, h9⟩ := hL
 clear hK K
 refine awl_cond h9 (fun c1 => ?_) (fun c1 => ?_)
 ·
  try simp only [cnd] at c1
  refine awl_seq ?_
  refine awl_regS _ rfl fun K hK => ?_
  try simp only [go_sem, simprocAttr, h0, h3, h4, h9]
  repeat' (refine And.intro (by first | rfl | omega | (simp; done)) ?_)
  refine hK _ _ (.mk (awl_live' [4] fun ρ hL => ?_))
  try simp only [go_sem, simprocAttr, h0, h3, h4, h9] at hL
  try clear h0 h3 h4 h9
  have h4 := hL
  clear hL
  clear hK K
  refine awl_ret ?_
  refine retN (v := .agg [.nilsl, .int .i64 0, .bool false, .int .i64 0, .int .i64 0, .int .i64 0, .int .i64 0, .nilsl, .nilsl, .int .i64 0]) [6, 6, 1] [2, 3, 4] [2, 3, 4] rfl (by simp only [go_sem, simprocAttr, h4]; exact rfl) (by first | rfl | (simp only [go_sem, simprocAttr, h4]; first | done | rfl)) (Ref.agg (RefL.cons (Ref.nil 2 ⟨Nat.le_of_ble_eq_true rfl, Nat.le_of_ble_eq_true rfl⟩) (RefL.cons (Ref.refl _) (RefL.cons (Ref.refl _) (RefL.cons (Ref.refl _) (RefL.cons (Ref.refl _) (RefL.cons (Ref.refl _) (RefL.cons (Ref.refl _) (RefL.cons (Ref.nil 3 ⟨Nat.le_of_ble_eq_true rfl, Nat.le_of_ble_eq_true rfl⟩) (RefL.cons (Ref.nil 4 ⟨Nat.le_of_ble_eq_true rfl, Nat.le_of_ble_eq_true rfl⟩) (RefL.cons (Ref.refl _) (RefL.same [])))))))))))) rfl (by decide) rfl rfl ?_ ?_
  all_goals try simp only [go_sem, simprocAttr, h4]
  all_goals (rw [step_no c1] <;> rfl)
 ·
  try simp only [cnd] at c1
  refine awl_skip ?_
  refine awl_seq ?_
  refine awl_regS _ rfl fun K hK => ?_
  try simp only [go_sem, simprocAttr, h0, h3, h4, h9]
  repeat' (refine And.intro (by first | rfl | omega | (simp; done)) ?_)
  refine opS_call_ro rfl (sat_impl_cloneState s hf) ?ha ?hv ?hh ?_
  case ha => simp only [go_sem, simprocAttr, h0, h3, h4, h9]; first | done | rfl
  case hv => first | rfl | (simp only [go_sem]; done)
  case hh => first | rfl | (simp only [go_sem]; done)
  try simp only [go_sem, simprocAttr, h0, h3, h4, h9]
  repeat' (refine And.intro (by first | rfl | omega | (simp; done)) ?_)
  refine hK _ _ (.mk (awl_live' [0, 3, 4, 5] fun ρ hL => ?_))
  try simp only [go_sem, simprocAttr, h0, h3, h4, h9] at hL
  try clear h0 h3 h4 h9
  obtain ⟨h0, h3, h4, h5⟩ := hL
  clear hK K
  refine awl_seq ?_
  refine awl_seq ?_
  refine awl_regS _ rfl fun K hK => ?_
  try simp only [go_sem, simprocAttr, h0, h3, h4, h5]
  repeat' (refine And.intro (by first | rfl | omega | (simp; done)) ?_)
  refine hK _ _ (.mk (awl_live' [0, 3, 4, 5, 15] fun ρ hL => ?_))
  try simp only [go_sem, simprocAttr, h0, h3, h4, h5] at hL
  try clear h0 h3 h4 h5
  obtain ⟨h0, h3, h4, h5, h15⟩ := hL
  clear hK K
  refine awl_cond h15 (fun c2 => ?_) (fun c2 => ?_)
  ·
   try simp only [cnd] at c2
   refine awl_seq ?_
   refine awl_regS _ rfl fun K hK => ?_
   try simp only [go_sem, simprocAttr, h0, h3, h4, h5, h15]
   repeat' (refine And.intro (by first | rfl | omega | (simp; done)) ?_)
   refine hK _ _ (.mk (awl_live' [4] fun ρ hL => ?_))
   try simp only [go_sem, simprocAttr, h0, h3, h4, h5, h15] at hL
   try clear h0 h3 h4 h5 h15
   have h4 := hL
   clear hL
   clear hK K
   refine awl_ret ?_
   refine retK [2, 3, 4] [2, 3, 4] rfl (by simp only [go_sem, simprocAttr, h4]; exact rfl) (by decide) (by first | rfl | (simp only [go_sem, simprocAttr, h4]; first | done | rfl)) (by first | rfl | (simp only [go_sem, simprocAttr, h4]; first | done | rfl)) ?_ ?_
   all_goals try simp only [go_sem, simprocAttr, h4]
   all_goals (rw [step_trap c1 c2] <;> rfl)
  ·
   try simp only [cnd] at c2
   refine awl_skip ?_
   refine awl_seq ?_
   refine awl_regS _ rfl fun K hK => ?_
   try simp only [go_sem, simprocAttr, h0, h3, h4, h5, h15]
   repeat' (refine And.intro (by first | rfl | omega | (simp; done)) ?_)
   refine opS_call_ro rfl (sat_impl_effectOf l s hl hf c1) ?ha ?hv ?hh ?_
   case ha => simp only [go_sem, simprocAttr, h0, h3, h4, h5, h15]; first | done | rfl
   case hv => first | rfl | (simp only [go_sem]; done)
   case hh => first | rfl | (simp only [go_sem]; done)
   try simp only [go_sem, simprocAttr, h0, h3, h4, h5, h15]
   repeat' (refine And.intro (by first | rfl | omega | (simp; done)) ?_)
   refine hK _ _ (.mk (awl_live' [4, 5, 6] fun ρ hL => ?_))
   try simp only [go_sem, simprocAttr, h0, h3, h4, h5, h15] at hL
   try clear h0 h3 h4 h5 h15
   obtain ⟨h4, h5, h6⟩ := hL
   clear hK K
   refine awl_seq ?_
   refine awl_seq ?_
   refine awl_regS _ rfl fun K hK => ?_
   try simp only [go_sem, simprocAttr, h4, h5, h6]
   repeat' (refine And.intro (by first | rfl | omega | (simp; done)) ?_)
   refine hK _ _ (.mk (awl_live' [4, 5, 6, 22] fun ρ hL => ?_))
   try simp only [go_sem, simprocAttr, h4, h5, h6] at hL
   try clear h4 h5 h6
   obtain ⟨h4, h5, h6, h22⟩ := hL
   clear hK K
   refine awl_cond h22 (fun c3 => ?_) (fun c3 => ?_)
   ·
    try simp only [cnd] at c3
    refine awl_seq ?_
    refine awl_regS _ rfl fun K hK => ?_
    try simp only [go_sem, simprocAttr, h4, h5, h6, h22]
    repeat' (refine And.intro (by first | rfl | omega | (simp; done)) ?_)
    refine hK _ _ (.mk (awl_live' [4, 5] fun ρ hL => ?_))
    try simp only [go_sem, simprocAttr, h4, h5, h6, h22] at hL
    try clear h4 h5 h6 h22
    obtain ⟨h4, h5⟩ := hL
    clear hK K
    refine awl_seq ?_
    refine awl_regS _ rfl fun K hK => ?_
    try simp only [go_sem, simprocAttr, h4, h5]
    repeat' (refine And.intro (by first | rfl | omega | (simp; done)) ?_)
    refine hK _ _ (.mk (awl_live' [4] fun ρ hL => ?_))
    try simp only [go_sem, simprocAttr, h4, h5] at hL
    try clear h4 h5
    have h4 := hL
    clear hL
    clear hK K
    refine awl_ret ?_
    refine retK [2, 3, 4] [2, 3, 4] rfl (by simp only [go_sem, simprocAttr, h4]; exact rfl) (by decide) (by first | rfl | (simp only [go_sem, simprocAttr, h4]; first | done | rfl)) (by first | rfl | (simp only [go_sem, simprocAttr, h4]; first | done | rfl)) ?_ ?_
    all_goals try simp only [go_sem, simprocAttr, h4]
    all_goals (rw [step_stop c1 c2 (t := (fxOf l s).trap) rfl c3] <;> rfl)
   ·
    try simp only [cnd] at c3
    refine awl_skip ?_
    refine awl_seq ?_
    refine awl_regS _ rfl fun K hK => ?_
    try simp only [go_sem, simprocAttr, h4, h5, h6, h22]
    repeat' (refine And.intro (by first | rfl | omega | (simp; done)) ?_)
    refine opS_call_in [5, 2, 3, 4] rfl (sat_impl_State_put s (fxOf l s) c1) ?ha ?hb ?hv ?hh (by decide) rfl ?_
    case ha => simp only [go_sem, simprocAttr, h4, h5, h6, h22]; first | done | rfl
    case hb => simp only [go_sem, simprocAttr, h4, h5, h6, h22]; first | done | rfl
    case hv => first | rfl | (simp only [go_sem]; done)
    case hh => first | rfl | (simp only [go_sem]; done)
    try simp only [go_sem, simprocAttr, h4, h5, h6, h22]
    repeat' (refine And.intro (by first | rfl | omega | (simp; done)) ?_)
    refine hK _ _ (.mk (awl_live' [4, 5] fun ρ hL => ?_))
    try simp only [go_sem, simprocAttr, h4, h5, h6, h22] at hL
    try clear h4 h5 h6 h22
    obtain ⟨h4, h5⟩ := hL
    clear hK K
    refine awl_seq ?_
    refine awl_regS _ rfl fun K hK => ?_
    try simp only [go_sem, simprocAttr, h4, h5]
    repeat' (refine And.intro (by first | rfl | omega | (simp; done)) ?_)
    refine hK _ _ (.mk (awl_live' [4] fun ρ hL => ?_))
    try simp only [go_sem, simprocAttr, h4, h5] at hL
    try clear h4 h5
    have h4 := hL
    clear hL
    clear hK K
    refine awl_ret ?_
    refine retK [2, 3, 4] [2, 3, 4] rfl (by simp only [go_sem, simprocAttr, h4]; exact rfl) (by decide) (by first | rfl | (simp only [go_sem, simprocAttr, h4]; first | done | rfl)) (by first | rfl | (simp only [go_sem, simprocAttr, h4]; first | done | rfl)) ?_ ?_
    all_goals try simp only [go_sem, simprocAttr, h4]
    all_goals (rw [step_go c1 c2 c3] <;> rfl)
end Go.Proofs.YtgddflnhibhacaaGreat.AM
