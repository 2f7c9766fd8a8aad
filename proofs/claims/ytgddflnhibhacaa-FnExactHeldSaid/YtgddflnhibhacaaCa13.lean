/- What the laws make, compare and count of entries and cores. No conditions but those each theorem bears. -/
import Derived.Test.YtgddflnhibhacaaFa
import Derived.Test.YtgddflnhibhacaaSp7
import Derived.Test.YtgddflnhibhacaaCa11t
import Derived.Test.YtgddflnhibhacaaCa7
set_option linter.unusedSimpArgs false
set_option linter.unusedVariables false
namespace Go.Proofs.Ytgddflnhibhacaa.AM
open Go

set_option maxHeartbeats 8000000 in
set_option maxRecDepth 100000 in
theorem sat_laws_eqIns (a : Ins) (b : Ins)  : Sat Try.prog 145 [.agg a.cells, .agg b.cells] [] (.bool (decide (a = b))) [] := by
  refine sat_mk [.tmp 4] 0 30 Try.call145 Try.func145 Try.ntmps145 rfl rfl rfl rfl rfl ?_
  refine awl_live' [0, 1] fun ρ hL => ?_
  try simp only [go_sem, simprocAttr] at hL
  obtain ⟨h0, h1⟩ := hL
  refine awl_seq ?_
  refine awl_regS [(some 2, (.box 94 (.tmp 0)), none), (some 3, (.box 94 (.tmp 1)), none), (some 4, (.assign (.const (.bool false))), none)] rfl fun K hK => ?_
  try simp only [go_sem, simprocAttr, h0, h1]
  repeat' (refine And.intro (by first | rfl | omega | (simp; done)) ?_)
  refine hK _ _ (.mk (awl_live' [2, 3] fun ρ hL => ?_))
  try simp only [go_sem, simprocAttr, h0, h1] at hL
  try clear h0 h1
  obtain ⟨h2, h3⟩ := hL
  clear hK K
  refine awl_seq ?_
  refine awl_seq ?_
  refine awl_regS [(some 5, (.fieldAddr 94 (.tmp 2) 0), none), (some 6, (.load 3 (.tmp 5)), none), (some 7, (.fieldAddr 94 (.tmp 3) 0), none), (some 8, (.load 3 (.tmp 7)), none), (some 9, (.binOp .neq 3 (.tmp 6) (.tmp 8) 3), none)] rfl fun K hK => ?_
  try simp only [go_sem, simprocAttr, h2, h3]
  repeat' (refine And.intro (by first | rfl | omega | (simp; done)) ?_)
  refine hK _ _ (.mk (awl_live' [2, 3, 9] fun ρ hL => ?_))
  try simp only [go_sem, simprocAttr, h2, h3] at hL
  try clear h2 h3
  obtain ⟨h2, h3, h9⟩ := hL
  clear hK K
  refine awl_cond h9 (fun c1 => ?_) (fun c1 => ?_)
  ·
    try simp only [cnd] at c1
    refine awl_seq ?_
    refine awl_regS [(some 4, (.assign (.const (.bool false))), none)] rfl fun K hK => ?_
    try simp only [go_sem, simprocAttr, h2, h3, h9]
    repeat' (refine And.intro (by first | rfl | omega | (simp; done)) ?_)
    refine hK _ _ (.mk (awl_live' [4] fun ρ hL => ?_))
    try simp only [go_sem, simprocAttr, h2, h3, h9] at hL
    try clear h2 h3 h9
    have h4 := hL
    clear hL
    clear hK K
    refine awl_ret ?_
    refine ret0 (by simp only [go_sem, simprocAttr, h4]; exact rfl) ?_
    try simp only [go_sem, simprocAttr]
    all_goals (rw [decide_eq_false]; rintro rfl; first | exact c1 rfl | exact c2 rfl | exact c3 rfl | exact c4 rfl | exact c5 rfl | exact c6 rfl | exact c7 rfl | (simp at c1; done) | (simp at c2; done) | (simp at c3; done) | (simp at c4; done)| (simp at c5; done) | (simp at c6; done) | (simp at c7; done))
  ·
    try simp only [cnd] at c1
    refine awl_skip ?_
    refine awl_seq ?_
    refine awl_seq ?_
    refine awl_regS [(some 10, (.fieldAddr 94 (.tmp 2) 1), none), (some 11, (.load 3 (.tmp 10)), none), (some 12, (.fieldAddr 94 (.tmp 3) 1), none), (some 13, (.load 3 (.tmp 12)), none), (some 14, (.binOp .neq 3 (.tmp 11) (.tmp 13) 3), none)] rfl fun K hK => ?_
    try simp only [go_sem, simprocAttr, h2, h3, h9]
    repeat' (refine And.intro (by first | rfl | omega | (simp; done)) ?_)
    refine hK _ _ (.mk (awl_live' [2, 3, 14] fun ρ hL => ?_))
    try simp only [go_sem, simprocAttr, h2, h3, h9] at hL
    try clear h2 h3 h9
    obtain ⟨h2, h3, h14⟩ := hL
    clear hK K
    refine awl_cond h14 (fun c2 => ?_) (fun c2 => ?_)
    ·
      try simp only [cnd] at c2
      refine awl_seq ?_
      refine awl_regS [(some 4, (.assign (.const (.bool false))), none)] rfl fun K hK => ?_
      try simp only [go_sem, simprocAttr, h2, h3, h14]
      repeat' (refine And.intro (by first | rfl | omega | (simp; done)) ?_)
      refine hK _ _ (.mk (awl_live' [4] fun ρ hL => ?_))
      try simp only [go_sem, simprocAttr, h2, h3, h14] at hL
      try clear h2 h3 h14
      have h4 := hL
      clear hL
      clear hK K
      refine awl_ret ?_
      refine ret0 (by simp only [go_sem, simprocAttr, h4]; exact rfl) ?_
      try simp only [go_sem, simprocAttr]
      all_goals (rw [decide_eq_false]; rintro rfl; first | exact c1 rfl | exact c2 rfl | exact c3 rfl | exact c4 rfl | exact c5 rfl | exact c6 rfl | exact c7 rfl | (simp at c1; done) | (simp at c2; done) | (simp at c3; done) | (simp at c4; done)| (simp at c5; done) | (simp at c6; done) | (simp at c7; done))
    ·
      try simp only [cnd] at c2
      refine awl_skip ?_
      refine awl_seq ?_
      refine awl_seq ?_
      refine awl_regS [(some 15, (.fieldAddr 94 (.tmp 2) 2), none), (some 16, (.load 3 (.tmp 15)), none), (some 17, (.fieldAddr 94 (.tmp 3) 2), none), (some 18, (.load 3 (.tmp 17)), none), (some 19, (.binOp .neq 3 (.tmp 16) (.tmp 18) 3), none)] rfl fun K hK => ?_
      try simp only [go_sem, simprocAttr, h2, h3, h14]
      repeat' (refine And.intro (by first | rfl | omega | (simp; done)) ?_)
      refine hK _ _ (.mk (awl_live' [2, 3, 19] fun ρ hL => ?_))
      try simp only [go_sem, simprocAttr, h2, h3, h14] at hL
      try clear h2 h3 h14
      obtain ⟨h2, h3, h19⟩ := hL
      clear hK K
      refine awl_cond h19 (fun c3 => ?_) (fun c3 => ?_)
      ·
        try simp only [cnd] at c3
        refine awl_seq ?_
        refine awl_regS [(some 4, (.assign (.const (.bool false))), none)] rfl fun K hK => ?_
        try simp only [go_sem, simprocAttr, h2, h3, h19]
        repeat' (refine And.intro (by first | rfl | omega | (simp; done)) ?_)
        refine hK _ _ (.mk (awl_live' [4] fun ρ hL => ?_))
        try simp only [go_sem, simprocAttr, h2, h3, h19] at hL
        try clear h2 h3 h19
        have h4 := hL
        clear hL
        clear hK K
        refine awl_ret ?_
        refine ret0 (by simp only [go_sem, simprocAttr, h4]; exact rfl) ?_
        try simp only [go_sem, simprocAttr]
        all_goals (rw [decide_eq_false]; rintro rfl; first | exact c1 rfl | exact c2 rfl | exact c3 rfl | exact c4 rfl | exact c5 rfl | exact c6 rfl | exact c7 rfl | (simp at c1; done) | (simp at c2; done) | (simp at c3; done) | (simp at c4; done)| (simp at c5; done) | (simp at c6; done) | (simp at c7; done))
      ·
        try simp only [cnd] at c3
        refine awl_skip ?_
        refine awl_seq ?_
        refine awl_seq ?_
        refine awl_regS [(some 20, (.fieldAddr 94 (.tmp 2) 3), none), (some 21, (.load 3 (.tmp 20)), none), (some 22, (.fieldAddr 94 (.tmp 3) 3), none), (some 23, (.load 3 (.tmp 22)), none), (some 24, (.binOp .neq 3 (.tmp 21) (.tmp 23) 3), none)] rfl fun K hK => ?_
        try simp only [go_sem, simprocAttr, h2, h3, h19]
        repeat' (refine And.intro (by first | rfl | omega | (simp; done)) ?_)
        refine hK _ _ (.mk (awl_live' [2, 3, 24] fun ρ hL => ?_))
        try simp only [go_sem, simprocAttr, h2, h3, h19] at hL
        try clear h2 h3 h19
        obtain ⟨h2, h3, h24⟩ := hL
        clear hK K
        refine awl_cond h24 (fun c4 => ?_) (fun c4 => ?_)
        ·
          try simp only [cnd] at c4
          refine awl_seq ?_
          refine awl_regS [(some 4, (.assign (.const (.bool false))), none)] rfl fun K hK => ?_
          try simp only [go_sem, simprocAttr, h2, h3, h24]
          repeat' (refine And.intro (by first | rfl | omega | (simp; done)) ?_)
          refine hK _ _ (.mk (awl_live' [4] fun ρ hL => ?_))
          try simp only [go_sem, simprocAttr, h2, h3, h24] at hL
          try clear h2 h3 h24
          have h4 := hL
          clear hL
          clear hK K
          refine awl_ret ?_
          refine ret0 (by simp only [go_sem, simprocAttr, h4]; exact rfl) ?_
          try simp only [go_sem, simprocAttr]
          all_goals (rw [decide_eq_false]; rintro rfl; first | exact c1 rfl | exact c2 rfl | exact c3 rfl | exact c4 rfl | exact c5 rfl | exact c6 rfl | exact c7 rfl | (simp at c1; done) | (simp at c2; done) | (simp at c3; done) | (simp at c4; done)| (simp at c5; done) | (simp at c6; done) | (simp at c7; done))
        ·
          try simp only [cnd] at c4
          refine awl_skip ?_
          refine awl_seq ?_
          refine awl_seq ?_
          refine awl_regS [(some 25, (.fieldAddr 94 (.tmp 2) 4), none), (some 26, (.load 3 (.tmp 25)), none), (some 27, (.fieldAddr 94 (.tmp 3) 4), none), (some 28, (.load 3 (.tmp 27)), none), (some 29, (.binOp .neq 3 (.tmp 26) (.tmp 28) 3), none)] rfl fun K hK => ?_
          try simp only [go_sem, simprocAttr, h2, h3, h24]
          repeat' (refine And.intro (by first | rfl | omega | (simp; done)) ?_)
          refine hK _ _ (.mk (awl_live' [29] fun ρ hL => ?_))
          try simp only [go_sem, simprocAttr, h2, h3, h24] at hL
          try clear h2 h3 h24
          have h29 := hL
          clear hL
          clear hK K
          refine awl_cond h29 (fun c5 => ?_) (fun c5 => ?_)
          ·
            try simp only [cnd] at c5
            refine awl_seq ?_
            refine awl_regS [(some 4, (.assign (.const (.bool false))), none)] rfl fun K hK => ?_
            try simp only [go_sem, simprocAttr, h29]
            repeat' (refine And.intro (by first | rfl | omega | (simp; done)) ?_)
            refine hK _ _ (.mk (awl_live' [4] fun ρ hL => ?_))
            try simp only [go_sem, simprocAttr, h29] at hL
            try clear h29
            have h4 := hL
            clear hL
            clear hK K
            refine awl_ret ?_
            refine ret0 (by simp only [go_sem, simprocAttr, h4]; exact rfl) ?_
            try simp only [go_sem, simprocAttr]
            all_goals (rw [decide_eq_false]; rintro rfl; first | exact c1 rfl | exact c2 rfl | exact c3 rfl | exact c4 rfl | exact c5 rfl | exact c6 rfl | exact c7 rfl | (simp at c1; done) | (simp at c2; done) | (simp at c3; done) | (simp at c4; done)| (simp at c5; done) | (simp at c6; done) | (simp at c7; done))
          ·
            try simp only [cnd] at c5
            refine awl_skip ?_
            refine awl_seq ?_
            refine awl_regS [(some 4, (.assign (.const (.bool true))), none)] rfl fun K hK => ?_
            try simp only [go_sem, simprocAttr, h29]
            repeat' (refine And.intro (by first | rfl | omega | (simp; done)) ?_)
            refine hK _ _ (.mk (awl_live' [4] fun ρ hL => ?_))
            try simp only [go_sem, simprocAttr, h29] at hL
            try clear h29
            have h4 := hL
            clear hL
            clear hK K
            refine awl_ret ?_
            refine ret0 (by simp only [go_sem, simprocAttr, h4]; exact rfl) ?_
            try simp only [go_sem, simprocAttr]
            all_goals (rw [decide_eq_true]; cases a; cases b; simp_all)
set_option maxHeartbeats 8000000 in
set_option maxRecDepth 100000 in
theorem sat_laws_eqEffect (a : Fx) (b : Fx)  : Sat Try.prog 146 [.agg a.cells, .agg b.cells] [] (.bool (decide (a = b))) [] := by
  refine sat_mk [.tmp 4] 0 43 Try.call146 Try.func146 Try.ntmps146 rfl rfl rfl rfl rfl ?_
  refine awl_live' [0, 1] fun ρ hL => ?_
  try simp only [go_sem, simprocAttr] at hL
  obtain ⟨h0, h1⟩ := hL
  refine awl_seq ?_
  refine awl_regS [(some 2, (.box 92 (.tmp 0)), none), (some 3, (.box 92 (.tmp 1)), none), (some 4, (.assign (.const (.bool false))), none)] rfl fun K hK => ?_
  try simp only [go_sem, simprocAttr, h0, h1]
  repeat' (refine And.intro (by first | rfl | omega | (simp; done)) ?_)
  refine hK _ _ (.mk (awl_live' [2, 3] fun ρ hL => ?_))
  try simp only [go_sem, simprocAttr, h0, h1] at hL
  try clear h0 h1
  obtain ⟨h2, h3⟩ := hL
  clear hK K
  refine awl_seq ?_
  refine awl_seq ?_
  refine awl_regS [(some 5, (.fieldAddr 92 (.tmp 2) 0), none), (some 6, (.load 3 (.tmp 5)), none), (some 7, (.fieldAddr 92 (.tmp 3) 0), none), (some 8, (.load 3 (.tmp 7)), none), (some 9, (.binOp .neq 3 (.tmp 6) (.tmp 8) 3), none)] rfl fun K hK => ?_
  try simp only [go_sem, simprocAttr, h2, h3]
  repeat' (refine And.intro (by first | rfl | omega | (simp; done)) ?_)
  refine hK _ _ (.mk (awl_live' [2, 3, 9] fun ρ hL => ?_))
  try simp only [go_sem, simprocAttr, h2, h3] at hL
  try clear h2 h3
  obtain ⟨h2, h3, h9⟩ := hL
  clear hK K
  refine awl_cond h9 (fun c1 => ?_) (fun c1 => ?_)
  ·
    try simp only [cnd] at c1
    refine awl_seq ?_
    refine awl_regS [(some 4, (.assign (.const (.bool false))), none)] rfl fun K hK => ?_
    try simp only [go_sem, simprocAttr, h2, h3, h9]
    repeat' (refine And.intro (by first | rfl | omega | (simp; done)) ?_)
    refine hK _ _ (.mk (awl_live' [4] fun ρ hL => ?_))
    try simp only [go_sem, simprocAttr, h2, h3, h9] at hL
    try clear h2 h3 h9
    have h4 := hL
    clear hL
    clear hK K
    refine awl_ret ?_
    refine ret0 (by simp only [go_sem, simprocAttr, h4]; exact rfl) ?_
    try simp only [go_sem, simprocAttr]
    all_goals (rw [decide_eq_false]; rintro rfl; first | exact c1 rfl | exact c2 rfl | exact c3 rfl | exact c4 rfl | exact c5 rfl | exact c6 rfl | exact c7 rfl | (simp at c1; done) | (simp at c2; done) | (simp at c3; done) | (simp at c4; done)| (simp at c5; done) | (simp at c6; done) | (simp at c7; done))
  ·
    try simp only [cnd] at c1
    refine awl_skip ?_
    refine awl_seq ?_
    refine awl_seq ?_
    refine awl_regS [(some 10, (.fieldAddr 92 (.tmp 2) 1), none), (some 11, (.load 3 (.tmp 10)), none), (some 12, (.fieldAddr 92 (.tmp 3) 1), none), (some 13, (.load 3 (.tmp 12)), none), (some 14, (.binOp .neq 3 (.tmp 11) (.tmp 13) 3), none)] rfl fun K hK => ?_
    try simp only [go_sem, simprocAttr, h2, h3, h9]
    repeat' (refine And.intro (by first | rfl | omega | (simp; done)) ?_)
    refine hK _ _ (.mk (awl_live' [2, 3, 14] fun ρ hL => ?_))
    try simp only [go_sem, simprocAttr, h2, h3, h9] at hL
    try clear h2 h3 h9
    obtain ⟨h2, h3, h14⟩ := hL
    clear hK K
    refine awl_cond h14 (fun c2 => ?_) (fun c2 => ?_)
    ·
      try simp only [cnd] at c2
      refine awl_seq ?_
      refine awl_regS [(some 4, (.assign (.const (.bool false))), none)] rfl fun K hK => ?_
      try simp only [go_sem, simprocAttr, h2, h3, h14]
      repeat' (refine And.intro (by first | rfl | omega | (simp; done)) ?_)
      refine hK _ _ (.mk (awl_live' [4] fun ρ hL => ?_))
      try simp only [go_sem, simprocAttr, h2, h3, h14] at hL
      try clear h2 h3 h14
      have h4 := hL
      clear hL
      clear hK K
      refine awl_ret ?_
      refine ret0 (by simp only [go_sem, simprocAttr, h4]; exact rfl) ?_
      try simp only [go_sem, simprocAttr]
      all_goals (rw [decide_eq_false]; rintro rfl; first | exact c1 rfl | exact c2 rfl | exact c3 rfl | exact c4 rfl | exact c5 rfl | exact c6 rfl | exact c7 rfl | (simp at c1; done) | (simp at c2; done) | (simp at c3; done) | (simp at c4; done)| (simp at c5; done) | (simp at c6; done) | (simp at c7; done))
    ·
      try simp only [cnd] at c2
      refine awl_skip ?_
      refine awl_seq ?_
      refine awl_seq ?_
      refine awl_regS [(some 15, (.fieldAddr 92 (.tmp 2) 2), none), (some 16, (.load 42 (.tmp 15)), none), (some 17, (.fieldAddr 92 (.tmp 3) 2), none), (some 18, (.load 42 (.tmp 17)), none), (some 19, (.call ⟨(.value (.func 37)), #[(.tmp 16), (.tmp 18)], #[42, 42]⟩), none), (some 20, (.unOp .not 4 (.tmp 19)), none)] rfl fun K hK => ?_
      try simp only [go_sem, simprocAttr, h2, h3, h14]
      repeat' (refine And.intro (by first | rfl | omega | (simp; done)) ?_)
      refine opS_call_ro rfl (sat_laws_eqWord a.val b.val) ?ha ?hv ?hh ?_
      case ha => simp only [go_sem, simprocAttr, h2, h3, h14]; first | done | rfl
      case hv => first | rfl | (simp only [go_sem]; done)
      case hh => first | rfl | (simp only [go_sem]; done)
      try simp only [go_sem, simprocAttr, h2, h3, h14]
      repeat' (refine And.intro (by first | rfl | omega | (simp; done)) ?_)
      refine hK _ _ (.mk (awl_live' [2, 3, 20] fun ρ hL => ?_))
      try simp only [go_sem, simprocAttr, h2, h3, h14] at hL
      try clear h2 h3 h14
      obtain ⟨h2, h3, h20⟩ := hL
      clear hK K
      refine awl_cond h20 (fun c3 => ?_) (fun c3 => ?_)
      ·
        try simp only [cnd] at c3
        refine awl_seq ?_
        refine awl_regS [(some 4, (.assign (.const (.bool false))), none)] rfl fun K hK => ?_
        try simp only [go_sem, simprocAttr, h2, h3, h20]
        repeat' (refine And.intro (by first | rfl | omega | (simp; done)) ?_)
        refine hK _ _ (.mk (awl_live' [4] fun ρ hL => ?_))
        try simp only [go_sem, simprocAttr, h2, h3, h20] at hL
        try clear h2 h3 h20
        have h4 := hL
        clear hL
        clear hK K
        refine awl_ret ?_
        refine ret0 (by simp only [go_sem, simprocAttr, h4]; exact rfl) ?_
        try simp only [go_sem, simprocAttr]
        all_goals (rw [decide_eq_false]; rintro rfl; first | exact c1 rfl | exact c2 rfl | exact c3 rfl | exact c4 rfl | exact c5 rfl | exact c6 rfl | exact c7 rfl | (simp at c1; done) | (simp at c2; done) | (simp at c3; done) | (simp at c4; done)| (simp at c5; done) | (simp at c6; done) | (simp at c7; done))
      ·
        try simp only [cnd] at c3
        refine awl_skip ?_
        refine awl_seq ?_
        refine awl_seq ?_
        refine awl_regS [(some 21, (.fieldAddr 92 (.tmp 2) 3), none), (some 22, (.load 42 (.tmp 21)), none), (some 23, (.fieldAddr 92 (.tmp 3) 3), none), (some 24, (.load 42 (.tmp 23)), none), (some 25, (.call ⟨(.value (.func 37)), #[(.tmp 22), (.tmp 24)], #[42, 42]⟩), none), (some 26, (.unOp .not 4 (.tmp 25)), none)] rfl fun K hK => ?_
        try simp only [go_sem, simprocAttr, h2, h3, h20]
        repeat' (refine And.intro (by first | rfl | omega | (simp; done)) ?_)
        refine opS_call_ro rfl (sat_laws_eqWord a.next b.next) ?ha ?hv ?hh ?_
        case ha => simp only [go_sem, simprocAttr, h2, h3, h20]; first | done | rfl
        case hv => first | rfl | (simp only [go_sem]; done)
        case hh => first | rfl | (simp only [go_sem]; done)
        try simp only [go_sem, simprocAttr, h2, h3, h20]
        repeat' (refine And.intro (by first | rfl | omega | (simp; done)) ?_)
        refine hK _ _ (.mk (awl_live' [2, 3, 26] fun ρ hL => ?_))
        try simp only [go_sem, simprocAttr, h2, h3, h20] at hL
        try clear h2 h3 h20
        obtain ⟨h2, h3, h26⟩ := hL
        clear hK K
        refine awl_cond h26 (fun c4 => ?_) (fun c4 => ?_)
        ·
          try simp only [cnd] at c4
          refine awl_seq ?_
          refine awl_regS [(some 4, (.assign (.const (.bool false))), none)] rfl fun K hK => ?_
          try simp only [go_sem, simprocAttr, h2, h3, h26]
          repeat' (refine And.intro (by first | rfl | omega | (simp; done)) ?_)
          refine hK _ _ (.mk (awl_live' [4] fun ρ hL => ?_))
          try simp only [go_sem, simprocAttr, h2, h3, h26] at hL
          try clear h2 h3 h26
          have h4 := hL
          clear hL
          clear hK K
          refine awl_ret ?_
          refine ret0 (by simp only [go_sem, simprocAttr, h4]; exact rfl) ?_
          try simp only [go_sem, simprocAttr]
          all_goals (rw [decide_eq_false]; rintro rfl; first | exact c1 rfl | exact c2 rfl | exact c3 rfl | exact c4 rfl | exact c5 rfl | exact c6 rfl | exact c7 rfl | (simp at c1; done) | (simp at c2; done) | (simp at c3; done) | (simp at c4; done)| (simp at c5; done) | (simp at c6; done) | (simp at c7; done))
        ·
          try simp only [cnd] at c4
          refine awl_skip ?_
          refine awl_seq ?_
          refine awl_seq ?_
          refine awl_regS [(some 27, (.fieldAddr 92 (.tmp 2) 4), none), (some 28, (.load 3 (.tmp 27)), none), (some 29, (.fieldAddr 92 (.tmp 3) 4), none), (some 30, (.load 3 (.tmp 29)), none), (some 31, (.binOp .neq 3 (.tmp 28) (.tmp 30) 3), none)] rfl fun K hK => ?_
          try simp only [go_sem, simprocAttr, h2, h3, h26]
          repeat' (refine And.intro (by first | rfl | omega | (simp; done)) ?_)
          refine hK _ _ (.mk (awl_live' [2, 3, 31] fun ρ hL => ?_))
          try simp only [go_sem, simprocAttr, h2, h3, h26] at hL
          try clear h2 h3 h26
          obtain ⟨h2, h3, h31⟩ := hL
          clear hK K
          refine awl_cond h31 (fun c5 => ?_) (fun c5 => ?_)
          ·
            try simp only [cnd] at c5
            refine awl_seq ?_
            refine awl_regS [(some 4, (.assign (.const (.bool false))), none)] rfl fun K hK => ?_
            try simp only [go_sem, simprocAttr, h2, h3, h31]
            repeat' (refine And.intro (by first | rfl | omega | (simp; done)) ?_)
            refine hK _ _ (.mk (awl_live' [4] fun ρ hL => ?_))
            try simp only [go_sem, simprocAttr, h2, h3, h31] at hL
            try clear h2 h3 h31
            have h4 := hL
            clear hL
            clear hK K
            refine awl_ret ?_
            refine ret0 (by simp only [go_sem, simprocAttr, h4]; exact rfl) ?_
            try simp only [go_sem, simprocAttr]
            all_goals (rw [decide_eq_false]; rintro rfl; first | exact c1 rfl | exact c2 rfl | exact c3 rfl | exact c4 rfl | exact c5 rfl | exact c6 rfl | exact c7 rfl | (simp at c1; done) | (simp at c2; done) | (simp at c3; done) | (simp at c4; done)| (simp at c5; done) | (simp at c6; done) | (simp at c7; done))
          ·
            try simp only [cnd] at c5
            refine awl_skip ?_
            refine awl_seq ?_
            refine awl_seq ?_
            refine awl_regS [(some 32, (.fieldAddr 92 (.tmp 2) 5), none), (some 33, (.load 42 (.tmp 32)), none), (some 34, (.fieldAddr 92 (.tmp 3) 5), none), (some 35, (.load 42 (.tmp 34)), none), (some 36, (.call ⟨(.value (.func 37)), #[(.tmp 33), (.tmp 35)], #[42, 42]⟩), none), (some 37, (.unOp .not 4 (.tmp 36)), none)] rfl fun K hK => ?_
            try simp only [go_sem, simprocAttr, h2, h3, h31]
            repeat' (refine And.intro (by first | rfl | omega | (simp; done)) ?_)
            refine opS_call_ro rfl (sat_laws_eqWord a.put b.put) ?ha ?hv ?hh ?_
            case ha => simp only [go_sem, simprocAttr, h2, h3, h31]; first | done | rfl
            case hv => first | rfl | (simp only [go_sem]; done)
            case hh => first | rfl | (simp only [go_sem]; done)
            try simp only [go_sem, simprocAttr, h2, h3, h31]
            repeat' (refine And.intro (by first | rfl | omega | (simp; done)) ?_)
            refine hK _ _ (.mk (awl_live' [2, 3, 37] fun ρ hL => ?_))
            try simp only [go_sem, simprocAttr, h2, h3, h31] at hL
            try clear h2 h3 h31
            obtain ⟨h2, h3, h37⟩ := hL
            clear hK K
            refine awl_cond h37 (fun c6 => ?_) (fun c6 => ?_)
            ·
              try simp only [cnd] at c6
              refine awl_seq ?_
              refine awl_regS [(some 4, (.assign (.const (.bool false))), none)] rfl fun K hK => ?_
              try simp only [go_sem, simprocAttr, h2, h3, h37]
              repeat' (refine And.intro (by first | rfl | omega | (simp; done)) ?_)
              refine hK _ _ (.mk (awl_live' [4] fun ρ hL => ?_))
              try simp only [go_sem, simprocAttr, h2, h3, h37] at hL
              try clear h2 h3 h37
              have h4 := hL
              clear hL
              clear hK K
              refine awl_ret ?_
              refine ret0 (by simp only [go_sem, simprocAttr, h4]; exact rfl) ?_
              try simp only [go_sem, simprocAttr]
              all_goals (rw [decide_eq_false]; rintro rfl; first | exact c1 rfl | exact c2 rfl | exact c3 rfl | exact c4 rfl | exact c5 rfl | exact c6 rfl | exact c7 rfl | (simp at c1; done) | (simp at c2; done) | (simp at c3; done) | (simp at c4; done)| (simp at c5; done) | (simp at c6; done) | (simp at c7; done))
            ·
              try simp only [cnd] at c6
              refine awl_skip ?_
              refine awl_seq ?_
              refine awl_seq ?_
              refine awl_regS [(some 38, (.fieldAddr 92 (.tmp 2) 6), none), (some 39, (.load 3 (.tmp 38)), none), (some 40, (.fieldAddr 92 (.tmp 3) 6), none), (some 41, (.load 3 (.tmp 40)), none), (some 42, (.binOp .neq 3 (.tmp 39) (.tmp 41) 3), none)] rfl fun K hK => ?_
              try simp only [go_sem, simprocAttr, h2, h3, h37]
              repeat' (refine And.intro (by first | rfl | omega | (simp; done)) ?_)
              refine hK _ _ (.mk (awl_live' [42] fun ρ hL => ?_))
              try simp only [go_sem, simprocAttr, h2, h3, h37] at hL
              try clear h2 h3 h37
              have h42 := hL
              clear hL
              clear hK K
              refine awl_cond h42 (fun c7 => ?_) (fun c7 => ?_)
              ·
                try simp only [cnd] at c7
                refine awl_seq ?_
                refine awl_regS [(some 4, (.assign (.const (.bool false))), none)] rfl fun K hK => ?_
                try simp only [go_sem, simprocAttr, h42]
                repeat' (refine And.intro (by first | rfl | omega | (simp; done)) ?_)
                refine hK _ _ (.mk (awl_live' [4] fun ρ hL => ?_))
                try simp only [go_sem, simprocAttr, h42] at hL
                try clear h42
                have h4 := hL
                clear hL
                clear hK K
                refine awl_ret ?_
                refine ret0 (by simp only [go_sem, simprocAttr, h4]; exact rfl) ?_
                try simp only [go_sem, simprocAttr]
                all_goals (rw [decide_eq_false]; rintro rfl; first | exact c1 rfl | exact c2 rfl | exact c3 rfl | exact c4 rfl | exact c5 rfl | exact c6 rfl | exact c7 rfl | (simp at c1; done) | (simp at c2; done) | (simp at c3; done) | (simp at c4; done)| (simp at c5; done) | (simp at c6; done) | (simp at c7; done))
              ·
                try simp only [cnd] at c7
                refine awl_skip ?_
                refine awl_seq ?_
                refine awl_regS [(some 4, (.assign (.const (.bool true))), none)] rfl fun K hK => ?_
                try simp only [go_sem, simprocAttr, h42]
                repeat' (refine And.intro (by first | rfl | omega | (simp; done)) ?_)
                refine hK _ _ (.mk (awl_live' [4] fun ρ hL => ?_))
                try simp only [go_sem, simprocAttr, h42] at hL
                try clear h42
                have h4 := hL
                clear hL
                clear hK K
                refine awl_ret ?_
                refine ret0 (by simp only [go_sem, simprocAttr, h4]; exact rfl) ?_
                try simp only [go_sem, simprocAttr]
                all_goals (rw [decide_eq_true]; cases a; cases b; simp_all)
set_option maxHeartbeats 8000000 in
set_option maxRecDepth 100000 in
theorem sat_laws_eqEntry (a : Ent) (b : Ent)  : Sat Try.prog 117 [.agg a.cells, .agg b.cells] [] (.bool (decide (a = b))) [] := by
  refine sat_mk [.tmp 4] 0 34 Try.call117 Try.func117 Try.ntmps117 rfl rfl rfl rfl rfl ?_
  refine awl_live' [0, 1] fun ρ hL => ?_
  try simp only [go_sem, simprocAttr] at hL
  obtain ⟨h0, h1⟩ := hL
  refine awl_seq ?_
  refine awl_regS [(some 2, (.box 96 (.tmp 0)), none), (some 3, (.box 96 (.tmp 1)), none), (some 4, (.assign (.const (.bool false))), none)] rfl fun K hK => ?_
  try simp only [go_sem, simprocAttr, h0, h1]
  repeat' (refine And.intro (by first | rfl | omega | (simp; done)) ?_)
  refine hK _ _ (.mk (awl_live' [2, 3] fun ρ hL => ?_))
  try simp only [go_sem, simprocAttr, h0, h1] at hL
  try clear h0 h1
  obtain ⟨h2, h3⟩ := hL
  clear hK K
  refine awl_seq ?_
  refine awl_seq ?_
  refine awl_regS [(some 5, (.fieldAddr 96 (.tmp 2) 0), none), (some 6, (.load 42 (.tmp 5)), none), (some 7, (.fieldAddr 96 (.tmp 3) 0), none), (some 8, (.load 42 (.tmp 7)), none), (some 9, (.call ⟨(.value (.func 37)), #[(.tmp 6), (.tmp 8)], #[42, 42]⟩), none), (some 10, (.unOp .not 4 (.tmp 9)), none)] rfl fun K hK => ?_
  try simp only [go_sem, simprocAttr, h2, h3]
  repeat' (refine And.intro (by first | rfl | omega | (simp; done)) ?_)
  refine opS_call_ro rfl (sat_laws_eqWord a.pc b.pc) ?ha ?hv ?hh ?_
  case ha => simp only [go_sem, simprocAttr, h2, h3]; first | done | rfl
  case hv => first | rfl | (simp only [go_sem]; done)
  case hh => first | rfl | (simp only [go_sem]; done)
  try simp only [go_sem, simprocAttr, h2, h3]
  repeat' (refine And.intro (by first | rfl | omega | (simp; done)) ?_)
  refine hK _ _ (.mk (awl_live' [2, 3, 10] fun ρ hL => ?_))
  try simp only [go_sem, simprocAttr, h2, h3] at hL
  try clear h2 h3
  obtain ⟨h2, h3, h10⟩ := hL
  clear hK K
  refine awl_cond h10 (fun c1 => ?_) (fun c1 => ?_)
  ·
    try simp only [cnd] at c1
    refine awl_seq ?_
    refine awl_regS [(some 4, (.assign (.const (.bool false))), none)] rfl fun K hK => ?_
    try simp only [go_sem, simprocAttr, h2, h3, h10]
    repeat' (refine And.intro (by first | rfl | omega | (simp; done)) ?_)
    refine hK _ _ (.mk (awl_live' [4] fun ρ hL => ?_))
    try simp only [go_sem, simprocAttr, h2, h3, h10] at hL
    try clear h2 h3 h10
    have h4 := hL
    clear hL
    clear hK K
    refine awl_ret ?_
    refine ret0 (by simp only [go_sem, simprocAttr, h4]; exact rfl) ?_
    try simp only [go_sem, simprocAttr]
    all_goals (rw [decide_eq_false]; rintro rfl; first | exact c1 rfl | exact c2 rfl | exact c3 rfl | exact c4 rfl | exact c5 rfl | exact c6 rfl | exact c7 rfl | (simp at c1; done) | (simp at c2; done) | (simp at c3; done) | (simp at c4; done)| (simp at c5; done) | (simp at c6; done) | (simp at c7; done))
  ·
    try simp only [cnd] at c1
    refine awl_skip ?_
    refine awl_seq ?_
    refine awl_seq ?_
    refine awl_regS [(some 11, (.fieldAddr 96 (.tmp 2) 1), none), (some 12, (.load 94 (.tmp 11)), none), (some 13, (.fieldAddr 96 (.tmp 3) 1), none), (some 14, (.load 94 (.tmp 13)), none), (some 15, (.call ⟨(.value (.func 145)), #[(.tmp 12), (.tmp 14)], #[94, 94]⟩), none), (some 16, (.unOp .not 4 (.tmp 15)), none)] rfl fun K hK => ?_
    try simp only [go_sem, simprocAttr, h2, h3, h10]
    repeat' (refine And.intro (by first | rfl | omega | (simp; done)) ?_)
    refine opS_call_ro rfl (sat_laws_eqIns a.x b.x) ?ha ?hv ?hh ?_
    case ha => simp only [go_sem, simprocAttr, h2, h3, h10]; first | done | rfl
    case hv => first | rfl | (simp only [go_sem]; done)
    case hh => first | rfl | (simp only [go_sem]; done)
    try simp only [go_sem, simprocAttr, h2, h3, h10]
    repeat' (refine And.intro (by first | rfl | omega | (simp; done)) ?_)
    refine hK _ _ (.mk (awl_live' [2, 3, 16] fun ρ hL => ?_))
    try simp only [go_sem, simprocAttr, h2, h3, h10] at hL
    try clear h2 h3 h10
    obtain ⟨h2, h3, h16⟩ := hL
    clear hK K
    refine awl_cond h16 (fun c2 => ?_) (fun c2 => ?_)
    ·
      try simp only [cnd] at c2
      refine awl_seq ?_
      refine awl_regS [(some 4, (.assign (.const (.bool false))), none)] rfl fun K hK => ?_
      try simp only [go_sem, simprocAttr, h2, h3, h16]
      repeat' (refine And.intro (by first | rfl | omega | (simp; done)) ?_)
      refine hK _ _ (.mk (awl_live' [4] fun ρ hL => ?_))
      try simp only [go_sem, simprocAttr, h2, h3, h16] at hL
      try clear h2 h3 h16
      have h4 := hL
      clear hL
      clear hK K
      refine awl_ret ?_
      refine ret0 (by simp only [go_sem, simprocAttr, h4]; exact rfl) ?_
      try simp only [go_sem, simprocAttr]
      all_goals (rw [decide_eq_false]; rintro rfl; first | exact c1 rfl | exact c2 rfl | exact c3 rfl | exact c4 rfl | exact c5 rfl | exact c6 rfl | exact c7 rfl | (simp at c1; done) | (simp at c2; done) | (simp at c3; done) | (simp at c4; done)| (simp at c5; done) | (simp at c6; done) | (simp at c7; done))
    ·
      try simp only [cnd] at c2
      refine awl_skip ?_
      refine awl_seq ?_
      refine awl_seq ?_
      refine awl_regS [(some 17, (.fieldAddr 96 (.tmp 2) 2), none), (some 18, (.load 4 (.tmp 17)), none), (some 19, (.fieldAddr 96 (.tmp 3) 2), none), (some 20, (.load 4 (.tmp 19)), none), (some 21, (.binOp .neq 4 (.tmp 18) (.tmp 20) 4), none)] rfl fun K hK => ?_
      try simp only [go_sem, simprocAttr, h2, h3, h16]
      repeat' (refine And.intro (by first | rfl | omega | (simp; done)) ?_)
      refine hK _ _ (.mk (awl_live' [2, 3, 21] fun ρ hL => ?_))
      try simp only [go_sem, simprocAttr, h2, h3, h16] at hL
      try clear h2 h3 h16
      obtain ⟨h2, h3, h21⟩ := hL
      clear hK K
      refine awl_cond h21 (fun c3 => ?_) (fun c3 => ?_)
      ·
        try simp only [cnd] at c3
        refine awl_seq ?_
        refine awl_regS [(some 4, (.assign (.const (.bool false))), none)] rfl fun K hK => ?_
        try simp only [go_sem, simprocAttr, h2, h3, h21]
        repeat' (refine And.intro (by first | rfl | omega | (simp; done)) ?_)
        refine hK _ _ (.mk (awl_live' [4] fun ρ hL => ?_))
        try simp only [go_sem, simprocAttr, h2, h3, h21] at hL
        try clear h2 h3 h21
        have h4 := hL
        clear hL
        clear hK K
        refine awl_ret ?_
        refine ret0 (by simp only [go_sem, simprocAttr, h4]; exact rfl) ?_
        try simp only [go_sem, simprocAttr]
        all_goals (rw [decide_eq_false]; rintro rfl; first | exact c1 rfl | exact c2 rfl | exact c3 rfl | exact c4 rfl | exact c5 rfl | exact c6 rfl | exact c7 rfl | (simp at c1; done) | (simp at c2; done) | (simp at c3; done) | (simp at c4; done)| (simp at c5; done) | (simp at c6; done) | (simp at c7; done))
      ·
        try simp only [cnd] at c3
        refine awl_skip ?_
        refine awl_seq ?_
        refine awl_seq ?_
        refine awl_regS [(some 22, (.fieldAddr 96 (.tmp 2) 3), none), (some 23, (.load 92 (.tmp 22)), none), (some 24, (.fieldAddr 96 (.tmp 3) 3), none), (some 25, (.load 92 (.tmp 24)), none), (some 26, (.call ⟨(.value (.func 146)), #[(.tmp 23), (.tmp 25)], #[92, 92]⟩), none), (some 27, (.unOp .not 4 (.tmp 26)), none)] rfl fun K hK => ?_
        try simp only [go_sem, simprocAttr, h2, h3, h21]
        repeat' (refine And.intro (by first | rfl | omega | (simp; done)) ?_)
        refine opS_call_ro rfl (sat_laws_eqEffect a.e b.e) ?ha ?hv ?hh ?_
        case ha => simp only [go_sem, simprocAttr, h2, h3, h21]; first | done | rfl
        case hv => first | rfl | (simp only [go_sem]; done)
        case hh => first | rfl | (simp only [go_sem]; done)
        try simp only [go_sem, simprocAttr, h2, h3, h21]
        repeat' (refine And.intro (by first | rfl | omega | (simp; done)) ?_)
        refine hK _ _ (.mk (awl_live' [2, 3, 27] fun ρ hL => ?_))
        try simp only [go_sem, simprocAttr, h2, h3, h21] at hL
        try clear h2 h3 h21
        obtain ⟨h2, h3, h27⟩ := hL
        clear hK K
        refine awl_cond h27 (fun c4 => ?_) (fun c4 => ?_)
        ·
          try simp only [cnd] at c4
          refine awl_seq ?_
          refine awl_regS [(some 4, (.assign (.const (.bool false))), none)] rfl fun K hK => ?_
          try simp only [go_sem, simprocAttr, h2, h3, h27]
          repeat' (refine And.intro (by first | rfl | omega | (simp; done)) ?_)
          refine hK _ _ (.mk (awl_live' [4] fun ρ hL => ?_))
          try simp only [go_sem, simprocAttr, h2, h3, h27] at hL
          try clear h2 h3 h27
          have h4 := hL
          clear hL
          clear hK K
          refine awl_ret ?_
          refine ret0 (by simp only [go_sem, simprocAttr, h4]; exact rfl) ?_
          try simp only [go_sem, simprocAttr]
          all_goals (rw [decide_eq_false]; rintro rfl; first | exact c1 rfl | exact c2 rfl | exact c3 rfl | exact c4 rfl | exact c5 rfl | exact c6 rfl | exact c7 rfl | (simp at c1; done) | (simp at c2; done) | (simp at c3; done) | (simp at c4; done)| (simp at c5; done) | (simp at c6; done) | (simp at c7; done))
        ·
          try simp only [cnd] at c4
          refine awl_skip ?_
          refine awl_seq ?_
          refine awl_seq ?_
          refine awl_regS [(some 28, (.fieldAddr 96 (.tmp 2) 4), none), (some 29, (.load 42 (.tmp 28)), none), (some 30, (.fieldAddr 96 (.tmp 3) 4), none), (some 31, (.load 42 (.tmp 30)), none), (some 32, (.call ⟨(.value (.func 37)), #[(.tmp 29), (.tmp 31)], #[42, 42]⟩), none), (some 33, (.unOp .not 4 (.tmp 32)), none)] rfl fun K hK => ?_
          try simp only [go_sem, simprocAttr, h2, h3, h27]
          repeat' (refine And.intro (by first | rfl | omega | (simp; done)) ?_)
          refine opS_call_ro rfl (sat_laws_eqWord a.guess b.guess) ?ha ?hv ?hh ?_
          case ha => simp only [go_sem, simprocAttr, h2, h3, h27]; first | done | rfl
          case hv => first | rfl | (simp only [go_sem]; done)
          case hh => first | rfl | (simp only [go_sem]; done)
          try simp only [go_sem, simprocAttr, h2, h3, h27]
          repeat' (refine And.intro (by first | rfl | omega | (simp; done)) ?_)
          refine hK _ _ (.mk (awl_live' [33] fun ρ hL => ?_))
          try simp only [go_sem, simprocAttr, h2, h3, h27] at hL
          try clear h2 h3 h27
          have h33 := hL
          clear hL
          clear hK K
          refine awl_cond h33 (fun c5 => ?_) (fun c5 => ?_)
          ·
            try simp only [cnd] at c5
            refine awl_seq ?_
            refine awl_regS [(some 4, (.assign (.const (.bool false))), none)] rfl fun K hK => ?_
            try simp only [go_sem, simprocAttr, h33]
            repeat' (refine And.intro (by first | rfl | omega | (simp; done)) ?_)
            refine hK _ _ (.mk (awl_live' [4] fun ρ hL => ?_))
            try simp only [go_sem, simprocAttr, h33] at hL
            try clear h33
            have h4 := hL
            clear hL
            clear hK K
            refine awl_ret ?_
            refine ret0 (by simp only [go_sem, simprocAttr, h4]; exact rfl) ?_
            try simp only [go_sem, simprocAttr]
            all_goals (rw [decide_eq_false]; rintro rfl; first | exact c1 rfl | exact c2 rfl | exact c3 rfl | exact c4 rfl | exact c5 rfl | exact c6 rfl | exact c7 rfl | (simp at c1; done) | (simp at c2; done) | (simp at c3; done) | (simp at c4; done)| (simp at c5; done) | (simp at c6; done) | (simp at c7; done))
          ·
            try simp only [cnd] at c5
            refine awl_skip ?_
            refine awl_seq ?_
            refine awl_regS [(some 4, (.assign (.const (.bool true))), none)] rfl fun K hK => ?_
            try simp only [go_sem, simprocAttr, h33]
            repeat' (refine And.intro (by first | rfl | omega | (simp; done)) ?_)
            refine hK _ _ (.mk (awl_live' [4] fun ρ hL => ?_))
            try simp only [go_sem, simprocAttr, h33] at hL
            try clear h33
            have h4 := hL
            clear hL
            clear hK K
            refine awl_ret ?_
            refine ret0 (by simp only [go_sem, simprocAttr, h4]; exact rfl) ?_
            try simp only [go_sem, simprocAttr]
            all_goals (rw [decide_eq_true]; cases a; cases b; simp_all)
set_option maxHeartbeats 8000000 in
set_option maxRecDepth 100000 in
theorem sat_laws_toEntryS (xs : List Ent) (hb : xs.length ≤ 1073741824) : Sat Try.prog 67 [.sl xs.length xs.length (rows xs)] [] (.slice 0 0 xs.length 0) [⟨40, rows xs, true, false⟩] := by
  refine sat_mk [.tmp 2] 0 23 Try.call67 Try.func67 Try.ntmps67 rfl rfl rfl rfl rfl ?_
  refine awl_live' [0] fun ρ hL => ?_
  try simp only [go_sem, simprocAttr, List.length_append, List.length_take, List.length_replicate] at hL
  have h0 := hL
  clear hL
  refine awl_seq ?_
  refine awl_regS [(some 2, (.assign (.const (.slice none 0 0))), none)] rfl fun K hK => ?_
  try simp only [go_sem, simprocAttr, h0, List.length_append, List.length_take, List.length_replicate]
  repeat' (refine And.intro (by first | rfl | omega | (simp; done)) ?_)
  refine hK _ _ (.mk (awl_live' [0] fun ρ hL => ?_))
  try simp only [go_sem, simprocAttr, h0, List.length_append, List.length_take, List.length_replicate] at hL
  try clear h0
  have h0 := hL
  clear hL
  clear hK K
  refine awl_seq ?_
  refine awl_regS [(some 5, (.move (.tmp 0)), none), (some 6, (.call ⟨(.builtin .len), #[(.tmp 5)], #[54]⟩), none), (some 7, (.makeSlice 59 (.tmp 6) (.tmp 6)), none), (some 3, (.assign (.tmp 7)), none)] rfl fun K hK => ?_
  try simp only [go_sem, simprocAttr, h0, List.length_append, List.length_take, List.length_replicate]
  repeat' (refine And.intro (by first | rfl | omega | (simp; done)) ?_)
  refine hK _ _ (.mk (awl_live' [0, 3] fun ρ hL => ?_))
  try simp only [go_sem, simprocAttr, h0, List.length_append, List.length_take, List.length_replicate] at hL
  try clear h0
  obtain ⟨h0, h3⟩ := hL
  clear hK K
  refine awl_seq ?_
  refine awl_seq ?_
  refine awl_regS [(some 4, (.assign (.const (.int .i64 0))), none)] rfl fun K hK => ?_
  try simp only [go_sem, simprocAttr, h0, h3, List.length_append, List.length_take, List.length_replicate]
  repeat' (refine And.intro (by first | rfl | omega | (simp; done)) ?_)
  refine hK _ _ (.mk (awl_live' [0, 3, 4] fun ρ hL => ?_))
  try simp only [go_sem, simprocAttr, h0, h3, List.length_append, List.length_take, List.length_replicate] at hL
  try clear h0 h3
  obtain ⟨h0, h3, h4⟩ := hL
  clear hK K
  have e1_0 := h0
  have e1_3 := h3
  refine awl_loopH (fun H0 n σ G => ∃ (i : Nat), n = xs.length - i ∧ (i ≤ xs.length) ∧ liveE [0, 3] σ ρ ∧ σ 4 = .int .i64 (i : Int) ∧ G = [⟨40, rows (xs.take i ++ List.replicate (xs.length - i) noEnt), true, false⟩]) (fun H0 σ G => liveE [3] σ ρ ∧ G = [⟨40, rows xs, true, false⟩]) ((fun (i : Nat) => xs.length - i) 0) ?init1 (fun n ρ G hI => ?round1) (fun ρ G hJ => ?after1)
  case init1 => exact ⟨0, rfl, (Nat.zero_le _), liveE_refl _ _, (h4), rfl⟩
  case round1 =>
    obtain ⟨i, hn, i1_0, hL, k4, hG⟩ := hI
    subst hG
    try simp only [go_sem, simprocAttr, h0, h3, h4, List.length_append, List.length_take, List.length_replicate] at hL
    clear h0 h3 h4
    obtain ⟨h0, h3⟩ := hL
    have h4 := k4
    clear k4
    refine awl_seq ?_
    refine awl_seq ?_
    refine awl_regS [(some 8, (.move (.tmp 4)), none), (some 9, (.move (.tmp 0)), none), (some 10, (.call ⟨(.builtin .len), #[(.tmp 9)], #[54]⟩), none), (some 11, (.binOp .lss 3 (.tmp 8) (.tmp 10) 3), none)] rfl fun K hK => ?_
    try simp only [go_sem, simprocAttr, h0, h3, h4, List.length_append, List.length_take, List.length_replicate]
    repeat' (refine And.intro (by first | rfl | omega | (simp; done)) ?_)
    refine hK _ _ (.mk (awl_live' [0, 3, 4, 11] fun ρ hL => ?_))
    try simp only [go_sem, simprocAttr, h0, h3, h4, List.length_append, List.length_take, List.length_replicate] at hL
    try clear h0 h3 h4
    obtain ⟨h0, h3, h4, h11⟩ := hL
    clear hK K
    refine awl_cond h11 (fun c1 => ?_) (fun c1 => ?_)
    ·
      try simp only [cnd] at c1
      have hi1 : i < xs.length := by omega
      refine awl_skip ?_
      refine awl_seq ?_
      refine awl_block fun R1 hw1 hR1 => ?_
      refine awl_regS [(some 14, (.move (.tmp 3)), none), (some 15, (.move (.tmp 4)), none), (some 16, (.move (.tmp 0)), none), (some 17, (.move (.tmp 4)), none), (some 18, (.indexAddr 54 (.tmp 16) (.tmp 17)), none), (some 19, (.load 134 (.tmp 18)), none), (some 20, (.call ⟨(.value (.func 115)), #[(.tmp 19)], #[134]⟩), none), (some 21, (.indexAddr 59 (.tmp 14) (.tmp 15)), none), (none, (.store 96 (.tmp 21) (.tmp 20)), none)] rfl fun K hK => ?_
      try simp only [go_sem, simprocAttr, h0, h3, h4, h11, hi1, List.length_append, List.length_take, List.length_replicate]
      repeat' (refine And.intro (by first | rfl | omega | (simp; done)) ?_)
      refine opS_call_ro rfl (sat_laws_toEntry (xs.getD i noEnt)) ?ha ?hv ?hh ?_
      case ha => simp only [go_sem, simprocAttr, h0, h3, h4, h11, hi1, List.length_append, List.length_take, List.length_replicate]; first | done | rfl
      case hv => first | rfl | (simp only [go_sem]; done)
      case hh => first | rfl | (simp only [go_sem]; done)
      try simp only [go_sem, simprocAttr, h0, h3, h4, h11, hi1, List.length_append, List.length_take, List.length_replicate]
      repeat' (refine And.intro (by first | rfl | omega | (simp; done)) ?_)
      refine hK _ _ (.mk (awl_live' [0, 3, 4] fun ρ hL => ?_))
      try simp only [go_sem, simprocAttr, h0, h3, h4, h11, hi1, List.length_append, List.length_take, List.length_replicate] at hL
      try clear h0 h3 h4 h11
      obtain ⟨h0, h3, h4⟩ := hL
      clear hK K
      refine awl_nil ?_
      refine blk_normal (hR1 _ _ (.mk ?_))
      have w1 : IntKind.i64.wrap ((i : Int) + 1) = ((i + 1 : Nat) : Int) := by rw [wrap64 (by omega)]; omega
      refine awl_regS [(some 12, (.move (.tmp 4)), none), (some 13, (.binOp .add 3 (.tmp 12) (.const (.int .i64 1)) 3), none), (some 4, (.assign (.tmp 13)), none)] rfl fun K hK => ?_
      try simp only [go_sem, simprocAttr, h0, h3, h4, hi1, w1, List.length_append, List.length_take, List.length_replicate]
      repeat' (refine And.intro (by first | rfl | omega | (simp; done)) ?_)
      refine hK _ _ (.mk (awl_live' [0, 3, 4] fun ρ hL => ?_))
      try simp only [go_sem, simprocAttr, h0, h3, h4, hi1, w1, List.length_append, List.length_take, List.length_replicate] at hL
      try clear h0 h3 h4
      obtain ⟨h0, h3, h4⟩ := hL
      clear hK K
      refine awl_nil ?_
      refine loop_again _ ?meas ⟨i + 1, rfl, (by omega), (by simp only [go_sem, simprocAttr, h0, h3, h4, hi1, List.length_append, List.length_take, List.length_replicate, e1_0, e1_3]), (h4), by rw [ents_put (by simp; omega), set_take (d := noEnt) hi1 rfl]⟩
      case meas => subst hn; omega
    ·
      try simp only [cnd] at c1
      refine awl_exit ?_
      refine loop_break ?_
      exact ⟨(by simp only [go_sem, simprocAttr, h0, h3, h4, h11, List.length_append, List.length_take, List.length_replicate, e1_0, e1_3]), by rw [show i = xs.length by omega]; simp⟩
  case after1 =>
    obtain ⟨hL, hG⟩ := hJ
    subst hG
    try simp only [go_sem, simprocAttr, h0, h3, h4, List.length_append, List.length_take, List.length_replicate] at hL
    clear h0 h3 h4
    have h3 := hL
    clear hL
    refine awl_seq ?_
    refine awl_regS [(some 22, (.move (.tmp 3)), none), (some 2, (.assign (.tmp 22)), none)] rfl fun K hK => ?_
    try simp only [go_sem, simprocAttr, h3, List.length_append, List.length_take, List.length_replicate]
    repeat' (refine And.intro (by first | rfl | omega | (simp; done)) ?_)
    refine hK _ _ (.mk (awl_live' [2] fun ρ hL => ?_))
    try simp only [go_sem, simprocAttr, h3, List.length_append, List.length_take, List.length_replicate] at hL
    try clear h3
    have h2 := hL
    clear hL
    clear hK K
    refine awl_ret ?_
    refine ret_wk (Wk.norm [] (RefE.refl.upd h2 (Ref.cap _ _ _ _ 0 (Nat.zero_le _)))) ?_
    refine retK [0] [0] rfl (by simp only [go_sem, simprocAttr, h2, List.length_append, List.length_take, List.length_replicate]; exact rfl) (by decide) (by first | rfl | (simp only [go_sem, simprocAttr, h2, List.length_append, List.length_take, List.length_replicate]; first | done | rfl)) (by first | rfl | (simp only [go_sem, simprocAttr, h2, List.length_append, List.length_take, List.length_replicate]; first | done | rfl)) ?_ ?_
    all_goals try simp only [go_sem, simprocAttr, h2, List.length_append, List.length_take, List.length_replicate]
    all_goals try clear hR1
    all_goals (first | done | rfl | (simp; done) | (simp [inR]; done) | (simp_all [inR]; done) | (simp [inR]; grind))
set_option maxHeartbeats 8000000 in
set_option maxRecDepth 100000 in
theorem sat_laws_eqEntryS (xs : List Ent) (ys : List Ent) (hb : xs.length ≤ 1099511627776) : Sat Try.prog 70 [.sl xs.length xs.length (rows xs), .sl ys.length ys.length (rows ys)] [] (.bool (decide (xs = ys))) [] := by
  refine sat_mk [.tmp 4] 0 27 Try.call70 Try.func70 Try.ntmps70 rfl rfl rfl rfl rfl ?_
  refine awl_live' [0, 1] fun ρ hL => ?_
  try simp only [go_sem, simprocAttr] at hL
  obtain ⟨h0, h1⟩ := hL
  refine awl_seq ?_
  refine awl_regS [(some 4, (.assign (.const (.bool false))), none)] rfl fun K hK => ?_
  try simp only [go_sem, simprocAttr, h0, h1]
  repeat' (refine And.intro (by first | rfl | omega | (simp; done)) ?_)
  refine hK _ _ (.mk (awl_live' [0, 1] fun ρ hL => ?_))
  try simp only [go_sem, simprocAttr, h0, h1] at hL
  try clear h0 h1
  obtain ⟨h0, h1⟩ := hL
  clear hK K
  refine awl_seq ?_
  refine awl_seq ?_
  refine awl_regS [(some 6, (.move (.tmp 0)), none), (some 7, (.call ⟨(.builtin .len), #[(.tmp 6)], #[59]⟩), none), (some 8, (.move (.tmp 1)), none), (some 9, (.call ⟨(.builtin .len), #[(.tmp 8)], #[59]⟩), none), (some 10, (.binOp .neq 3 (.tmp 7) (.tmp 9) 3), none)] rfl fun K hK => ?_
  try simp only [go_sem, simprocAttr, h0, h1]
  repeat' (refine And.intro (by first | rfl | omega | (simp; done)) ?_)
  refine hK _ _ (.mk (awl_live' [0, 1, 10] fun ρ hL => ?_))
  try simp only [go_sem, simprocAttr, h0, h1] at hL
  try clear h0 h1
  obtain ⟨h0, h1, h10⟩ := hL
  clear hK K
  refine awl_cond h10 (fun c1 => ?_) (fun c1 => ?_)
  ·
    try simp only [cnd] at c1
    refine awl_seq ?_
    refine awl_regS [(some 4, (.assign (.const (.bool false))), none)] rfl fun K hK => ?_
    try simp only [go_sem, simprocAttr, h0, h1, h10]
    repeat' (refine And.intro (by first | rfl | omega | (simp; done)) ?_)
    refine hK _ _ (.mk (awl_live' [4] fun ρ hL => ?_))
    try simp only [go_sem, simprocAttr, h0, h1, h10] at hL
    try clear h0 h1 h10
    have h4 := hL
    clear hL
    clear hK K
    refine awl_ret ?_
    refine ret0 (by simp only [go_sem, simprocAttr, h4]; exact rfl) ?_
    try simp only [go_sem, simprocAttr]
    all_goals (rw [decide_eq_false]; rintro rfl; exact c1 rfl)
  ·
    try simp only [cnd] at c1
    refine awl_skip ?_
    refine awl_seq ?_
    refine awl_seq ?_
    refine awl_regS [(some 5, (.assign (.const (.int .i64 0))), none)] rfl fun K hK => ?_
    try simp only [go_sem, simprocAttr, h0, h1, h10]
    repeat' (refine And.intro (by first | rfl | omega | (simp; done)) ?_)
    refine hK _ _ (.mk (awl_live' [0, 1, 5] fun ρ hL => ?_))
    try simp only [go_sem, simprocAttr, h0, h1, h10] at hL
    try clear h0 h1 h10
    obtain ⟨h0, h1, h5⟩ := hL
    clear hK K
    have e1_0 := h0
    have e1_1 := h1
    refine awl_loopH (fun H0 n σ G => ∃ (i : Nat), n = xs.length - i ∧ (i ≤ xs.length) ∧ (xs.take i = ys.take i) ∧ liveE [0, 1] σ ρ ∧ σ 5 = .int .i64 (i : Int) ∧ G = H0) (fun H0 σ G => (xs = ys) ∧ liveE [] σ ρ ∧ G = H0) ((fun (i : Nat) => xs.length - i) 0) ?init1 (fun n ρ G hI => ?round1) (fun ρ G hJ => ?after1)
    case init1 => exact ⟨0, rfl, (Nat.zero_le _), (by simp), liveE_refl _ _, (h5), rfl⟩
    case round1 =>
      obtain ⟨i, hn, i1_0, i1_1, hL, k5, hG⟩ := hI
      subst hG
      try simp only [go_sem, simprocAttr, h0, h1, h5] at hL
      clear h0 h1 h5
      obtain ⟨h0, h1⟩ := hL
      have h5 := k5
      clear k5
      refine awl_seq ?_
      refine awl_seq ?_
      refine awl_regS [(some 11, (.move (.tmp 5)), none), (some 12, (.move (.tmp 0)), none), (some 13, (.call ⟨(.builtin .len), #[(.tmp 12)], #[59]⟩), none), (some 14, (.binOp .lss 3 (.tmp 11) (.tmp 13) 3), none)] rfl fun K hK => ?_
      try simp only [go_sem, simprocAttr, h0, h1, h5]
      repeat' (refine And.intro (by first | rfl | omega | (simp; done)) ?_)
      refine hK _ _ (.mk (awl_live' [0, 1, 5, 14] fun ρ hL => ?_))
      try simp only [go_sem, simprocAttr, h0, h1, h5] at hL
      try clear h0 h1 h5
      obtain ⟨h0, h1, h5, h14⟩ := hL
      clear hK K
      refine awl_cond h14 (fun c2 => ?_) (fun c2 => ?_)
      ·
        try simp only [cnd] at c2
        have hi1 : i < xs.length := by omega
        refine awl_skip ?_
        refine awl_seq ?_
        refine awl_block fun R1 hw1 hR1 => ?_
        refine awl_seq ?_
        have hj : i < ys.length := by omega
        refine awl_regD mixed [(some 17, (.move (.tmp 0)), none), (some 18, (.move (.tmp 5)), none), (some 19, (.indexAddr 59 (.tmp 17) (.tmp 18)), none), (some 20, (.load 96 (.tmp 19)), none), (some 21, (.move (.tmp 1)), none), (some 22, (.move (.tmp 5)), none), (some 23, (.indexAddr 59 (.tmp 21) (.tmp 22)), none), (some 24, (.load 96 (.tmp 23)), none), (some 25, (.call ⟨(.value (.func 117)), #[(.tmp 20), (.tmp 24)], #[96, 96]⟩), none), (some 26, (.unOp .not 4 (.tmp 25)), none)] rfl fun K hK => ?_
        try simp only [go_sem, simprocAttr, h0, h1, h5, h14, hi1, hj]
        repeat' (refine And.intro (by first | omega | (exact ⟨[0, 0, 3, 7, 0, 0, 48, 112, 255, 511], by kernel_rfl⟩) | kernel_rfl) ?_)
        refine dS_call_ro rfl (sat_laws_eqEntry (xs.getD i noEnt) (ys.getD i noEnt)) ?ha ?hv ?hh ?_
        case ha => simp only [go_sem, simprocAttr, h0, h1, h5, h14, hi1, hj]; first | done | rfl
        case hv => first | rfl | (simp only [go_sem]; done)
        case hh => first | rfl | (simp only [go_sem]; done)
        try simp only [go_sem, simprocAttr, h0, h1, h5, h14, hi1, hj]
        repeat' (refine And.intro (by first | omega | (exact ⟨[0, 0, 3, 7, 0, 0, 48, 112, 255, 511], by kernel_rfl⟩) | kernel_rfl) ?_)
        refine hK _ _ (.mk (awl_live' [0, 1, 5, 26] fun ρ hL => ?_))
        try simp only [go_sem, simprocAttr, h0, h1, h5, h14, hi1, hj] at hL
        try clear h0 h1 h5 h14
        obtain ⟨h0, h1, h5, h26⟩ := hL
        clear hK K
        refine awl_cond h26 (fun c3 => ?_) (fun c3 => ?_)
        ·
          try simp only [cnd] at c3
          refine awl_seq ?_
          refine awl_regS [(some 4, (.assign (.const (.bool false))), none)] rfl fun K hK => ?_
          try simp only [go_sem, simprocAttr, h0, h1, h5, h26, hi1]
          repeat' (refine And.intro (by first | rfl | omega | (simp; done)) ?_)
          refine hK _ _ (.mk (awl_live' [4] fun ρ hL => ?_))
          try simp only [go_sem, simprocAttr, h0, h1, h5, h26, hi1] at hL
          try clear h0 h1 h5 h26
          have h4 := hL
          clear hL
          clear hK K
          refine awl_ret ?_
          refine blk_ret ?_
          refine loop_ret ?_
          refine ret0 (by simp only [go_sem, simprocAttr, h4, hi1]; exact rfl) ?_
          try simp only [go_sem, simprocAttr]
          all_goals try clear hR1
          all_goals (rw [decide_eq_false]; rintro rfl; first | exact c3 rfl | (simp at c3; done))
        ·
          try simp only [cnd] at c3
          refine awl_skip ?_
          refine awl_nil ?_
          refine blk_normal (hR1 _ _ (.mk ?_))
          have w1 : IntKind.i64.wrap ((i : Int) + 1) = ((i + 1 : Nat) : Int) := by rw [wrap64 (by omega)]; omega
          refine awl_regS [(some 15, (.move (.tmp 5)), none), (some 16, (.binOp .add 3 (.tmp 15) (.const (.int .i64 1)) 3), none), (some 5, (.assign (.tmp 16)), none)] rfl fun K hK => ?_
          try simp only [go_sem, simprocAttr, h0, h1, h5, h26, hi1, w1]
          repeat' (refine And.intro (by first | rfl | omega | (simp; done)) ?_)
          refine hK _ _ (.mk (awl_live' [0, 1, 5] fun ρ hL => ?_))
          try simp only [go_sem, simprocAttr, h0, h1, h5, h26, hi1, w1] at hL
          try clear h0 h1 h5 h26
          obtain ⟨h0, h1, h5⟩ := hL
          clear hK K
          refine awl_nil ?_
          refine loop_again _ ?meas ⟨i + 1, rfl, (by omega), (by exact take_succ_eq (d := noEnt) hi1 hj i1_1 (by simpa using c3)), (by simp only [go_sem, simprocAttr, h0, h1, h5, hi1, e1_0, e1_1]), (h5), rfl⟩
          case meas => subst hn; omega
      ·
        try simp only [cnd] at c2
        refine awl_exit ?_
        refine loop_break ?_
        exact ⟨(by exact eq_of_take (i := i) (by omega) (by omega) i1_1), (by simp only [go_sem, simprocAttr, h0, h1, h5, h14, e1_0, e1_1]), rfl⟩
    case after1 =>
      obtain ⟨j1_0, hL, hG⟩ := hJ
      subst hG
      clear h0 h1 h5
      clear hL
      refine awl_seq ?_
      refine awl_regS [(some 4, (.assign (.const (.bool true))), none)] rfl fun K hK => ?_
      try simp only [go_sem, simprocAttr]
      repeat' (refine And.intro (by first | rfl | omega | (simp; done)) ?_)
      refine hK _ _ (.mk (awl_live' [4] fun ρ hL => ?_))
      try simp only [go_sem, simprocAttr] at hL
      have h4 := hL
      clear hL
      clear hK K
      refine awl_ret ?_
      refine ret0 (by simp only [go_sem, simprocAttr, h4]; exact rfl) ?_
      try simp only [go_sem, simprocAttr]
      all_goals try clear hR1
      all_goals (rw [decide_eq_true j1_0])
set_option maxHeartbeats 8000000 in
set_option maxRecDepth 100000 in
theorem sat_laws_szEntryS (xs : List Ent) (l : Int) (hb : xs.length ≤ 9223372036854775807) (hl : leftOk l) : Sat Try.prog 63 [.sl xs.length xs.length (rows xs), .int .i64 l] [] (.int .i64 (szL l xs.length)) [] := by
  refine sat_mk [.tmp 4] 0 12 Try.call63 Try.func63 Try.ntmps63 rfl rfl rfl rfl rfl ?_
  refine awl_live' [0, 1] fun ρ hL => ?_
  try simp only [go_sem, simprocAttr] at hL
  obtain ⟨h0, h1⟩ := hL
  refine awl_seq ?_
  refine awl_regS [(some 4, (.assign (.const (.int .i64 0))), none)] rfl fun K hK => ?_
  try simp only [go_sem, simprocAttr, h0, h1]
  repeat' (refine And.intro (by first | rfl | omega | (simp; done)) ?_)
  refine hK _ _ (.mk (awl_live' [0, 1] fun ρ hL => ?_))
  try simp only [go_sem, simprocAttr, h0, h1] at hL
  try clear h0 h1
  obtain ⟨h0, h1⟩ := hL
  clear hK K
  refine awl_seq ?_
  have hl1 := hl.1
  have hl2 := hl.2
  have w0 : IntKind.i64.wrap (l - (xs.length : Int)) = l - (xs.length : Int) := wrap64 (by omega)
  refine awl_regS [(some 5, (.move (.tmp 1)), none), (some 6, (.move (.tmp 0)), none), (some 7, (.call ⟨(.builtin .len), #[(.tmp 6)], #[54]⟩), none), (some 8, (.binOp .sub 3 (.tmp 5) (.tmp 7) 3), none), (some 1, (.assign (.tmp 8)), none)] rfl fun K hK => ?_
  try simp only [go_sem, simprocAttr, h0, h1, w0]
  repeat' (refine And.intro (by first | rfl | omega | (simp; done)) ?_)
  refine hK _ _ (.mk (awl_live' [1] fun ρ hL => ?_))
  try simp only [go_sem, simprocAttr, h0, h1, w0] at hL
  try clear h0 h1
  have h1 := hL
  clear hL
  clear hK K
  refine awl_seq ?_
  refine awl_seq ?_
  refine awl_regS [(some 9, (.move (.tmp 1)), none), (some 10, (.binOp .lss 3 (.tmp 9) (.const (.int .i64 0)) 3), none)] rfl fun K hK => ?_
  try simp only [go_sem, simprocAttr, h1]
  repeat' (refine And.intro (by first | rfl | omega | (simp; done)) ?_)
  refine hK _ _ (.mk (awl_live' [1, 10] fun ρ hL => ?_))
  try simp only [go_sem, simprocAttr, h1] at hL
  try clear h1
  obtain ⟨h1, h10⟩ := hL
  clear hK K
  refine awl_cond h10 (fun c1 => ?_) (fun c1 => ?_)
  ·
    try simp only [cnd] at c1
    refine awl_seq ?_
    refine awl_regS [(some 4, (.assign (.const (.int .i64 (-1)))), none)] rfl fun K hK => ?_
    try simp only [go_sem, simprocAttr, h1, h10]
    repeat' (refine And.intro (by first | rfl | omega | (simp; done)) ?_)
    refine hK _ _ (.mk (awl_live' [4] fun ρ hL => ?_))
    try simp only [go_sem, simprocAttr, h1, h10] at hL
    try clear h1 h10
    have h4 := hL
    clear hL
    clear hK K
    refine awl_ret ?_
    refine ret0 (by simp only [go_sem, simprocAttr, h4]; exact rfl) ?_
    try simp only [go_sem, simprocAttr]
    all_goals (rw [szL, if_pos c1])
  ·
    try simp only [cnd] at c1
    refine awl_skip ?_
    refine awl_seq ?_
    refine awl_regS [(some 11, (.move (.tmp 1)), none), (some 4, (.assign (.tmp 11)), none)] rfl fun K hK => ?_
    try simp only [go_sem, simprocAttr, h1, h10]
    repeat' (refine And.intro (by first | rfl | omega | (simp; done)) ?_)
    refine hK _ _ (.mk (awl_live' [4] fun ρ hL => ?_))
    try simp only [go_sem, simprocAttr, h1, h10] at hL
    try clear h1 h10
    have h4 := hL
    clear hL
    clear hK K
    refine awl_ret ?_
    refine ret0 (by simp only [go_sem, simprocAttr, h4]; exact rfl) ?_
    try simp only [go_sem, simprocAttr]
    all_goals (rw [szL, if_neg c1])
set_option maxHeartbeats 8000000 in
set_option maxRecDepth 100000 in
theorem sat_laws_szIntS (xs : List Int) (l : Int) (hb : xs.length ≤ 9223372036854775807) (hl : leftOk l) : Sat Try.prog 64 [.sl xs.length xs.length (ints xs), .int .i64 l] [] (.int .i64 (szL l xs.length)) [] := by
  refine sat_mk [.tmp 4] 0 12 Try.call64 Try.func64 Try.ntmps64 rfl rfl rfl rfl rfl ?_
  refine awl_live' [0, 1] fun ρ hL => ?_
  try simp only [go_sem, simprocAttr] at hL
  obtain ⟨h0, h1⟩ := hL
  refine awl_seq ?_
  refine awl_regS [(some 4, (.assign (.const (.int .i64 0))), none)] rfl fun K hK => ?_
  try simp only [go_sem, simprocAttr, h0, h1]
  repeat' (refine And.intro (by first | rfl | omega | (simp; done)) ?_)
  refine hK _ _ (.mk (awl_live' [0, 1] fun ρ hL => ?_))
  try simp only [go_sem, simprocAttr, h0, h1] at hL
  try clear h0 h1
  obtain ⟨h0, h1⟩ := hL
  clear hK K
  refine awl_seq ?_
  have hl1 := hl.1
  have hl2 := hl.2
  have w0 : IntKind.i64.wrap (l - (xs.length : Int)) = l - (xs.length : Int) := wrap64 (by omega)
  refine awl_regS [(some 5, (.move (.tmp 1)), none), (some 6, (.move (.tmp 0)), none), (some 7, (.call ⟨(.builtin .len), #[(.tmp 6)], #[22]⟩), none), (some 8, (.binOp .sub 3 (.tmp 5) (.tmp 7) 3), none), (some 1, (.assign (.tmp 8)), none)] rfl fun K hK => ?_
  try simp only [go_sem, simprocAttr, h0, h1, w0]
  repeat' (refine And.intro (by first | rfl | omega | (simp; done)) ?_)
  refine hK _ _ (.mk (awl_live' [1] fun ρ hL => ?_))
  try simp only [go_sem, simprocAttr, h0, h1, w0] at hL
  try clear h0 h1
  have h1 := hL
  clear hL
  clear hK K
  refine awl_seq ?_
  refine awl_seq ?_
  refine awl_regS [(some 9, (.move (.tmp 1)), none), (some 10, (.binOp .lss 3 (.tmp 9) (.const (.int .i64 0)) 3), none)] rfl fun K hK => ?_
  try simp only [go_sem, simprocAttr, h1]
  repeat' (refine And.intro (by first | rfl | omega | (simp; done)) ?_)
  refine hK _ _ (.mk (awl_live' [1, 10] fun ρ hL => ?_))
  try simp only [go_sem, simprocAttr, h1] at hL
  try clear h1
  obtain ⟨h1, h10⟩ := hL
  clear hK K
  refine awl_cond h10 (fun c1 => ?_) (fun c1 => ?_)
  ·
    try simp only [cnd] at c1
    refine awl_seq ?_
    refine awl_regS [(some 4, (.assign (.const (.int .i64 (-1)))), none)] rfl fun K hK => ?_
    try simp only [go_sem, simprocAttr, h1, h10]
    repeat' (refine And.intro (by first | rfl | omega | (simp; done)) ?_)
    refine hK _ _ (.mk (awl_live' [4] fun ρ hL => ?_))
    try simp only [go_sem, simprocAttr, h1, h10] at hL
    try clear h1 h10
    have h4 := hL
    clear hL
    clear hK K
    refine awl_ret ?_
    refine ret0 (by simp only [go_sem, simprocAttr, h4]; exact rfl) ?_
    try simp only [go_sem, simprocAttr]
    all_goals (rw [szL, if_pos c1])
  ·
    try simp only [cnd] at c1
    refine awl_skip ?_
    refine awl_seq ?_
    refine awl_regS [(some 11, (.move (.tmp 1)), none), (some 4, (.assign (.tmp 11)), none)] rfl fun K hK => ?_
    try simp only [go_sem, simprocAttr, h1, h10]
    repeat' (refine And.intro (by first | rfl | omega | (simp; done)) ?_)
    refine hK _ _ (.mk (awl_live' [4] fun ρ hL => ?_))
    try simp only [go_sem, simprocAttr, h1, h10] at hL
    try clear h1 h10
    have h4 := hL
    clear hL
    clear hK K
    refine awl_ret ?_
    refine ret0 (by simp only [go_sem, simprocAttr, h4]; exact rfl) ?_
    try simp only [go_sem, simprocAttr]
    all_goals (rw [szL, if_neg c1])
set_option maxHeartbeats 8000000 in
set_option maxRecDepth 100000 in
theorem sat_laws_szCore (c : Cor) (l : Int) (hb : c.sm) (hl : leftOk l) : Sat Try.prog 29 [.agg c.cells, .int .i64 l] [] (.int .i64 (szC l c)) [] := by
  refine sat_mk [.tmp 4] 0 24 Try.call29 Try.func29 Try.ntmps29 rfl rfl rfl rfl rfl ?_
  refine awl_live' [0, 1] fun ρ hL => ?_
  try simp only [go_sem, simprocAttr] at hL
  obtain ⟨h0, h1⟩ := hL
  refine awl_seq ?_
  refine awl_regS [(some 2, (.box 56 (.tmp 0)), none), (some 4, (.assign (.const (.int .i64 0))), none)] rfl fun K hK => ?_
  try simp only [go_sem, simprocAttr, h0, h1]
  repeat' (refine And.intro (by first | rfl | omega | (simp; done)) ?_)
  refine hK _ _ (.mk (awl_live' [1, 2] fun ρ hL => ?_))
  try simp only [go_sem, simprocAttr, h0, h1] at hL
  try clear h0 h1
  obtain ⟨h1, h2⟩ := hL
  clear hK K
  refine awl_seq ?_
  refine awl_regS [(some 5, (.fieldAddr 56 (.tmp 2) 0), none), (some 6, (.load 36 (.tmp 5)), none), (some 7, (.move (.tmp 1)), none), (some 8, (.call ⟨(.value (.func 18)), #[(.tmp 6), (.tmp 7)], #[36, 3]⟩), none), (some 1, (.assign (.tmp 8)), none)] rfl fun K hK => ?_
  try simp only [go_sem, simprocAttr, h1, h2]
  repeat' (refine And.intro (by first | rfl | omega | (simp; done)) ?_)
  refine opS_call_ro rfl (sat_laws_szState c.s l hb.1 hl) ?ha ?hv ?hh ?_
  case ha => simp only [go_sem, simprocAttr, h1, h2]; first | done | rfl
  case hv => first | rfl | (simp only [go_sem]; done)
  case hh => first | rfl | (simp only [go_sem]; done)
  try simp only [go_sem, simprocAttr, h1, h2]
  repeat' (refine And.intro (by first | rfl | omega | (simp; done)) ?_)
  refine hK _ _ (.mk (awl_live' [1, 2] fun ρ hL => ?_))
  try simp only [go_sem, simprocAttr, h1, h2] at hL
  try clear h1 h2
  obtain ⟨h1, h2⟩ := hL
  clear hK K
  refine awl_seq ?_
  refine awl_seq ?_
  refine awl_regS [(some 9, (.move (.tmp 1)), none), (some 10, (.binOp .lss 3 (.tmp 9) (.const (.int .i64 0)) 3), none)] rfl fun K hK => ?_
  try simp only [go_sem, simprocAttr, h1, h2]
  repeat' (refine And.intro (by first | rfl | omega | (simp; done)) ?_)
  refine hK _ _ (.mk (awl_live' [1, 2, 10] fun ρ hL => ?_))
  try simp only [go_sem, simprocAttr, h1, h2] at hL
  try clear h1 h2
  obtain ⟨h1, h2, h10⟩ := hL
  clear hK K
  refine awl_cond h10 (fun c1 => ?_) (fun c1 => ?_)
  ·
    try simp only [cnd] at c1
    refine awl_seq ?_
    refine awl_regS [(some 4, (.assign (.const (.int .i64 (-1)))), none)] rfl fun K hK => ?_
    try simp only [go_sem, simprocAttr, h1, h2, h10]
    repeat' (refine And.intro (by first | rfl | omega | (simp; done)) ?_)
    refine hK _ _ (.mk (awl_live' [4] fun ρ hL => ?_))
    try simp only [go_sem, simprocAttr, h1, h2, h10] at hL
    try clear h1 h2 h10
    have h4 := hL
    clear hL
    clear hK K
    refine awl_ret ?_
    refine ret0 (by simp only [go_sem, simprocAttr, h4]; exact rfl) ?_
    try simp only [go_sem, simprocAttr]
    all_goals (rw [szC, if_pos c1])
  ·
    try simp only [cnd] at c1
    refine awl_skip ?_
    refine awl_seq ?_
    refine awl_regS [(some 11, (.fieldAddr 56 (.tmp 2) 1), none), (some 12, (.load 54 (.tmp 11)), none), (some 13, (.move (.tmp 1)), none), (some 14, (.call ⟨(.value (.func 63)), #[(.tmp 12), (.tmp 13)], #[54, 3]⟩), none), (some 1, (.assign (.tmp 14)), none)] rfl fun K hK => ?_
    try simp only [go_sem, simprocAttr, h1, h2, h10]
    repeat' (refine And.intro (by first | rfl | omega | (simp; done)) ?_)
    refine opS_call_ro rfl (sat_laws_szEntryS c.rob _ hb.2.1 (szS_ok hl c1).2) ?ha ?hv ?hh ?_
    case ha => simp only [go_sem, simprocAttr, h1, h2, h10]; first | done | rfl
    case hv => first | rfl | (simp only [go_sem]; done)
    case hh => first | rfl | (simp only [go_sem]; done)
    try simp only [go_sem, simprocAttr, h1, h2, h10]
    repeat' (refine And.intro (by first | rfl | omega | (simp; done)) ?_)
    refine hK _ _ (.mk (awl_live' [1, 2] fun ρ hL => ?_))
    try simp only [go_sem, simprocAttr, h1, h2, h10] at hL
    try clear h1 h2 h10
    obtain ⟨h1, h2⟩ := hL
    clear hK K
    refine awl_seq ?_
    refine awl_seq ?_
    refine awl_regS [(some 15, (.move (.tmp 1)), none), (some 16, (.binOp .lss 3 (.tmp 15) (.const (.int .i64 0)) 3), none)] rfl fun K hK => ?_
    try simp only [go_sem, simprocAttr, h1, h2]
    repeat' (refine And.intro (by first | rfl | omega | (simp; done)) ?_)
    refine hK _ _ (.mk (awl_live' [1, 2, 16] fun ρ hL => ?_))
    try simp only [go_sem, simprocAttr, h1, h2] at hL
    try clear h1 h2
    obtain ⟨h1, h2, h16⟩ := hL
    clear hK K
    refine awl_cond h16 (fun c2 => ?_) (fun c2 => ?_)
    ·
      try simp only [cnd] at c2
      refine awl_seq ?_
      refine awl_regS [(some 4, (.assign (.const (.int .i64 (-1)))), none)] rfl fun K hK => ?_
      try simp only [go_sem, simprocAttr, h1, h2, h16]
      repeat' (refine And.intro (by first | rfl | omega | (simp; done)) ?_)
      refine hK _ _ (.mk (awl_live' [4] fun ρ hL => ?_))
      try simp only [go_sem, simprocAttr, h1, h2, h16] at hL
      try clear h1 h2 h16
      have h4 := hL
      clear hL
      clear hK K
      refine awl_ret ?_
      refine ret0 (by simp only [go_sem, simprocAttr, h4]; exact rfl) ?_
      try simp only [go_sem, simprocAttr]
      all_goals (rw [szC, if_neg c1, if_pos c2])
    ·
      try simp only [cnd] at c2
      refine awl_skip ?_
      refine awl_seq ?_
      refine awl_regS [(some 17, (.fieldAddr 56 (.tmp 2) 4), none), (some 18, (.load 22 (.tmp 17)), none), (some 19, (.move (.tmp 1)), none), (some 20, (.call ⟨(.value (.func 64)), #[(.tmp 18), (.tmp 19)], #[22, 3]⟩), none), (some 1, (.assign (.tmp 20)), none)] rfl fun K hK => ?_
      try simp only [go_sem, simprocAttr, h1, h2, h16]
      repeat' (refine And.intro (by first | rfl | omega | (simp; done)) ?_)
      refine opS_call_ro rfl (sat_laws_szIntS c.guesses _ hb.2.2 (szL_ok (szS_ok hl c1).2 c2).2) ?ha ?hv ?hh ?_
      case ha => simp only [go_sem, simprocAttr, h1, h2, h16]; first | done | rfl
      case hv => first | rfl | (simp only [go_sem]; done)
      case hh => first | rfl | (simp only [go_sem]; done)
      try simp only [go_sem, simprocAttr, h1, h2, h16]
      repeat' (refine And.intro (by first | rfl | omega | (simp; done)) ?_)
      refine hK _ _ (.mk (awl_live' [1] fun ρ hL => ?_))
      try simp only [go_sem, simprocAttr, h1, h2, h16] at hL
      try clear h1 h2 h16
      have h1 := hL
      clear hL
      clear hK K
      refine awl_seq ?_
      refine awl_seq ?_
      refine awl_regS [(some 21, (.move (.tmp 1)), none), (some 22, (.binOp .lss 3 (.tmp 21) (.const (.int .i64 0)) 3), none)] rfl fun K hK => ?_
      try simp only [go_sem, simprocAttr, h1]
      repeat' (refine And.intro (by first | rfl | omega | (simp; done)) ?_)
      refine hK _ _ (.mk (awl_live' [1, 22] fun ρ hL => ?_))
      try simp only [go_sem, simprocAttr, h1] at hL
      try clear h1
      obtain ⟨h1, h22⟩ := hL
      clear hK K
      refine awl_cond h22 (fun c3 => ?_) (fun c3 => ?_)
      ·
        try simp only [cnd] at c3
        refine awl_seq ?_
        refine awl_regS [(some 4, (.assign (.const (.int .i64 (-1)))), none)] rfl fun K hK => ?_
        try simp only [go_sem, simprocAttr, h1, h22]
        repeat' (refine And.intro (by first | rfl | omega | (simp; done)) ?_)
        refine hK _ _ (.mk (awl_live' [4] fun ρ hL => ?_))
        try simp only [go_sem, simprocAttr, h1, h22] at hL
        try clear h1 h22
        have h4 := hL
        clear hL
        clear hK K
        refine awl_ret ?_
        refine ret0 (by simp only [go_sem, simprocAttr, h4]; exact rfl) ?_
        try simp only [go_sem, simprocAttr]
        all_goals (rw [szC, if_neg c1, if_neg c2, if_pos c3])
      ·
        try simp only [cnd] at c3
        refine awl_skip ?_
        refine awl_seq ?_
        refine awl_regS [(some 23, (.move (.tmp 1)), none), (some 4, (.assign (.tmp 23)), none)] rfl fun K hK => ?_
        try simp only [go_sem, simprocAttr, h1, h22]
        repeat' (refine And.intro (by first | rfl | omega | (simp; done)) ?_)
        refine hK _ _ (.mk (awl_live' [4] fun ρ hL => ?_))
        try simp only [go_sem, simprocAttr, h1, h22] at hL
        try clear h1 h22
        have h4 := hL
        clear hL
        clear hK K
        refine awl_ret ?_
        refine ret0 (by simp only [go_sem, simprocAttr, h4]; exact rfl) ?_
        try simp only [go_sem, simprocAttr]
        all_goals (rw [szC, if_neg c1, if_neg c2, if_neg c3])
set_option maxHeartbeats 8000000 in
set_option maxRecDepth 100000 in
theorem sat_laws_toCore (c : Cor) (hb : c.fit) : Sat Try.prog 31 [.agg c.cells] [] (.agg (c.own 0 1 2 3 4)) c.blks := by
  refine sat_mk [.cell 2 61] 0 24 Try.call31 Try.func31 Try.ntmps31 rfl rfl rfl rfl rfl ?_
  refine awl_live' [0] fun ρ hL => ?_
  try simp only [go_sem, simprocAttr] at hL
  have h0 := hL
  clear hL
  refine awl_seq ?_
  refine awl_regS [(some 1, (.box 56 (.tmp 0)), none), (some 2, (.alloc 61), none)] rfl fun K hK => ?_
  try simp only [go_sem, simprocAttr, h0]
  repeat' (refine And.intro (by first | rfl | omega | (simp; done)) ?_)
  refine hK _ _ (.mk (awl_live' [1, 2] fun ρ hL => ?_))
  try simp only [go_sem, simprocAttr, h0] at hL
  try clear h0
  obtain ⟨h1, h2⟩ := hL
  clear hK K
  refine awl_seq ?_
  refine awl_regS [(some 3, (.alloc 61), none)] rfl fun K hK => ?_
  try simp only [go_sem, simprocAttr, h1, h2]
  repeat' (refine And.intro (by first | rfl | omega | (simp; done)) ?_)
  refine hK _ _ (.mk (awl_live' [1, 2, 3] fun ρ hL => ?_))
  try simp only [go_sem, simprocAttr, h1, h2] at hL
  try clear h1 h2
  obtain ⟨h1, h2, h3⟩ := hL
  clear hK K
  refine awl_seq ?_
  refine awl_regS [(some 4, (.fieldAddr 56 (.tmp 1) 0), none), (some 5, (.load 36 (.tmp 4)), none), (some 6, (.call ⟨(.value (.func 20)), #[(.tmp 5)], #[36]⟩), none), (some 7, (.fieldAddr 61 (.tmp 3) 0), none), (none, (.store 46 (.tmp 7) (.tmp 6)), none)] rfl fun K hK => ?_
  try simp only [go_sem, simprocAttr, h1, h2, h3]
  repeat' (refine And.intro (by first | rfl | omega | (simp; done)) ?_)
  refine opS_call_ro rfl (sat_laws_toState c.s hb.1) ?ha ?hv ?hh ?_
  case ha => simp only [go_sem, simprocAttr, h1, h2, h3]; first | done | rfl
  case hv => first | rfl | (simp only [go_sem]; done)
  case hh => first | rfl | (simp only [go_sem]; done)
  try simp only [go_sem, simprocAttr, h1, h2, h3]
  repeat' (refine And.intro (by first | rfl | omega | (simp; done)) ?_)
  refine hK _ _ (.mk (awl_live' [1, 2, 3] fun ρ hL => ?_))
  try simp only [go_sem, simprocAttr, h1, h2, h3] at hL
  try clear h1 h2 h3
  obtain ⟨h1, h2, h3⟩ := hL
  clear hK K
  refine awl_seq ?_
  refine awl_regS [(some 8, (.fieldAddr 56 (.tmp 1) 1), none), (some 9, (.load 54 (.tmp 8)), none), (some 10, (.call ⟨(.value (.func 67)), #[(.tmp 9)], #[54]⟩), none), (some 11, (.fieldAddr 61 (.tmp 3) 1), none), (none, (.store 59 (.tmp 11) (.tmp 10)), none)] rfl fun K hK => ?_
  try simp only [go_sem, simprocAttr, h1, h2, h3]
  repeat' (refine And.intro (by first | rfl | omega | (simp; done)) ?_)
  refine opS_call_ro rfl (sat_laws_toEntryS c.rob (Nat.le_trans hb.2.1 (by decide))) ?ha ?hv ?hh ?_
  case ha => simp only [go_sem, simprocAttr, h1, h2, h3]; first | done | rfl
  case hv => first | rfl | (simp only [go_sem]; done)
  case hh => first | rfl | (simp only [go_sem]; done)
  try simp only [go_sem, simprocAttr, h1, h2, h3]
  repeat' (refine And.intro (by first | rfl | omega | (simp; done)) ?_)
  refine hK _ _ (.mk (awl_live' [1, 2, 3] fun ρ hL => ?_))
  try simp only [go_sem, simprocAttr, h1, h2, h3] at hL
  try clear h1 h2 h3
  obtain ⟨h1, h2, h3⟩ := hL
  clear hK K
  refine awl_seq ?_
  refine awl_regS [(some 12, (.fieldAddr 56 (.tmp 1) 2), none), (some 13, (.load 31 (.tmp 12)), none), (some 14, (.call ⟨(.value (.func 35)), #[(.tmp 13)], #[31]⟩), none), (some 15, (.fieldAddr 61 (.tmp 3) 2), none), (none, (.store 42 (.tmp 15) (.tmp 14)), none)] rfl fun K hK => ?_
  try simp only [go_sem, simprocAttr, h1, h2, h3]
  repeat' (refine And.intro (by first | rfl | omega | (simp; done)) ?_)
  refine opS_call_ro rfl (sat_laws_toWord c.next) ?ha ?hv ?hh ?_
  case ha => simp only [go_sem, simprocAttr, h1, h2, h3]; first | done | rfl
  case hv => first | rfl | (simp only [go_sem]; done)
  case hh => first | rfl | (simp only [go_sem]; done)
  try simp only [go_sem, simprocAttr, h1, h2, h3]
  repeat' (refine And.intro (by first | rfl | omega | (simp; done)) ?_)
  refine hK _ _ (.mk (awl_live' [1, 2, 3] fun ρ hL => ?_))
  try simp only [go_sem, simprocAttr, h1, h2, h3] at hL
  try clear h1 h2 h3
  obtain ⟨h1, h2, h3⟩ := hL
  clear hK K
  refine awl_seq ?_
  refine awl_regS [(some 16, (.fieldAddr 56 (.tmp 1) 3), none), (some 17, (.load 4 (.tmp 16)), none), (some 18, (.fieldAddr 61 (.tmp 3) 3), none), (none, (.store 4 (.tmp 18) (.tmp 17)), none)] rfl fun K hK => ?_
  try simp only [go_sem, simprocAttr, h1, h2, h3]
  repeat' (refine And.intro (by first | rfl | omega | (simp; done)) ?_)
  refine hK _ _ (.mk (awl_live' [1, 2, 3] fun ρ hL => ?_))
  try simp only [go_sem, simprocAttr, h1, h2, h3] at hL
  try clear h1 h2 h3
  obtain ⟨h1, h2, h3⟩ := hL
  clear hK K
  refine awl_seq ?_
  refine awl_regS [(some 19, (.fieldAddr 56 (.tmp 1) 4), none), (some 20, (.load 22 (.tmp 19)), none), (some 21, (.call ⟨(.value (.func 68)), #[(.tmp 20)], #[22]⟩), none), (some 22, (.fieldAddr 61 (.tmp 3) 4), none), (none, (.store 22 (.tmp 22) (.tmp 21)), none)] rfl fun K hK => ?_
  try simp only [go_sem, simprocAttr, h1, h2, h3]
  repeat' (refine And.intro (by first | rfl | omega | (simp; done)) ?_)
  refine opS_call_ro rfl (sat_laws_toIntS c.guesses c.guesses.length (Nat.le_trans hb.2.2 (by decide))) ?ha ?hv ?hh ?_
  case ha => simp only [go_sem, simprocAttr, h1, h2, h3]; first | done | rfl
  case hv => first | rfl | (simp only [go_sem]; done)
  case hh => first | rfl | (simp only [go_sem]; done)
  try simp only [go_sem, simprocAttr, h1, h2, h3]
  repeat' (refine And.intro (by first | rfl | omega | (simp; done)) ?_)
  refine hK _ _ (.mk (awl_live' [2, 3] fun ρ hL => ?_))
  try simp only [go_sem, simprocAttr, h1, h2, h3] at hL
  try clear h1 h2 h3
  obtain ⟨h2, h3⟩ := hL
  clear hK K
  refine awl_seq ?_
  refine awl_regS [(some 23, (.load 61 (.tmp 3)), none), (none, (.store 61 (.tmp 2) (.tmp 23)), none)] rfl fun K hK => ?_
  try simp only [go_sem, simprocAttr, h2, h3]
  repeat' (refine And.intro (by first | rfl | omega | (simp; done)) ?_)
  refine hK _ _ (.mk (awl_live' [2] fun ρ hL => ?_))
  try simp only [go_sem, simprocAttr, h2, h3] at hL
  try clear h2 h3
  have h2 := hL
  clear hL
  clear hK K
  refine awl_ret ?_
  refine retK [3, 4, 5, 6, 7] [3, 4, 5, 6, 7] rfl (by simp only [go_sem, simprocAttr, h2]; exact rfl) (by decide) (by first | rfl | (simp only [go_sem, simprocAttr, h2]; first | done | rfl)) (by first | rfl | (simp only [go_sem, simprocAttr, h2]; first | done | rfl)) ?_ ?_
  all_goals try simp only [go_sem, simprocAttr, h2]
  all_goals (first | done | rfl | (simp; done) | (simp [inR]; done) | (simp_all [inR]; done) | (simp [inR]; grind))
set_option maxHeartbeats 8000000 in
set_option maxRecDepth 100000 in
theorem sat_laws_eqCore (a : Cor) (b : Cor) (hf : a.fit) : Sat Try.prog 33 [.agg a.cells, .agg b.cells] [] (.bool (decide (a = b))) [] := by
  refine sat_mk [.tmp 4] 0 34 Try.call33 Try.func33 Try.ntmps33 rfl rfl rfl rfl rfl ?_
  refine awl_live' [0, 1] fun ρ hL => ?_
  try simp only [go_sem, simprocAttr] at hL
  obtain ⟨h0, h1⟩ := hL
  refine awl_seq ?_
  refine awl_regS [(some 2, (.box 61 (.tmp 0)), none), (some 3, (.box 61 (.tmp 1)), none), (some 4, (.assign (.const (.bool false))), none)] rfl fun K hK => ?_
  try simp only [go_sem, simprocAttr, h0, h1]
  repeat' (refine And.intro (by first | rfl | omega | (simp; done)) ?_)
  refine hK _ _ (.mk (awl_live' [2, 3] fun ρ hL => ?_))
  try simp only [go_sem, simprocAttr, h0, h1] at hL
  try clear h0 h1
  obtain ⟨h2, h3⟩ := hL
  clear hK K
  refine awl_seq ?_
  refine awl_seq ?_
  refine awl_regS [(some 5, (.fieldAddr 61 (.tmp 2) 0), none), (some 6, (.load 46 (.tmp 5)), none), (some 7, (.fieldAddr 61 (.tmp 3) 0), none), (some 8, (.load 46 (.tmp 7)), none), (some 9, (.call ⟨(.value (.func 23)), #[(.tmp 6), (.tmp 8)], #[46, 46]⟩), none), (some 10, (.unOp .not 4 (.tmp 9)), none)] rfl fun K hK => ?_
  try simp only [go_sem, simprocAttr, h2, h3]
  repeat' (refine And.intro (by first | rfl | omega | (simp; done)) ?_)
  refine opS_call_ro rfl (sat_laws_eqState a.s b.s hf.1) ?ha ?hv ?hh ?_
  case ha => simp only [go_sem, simprocAttr, h2, h3]; first | done | rfl
  case hv => first | rfl | (simp only [go_sem]; done)
  case hh => first | rfl | (simp only [go_sem]; done)
  try simp only [go_sem, simprocAttr, h2, h3]
  repeat' (refine And.intro (by first | rfl | omega | (simp; done)) ?_)
  refine hK _ _ (.mk (awl_live' [2, 3, 10] fun ρ hL => ?_))
  try simp only [go_sem, simprocAttr, h2, h3] at hL
  try clear h2 h3
  obtain ⟨h2, h3, h10⟩ := hL
  clear hK K
  refine awl_cond h10 (fun c1 => ?_) (fun c1 => ?_)
  ·
    try simp only [cnd] at c1
    refine awl_seq ?_
    refine awl_regS [(some 4, (.assign (.const (.bool false))), none)] rfl fun K hK => ?_
    try simp only [go_sem, simprocAttr, h2, h3, h10]
    repeat' (refine And.intro (by first | rfl | omega | (simp; done)) ?_)
    refine hK _ _ (.mk (awl_live' [4] fun ρ hL => ?_))
    try simp only [go_sem, simprocAttr, h2, h3, h10] at hL
    try clear h2 h3 h10
    have h4 := hL
    clear hL
    clear hK K
    refine awl_ret ?_
    refine ret0 (by simp only [go_sem, simprocAttr, h4]; exact rfl) ?_
    try simp only [go_sem, simprocAttr]
    all_goals (rw [decide_eq_false]; rintro rfl; first | exact c1 rfl | exact c2 rfl | exact c3 rfl | exact c4 rfl | exact c5 rfl | exact c6 rfl | exact c7 rfl | (simp at c1; done) | (simp at c2; done) | (simp at c3; done) | (simp at c4; done)| (simp at c5; done) | (simp at c6; done) | (simp at c7; done))
  ·
    try simp only [cnd] at c1
    refine awl_skip ?_
    refine awl_seq ?_
    refine awl_seq ?_
    refine awl_regS [(some 11, (.fieldAddr 61 (.tmp 2) 1), none), (some 12, (.load 59 (.tmp 11)), none), (some 13, (.fieldAddr 61 (.tmp 3) 1), none), (some 14, (.load 59 (.tmp 13)), none), (some 15, (.call ⟨(.value (.func 70)), #[(.tmp 12), (.tmp 14)], #[59, 59]⟩), none), (some 16, (.unOp .not 4 (.tmp 15)), none)] rfl fun K hK => ?_
    try simp only [go_sem, simprocAttr, h2, h3, h10]
    repeat' (refine And.intro (by first | rfl | omega | (simp; done)) ?_)
    refine opS_call_ro rfl (sat_laws_eqEntryS a.rob b.rob (Nat.le_trans hf.2.1 (by decide))) ?ha ?hv ?hh ?_
    case ha => simp only [go_sem, simprocAttr, h2, h3, h10]; first | done | rfl
    case hv => first | rfl | (simp only [go_sem]; done)
    case hh => first | rfl | (simp only [go_sem]; done)
    try simp only [go_sem, simprocAttr, h2, h3, h10]
    repeat' (refine And.intro (by first | rfl | omega | (simp; done)) ?_)
    refine hK _ _ (.mk (awl_live' [2, 3, 16] fun ρ hL => ?_))
    try simp only [go_sem, simprocAttr, h2, h3, h10] at hL
    try clear h2 h3 h10
    obtain ⟨h2, h3, h16⟩ := hL
    clear hK K
    refine awl_cond h16 (fun c2 => ?_) (fun c2 => ?_)
    ·
      try simp only [cnd] at c2
      refine awl_seq ?_
      refine awl_regS [(some 4, (.assign (.const (.bool false))), none)] rfl fun K hK => ?_
      try simp only [go_sem, simprocAttr, h2, h3, h16]
      repeat' (refine And.intro (by first | rfl | omega | (simp; done)) ?_)
      refine hK _ _ (.mk (awl_live' [4] fun ρ hL => ?_))
      try simp only [go_sem, simprocAttr, h2, h3, h16] at hL
      try clear h2 h3 h16
      have h4 := hL
      clear hL
      clear hK K
      refine awl_ret ?_
      refine ret0 (by simp only [go_sem, simprocAttr, h4]; exact rfl) ?_
      try simp only [go_sem, simprocAttr]
      all_goals (rw [decide_eq_false]; rintro rfl; first | exact c1 rfl | exact c2 rfl | exact c3 rfl | exact c4 rfl | exact c5 rfl | exact c6 rfl | exact c7 rfl | (simp at c1; done) | (simp at c2; done) | (simp at c3; done) | (simp at c4; done)| (simp at c5; done) | (simp at c6; done) | (simp at c7; done))
    ·
      try simp only [cnd] at c2
      refine awl_skip ?_
      refine awl_seq ?_
      refine awl_seq ?_
      refine awl_regS [(some 17, (.fieldAddr 61 (.tmp 2) 2), none), (some 18, (.load 42 (.tmp 17)), none), (some 19, (.fieldAddr 61 (.tmp 3) 2), none), (some 20, (.load 42 (.tmp 19)), none), (some 21, (.call ⟨(.value (.func 37)), #[(.tmp 18), (.tmp 20)], #[42, 42]⟩), none), (some 22, (.unOp .not 4 (.tmp 21)), none)] rfl fun K hK => ?_
      try simp only [go_sem, simprocAttr, h2, h3, h16]
      repeat' (refine And.intro (by first | rfl | omega | (simp; done)) ?_)
      refine opS_call_ro rfl (sat_laws_eqWord a.next b.next) ?ha ?hv ?hh ?_
      case ha => simp only [go_sem, simprocAttr, h2, h3, h16]; first | done | rfl
      case hv => first | rfl | (simp only [go_sem]; done)
      case hh => first | rfl | (simp only [go_sem]; done)
      try simp only [go_sem, simprocAttr, h2, h3, h16]
      repeat' (refine And.intro (by first | rfl | omega | (simp; done)) ?_)
      refine hK _ _ (.mk (awl_live' [2, 3, 22] fun ρ hL => ?_))
      try simp only [go_sem, simprocAttr, h2, h3, h16] at hL
      try clear h2 h3 h16
      obtain ⟨h2, h3, h22⟩ := hL
      clear hK K
      refine awl_cond h22 (fun c3 => ?_) (fun c3 => ?_)
      ·
        try simp only [cnd] at c3
        refine awl_seq ?_
        refine awl_regS [(some 4, (.assign (.const (.bool false))), none)] rfl fun K hK => ?_
        try simp only [go_sem, simprocAttr, h2, h3, h22]
        repeat' (refine And.intro (by first | rfl | omega | (simp; done)) ?_)
        refine hK _ _ (.mk (awl_live' [4] fun ρ hL => ?_))
        try simp only [go_sem, simprocAttr, h2, h3, h22] at hL
        try clear h2 h3 h22
        have h4 := hL
        clear hL
        clear hK K
        refine awl_ret ?_
        refine ret0 (by simp only [go_sem, simprocAttr, h4]; exact rfl) ?_
        try simp only [go_sem, simprocAttr]
        all_goals (rw [decide_eq_false]; rintro rfl; first | exact c1 rfl | exact c2 rfl | exact c3 rfl | exact c4 rfl | exact c5 rfl | exact c6 rfl | exact c7 rfl | (simp at c1; done) | (simp at c2; done) | (simp at c3; done) | (simp at c4; done)| (simp at c5; done) | (simp at c6; done) | (simp at c7; done))
      ·
        try simp only [cnd] at c3
        refine awl_skip ?_
        refine awl_seq ?_
        refine awl_seq ?_
        refine awl_regS [(some 23, (.fieldAddr 61 (.tmp 2) 3), none), (some 24, (.load 4 (.tmp 23)), none), (some 25, (.fieldAddr 61 (.tmp 3) 3), none), (some 26, (.load 4 (.tmp 25)), none), (some 27, (.binOp .neq 4 (.tmp 24) (.tmp 26) 4), none)] rfl fun K hK => ?_
        try simp only [go_sem, simprocAttr, h2, h3, h22]
        repeat' (refine And.intro (by first | rfl | omega | (simp; done)) ?_)
        refine hK _ _ (.mk (awl_live' [2, 3, 27] fun ρ hL => ?_))
        try simp only [go_sem, simprocAttr, h2, h3, h22] at hL
        try clear h2 h3 h22
        obtain ⟨h2, h3, h27⟩ := hL
        clear hK K
        refine awl_cond h27 (fun c4 => ?_) (fun c4 => ?_)
        ·
          try simp only [cnd] at c4
          refine awl_seq ?_
          refine awl_regS [(some 4, (.assign (.const (.bool false))), none)] rfl fun K hK => ?_
          try simp only [go_sem, simprocAttr, h2, h3, h27]
          repeat' (refine And.intro (by first | rfl | omega | (simp; done)) ?_)
          refine hK _ _ (.mk (awl_live' [4] fun ρ hL => ?_))
          try simp only [go_sem, simprocAttr, h2, h3, h27] at hL
          try clear h2 h3 h27
          have h4 := hL
          clear hL
          clear hK K
          refine awl_ret ?_
          refine ret0 (by simp only [go_sem, simprocAttr, h4]; exact rfl) ?_
          try simp only [go_sem, simprocAttr]
          all_goals (rw [decide_eq_false]; rintro rfl; first | exact c1 rfl | exact c2 rfl | exact c3 rfl | exact c4 rfl | exact c5 rfl | exact c6 rfl | exact c7 rfl | (simp at c1; done) | (simp at c2; done) | (simp at c3; done) | (simp at c4; done)| (simp at c5; done) | (simp at c6; done) | (simp at c7; done))
        ·
          try simp only [cnd] at c4
          refine awl_skip ?_
          refine awl_seq ?_
          refine awl_seq ?_
          refine awl_regS [(some 28, (.fieldAddr 61 (.tmp 2) 4), none), (some 29, (.load 22 (.tmp 28)), none), (some 30, (.fieldAddr 61 (.tmp 3) 4), none), (some 31, (.load 22 (.tmp 30)), none), (some 32, (.call ⟨(.value (.func 15)), #[(.tmp 29), (.tmp 31)], #[22, 22]⟩), none), (some 33, (.unOp .not 4 (.tmp 32)), none)] rfl fun K hK => ?_
          try simp only [go_sem, simprocAttr, h2, h3, h27]
          repeat' (refine And.intro (by first | rfl | omega | (simp; done)) ?_)
          refine opS_call_ro rfl (sat_laws_eqIntS a.guesses b.guesses a.guesses.length b.guesses.length (Nat.le_trans hf.2.2 (by decide))) ?ha ?hv ?hh ?_
          case ha => simp only [go_sem, simprocAttr, h2, h3, h27]; first | done | rfl
          case hv => first | rfl | (simp only [go_sem]; done)
          case hh => first | rfl | (simp only [go_sem]; done)
          try simp only [go_sem, simprocAttr, h2, h3, h27]
          repeat' (refine And.intro (by first | rfl | omega | (simp; done)) ?_)
          refine hK _ _ (.mk (awl_live' [33] fun ρ hL => ?_))
          try simp only [go_sem, simprocAttr, h2, h3, h27] at hL
          try clear h2 h3 h27
          have h33 := hL
          clear hL
          clear hK K
          refine awl_cond h33 (fun c5 => ?_) (fun c5 => ?_)
          ·
            try simp only [cnd] at c5
            refine awl_seq ?_
            refine awl_regS [(some 4, (.assign (.const (.bool false))), none)] rfl fun K hK => ?_
            try simp only [go_sem, simprocAttr, h33]
            repeat' (refine And.intro (by first | rfl | omega | (simp; done)) ?_)
            refine hK _ _ (.mk (awl_live' [4] fun ρ hL => ?_))
            try simp only [go_sem, simprocAttr, h33] at hL
            try clear h33
            have h4 := hL
            clear hL
            clear hK K
            refine awl_ret ?_
            refine ret0 (by simp only [go_sem, simprocAttr, h4]; exact rfl) ?_
            try simp only [go_sem, simprocAttr]
            all_goals (rw [decide_eq_false]; rintro rfl; first | exact c1 rfl | exact c2 rfl | exact c3 rfl | exact c4 rfl | exact c5 rfl | exact c6 rfl | exact c7 rfl | (simp at c1; done) | (simp at c2; done) | (simp at c3; done) | (simp at c4; done)| (simp at c5; done) | (simp at c6; done) | (simp at c7; done))
          ·
            try simp only [cnd] at c5
            refine awl_skip ?_
            refine awl_seq ?_
            refine awl_regS [(some 4, (.assign (.const (.bool true))), none)] rfl fun K hK => ?_
            try simp only [go_sem, simprocAttr, h33]
            repeat' (refine And.intro (by first | rfl | omega | (simp; done)) ?_)
            refine hK _ _ (.mk (awl_live' [4] fun ρ hL => ?_))
            try simp only [go_sem, simprocAttr, h33] at hL
            try clear h33
            have h4 := hL
            clear hL
            clear hK K
            refine awl_ret ?_
            refine ret0 (by simp only [go_sem, simprocAttr, h4]; exact rfl) ?_
            try simp only [go_sem, simprocAttr]
            all_goals (rw [decide_eq_true]; cases a; cases b; simp_all)
end Go.Proofs.Ytgddflnhibhacaa.AM
