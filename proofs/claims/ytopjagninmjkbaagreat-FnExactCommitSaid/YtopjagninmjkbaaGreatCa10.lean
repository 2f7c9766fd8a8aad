/- Commands and their parts. No conditions but those each theorem bears. -/
import Derived.Test.YtopjagninmjkbaaGreatFa
import Derived.Test.YtopjagninmjkbaaGreatM4
import Derived.Test.YtopjagninmjkbaaGreatCa9
set_option linter.unusedSimpArgs false
set_option linter.unusedVariables false
namespace Go.Proofs.YtopjagninmjkbaaGreat.AM
open Go

set_option maxHeartbeats 8000000 in
set_option maxRecDepth 100000 in
theorem sat_impl_formOf (op : Int)  : Sat Tryz.prog 107 [.int .i64 op] [] (.tuple [.str (form op), .bool (inR op 1 15)]) [] := by
 refine sat_mk [.tmp 2, .tmp 3] 0 29 Tryz.call107 Tryz.func107 Tryz.ntmps107 rfl rfl rfl rfl rfl ?_
 refine awl_live' [0] fun ρ hL => ?_
 try simp only [go_sem, simprocAttr] at hL
 have h0 := hL
 clear hL
 refine awl_seq ?_
 refine awl_regS _ rfl fun K hK => ?_
 try simp only [go_sem, simprocAttr, h0]
 repeat' (refine And.intro (by first | rfl | omega | (simp; done)) ?_)
 refine hK _ _ (.mk (awl_live' [0] fun ρ hL => ?_))
 try simp only [go_sem, simprocAttr, h0] at hL
 try clear h0
 have h0 := hL
 clear hL
 clear hK K
 refine awl_seq ?_
 refine awl_seq ?_
 refine awl_regS _ rfl fun K hK => ?_
 try simp only [go_sem, simprocAttr, h0]
 repeat' (refine And.intro (by first | rfl | omega | (simp; done)) ?_)
 refine hK _ _ (.mk (awl_live' [4] fun ρ hL => ?_))
 try simp only [go_sem, simprocAttr, h0] at hL
 try clear h0
 have h4 := hL
 clear hL
 clear hK K
 refine awl_block fun R1 hw1 hR1 => ?_
 refine awl_seq ?_
 refine awl_regS _ rfl fun K hK => ?_
 try simp only [go_sem, simprocAttr, h4]
 repeat' (refine And.intro (by first | rfl | omega | (simp; done)) ?_)
 refine hK _ _ (.mk (awl_live' [4, 5] fun ρ hL => ?_))
 try simp only [go_sem, simprocAttr, h4] at hL
 try clear h4
 obtain ⟨h4, h5⟩ := hL
 clear hK K
 refine awl_cond h5 (fun c1 => ?_) (fun c1 => ?_)
 ·
  try simp only [cnd] at c1
  refine awl_seq ?_
  refine awl_regS _ rfl fun K hK => ?_
  try simp only [go_sem, simprocAttr, h4, h5]
  repeat' (refine And.intro (by first | rfl | omega | (simp; done)) ?_)
  refine hK _ _ (.mk (awl_live' [2, 3] fun ρ hL => ?_))
  try simp only [go_sem, simprocAttr, h4, h5] at hL
  try clear h4 h5
  obtain ⟨h2, h3⟩ := hL
  clear hK K
  refine awl_ret ?_
  refine blk_ret ?_
  refine ret0 (by simp only [go_sem, simprocAttr, h2, h3]; exact rfl) ?_
  try simp only [go_sem, simprocAttr]
  all_goals try clear hR1
  all_goals (first | (simp_all [form, formL, inR]; done) | (rcases c6 with c6 | c6 | c6 | c6 | c6 <;> subst c6 <;> rfl) | (rcases c9 with c9 | c9 | c9 <;> subst c9 <;> rfl) | (rcases c5 with c5 | c5 | c5 | c5 | c5 <;> subst c5 <;> rfl) | (rcases c8 with c8 | c8 | c8 <;> subst c8 <;> rfl) | (refine (Bool.eq_false_or_eq_true (inR op 1 15)).elim (fun h => ?_) (fun h => ?_) <;> first | (exfalso; rcases op_cases h with rfl | rfl | rfl | rfl | rfl | rfl | rfl | rfl | rfl | rfl | rfl | rfl | rfl | rfl | rfl <;> simp_all; done) | (simp_all [form, formL]; done)))
 ·
  try simp only [cnd] at c1
  refine awl_seq ?_
  refine awl_seq ?_
  refine awl_regS _ rfl fun K hK => ?_
  try simp only [go_sem, simprocAttr, h4, h5]
  repeat' (refine And.intro (by first | rfl | omega | (simp; done)) ?_)
  refine hK _ _ (.mk (awl_live' [4, 7] fun ρ hL => ?_))
  try simp only [go_sem, simprocAttr, h4, h5] at hL
  try clear h4 h5
  obtain ⟨h4, h7⟩ := hL
  clear hK K
  have j1_4 := h4
  refine awl_joinH (fun H0 σ G => liveE [4] σ ρ ∧ σ 7 = .bool (decide (op = 2 ∨ op = 4 ∨ op = 5 ∨ op = 7 ∨ op = 8)) ∧ G = H0) ?inner1 (fun ρ G hJ => ?after1)
  case inner1 =>
   refine awl_cond h7 (fun c2 => ?_) (fun c2 => ?_)
   ·
    try simp only [cnd] at c2
    refine awl_skip ?_
    refine awl_nil ?_
    show wkQ _ _ _ _
    refine .mk ⟨(by simp only [go_sem, simprocAttr, h4, h7, j1_4]), (by rw [h7]; first | rfl | (congr 1; rw [Bool.eq_iff_iff]; simp; omega)), rfl⟩
   ·
    try simp only [cnd] at c2
    refine awl_seq ?_
    refine awl_regS _ rfl fun K hK => ?_
    try simp only [go_sem, simprocAttr, h4, h7]
    repeat' (refine And.intro (by first | rfl | omega | (simp; done)) ?_)
    refine hK _ _ (.mk (awl_live' [4, 7] fun ρ hL => ?_))
    try simp only [go_sem, simprocAttr, h4, h7] at hL
    try clear h4 h7
    obtain ⟨h4, h7⟩ := hL
    clear hK K
    refine awl_cond h7 (fun c3 => ?_) (fun c3 => ?_)
    ·
     try simp only [cnd] at c3
     refine awl_skip ?_
     refine awl_nil ?_
     show wkQ _ _ _ _
     refine .mk ⟨(by simp only [go_sem, simprocAttr, h4, h7, j1_4]), (by rw [h7]; first | rfl | (congr 1; rw [Bool.eq_iff_iff]; simp; omega)), rfl⟩
    ·
     try simp only [cnd] at c3
     refine awl_seq ?_
     refine awl_regS _ rfl fun K hK => ?_
     try simp only [go_sem, simprocAttr, h4, h7]
     repeat' (refine And.intro (by first | rfl | omega | (simp; done)) ?_)
     refine hK _ _ (.mk (awl_live' [4, 7] fun ρ hL => ?_))
     try simp only [go_sem, simprocAttr, h4, h7] at hL
     try clear h4 h7
     obtain ⟨h4, h7⟩ := hL
     clear hK K
     refine awl_cond h7 (fun c4 => ?_) (fun c4 => ?_)
     ·
      try simp only [cnd] at c4
      refine awl_skip ?_
      refine awl_nil ?_
      show wkQ _ _ _ _
      refine .mk ⟨(by simp only [go_sem, simprocAttr, h4, h7, j1_4]), (by rw [h7]; first | rfl | (congr 1; rw [Bool.eq_iff_iff]; simp; omega)), rfl⟩
     ·
      try simp only [cnd] at c4
      refine awl_seq ?_
      refine awl_regS _ rfl fun K hK => ?_
      try simp only [go_sem, simprocAttr, h4, h7]
      repeat' (refine And.intro (by first | rfl | omega | (simp; done)) ?_)
      refine hK _ _ (.mk (awl_live' [4, 7] fun ρ hL => ?_))
      try simp only [go_sem, simprocAttr, h4, h7] at hL
      try clear h4 h7
      obtain ⟨h4, h7⟩ := hL
      clear hK K
      refine awl_cond h7 (fun c5 => ?_) (fun c5 => ?_)
      ·
       try simp only [cnd] at c5
       refine awl_skip ?_
       refine awl_nil ?_
       show wkQ _ _ _ _
       refine .mk ⟨(by simp only [go_sem, simprocAttr, h4, h7, j1_4]), (by rw [h7]; first | rfl | (congr 1; rw [Bool.eq_iff_iff]; simp; omega)), rfl⟩
      ·
       try simp only [cnd] at c5
       refine awl_regS _ rfl fun K hK => ?_
       try simp only [go_sem, simprocAttr, h4, h7]
       repeat' (refine And.intro (by first | rfl | omega | (simp; done)) ?_)
       refine hK _ _ (.mk (awl_live' [4, 7] fun ρ hL => ?_))
       try simp only [go_sem, simprocAttr, h4, h7] at hL
       try clear h4 h7
       obtain ⟨h4, h7⟩ := hL
       clear hK K
       refine awl_nil ?_
       show wkQ _ _ _ _
       refine .mk ⟨(by simp only [go_sem, simprocAttr, h4, h7, j1_4]), (by rw [h7]; first | rfl | (congr 1; rw [Bool.eq_iff_iff]; simp; omega)), rfl⟩
  case after1 =>
   obtain ⟨hL, k7, hG⟩ := hJ
   subst hG
   try simp only [go_sem, simprocAttr, h4, h7] at hL
   clear h4 h7
   have h4 := hL
   clear hL
   have h7 := k7
   clear k7
   refine awl_cond h7 (fun c6 => ?_) (fun c6 => ?_)
   ·
    try simp only [cnd] at c6
    refine awl_seq ?_
    refine awl_regS _ rfl fun K hK => ?_
    try simp only [go_sem, simprocAttr, h4, h7]
    repeat' (refine And.intro (by first | rfl | omega | (simp; done)) ?_)
    refine hK _ _ (.mk (awl_live' [2, 3] fun ρ hL => ?_))
    try simp only [go_sem, simprocAttr, h4, h7] at hL
    try clear h4 h7
    obtain ⟨h2, h3⟩ := hL
    clear hK K
    refine awl_ret ?_
    refine blk_ret ?_
    refine ret0 (by simp only [go_sem, simprocAttr, h2, h3]; exact rfl) ?_
    try simp only [go_sem, simprocAttr]
    all_goals try clear hR1
    all_goals (first | (simp_all [form, formL, inR]; done) | (rcases c6 with c6 | c6 | c6 | c6 | c6 <;> subst c6 <;> rfl) | (rcases c9 with c9 | c9 | c9 <;> subst c9 <;> rfl) | (rcases c5 with c5 | c5 | c5 | c5 | c5 <;> subst c5 <;> rfl) | (rcases c8 with c8 | c8 | c8 <;> subst c8 <;> rfl) | (refine (Bool.eq_false_or_eq_true (inR op 1 15)).elim (fun h => ?_) (fun h => ?_) <;> first | (exfalso; rcases op_cases h with rfl | rfl | rfl | rfl | rfl | rfl | rfl | rfl | rfl | rfl | rfl | rfl | rfl | rfl | rfl <;> simp_all; done) | (simp_all [form, formL]; done)))
   ·
    try simp only [cnd] at c6
    refine awl_seq ?_
    refine awl_seq ?_
    refine awl_regS _ rfl fun K hK => ?_
    try simp only [go_sem, simprocAttr, h4, h7]
    repeat' (refine And.intro (by first | rfl | omega | (simp; done)) ?_)
    refine hK _ _ (.mk (awl_live' [4, 13] fun ρ hL => ?_))
    try simp only [go_sem, simprocAttr, h4, h7] at hL
    try clear h4 h7
    obtain ⟨h4, h13⟩ := hL
    clear hK K
    have j2_4 := h4
    refine awl_joinH (fun H0 σ G => liveE [4] σ ρ ∧ σ 13 = .bool (decide (op = 3 ∨ op = 9 ∨ op = 12)) ∧ G = H0) ?inner2 (fun ρ G hJ => ?after2)
    case inner2 =>
     refine awl_cond h13 (fun c7 => ?_) (fun c7 => ?_)
     ·
      try simp only [cnd] at c7
      refine awl_skip ?_
      refine awl_nil ?_
      show wkQ _ _ _ _
      refine .mk ⟨(by simp only [go_sem, simprocAttr, h4, h13, j2_4]), (by rw [h13]; first | rfl | (congr 1; rw [Bool.eq_iff_iff]; simp; omega)), rfl⟩
     ·
      try simp only [cnd] at c7
      refine awl_seq ?_
      refine awl_regS _ rfl fun K hK => ?_
      try simp only [go_sem, simprocAttr, h4, h13]
      repeat' (refine And.intro (by first | rfl | omega | (simp; done)) ?_)
      refine hK _ _ (.mk (awl_live' [4, 13] fun ρ hL => ?_))
      try simp only [go_sem, simprocAttr, h4, h13] at hL
      try clear h4 h13
      obtain ⟨h4, h13⟩ := hL
      clear hK K
      refine awl_cond h13 (fun c8 => ?_) (fun c8 => ?_)
      ·
       try simp only [cnd] at c8
       refine awl_skip ?_
       refine awl_nil ?_
       show wkQ _ _ _ _
       refine .mk ⟨(by simp only [go_sem, simprocAttr, h4, h13, j2_4]), (by rw [h13]; first | rfl | (congr 1; rw [Bool.eq_iff_iff]; simp; omega)), rfl⟩
      ·
       try simp only [cnd] at c8
       refine awl_regS _ rfl fun K hK => ?_
       try simp only [go_sem, simprocAttr, h4, h13]
       repeat' (refine And.intro (by first | rfl | omega | (simp; done)) ?_)
       refine hK _ _ (.mk (awl_live' [4, 13] fun ρ hL => ?_))
       try simp only [go_sem, simprocAttr, h4, h13] at hL
       try clear h4 h13
       obtain ⟨h4, h13⟩ := hL
       clear hK K
       refine awl_nil ?_
       show wkQ _ _ _ _
       refine .mk ⟨(by simp only [go_sem, simprocAttr, h4, h13, j2_4]), (by rw [h13]; first | rfl | (congr 1; rw [Bool.eq_iff_iff]; simp; omega)), rfl⟩
    case after2 =>
     obtain ⟨hL, k13, hG⟩ := hJ
     subst hG
     try simp only [go_sem, simprocAttr, h4, h13] at hL
     clear h4 h13
     have h4 := hL
     clear hL
     have h13 := k13
     clear k13
     refine awl_cond h13 (fun c9 => ?_) (fun c9 => ?_)
     ·
      try simp only [cnd] at c9
      refine awl_seq ?_
      refine awl_regS _ rfl fun K hK => ?_
      try simp only [go_sem, simprocAttr, h4, h13]
      repeat' (refine And.intro (by first | rfl | omega | (simp; done)) ?_)
      refine hK _ _ (.mk (awl_live' [2, 3] fun ρ hL => ?_))
      try simp only [go_sem, simprocAttr, h4, h13] at hL
      try clear h4 h13
      obtain ⟨h2, h3⟩ := hL
      clear hK K
      refine awl_ret ?_
      refine blk_ret ?_
      refine ret0 (by simp only [go_sem, simprocAttr, h2, h3]; exact rfl) ?_
      try simp only [go_sem, simprocAttr]
      all_goals try clear hR1
      all_goals (first | (simp_all [form, formL, inR]; done) | (rcases c6 with c6 | c6 | c6 | c6 | c6 <;> subst c6 <;> rfl) | (rcases c9 with c9 | c9 | c9 <;> subst c9 <;> rfl) | (rcases c5 with c5 | c5 | c5 | c5 | c5 <;> subst c5 <;> rfl) | (rcases c8 with c8 | c8 | c8 <;> subst c8 <;> rfl) | (refine (Bool.eq_false_or_eq_true (inR op 1 15)).elim (fun h => ?_) (fun h => ?_) <;> first | (exfalso; rcases op_cases h with rfl | rfl | rfl | rfl | rfl | rfl | rfl | rfl | rfl | rfl | rfl | rfl | rfl | rfl | rfl <;> simp_all; done) | (simp_all [form, formL]; done)))
     ·
      try simp only [cnd] at c9
      refine awl_seq ?_
      refine awl_regS _ rfl fun K hK => ?_
      try simp only [go_sem, simprocAttr, h4, h13]
      repeat' (refine And.intro (by first | rfl | omega | (simp; done)) ?_)
      refine hK _ _ (.mk (awl_live' [4, 17] fun ρ hL => ?_))
      try simp only [go_sem, simprocAttr, h4, h13] at hL
      try clear h4 h13
      obtain ⟨h4, h17⟩ := hL
      clear hK K
      refine awl_cond h17 (fun c10 => ?_) (fun c10 => ?_)
      ·
       try simp only [cnd] at c10
       refine awl_seq ?_
       refine awl_regS _ rfl fun K hK => ?_
       try simp only [go_sem, simprocAttr, h4, h17]
       repeat' (refine And.intro (by first | rfl | omega | (simp; done)) ?_)
       refine hK _ _ (.mk (awl_live' [2, 3] fun ρ hL => ?_))
       try simp only [go_sem, simprocAttr, h4, h17] at hL
       try clear h4 h17
       obtain ⟨h2, h3⟩ := hL
       clear hK K
       refine awl_ret ?_
       refine blk_ret ?_
       refine ret0 (by simp only [go_sem, simprocAttr, h2, h3]; exact rfl) ?_
       try simp only [go_sem, simprocAttr]
       all_goals try clear hR1
       all_goals (first | (simp_all [form, formL, inR]; done) | (rcases c6 with c6 | c6 | c6 | c6 | c6 <;> subst c6 <;> rfl) | (rcases c9 with c9 | c9 | c9 <;> subst c9 <;> rfl) | (rcases c5 with c5 | c5 | c5 | c5 | c5 <;> subst c5 <;> rfl) | (rcases c8 with c8 | c8 | c8 <;> subst c8 <;> rfl) | (refine (Bool.eq_false_or_eq_true (inR op 1 15)).elim (fun h => ?_) (fun h => ?_) <;> first | (exfalso; rcases op_cases h with rfl | rfl | rfl | rfl | rfl | rfl | rfl | rfl | rfl | rfl | rfl | rfl | rfl | rfl | rfl <;> simp_all; done) | (simp_all [form, formL]; done)))
      ·
       try simp only [cnd] at c10
       refine awl_seq ?_
       refine awl_regS _ rfl fun K hK => ?_
       try simp only [go_sem, simprocAttr, h4, h17]
       repeat' (refine And.intro (by first | rfl | omega | (simp; done)) ?_)
       refine hK _ _ (.mk (awl_live' [4, 19] fun ρ hL => ?_))
       try simp only [go_sem, simprocAttr, h4, h17] at hL
       try clear h4 h17
       obtain ⟨h4, h19⟩ := hL
       clear hK K
       refine awl_cond h19 (fun c11 => ?_) (fun c11 => ?_)
       ·
        try simp only [cnd] at c11
        refine awl_seq ?_
        refine awl_regS _ rfl fun K hK => ?_
        try simp only [go_sem, simprocAttr, h4, h19]
        repeat' (refine And.intro (by first | rfl | omega | (simp; done)) ?_)
        refine hK _ _ (.mk (awl_live' [2, 3] fun ρ hL => ?_))
        try simp only [go_sem, simprocAttr, h4, h19] at hL
        try clear h4 h19
        obtain ⟨h2, h3⟩ := hL
        clear hK K
        refine awl_ret ?_
        refine blk_ret ?_
        refine ret0 (by simp only [go_sem, simprocAttr, h2, h3]; exact rfl) ?_
        try simp only [go_sem, simprocAttr]
        all_goals try clear hR1
        all_goals (first | (simp_all [form, formL, inR]; done) | (rcases c6 with c6 | c6 | c6 | c6 | c6 <;> subst c6 <;> rfl) | (rcases c9 with c9 | c9 | c9 <;> subst c9 <;> rfl) | (rcases c5 with c5 | c5 | c5 | c5 | c5 <;> subst c5 <;> rfl) | (rcases c8 with c8 | c8 | c8 <;> subst c8 <;> rfl) | (refine (Bool.eq_false_or_eq_true (inR op 1 15)).elim (fun h => ?_) (fun h => ?_) <;> first | (exfalso; rcases op_cases h with rfl | rfl | rfl | rfl | rfl | rfl | rfl | rfl | rfl | rfl | rfl | rfl | rfl | rfl | rfl <;> simp_all; done) | (simp_all [form, formL]; done)))
       ·
        try simp only [cnd] at c11
        refine awl_seq ?_
        refine awl_regS _ rfl fun K hK => ?_
        try simp only [go_sem, simprocAttr, h4, h19]
        repeat' (refine And.intro (by first | rfl | omega | (simp; done)) ?_)
        refine hK _ _ (.mk (awl_live' [4, 21] fun ρ hL => ?_))
        try simp only [go_sem, simprocAttr, h4, h19] at hL
        try clear h4 h19
        obtain ⟨h4, h21⟩ := hL
        clear hK K
        refine awl_cond h21 (fun c12 => ?_) (fun c12 => ?_)
        ·
         try simp only [cnd] at c12
         refine awl_seq ?_
         refine awl_regS _ rfl fun K hK => ?_
         try simp only [go_sem, simprocAttr, h4, h21]
         repeat' (refine And.intro (by first | rfl | omega | (simp; done)) ?_)
         refine hK _ _ (.mk (awl_live' [2, 3] fun ρ hL => ?_))
         try simp only [go_sem, simprocAttr, h4, h21] at hL
         try clear h4 h21
         obtain ⟨h2, h3⟩ := hL
         clear hK K
         refine awl_ret ?_
         refine blk_ret ?_
         refine ret0 (by simp only [go_sem, simprocAttr, h2, h3]; exact rfl) ?_
         try simp only [go_sem, simprocAttr]
         all_goals try clear hR1
         all_goals (first | (simp_all [form, formL, inR]; done) | (rcases c6 with c6 | c6 | c6 | c6 | c6 <;> subst c6 <;> rfl) | (rcases c9 with c9 | c9 | c9 <;> subst c9 <;> rfl) | (rcases c5 with c5 | c5 | c5 | c5 | c5 <;> subst c5 <;> rfl) | (rcases c8 with c8 | c8 | c8 <;> subst c8 <;> rfl) | (refine (Bool.eq_false_or_eq_true (inR op 1 15)).elim (fun h => ?_) (fun h => ?_) <;> first | (exfalso; rcases op_cases h with rfl | rfl | rfl | rfl | rfl | rfl | rfl | rfl | rfl | rfl | rfl | rfl | rfl | rfl | rfl <;> simp_all; done) | (simp_all [form, formL]; done)))
        ·
         try simp only [cnd] at c12
         refine awl_seq ?_
         refine awl_regS _ rfl fun K hK => ?_
         try simp only [go_sem, simprocAttr, h4, h21]
         repeat' (refine And.intro (by first | rfl | omega | (simp; done)) ?_)
         refine hK _ _ (.mk (awl_live' [4, 23] fun ρ hL => ?_))
         try simp only [go_sem, simprocAttr, h4, h21] at hL
         try clear h4 h21
         obtain ⟨h4, h23⟩ := hL
         clear hK K
         refine awl_cond h23 (fun c13 => ?_) (fun c13 => ?_)
         ·
          try simp only [cnd] at c13
          refine awl_seq ?_
          refine awl_regS _ rfl fun K hK => ?_
          try simp only [go_sem, simprocAttr, h4, h23]
          repeat' (refine And.intro (by first | rfl | omega | (simp; done)) ?_)
          refine hK _ _ (.mk (awl_live' [2, 3] fun ρ hL => ?_))
          try simp only [go_sem, simprocAttr, h4, h23] at hL
          try clear h4 h23
          obtain ⟨h2, h3⟩ := hL
          clear hK K
          refine awl_ret ?_
          refine blk_ret ?_
          refine ret0 (by simp only [go_sem, simprocAttr, h2, h3]; exact rfl) ?_
          try simp only [go_sem, simprocAttr]
          all_goals try clear hR1
          all_goals (first | (simp_all [form, formL, inR]; done) | (rcases c6 with c6 | c6 | c6 | c6 | c6 <;> subst c6 <;> rfl) | (rcases c9 with c9 | c9 | c9 <;> subst c9 <;> rfl) | (rcases c5 with c5 | c5 | c5 | c5 | c5 <;> subst c5 <;> rfl) | (rcases c8 with c8 | c8 | c8 <;> subst c8 <;> rfl) | (refine (Bool.eq_false_or_eq_true (inR op 1 15)).elim (fun h => ?_) (fun h => ?_) <;> first | (exfalso; rcases op_cases h with rfl | rfl | rfl | rfl | rfl | rfl | rfl | rfl | rfl | rfl | rfl | rfl | rfl | rfl | rfl <;> simp_all; done) | (simp_all [form, formL]; done)))
         ·
          try simp only [cnd] at c13
          refine awl_seq ?_
          refine awl_regS _ rfl fun K hK => ?_
          try simp only [go_sem, simprocAttr, h4, h23]
          repeat' (refine And.intro (by first | rfl | omega | (simp; done)) ?_)
          refine hK _ _ (.mk (awl_live' [4, 25] fun ρ hL => ?_))
          try simp only [go_sem, simprocAttr, h4, h23] at hL
          try clear h4 h23
          obtain ⟨h4, h25⟩ := hL
          clear hK K
          refine awl_cond h25 (fun c14 => ?_) (fun c14 => ?_)
          ·
           try simp only [cnd] at c14
           refine awl_seq ?_
           refine awl_regS _ rfl fun K hK => ?_
           try simp only [go_sem, simprocAttr, h4, h25]
           repeat' (refine And.intro (by first | rfl | omega | (simp; done)) ?_)
           refine hK _ _ (.mk (awl_live' [2, 3] fun ρ hL => ?_))
           try simp only [go_sem, simprocAttr, h4, h25] at hL
           try clear h4 h25
           obtain ⟨h2, h3⟩ := hL
           clear hK K
           refine awl_ret ?_
           refine blk_ret ?_
           refine ret0 (by simp only [go_sem, simprocAttr, h2, h3]; exact rfl) ?_
           try simp only [go_sem, simprocAttr]
           all_goals try clear hR1
           all_goals (first | (simp_all [form, formL, inR]; done) | (rcases c6 with c6 | c6 | c6 | c6 | c6 <;> subst c6 <;> rfl) | (rcases c9 with c9 | c9 | c9 <;> subst c9 <;> rfl) | (rcases c5 with c5 | c5 | c5 | c5 | c5 <;> subst c5 <;> rfl) | (rcases c8 with c8 | c8 | c8 <;> subst c8 <;> rfl) | (refine (Bool.eq_false_or_eq_true (inR op 1 15)).elim (fun h => ?_) (fun h => ?_) <;> first | (exfalso; rcases op_cases h with rfl | rfl | rfl | rfl | rfl | rfl | rfl | rfl | rfl | rfl | rfl | rfl | rfl | rfl | rfl <;> simp_all; done) | (simp_all [form, formL]; done)))
          ·
           try simp only [cnd] at c14
           refine awl_seq ?_
           refine awl_regS _ rfl fun K hK => ?_
           try simp only [go_sem, simprocAttr, h4, h25]
           repeat' (refine And.intro (by first | rfl | omega | (simp; done)) ?_)
           refine hK _ _ (.mk (awl_live' [27] fun ρ hL => ?_))
           try simp only [go_sem, simprocAttr, h4, h25] at hL
           try clear h4 h25
           have h27 := hL
           clear hL
           clear hK K
           refine awl_cond h27 (fun c15 => ?_) (fun c15 => ?_)
           ·
            try simp only [cnd] at c15
            refine awl_seq ?_
            refine awl_regS _ rfl fun K hK => ?_
            try simp only [go_sem, simprocAttr, h27]
            repeat' (refine And.intro (by first | rfl | omega | (simp; done)) ?_)
            refine hK _ _ (.mk (awl_live' [2, 3] fun ρ hL => ?_))
            try simp only [go_sem, simprocAttr, h27] at hL
            try clear h27
            obtain ⟨h2, h3⟩ := hL
            clear hK K
            refine awl_ret ?_
            refine blk_ret ?_
            refine ret0 (by simp only [go_sem, simprocAttr, h2, h3]; exact rfl) ?_
            try simp only [go_sem, simprocAttr]
            all_goals try clear hR1
            all_goals (first | (simp_all [form, formL, inR]; done) | (rcases c6 with c6 | c6 | c6 | c6 | c6 <;> subst c6 <;> rfl) | (rcases c9 with c9 | c9 | c9 <;> subst c9 <;> rfl) | (rcases c5 with c5 | c5 | c5 | c5 | c5 <;> subst c5 <;> rfl) | (rcases c8 with c8 | c8 | c8 <;> subst c8 <;> rfl) | (refine (Bool.eq_false_or_eq_true (inR op 1 15)).elim (fun h => ?_) (fun h => ?_) <;> first | (exfalso; rcases op_cases h with rfl | rfl | rfl | rfl | rfl | rfl | rfl | rfl | rfl | rfl | rfl | rfl | rfl | rfl | rfl <;> simp_all; done) | (simp_all [form, formL]; done)))
           ·
            try simp only [cnd] at c15
            refine awl_skip ?_
            refine awl_nil ?_
            refine blk_normal (hR1 _ _ (.mk ?_))
            refine awl_seq ?_
            refine awl_regS _ rfl fun K hK => ?_
            try simp only [go_sem, simprocAttr, h27]
            repeat' (refine And.intro (by first | rfl | omega | (simp; done)) ?_)
            refine hK _ _ (.mk (awl_live' [2, 3] fun ρ hL => ?_))
            try simp only [go_sem, simprocAttr, h27] at hL
            try clear h27
            obtain ⟨h2, h3⟩ := hL
            clear hK K
            refine awl_ret ?_
            refine ret0 (by simp only [go_sem, simprocAttr, h2, h3]; exact rfl) ?_
            try simp only [go_sem, simprocAttr]
            all_goals try clear hR1
            all_goals (first | (simp_all [form, formL, inR]; done) | (rcases c6 with c6 | c6 | c6 | c6 | c6 <;> subst c6 <;> rfl) | (rcases c9 with c9 | c9 | c9 <;> subst c9 <;> rfl) | (rcases c5 with c5 | c5 | c5 | c5 | c5 <;> subst c5 <;> rfl) | (rcases c8 with c8 | c8 | c8 <;> subst c8 <;> rfl) | (refine (Bool.eq_false_or_eq_true (inR op 1 15)).elim (fun h => ?_) (fun h => ?_) <;> first | (exfalso; rcases op_cases h with rfl | rfl | rfl | rfl | rfl | rfl | rfl | rfl | rfl | rfl | rfl | rfl | rfl | rfl | rfl <;> simp_all; done) | (simp_all [form, formL]; done)))
set_option maxHeartbeats 8000000 in
set_option maxRecDepth 100000 in
theorem sat_impl_partOf (x : Ins) (p : Int)  : Sat Tryz.prog 108 [.agg x.cells, .int .u8 p] [] (.int .i64 (partI x p)) [] := by
 refine sat_mk [.tmp 4] 0 20 Tryz.call108 Tryz.func108 Tryz.ntmps108 rfl rfl rfl rfl rfl ?_
 refine awl_live' [0, 1] fun ρ hL => ?_
 try simp only [go_sem, simprocAttr] at hL
 obtain ⟨h0, h1⟩ := hL
 refine awl_seq ?_
 refine awl_regS _ rfl fun K hK => ?_
 try simp only [go_sem, simprocAttr, h0, h1]
 repeat' (refine And.intro (by first | rfl | omega | (simp; done)) ?_)
 refine hK _ _ (.mk (awl_live' [1, 2] fun ρ hL => ?_))
 try simp only [go_sem, simprocAttr, h0, h1] at hL
 try clear h0 h1
 obtain ⟨h1, h2⟩ := hL
 clear hK K
 refine awl_seq ?_
 refine awl_seq ?_
 refine awl_regS _ rfl fun K hK => ?_
 try simp only [go_sem, simprocAttr, h1, h2]
 repeat' (refine And.intro (by first | rfl | omega | (simp; done)) ?_)
 refine hK _ _ (.mk (awl_live' [2, 5] fun ρ hL => ?_))
 try simp only [go_sem, simprocAttr, h1, h2] at hL
 try clear h1 h2
 obtain ⟨h2, h5⟩ := hL
 clear hK K
 refine awl_block fun R1 hw1 hR1 => ?_
 refine awl_seq ?_
 refine awl_regS _ rfl fun K hK => ?_
 try simp only [go_sem, simprocAttr, h2, h5]
 repeat' (refine And.intro (by first | rfl | omega | (simp; done)) ?_)
 refine hK _ _ (.mk (awl_live' [2, 5, 6] fun ρ hL => ?_))
 try simp only [go_sem, simprocAttr, h2, h5] at hL
 try clear h2 h5
 obtain ⟨h2, h5, h6⟩ := hL
 clear hK K
 refine awl_cond h6 (fun c1 => ?_) (fun c1 => ?_)
 ·
  try simp only [cnd] at c1
  refine awl_seq ?_
  refine awl_regS _ rfl fun K hK => ?_
  try simp only [go_sem, simprocAttr, h2, h5, h6]
  repeat' (refine And.intro (by first | rfl | omega | (simp; done)) ?_)
  refine hK _ _ (.mk (awl_live' [4] fun ρ hL => ?_))
  try simp only [go_sem, simprocAttr, h2, h5, h6] at hL
  try clear h2 h5 h6
  have h4 := hL
  clear hL
  clear hK K
  refine awl_ret ?_
  refine blk_ret ?_
  refine ret0 (by simp only [go_sem, simprocAttr, h4]; exact rfl) ?_
  try simp only [go_sem, simprocAttr]
  all_goals try clear hR1
  all_goals (simp_all [partI])
 ·
  try simp only [cnd] at c1
  refine awl_seq ?_
  refine awl_regS _ rfl fun K hK => ?_
  try simp only [go_sem, simprocAttr, h2, h5, h6]
  repeat' (refine And.intro (by first | rfl | omega | (simp; done)) ?_)
  refine hK _ _ (.mk (awl_live' [2, 5, 10] fun ρ hL => ?_))
  try simp only [go_sem, simprocAttr, h2, h5, h6] at hL
  try clear h2 h5 h6
  obtain ⟨h2, h5, h10⟩ := hL
  clear hK K
  refine awl_cond h10 (fun c2 => ?_) (fun c2 => ?_)
  ·
   try simp only [cnd] at c2
   refine awl_seq ?_
   refine awl_regS _ rfl fun K hK => ?_
   try simp only [go_sem, simprocAttr, h2, h5, h10]
   repeat' (refine And.intro (by first | rfl | omega | (simp; done)) ?_)
   refine hK _ _ (.mk (awl_live' [4] fun ρ hL => ?_))
   try simp only [go_sem, simprocAttr, h2, h5, h10] at hL
   try clear h2 h5 h10
   have h4 := hL
   clear hL
   clear hK K
   refine awl_ret ?_
   refine blk_ret ?_
   refine ret0 (by simp only [go_sem, simprocAttr, h4]; exact rfl) ?_
   try simp only [go_sem, simprocAttr]
   all_goals try clear hR1
   all_goals (simp_all [partI])
  ·
   try simp only [cnd] at c2
   refine awl_seq ?_
   refine awl_regS _ rfl fun K hK => ?_
   try simp only [go_sem, simprocAttr, h2, h5, h10]
   repeat' (refine And.intro (by first | rfl | omega | (simp; done)) ?_)
   refine hK _ _ (.mk (awl_live' [2, 14] fun ρ hL => ?_))
   try simp only [go_sem, simprocAttr, h2, h5, h10] at hL
   try clear h2 h5 h10
   obtain ⟨h2, h14⟩ := hL
   clear hK K
   refine awl_cond h14 (fun c3 => ?_) (fun c3 => ?_)
   ·
    try simp only [cnd] at c3
    refine awl_seq ?_
    refine awl_regS _ rfl fun K hK => ?_
    try simp only [go_sem, simprocAttr, h2, h14]
    repeat' (refine And.intro (by first | rfl | omega | (simp; done)) ?_)
    refine hK _ _ (.mk (awl_live' [4] fun ρ hL => ?_))
    try simp only [go_sem, simprocAttr, h2, h14] at hL
    try clear h2 h14
    have h4 := hL
    clear hL
    clear hK K
    refine awl_ret ?_
    refine blk_ret ?_
    refine ret0 (by simp only [go_sem, simprocAttr, h4]; exact rfl) ?_
    try simp only [go_sem, simprocAttr]
    all_goals try clear hR1
    all_goals (simp_all [partI])
   ·
    try simp only [cnd] at c3
    refine awl_skip ?_
    refine awl_nil ?_
    refine blk_normal (hR1 _ _ (.mk ?_))
    refine awl_seq ?_
    refine awl_regS _ rfl fun K hK => ?_
    try simp only [go_sem, simprocAttr, h2, h14]
    repeat' (refine And.intro (by first | rfl | omega | (simp; done)) ?_)
    refine hK _ _ (.mk (awl_live' [4] fun ρ hL => ?_))
    try simp only [go_sem, simprocAttr, h2, h14] at hL
    try clear h2 h14
    have h4 := hL
    clear hL
    clear hK K
    refine awl_ret ?_
    refine ret0 (by simp only [go_sem, simprocAttr, h4]; exact rfl) ?_
    try simp only [go_sem, simprocAttr]
    all_goals try clear hR1
    all_goals (simp_all [partI])
set_option maxHeartbeats 8000000 in
set_option maxRecDepth 100000 in
theorem sat_slices_Index_byte_byte (xs : List UInt8) (p : Int) (hb : xs.length ≤ 1099511627776) : Sat Tryz.prog 129 [.sl xs.length xs.length (bytesV xs), .int .u8 p] [] (.int .i64 (firstAt (fun b : UInt8 => decide (p = (b.toNat : Int))) xs 0)) [] := by
 refine sat_mk [.tmp 4] 0 19 Tryz.call129 Tryz.func129 Tryz.ntmps129 rfl rfl rfl rfl rfl ?_
 refine awl_live' [0, 1] fun ρ hL => ?_
 try simp only [go_sem, simprocAttr] at hL
 obtain ⟨h0, h1⟩ := hL
 refine awl_seq ?_
 refine awl_regS _ rfl fun K hK => ?_
 try simp only [go_sem, simprocAttr, h0, h1]
 repeat' (refine And.intro (by first | rfl | omega | (simp; done)) ?_)
 refine hK _ _ (.mk (awl_live' [0, 1] fun ρ hL => ?_))
 try simp only [go_sem, simprocAttr, h0, h1] at hL
 try clear h0 h1
 obtain ⟨h0, h1⟩ := hL
 clear hK K
 refine awl_seq ?_
 refine awl_seq ?_
 refine awl_regS _ rfl fun K hK => ?_
 try simp only [go_sem, simprocAttr, h0, h1]
 repeat' (refine And.intro (by first | rfl | omega | (simp; done)) ?_)
 refine hK _ _ (.mk (awl_live' [0, 1, 7, 8] fun ρ hL => ?_))
 try simp only [go_sem, simprocAttr, h0, h1] at hL
 try clear h0 h1
 obtain ⟨h0, h1, h7, h8⟩ := hL
 clear hK K
 have e1_0 := h0
 have e1_1 := h1
 have e1_7 := h7
 refine awl_loopH (fun H0 n σ G => ∃ (i : Nat), n = xs.length - i ∧ (i ≤ xs.length) ∧ (firstAt (fun b : UInt8 => decide (p = (b.toNat : Int))) (xs.drop i) i = firstAt (fun b : UInt8 => decide (p = (b.toNat : Int))) xs 0) ∧ liveE [0, 1, 7] σ ρ ∧ σ 8 = .int .i64 (i : Int) ∧ G = H0) (fun H0 σ G => (firstAt (fun b : UInt8 => decide (p = (b.toNat : Int))) xs 0 = -1) ∧ liveE [] σ ρ ∧ G = H0) ((fun (i : Nat) => xs.length - i) 0) ?init1 (fun n ρ G hI => ?round1) (fun ρ G hJ => ?after1)
 case init1 => exact ⟨0, rfl, (Nat.zero_le _), (by simp), liveE_refl _ _, (h8), rfl⟩
 case round1 =>
  obtain ⟨i, hn, i1_0, i1_1, hL, k8, hG⟩ := hI
  subst hG
  try simp only [go_sem, simprocAttr, h0, h1, h7, h8] at hL
  clear h0 h1 h7 h8
  obtain ⟨h0, h1, h7⟩ := hL
  have h8 := k8
  clear k8
  refine awl_seq ?_
  refine awl_regS _ rfl fun K hK => ?_
  try simp only [go_sem, simprocAttr, h0, h1, h7, h8]
  repeat' (refine And.intro (by first | rfl | omega | (simp; done)) ?_)
  refine hK _ _ (.mk (awl_live' [0, 1, 7, 8, 9] fun ρ hL => ?_))
  try simp only [go_sem, simprocAttr, h0, h1, h7, h8] at hL
  try clear h0 h1 h7 h8
  obtain ⟨h0, h1, h7, h8, h9⟩ := hL
  clear hK K
  refine awl_seq ?_
  refine awl_cond h9 (fun c1 => ?_) (fun c1 => ?_)
  ·
   try simp only [cnd] at c1
   have hi1 : i < xs.length := by omega
   refine awl_skip ?_
   refine awl_seq ?_
   refine awl_block fun R1 hw1 hR1 => ?_
   refine awl_seq ?_
   refine awl_regS _ rfl fun K hK => ?_
   try simp only [go_sem, simprocAttr, h0, h1, h7, h8, h9, hi1]
   repeat' (refine And.intro (by first | rfl | omega | (simp; done)) ?_)
   refine hK _ _ (.mk (awl_live' [0, 1, 5, 7, 8] fun ρ hL => ?_))
   try simp only [go_sem, simprocAttr, h0, h1, h7, h8, h9, hi1] at hL
   try clear h0 h1 h7 h8 h9
   obtain ⟨h0, h1, h5, h7, h8⟩ := hL
   clear hK K
   refine awl_seq ?_
   refine awl_regS _ rfl fun K hK => ?_
   try simp only [go_sem, simprocAttr, h0, h1, h5, h7, h8, hi1]
   repeat' (refine And.intro (by first | rfl | omega | (simp; done)) ?_)
   refine hK _ _ (.mk (awl_live' [0, 1, 5, 7, 8, 16] fun ρ hL => ?_))
   try simp only [go_sem, simprocAttr, h0, h1, h5, h7, h8, hi1] at hL
   try clear h0 h1 h5 h7 h8
   obtain ⟨h0, h1, h5, h7, h8, h16⟩ := hL
   clear hK K
   refine awl_cond h16 (fun c2 => ?_) (fun c2 => ?_)
   ·
    try simp only [cnd] at c2
    refine awl_seq ?_
    refine awl_regS _ rfl fun K hK => ?_
    try simp only [go_sem, simprocAttr, h0, h1, h5, h7, h8, h16, hi1]
    repeat' (refine And.intro (by first | rfl | omega | (simp; done)) ?_)
    refine hK _ _ (.mk (awl_live' [4] fun ρ hL => ?_))
    try simp only [go_sem, simprocAttr, h0, h1, h5, h7, h8, h16, hi1] at hL
    try clear h0 h1 h5 h7 h8 h16
    have h4 := hL
    clear hL
    clear hK K
    refine awl_ret ?_
    refine blk_ret ?_
    refine loop_ret ?_
    refine ret0 (by simp only [go_sem, simprocAttr, h4, hi1]; exact rfl) ?_
    try simp only [go_sem, simprocAttr]
    all_goals try clear hR1
    all_goals (have := firstAt_drop (p := fun b : UInt8 => decide (p = (b.toNat : Int))) (d := 0) xs i 0 hi1; rw [← i1_1]; simp only [Nat.zero_add] at this; rw [this, if_pos (by simpa using c2)])
   ·
    try simp only [cnd] at c2
    refine awl_skip ?_
    refine awl_nil ?_
    refine blk_normal (hR1 _ _ (.mk ?_))
    have w1 : IntKind.i64.wrap ((i : Int) + 1) = ((i + 1 : Nat) : Int) := by rw [wrap64 (by omega)]; omega
    refine awl_regS _ rfl fun K hK => ?_
    try simp only [go_sem, simprocAttr, h0, h1, h5, h7, h8, h16, hi1, w1]
    repeat' (refine And.intro (by first | rfl | omega | (simp; done)) ?_)
    refine hK _ _ (.mk (awl_live' [0, 1, 7, 8] fun ρ hL => ?_))
    try simp only [go_sem, simprocAttr, h0, h1, h5, h7, h8, h16, hi1, w1] at hL
    try clear h0 h1 h5 h7 h8 h16
    obtain ⟨h0, h1, h7, h8⟩ := hL
    clear hK K
    refine awl_nil ?_
    refine loop_again _ ?meas ⟨i + 1, rfl, (by omega), (by have := firstAt_drop (p := fun b : UInt8 => decide (p = (b.toNat : Int))) (d := 0) xs i 0 hi1; rw [← i1_1]; simp only [Nat.zero_add] at this; rw [this, if_neg (by simpa using c2)]), (by simp only [go_sem, simprocAttr, h0, h1, h7, h8, hi1, e1_0, e1_1, e1_7]), (h8), rfl⟩
    case meas => subst hn; omega
  ·
   try simp only [cnd] at c1
   refine awl_exit ?_
   refine loop_break ?_
   exact ⟨(by rw [← i1_1, List.drop_of_length_le (by omega)]; rfl), (by simp only [go_sem, simprocAttr, h0, h1, h7, h8, h9, e1_0, e1_1, e1_7]), rfl⟩
 case after1 =>
  obtain ⟨j1_0, hL, hG⟩ := hJ
  subst hG
  clear h0 h1 h7 h8
  clear hL
  refine awl_seq ?_
  refine awl_regS _ rfl fun K hK => ?_
  try simp only [go_sem, simprocAttr]
  repeat' (refine And.intro (by first | rfl | omega | (simp; done)) ?_)
  refine hK _ _ (.mk (awl_live' [4] fun ρ hL => ?_))
  try simp only [go_sem, simprocAttr] at hL
  have h4 := hL
  clear hL
  clear hK K
  refine awl_ret ?_
  refine ret0 (by simp only [go_sem, simprocAttr, h4]; exact rfl) ?_
  try simp only [go_sem, simprocAttr]
  all_goals try clear hR1
  all_goals (rw [j1_0])
set_option maxHeartbeats 8000000 in
set_option maxRecDepth 100000 in
theorem sat_slices_Contains_byte_byte (xs : List UInt8) (p : Int) (hb : xs.length ≤ 1099511627776) : Sat Tryz.prog 123 [.sl xs.length xs.length (bytesV xs), .int .u8 p] [] (.bool (xs.any fun b => decide (p = (b.toNat : Int)))) [] := by
 refine sat_mk [.tmp 4] 0 9 Tryz.call123 Tryz.func123 Tryz.ntmps123 rfl rfl rfl rfl rfl ?_
 refine awl_live' [0, 1] fun ρ hL => ?_
 try simp only [go_sem, simprocAttr] at hL
 obtain ⟨h0, h1⟩ := hL
 refine awl_seq ?_
 refine awl_regS _ rfl fun K hK => ?_
 try simp only [go_sem, simprocAttr, h0, h1]
 repeat' (refine And.intro (by first | rfl | omega | (simp; done)) ?_)
 refine hK _ _ (.mk (awl_live' [0, 1] fun ρ hL => ?_))
 try simp only [go_sem, simprocAttr, h0, h1] at hL
 try clear h0 h1
 obtain ⟨h0, h1⟩ := hL
 clear hK K
 refine awl_seq ?_
 refine awl_regS _ rfl fun K hK => ?_
 try simp only [go_sem, simprocAttr, h0, h1]
 repeat' (refine And.intro (by first | rfl | omega | (simp; done)) ?_)
 refine opS_call_ro rfl (sat_slices_Index_byte_byte ?_ ?_ ?hp0) ?ha ?hv ?hh ?_
 case ha => simp only [go_sem, simprocAttr, h0, h1]; first | done | rfl
 case hp0 => first | assumption | omega | (simp; done)
 case hv => first | rfl | (simp only [go_sem]; done)
 case hh => first | rfl | (simp only [go_sem]; done)
 try simp only [go_sem, simprocAttr, h0, h1]
 repeat' (refine And.intro (by first | rfl | omega | (simp; done)) ?_)
 refine hK _ _ (.mk (awl_live' [4] fun ρ hL => ?_))
 try simp only [go_sem, simprocAttr, h0, h1] at hL
 try clear h0 h1
 have h4 := hL
 clear hL
 clear hK K
 refine awl_ret ?_
 refine ret0 (by simp only [go_sem, simprocAttr, h4]; exact rfl) ?_
 try simp only [go_sem, simprocAttr]
 all_goals (have := firstAt_neg (p := fun b : UInt8 => decide (p = (b.toNat : Int))) xs 0; cases h : xs.any (fun b => decide (p = (b.toNat : Int))) <;> simp_all)
set_option maxHeartbeats 8000000 in
set_option maxRecDepth 100000 in
theorem sat_impl_hasPart (x : Ins) (p : Int)  : Sat Tryz.prog 109 [.agg x.cells, .int .u8 p] [] (.bool (hasI x.op p)) [] := by
 refine sat_mk [.tmp 4] 0 17 Tryz.call109 Tryz.func109 Tryz.ntmps109 rfl rfl rfl rfl rfl ?_
 refine awl_live' [0, 1] fun ρ hL => ?_
 try simp only [go_sem, simprocAttr] at hL
 obtain ⟨h0, h1⟩ := hL
 refine awl_seq ?_
 refine awl_regS _ rfl fun K hK => ?_
 try simp only [go_sem, simprocAttr, h0, h1]
 repeat' (refine And.intro (by first | rfl | omega | (simp; done)) ?_)
 refine hK _ _ (.mk (awl_live' [1, 2] fun ρ hL => ?_))
 try simp only [go_sem, simprocAttr, h0, h1] at hL
 try clear h0 h1
 obtain ⟨h1, h2⟩ := hL
 clear hK K
 refine awl_seq ?_
 refine awl_regS _ rfl fun K hK => ?_
 try simp only [go_sem, simprocAttr, h1, h2]
 repeat' (refine And.intro (by first | rfl | omega | (simp; done)) ?_)
 refine opS_call_ro rfl (sat_impl_formOf ?_) ?ha ?hv ?hh ?_
 case ha => simp only [go_sem, simprocAttr, h1, h2]; first | done | rfl
 case hv => first | rfl | (simp only [go_sem]; done)
 case hh => first | rfl | (simp only [go_sem]; done)
 try simp only [go_sem, simprocAttr, h1, h2]
 repeat' (refine And.intro (by first | rfl | omega | (simp; done)) ?_)
 refine hK _ _ (.mk (awl_live' [1, 5] fun ρ hL => ?_))
 try simp only [go_sem, simprocAttr, h1, h2] at hL
 try clear h1 h2
 obtain ⟨h1, h5⟩ := hL
 clear hK K
 refine awl_seq ?_
 have hfl := formL_len (op := x.op)
 refine awl_regS _ rfl fun K hK => ?_
 try simp only [go_sem, simprocAttr, h1, h5]
 repeat' (refine And.intro (by first | rfl | omega | (simp; done)) ?_)
 refine opS_call_ro rfl (sat_slices_Contains_byte_byte (formL x.op) p (by omega)) ?ha ?hv ?hh ?_
 case ha => simp only [go_sem, simprocAttr, h1, h5]; first | done | rfl
 case hv => first | rfl | (simp only [go_sem]; done)
 case hh => first | rfl | (simp only [go_sem]; done)
 try simp only [go_sem, simprocAttr, h1, h5]
 repeat' (refine And.intro (by first | rfl | omega | (simp; done)) ?_)
 refine hK _ _ (.mk (awl_live' [4] fun ρ hL => ?_))
 try simp only [go_sem, simprocAttr, h1, h5] at hL
 try clear h1 h5
 have h4 := hL
 clear hL
 clear hK K
 refine awl_ret ?_
 refine ret0 (by simp only [go_sem, simprocAttr, h4]; exact rfl) ?_
 try simp only [go_sem, simprocAttr]
 all_goals (rfl)
set_option maxHeartbeats 8000000 in
set_option maxRecDepth 100000 in
theorem sat_spec_l6Has (op : Int)  : Sat Tryz.prog 94 [.int .i64 op] [] (.int .i64 (has op)) [] := by
 refine sat_mk [.tmp 2] 0 10 Tryz.call94 Tryz.func94 Tryz.ntmps94 rfl rfl rfl rfl rfl ?_
 refine awl_live' [0] fun ρ hL => ?_
 try simp only [go_sem, simprocAttr] at hL
 have h0 := hL
 clear hL
 refine awl_seq ?_
 refine awl_regS _ rfl fun K hK => ?_
 try simp only [go_sem, simprocAttr, h0]
 repeat' (refine And.intro (by first | rfl | omega | (simp; done)) ?_)
 refine hK _ _ (.mk (awl_live' [0] fun ρ hL => ?_))
 try simp only [go_sem, simprocAttr, h0] at hL
 try clear h0
 have h0 := hL
 clear hL
 clear hK K
 refine awl_seq ?_
 refine awl_seq ?_
 refine awl_regS _ rfl fun K hK => ?_
 try simp only [go_sem, simprocAttr, h0]
 repeat' (refine And.intro (by first | rfl | omega | (simp; done)) ?_)
 refine opS_call_ro rfl (sat_spec_l1In ?_ ?_ ?_) ?ha ?hv ?hh ?_
 case ha => simp only [go_sem, simprocAttr, h0]; first | done | rfl
 case hv => first | rfl | (simp only [go_sem]; done)
 case hh => first | rfl | (simp only [go_sem]; done)
 try simp only [go_sem, simprocAttr, h0]
 repeat' (refine And.intro (by first | rfl | omega | (simp; done)) ?_)
 refine hK _ _ (.mk (awl_live' [0, 5] fun ρ hL => ?_))
 try simp only [go_sem, simprocAttr, h0] at hL
 try clear h0
 obtain ⟨h0, h5⟩ := hL
 clear hK K
 refine awl_cond h5 (fun c1 => ?_) (fun c1 => ?_)
 ·
  try simp only [cnd] at c1
  refine awl_seq ?_
  refine awl_regS _ rfl fun K hK => ?_
  try simp only [go_sem, simprocAttr, h0, h5]
  repeat' (refine And.intro (by first | rfl | omega | (simp; done)) ?_)
  refine hK _ _ (.mk (awl_live' [2] fun ρ hL => ?_))
  try simp only [go_sem, simprocAttr, h0, h5] at hL
  try clear h0 h5
  have h2 := hL
  clear hL
  clear hK K
  refine awl_ret ?_
  refine ret0 (by simp only [go_sem, simprocAttr, h2]; exact rfl) ?_
  try simp only [go_sem, simprocAttr]
  all_goals (rw [has, if_neg (by simp_all)])
 ·
  try simp only [cnd] at c1
  refine awl_skip ?_
  refine awl_seq ?_
  have hop0 : inR op 1 15 = true := by simpa using c1
  have hop := inR_iff.1 hop0
  have hr := has_row hop0
  refine awl_regS _ rfl fun K hK => ?_
  try simp only [go_sem, simprocAttr, h0, h5, hr]
  repeat' (refine And.intro (by first | rfl | omega | (simp; done)) ?_)
  refine hK _ _ (.mk (awl_live' [2] fun ρ hL => ?_))
  try simp only [go_sem, simprocAttr, h0, h5, hr] at hL
  try clear h0 h5
  have h2 := hL
  clear hL
  clear hK K
  refine awl_ret ?_
  refine ret0 (by simp only [go_sem, simprocAttr, h2]; exact rfl) ?_
  try simp only [go_sem, simprocAttr]
  all_goals (rfl)
set_option maxHeartbeats 8000000 in
set_option maxRecDepth 100000 in
theorem sat_spec_l6Field (x : Int) (h : Bool)  : Sat Tryz.prog 95 [.int .i64 x, .bool h] [] (.bool (fieldOk x h)) [] := by
 refine sat_mk [.tmp 4] 0 14 Tryz.call95 Tryz.func95 Tryz.ntmps95 rfl rfl rfl rfl rfl ?_
 refine awl_live' [0, 1] fun ρ hL => ?_
 try simp only [go_sem, simprocAttr] at hL
 obtain ⟨h0, h1⟩ := hL
 refine awl_seq ?_
 refine awl_regS _ rfl fun K hK => ?_
 try simp only [go_sem, simprocAttr, h0, h1]
 repeat' (refine And.intro (by first | rfl | omega | (simp; done)) ?_)
 refine hK _ _ (.mk (awl_live' [0, 1] fun ρ hL => ?_))
 try simp only [go_sem, simprocAttr, h0, h1] at hL
 try clear h0 h1
 obtain ⟨h0, h1⟩ := hL
 clear hK K
 refine awl_seq ?_
 refine awl_regS _ rfl fun K hK => ?_
 try simp only [go_sem, simprocAttr, h0, h1]
 repeat' (refine And.intro (by first | rfl | omega | (simp; done)) ?_)
 refine opS_call_ro rfl (sat_spec_l1In ?_ ?_ ?_) ?ha ?hv ?hh ?_
 case ha => simp only [go_sem, simprocAttr, h0, h1]; first | done | rfl
 case hv => first | rfl | (simp only [go_sem]; done)
 case hh => first | rfl | (simp only [go_sem]; done)
 try simp only [go_sem, simprocAttr, h0, h1]
 repeat' (refine And.intro (by first | rfl | omega | (simp; done)) ?_)
 refine awpS_live [0, 1, 7] fun ρ hL => ?_
 try simp only [go_sem, simprocAttr, h0, h1] at hL
 try clear h0 h1
 obtain ⟨h0, h1, h7⟩ := hL
 refine grp_andN (tc := 7) (tv := 12) (td := 13) (v := ?v1) 5 rfl [] h7 rfl (fun hb K1 hK1 => ?run) (fun hb => ?skip) (fun ρ hP hL => ?_)
 case skip =>
  exact awpS_skip (want := true) (b := _) (by rw [hb]; rfl) _ [] ρ h7 (fun _ _ => rfl) (by simp) rfl
 case run =>
  simp only [List.take_succ_cons, List.take_zero]
  rw [hb] at h7
  have g2_7 := h7
  have hK1_2 := hK1
  try simp only [go_sem, simprocAttr, h0, h1, h7]
  repeat' (refine And.intro (by first | rfl | omega | (simp; done)) ?_)
  refine awpS_live [0, 7, 9] fun ρ hL => ?_
  try simp only [go_sem, simprocAttr, h0, h1, h7] at hL
  try clear h0 h1 h7
  obtain ⟨h0, h7, h9⟩ := hL
  refine grp_orGN (tc := 9) (tv := 11) (td := 12) (v := ?v3) 2 7 true rfl h7 [7] rfl h9 rfl (fun hb K1 hK1 => ?run) (fun hb => ?skip) (fun ρ hP hL => ?_)
  case skip =>
   exact awpS_skip (want := false) (b := _) (by rw [hb]; rfl) _ [] ρ h9 (fun _ _ => rfl) (by simp) rfl
  case run =>
   simp only [List.take_succ_cons, List.take_zero]
   rw [hb] at h9
   try simp only [go_sem, simprocAttr, h0, h7, h9]
   repeat' (refine And.intro (by first | rfl | omega | (simp; done)) ?_)
   exact hK1 _ (by simp only [go_sem, simprocAttr, h0, h7, h9]) (by simp only [go_sem, simprocAttr, h0, h7, h9]; exact rfl) (by simp only [go_sem, simprocAttr, h0, h7, h9])
  simp only [List.drop_succ_cons, List.drop_zero]
  try simp only [go_sem, simprocAttr, h0, h7, h9] at hL
  try clear h0 h7 h9
  have h7 := hL
  clear hL
  have h12 := hP
  clear hP
  try simp only [go_sem, simprocAttr, h7, h12]
  repeat' (refine And.intro (by first | rfl | omega | (simp; done)) ?_)
  exact hK1_2 _ (by simp only [go_sem, simprocAttr, h7, h12, g2_7]) (by simp only [go_sem, simprocAttr, h7, h12, g2_7]; exact rfl) (by simp only [go_sem, simprocAttr, h7, h12, g2_7])
 simp only [List.drop_succ_cons, List.drop_zero]
 clear hL h0 h1 h7
 have h13 := hP
 clear hP
 try simp only [go_sem, simprocAttr, h13]
 repeat' (refine And.intro (by first | rfl | omega | (simp; done)) ?_)
 refine hK _ _ (.mk (awl_live' [4] fun ρ hL => ?_))
 try simp only [go_sem, simprocAttr, h13] at hL
 try clear h13
 have h4 := hL
 clear hL
 clear hK K
 refine awl_ret ?_
 refine ret0 (by simp only [go_sem, simprocAttr, h4]; exact rfl) ?_
 try simp only [go_sem, simprocAttr]
 all_goals (rfl)
set_option maxHeartbeats 8000000 in
set_option maxRecDepth 100000 in
theorem sat_spec_InsOk (x : Ins)  : Sat Tryz.prog 61 [.agg x.cells] [] (.bool (insOk x)) [] := by
 refine sat_mk [.tmp 2] 0 49 Tryz.call61 Tryz.func61 Tryz.ntmps61 rfl rfl rfl rfl rfl ?_
 refine awl_live' [0] fun ρ hL => ?_
 try simp only [go_sem, simprocAttr] at hL
 have h0 := hL
 clear hL
 refine awl_seq ?_
 refine awl_regS _ rfl fun K hK => ?_
 try simp only [go_sem, simprocAttr, h0]
 repeat' (refine And.intro (by first | rfl | omega | (simp; done)) ?_)
 refine hK _ _ (.mk (awl_live' [1] fun ρ hL => ?_))
 try simp only [go_sem, simprocAttr, h0] at hL
 try clear h0
 have h1 := hL
 clear hL
 clear hK K
 refine awl_seq ?_
 refine awl_regS _ rfl fun K hK => ?_
 try simp only [go_sem, simprocAttr, h1]
 repeat' (refine And.intro (by first | rfl | omega | (simp; done)) ?_)
 refine opS_call_ro rfl (sat_spec_l6Has ?_) ?ha ?hv ?hh ?_
 case ha => simp only [go_sem, simprocAttr, h1]; first | done | rfl
 case hv => first | rfl | (simp only [go_sem]; done)
 case hh => first | rfl | (simp only [go_sem]; done)
 try simp only [go_sem, simprocAttr, h1]
 repeat' (refine And.intro (by first | rfl | omega | (simp; done)) ?_)
 refine hK _ _ (.mk (awl_live' [1, 3] fun ρ hL => ?_))
 try simp only [go_sem, simprocAttr, h1] at hL
 try clear h1
 obtain ⟨h1, h3⟩ := hL
 clear hK K
 refine awl_seq ?_
 refine awl_regS _ rfl fun K hK => ?_
 try simp only [go_sem, simprocAttr, h1, h3]
 repeat' (refine And.intro (by first | rfl | omega | (simp; done)) ?_)
 refine opS_call_ro rfl (sat_spec_l1In ?_ ?_ ?_) ?ha ?hv ?hh ?_
 case ha => simp only [go_sem, simprocAttr, h1, h3]; first | done | rfl
 case hv => first | rfl | (simp only [go_sem]; done)
 case hh => first | rfl | (simp only [go_sem]; done)
 try simp only [go_sem, simprocAttr, h1, h3]
 repeat' (refine And.intro (by first | rfl | omega | (simp; done)) ?_)
 refine awpS_live [1, 3, 10] fun ρ hL => ?_
 try simp only [go_sem, simprocAttr, h1, h3] at hL
 try clear h1 h3
 obtain ⟨h1, h3, h10⟩ := hL
 refine grp_andN (tc := 10) (tv := 16) (td := 17) (v := ?v1) 6 rfl [1, 3] h10 rfl (fun hb K1 hK1 => ?run) (fun hb => ?skip) (fun ρ hP hL => ?_)
 case skip =>
  exact awpS_skip (want := true) (b := _) (by rw [hb]; rfl) _ [] ρ h10 (fun _ _ => rfl) (by simp) rfl
 case run =>
  simp only [List.take_succ_cons, List.take_zero]
  rw [hb] at h10
  try simp only [go_sem, simprocAttr, h1, h3, h10]
  repeat' (refine And.intro (by first | rfl | omega | (simp; done)) ?_)
  refine opS_call_ro rfl (sat_spec_l6Field ?_ ?_) ?ha ?hv ?hh ?_
  case ha => simp only [go_sem, simprocAttr, h1, h3, h10]; first | done | rfl
  case hv => first | rfl | (simp only [go_sem]; done)
  case hh => first | rfl | (simp only [go_sem]; done)
  try simp only [go_sem, simprocAttr, h1, h3, h10]
  repeat' (refine And.intro (by first | rfl | omega | (simp; done)) ?_)
  exact hK1 _ (by simp only [go_sem, simprocAttr, h1, h3, h10]) (by simp only [go_sem, simprocAttr, h1, h3, h10]; exact rfl) (by simp only [go_sem, simprocAttr, h1, h3, h10])
 simp only [List.drop_succ_cons, List.drop_zero]
 try simp only [go_sem, simprocAttr, h1, h3, h10] at hL
 try clear h1 h3 h10
 obtain ⟨h1, h3⟩ := hL
 have h17 := hP
 clear hP
 try simp only [go_sem, simprocAttr, h1, h3, h17]
 repeat' (refine And.intro (by first | rfl | omega | (simp; done)) ?_)
 refine awpS_live [1, 3, 18] fun ρ hL => ?_
 try simp only [go_sem, simprocAttr, h1, h3, h17] at hL
 try clear h1 h3 h17
 obtain ⟨h1, h3, h18⟩ := hL
 refine grp_andN (tc := 18) (tv := 24) (td := 25) (v := ?v2) 6 rfl [1, 3] h18 rfl (fun hb K1 hK1 => ?run) (fun hb => ?skip) (fun ρ hP hL => ?_)
 case skip =>
  exact awpS_skip (want := true) (b := _) (by rw [hb]; rfl) _ [] ρ h18 (fun _ _ => rfl) (by simp) rfl
 case run =>
  simp only [List.take_succ_cons, List.take_zero]
  rw [hb] at h18
  try simp only [go_sem, simprocAttr, h1, h3, h18]
  repeat' (refine And.intro (by first | rfl | omega | (simp; done)) ?_)
  refine opS_call_ro rfl (sat_spec_l6Field ?_ ?_) ?ha ?hv ?hh ?_
  case ha => simp only [go_sem, simprocAttr, h1, h3, h18]; first | done | rfl
  case hv => first | rfl | (simp only [go_sem]; done)
  case hh => first | rfl | (simp only [go_sem]; done)
  try simp only [go_sem, simprocAttr, h1, h3, h18]
  repeat' (refine And.intro (by first | rfl | omega | (simp; done)) ?_)
  exact hK1 _ (by simp only [go_sem, simprocAttr, h1, h3, h18]) (by simp only [go_sem, simprocAttr, h1, h3, h18]; exact rfl) (by simp only [go_sem, simprocAttr, h1, h3, h18])
 simp only [List.drop_succ_cons, List.drop_zero]
 try simp only [go_sem, simprocAttr, h1, h3, h18] at hL
 try clear h1 h3 h18
 obtain ⟨h1, h3⟩ := hL
 have h25 := hP
 clear hP
 try simp only [go_sem, simprocAttr, h1, h3, h25]
 repeat' (refine And.intro (by first | rfl | omega | (simp; done)) ?_)
 refine awpS_live [1, 3, 26] fun ρ hL => ?_
 try simp only [go_sem, simprocAttr, h1, h3, h25] at hL
 try clear h1 h3 h25
 obtain ⟨h1, h3, h26⟩ := hL
 refine grp_andN (tc := 26) (tv := 32) (td := 33) (v := ?v3) 6 rfl [1, 3] h26 rfl (fun hb K1 hK1 => ?run) (fun hb => ?skip) (fun ρ hP hL => ?_)
 case skip =>
  exact awpS_skip (want := true) (b := _) (by rw [hb]; rfl) _ [] ρ h26 (fun _ _ => rfl) (by simp) rfl
 case run =>
  simp only [List.take_succ_cons, List.take_zero]
  rw [hb] at h26
  try simp only [go_sem, simprocAttr, h1, h3, h26]
  repeat' (refine And.intro (by first | rfl | omega | (simp; done)) ?_)
  refine opS_call_ro rfl (sat_spec_l6Field ?_ ?_) ?ha ?hv ?hh ?_
  case ha => simp only [go_sem, simprocAttr, h1, h3, h26]; first | done | rfl
  case hv => first | rfl | (simp only [go_sem]; done)
  case hh => first | rfl | (simp only [go_sem]; done)
  try simp only [go_sem, simprocAttr, h1, h3, h26]
  repeat' (refine And.intro (by first | rfl | omega | (simp; done)) ?_)
  exact hK1 _ (by simp only [go_sem, simprocAttr, h1, h3, h26]) (by simp only [go_sem, simprocAttr, h1, h3, h26]; exact rfl) (by simp only [go_sem, simprocAttr, h1, h3, h26])
 simp only [List.drop_succ_cons, List.drop_zero]
 try simp only [go_sem, simprocAttr, h1, h3, h26] at hL
 try clear h1 h3 h26
 obtain ⟨h1, h3⟩ := hL
 have h33 := hP
 clear hP
 try simp only [go_sem, simprocAttr, h1, h3, h33]
 repeat' (refine And.intro (by first | rfl | omega | (simp; done)) ?_)
 refine awpS_live [1, 3, 34] fun ρ hL => ?_
 try simp only [go_sem, simprocAttr, h1, h3, h33] at hL
 try clear h1 h3 h33
 obtain ⟨h1, h3, h34⟩ := hL
 refine grp_andN (tc := 34) (tv := 37) (td := 38) (v := ?v4) 3 rfl [1, 3] h34 rfl (fun hb K1 hK1 => ?run) (fun hb => ?skip) (fun ρ hP hL => ?_)
 case skip =>
  exact awpS_skip (want := true) (b := _) (by rw [hb]; rfl) _ [] ρ h34 (fun _ _ => rfl) (by simp) rfl
 case run =>
  simp only [List.take_succ_cons, List.take_zero]
  rw [hb] at h34
  try simp only [go_sem, simprocAttr, h1, h3, h34]
  repeat' (refine And.intro (by first | rfl | omega | (simp; done)) ?_)
  refine opS_call_ro rfl (sat_spec_l1In ?_ ?_ ?_) ?ha ?hv ?hh ?_
  case ha => simp only [go_sem, simprocAttr, h1, h3, h34]; first | done | rfl
  case hv => first | rfl | (simp only [go_sem]; done)
  case hh => first | rfl | (simp only [go_sem]; done)
  try simp only [go_sem, simprocAttr, h1, h3, h34]
  repeat' (refine And.intro (by first | rfl | omega | (simp; done)) ?_)
  exact hK1 _ (by simp only [go_sem, simprocAttr, h1, h3, h34]) (by simp only [go_sem, simprocAttr, h1, h3, h34]; exact rfl) (by simp only [go_sem, simprocAttr, h1, h3, h34])
 simp only [List.drop_succ_cons, List.drop_zero]
 try simp only [go_sem, simprocAttr, h1, h3, h34] at hL
 try clear h1 h3 h34
 obtain ⟨h1, h3⟩ := hL
 have h38 := hP
 clear hP
 try simp only [go_sem, simprocAttr, h1, h3, h38]
 repeat' (refine And.intro (by first | rfl | omega | (simp; done)) ?_)
 refine awpS_live [1, 3, 39] fun ρ hL => ?_
 try simp only [go_sem, simprocAttr, h1, h3, h38] at hL
 try clear h1 h3 h38
 obtain ⟨h1, h3, h39⟩ := hL
 refine grp_andN (tc := 39) (tv := 47) (td := 48) (v := ?v5) 8 rfl [] h39 rfl (fun hb K1 hK1 => ?run) (fun hb => ?skip) (fun ρ hP hL => ?_)
 case skip =>
  exact awpS_skip (want := true) (b := _) (by rw [hb]; rfl) _ [] ρ h39 (fun _ _ => rfl) (by simp) rfl
 case run =>
  simp only [List.take_succ_cons, List.take_zero]
  rw [hb] at h39
  have g6_39 := h39
  have hK1_6 := hK1
  try simp only [go_sem, simprocAttr, h1, h3, h39]
  repeat' (refine And.intro (by first | rfl | omega | (simp; done)) ?_)
  refine awpS_live [1, 39, 43] fun ρ hL => ?_
  try simp only [go_sem, simprocAttr, h1, h3, h39] at hL
  try clear h1 h3 h39
  obtain ⟨h1, h39, h43⟩ := hL
  refine grp_orGN (tc := 43) (tv := 46) (td := 47) (v := ?v7) 3 39 true rfl h39 [39] rfl h43 rfl (fun hb K1 hK1 => ?run) (fun hb => ?skip) (fun ρ hP hL => ?_)
  case skip =>
   exact awpS_skip (want := false) (b := _) (by rw [hb]; rfl) _ [] ρ h43 (fun _ _ => rfl) (by simp) rfl
  case run =>
   simp only [List.take_succ_cons, List.take_zero]
   rw [hb] at h43
   try simp only [go_sem, simprocAttr, h1, h39, h43]
   repeat' (refine And.intro (by first | rfl | omega | (simp; done)) ?_)
   exact hK1 _ (by simp only [go_sem, simprocAttr, h1, h39, h43]) (by simp only [go_sem, simprocAttr, h1, h39, h43]; exact rfl) (by simp only [go_sem, simprocAttr, h1, h39, h43])
  simp only [List.drop_succ_cons, List.drop_zero]
  try simp only [go_sem, simprocAttr, h1, h39, h43] at hL
  try clear h1 h39 h43
  have h39 := hL
  clear hL
  have h47 := hP
  clear hP
  try simp only [go_sem, simprocAttr, h39, h47]
  repeat' (refine And.intro (by first | rfl | omega | (simp; done)) ?_)
  exact hK1_6 _ (by simp only [go_sem, simprocAttr, h39, h47, g6_39]) (by simp only [go_sem, simprocAttr, h39, h47, g6_39]; exact rfl) (by simp only [go_sem, simprocAttr, h39, h47, g6_39])
 simp only [List.drop_succ_cons, List.drop_zero]
 clear hL h1 h3 h39
 have h48 := hP
 clear hP
 try simp only [go_sem, simprocAttr, h48]
 repeat' (refine And.intro (by first | rfl | omega | (simp; done)) ?_)
 refine hK _ _ (.mk (awl_live' [2] fun ρ hL => ?_))
 try simp only [go_sem, simprocAttr, h48] at hL
 try clear h48
 have h2 := hL
 clear hL
 clear hK K
 refine awl_ret ?_
 refine ret0 (by simp only [go_sem, simprocAttr, h2]; exact rfl) ?_
 try simp only [go_sem, simprocAttr]
 all_goals (rfl)
set_option maxHeartbeats 8000000 in
set_option maxRecDepth 100000 in
theorem sat_impl_InsOk (x : Ins)  : Sat Tryz.prog 78 [.agg x.cells] [] (.bool (insOk x)) [] := by
 refine sat_mk [.tmp 2] 0 49 Tryz.call78 Tryz.func78 Tryz.ntmps78 rfl rfl rfl rfl rfl ?_
 refine awl_live' [0] fun ρ hL => ?_
 try simp only [go_sem, simprocAttr] at hL
 have h0 := hL
 clear hL
 refine awl_seq ?_
 refine awl_regS _ rfl fun K hK => ?_
 try simp only [go_sem, simprocAttr, h0]
 repeat' (refine And.intro (by first | rfl | omega | (simp; done)) ?_)
 refine hK _ _ (.mk (awl_live' [1] fun ρ hL => ?_))
 try simp only [go_sem, simprocAttr, h0] at hL
 try clear h0
 have h1 := hL
 clear hL
 clear hK K
 refine awl_seq ?_
 refine awl_regS _ rfl fun K hK => ?_
 try simp only [go_sem, simprocAttr, h1]
 repeat' (refine And.intro (by first | rfl | omega | (simp; done)) ?_)
 refine opS_call_ro rfl (sat_impl_formOf ?_) ?ha ?hv ?hh ?_
 case ha => simp only [go_sem, simprocAttr, h1]; first | done | rfl
 case hv => first | rfl | (simp only [go_sem]; done)
 case hh => first | rfl | (simp only [go_sem]; done)
 try simp only [go_sem, simprocAttr, h1]
 repeat' (refine And.intro (by first | rfl | omega | (simp; done)) ?_)
 refine hK _ _ (.mk (awl_live' [1, 4] fun ρ hL => ?_))
 try simp only [go_sem, simprocAttr, h1] at hL
 try clear h1
 obtain ⟨h1, h4⟩ := hL
 clear hK K
 refine awl_seq ?_
 refine awl_seq ?_
 refine awl_regS _ rfl fun K hK => ?_
 try simp only [go_sem, simprocAttr, h1, h4]
 repeat' (refine And.intro (by first | rfl | omega | (simp; done)) ?_)
 refine hK _ _ (.mk (awl_live' [1, 4, 15, 16, 17] fun ρ hL => ?_))
 try simp only [go_sem, simprocAttr, h1, h4] at hL
 try clear h1 h4
 obtain ⟨h1, h4, h15, h16, h17⟩ := hL
 clear hK K
 have e1_1 := h1
 have e1_15 := h15
 have e1_16 := h16
 refine awl_loopH (fun H0 n σ G => ∃ (i : Nat), n = 4 - i ∧ (i ≤ 4) ∧ liveE [1, 15, 16] σ ρ ∧ σ 4 = .bool (okU x i) ∧ σ 17 = .int .i64 (i : Int) ∧ G = H0) (fun H0 σ G => liveE [] σ ρ ∧ σ 4 = .bool (okU x 4) ∧ G = H0) ((fun (i : Nat) => 4 - i) 0) ?init1 (fun n ρ G hI => ?round1) (fun ρ G hJ => ?after1)
 case init1 => exact ⟨0, rfl, (Nat.zero_le _), liveE_refl _ _, (by rw [h4]; rfl), (h17), rfl⟩
 case round1 =>
  obtain ⟨i, hn, i1_0, hL, k4, k17, hG⟩ := hI
  subst hG
  try simp only [go_sem, simprocAttr, h1, h4, h15, h16, h17] at hL
  clear h1 h4 h15 h16 h17
  obtain ⟨h1, h15, h16⟩ := hL
  have h4 := k4
  clear k4
  have h17 := k17
  clear k17
  refine awl_seq ?_
  refine awl_regS _ rfl fun K hK => ?_
  try simp only [go_sem, simprocAttr, h1, h4, h15, h16, h17]
  repeat' (refine And.intro (by first | rfl | omega | (simp; done)) ?_)
  refine hK _ _ (.mk (awl_live' [1, 4, 15, 16, 17, 18] fun ρ hL => ?_))
  try simp only [go_sem, simprocAttr, h1, h4, h15, h16, h17] at hL
  try clear h1 h4 h15 h16 h17
  obtain ⟨h1, h4, h15, h16, h17, h18⟩ := hL
  clear hK K
  refine awl_seq ?_
  refine awl_cond h18 (fun c1 => ?_) (fun c1 => ?_)
  ·
   try simp only [cnd] at c1
   have hi1 : i < 4 := by omega
   refine awl_skip ?_
   refine awl_seq ?_
   refine awl_block fun R1 hw1 hR1 => ?_
   refine awl_seq ?_
   have hpr := pL_row hi1
   refine awl_regS _ rfl fun K hK => ?_
   try simp only [go_sem, simprocAttr, h1, h4, h15, h16, h17, h18, hi1, hpr]
   repeat' (refine And.intro (by first | rfl | omega | (simp; done)) ?_)
   refine hK _ _ (.mk (awl_live' [1, 4, 6, 15, 16, 17] fun ρ hL => ?_))
   try simp only [go_sem, simprocAttr, h1, h4, h15, h16, h17, h18, hi1, hpr] at hL
   try clear h1 h4 h15 h16 h17 h18
   obtain ⟨h1, h4, h6, h15, h16, h17⟩ := hL
   clear hK K
   refine awl_seq ?_
   refine awl_regS _ rfl fun K hK => ?_
   try simp only [go_sem, simprocAttr, h1, h4, h6, h15, h16, h17, hi1]
   repeat' (refine And.intro (by first | rfl | omega | (simp; done)) ?_)
   refine opS_call_ro rfl (sat_impl_partOf ?_ ?_) ?ha ?hv ?hh ?_
   case ha => simp only [go_sem, simprocAttr, h1, h4, h6, h15, h16, h17, hi1]; first | done | rfl
   case hv => first | rfl | (simp only [go_sem]; done)
   case hh => first | rfl | (simp only [go_sem]; done)
   try simp only [go_sem, simprocAttr, h1, h4, h6, h15, h16, h17, hi1]
   repeat' (refine And.intro (by first | rfl | omega | (simp; done)) ?_)
   refine hK _ _ (.mk (awl_live' [1, 4, 6, 7, 15, 16, 17] fun ρ hL => ?_))
   try simp only [go_sem, simprocAttr, h1, h4, h6, h15, h16, h17, hi1] at hL
   try clear h1 h4 h6 h15 h16 h17
   obtain ⟨h1, h4, h6, h7, h15, h16, h17⟩ := hL
   clear hK K
   refine awl_block fun R2 hw2 hR2 => ?_
   refine awl_seq ?_
   refine awl_regS _ rfl fun K hK => ?_
   try simp only [go_sem, simprocAttr, h1, h4, h6, h7, h15, h16, h17, hi1]
   repeat' (refine And.intro (by first | rfl | omega | (simp; done)) ?_)
   refine opS_call_ro rfl (sat_impl_hasPart ?_ ?_) ?ha ?hv ?hh ?_
   case ha => simp only [go_sem, simprocAttr, h1, h4, h6, h7, h15, h16, h17, hi1]; first | done | rfl
   case hv => first | rfl | (simp only [go_sem]; done)
   case hh => first | rfl | (simp only [go_sem]; done)
   try simp only [go_sem, simprocAttr, h1, h4, h6, h7, h15, h16, h17, hi1]
   repeat' (refine And.intro (by first | rfl | omega | (simp; done)) ?_)
   refine hK _ _ (.mk (awl_live' [1, 4, 6, 7, 15, 16, 17, 29] fun ρ hL => ?_))
   try simp only [go_sem, simprocAttr, h1, h4, h6, h7, h15, h16, h17, hi1] at hL
   try clear h1 h4 h6 h7 h15 h16 h17
   obtain ⟨h1, h4, h6, h7, h15, h16, h17, h29⟩ := hL
   clear hK K
   refine awl_cond h29 (fun c2 => ?_) (fun c2 => ?_)
   ·
    try simp only [cnd] at c2
    refine awl_regS _ rfl fun K hK => ?_
    try simp only [go_sem, simprocAttr, h1, h4, h6, h7, h15, h16, h17, h29, hi1]
    repeat' (refine And.intro (by first | rfl | omega | (simp; done)) ?_)
    refine awpS_live [1, 7, 15, 16, 17, 35] fun ρ hL => ?_
    try simp only [go_sem, simprocAttr, h1, h4, h6, h7, h15, h16, h17, h29, hi1] at hL
    try clear h1 h4 h6 h7 h15 h16 h17 h29
    obtain ⟨h1, h7, h15, h16, h17, h35⟩ := hL
    refine grp_andN (tc := 35) (tv := 37) (td := 38) (v := ?v1) 2 rfl [1, 15, 16, 17] h35 rfl (fun hb K1 hK1 => ?run) (fun hb => ?skip) (fun ρ hP hL => ?_)
    case skip =>
     exact awpS_skip (want := true) (b := _) (by rw [hb]; rfl) _ [] ρ h35 (fun _ _ => rfl) (by simp) rfl
    case run =>
     simp only [List.take_succ_cons, List.take_zero]
     rw [hb] at h35
     try simp only [go_sem, simprocAttr, h1, h7, h15, h16, h17, h35, hi1]
     repeat' (refine And.intro (by first | rfl | omega | (simp; done)) ?_)
     exact hK1 _ (by simp only [go_sem, simprocAttr, h1, h7, h15, h16, h17, h35, hi1]) (by simp only [go_sem, simprocAttr, h1, h7, h15, h16, h17, h35, hi1]; exact rfl) (by simp only [go_sem, simprocAttr, h1, h7, h15, h16, h17, h35, hi1])
    simp only [List.drop_succ_cons, List.drop_zero]
    try simp only [go_sem, simprocAttr, h1, h7, h15, h16, h17, h35, hi1] at hL
    try clear h1 h7 h15 h16 h17 h35
    obtain ⟨h1, h15, h16, h17⟩ := hL
    have h38 := hP
    clear hP
    try simp only [go_sem, simprocAttr, h1, h15, h16, h17, h38, hi1]
    repeat' (refine And.intro (by first | rfl | omega | (simp; done)) ?_)
    refine hK _ _ (.mk (awl_live' [1, 4, 15, 16, 17] fun ρ hL => ?_))
    try simp only [go_sem, simprocAttr, h1, h15, h16, h17, h38, hi1] at hL
    try clear h1 h15 h16 h17 h38
    obtain ⟨h1, h4, h15, h16, h17⟩ := hL
    clear hK K
    refine awl_nil ?_
    refine blk_normal (hR2 _ _ (.mk ?_))
    refine awl_nil ?_
    refine blk_normal (hR1 _ _ (.mk ?_))
    have w1 : IntKind.i64.wrap ((i : Int) + 1) = ((i + 1 : Nat) : Int) := by rw [wrap64 (by omega)]; omega
    refine awl_regS _ rfl fun K hK => ?_
    try simp only [go_sem, simprocAttr, h1, h4, h15, h16, h17, hi1, w1]
    repeat' (refine And.intro (by first | rfl | omega | (simp; done)) ?_)
    refine hK _ _ (.mk (awl_live' [1, 4, 15, 16, 17] fun ρ hL => ?_))
    try simp only [go_sem, simprocAttr, h1, h4, h15, h16, h17, hi1, w1] at hL
    try clear h1 h4 h15 h16 h17
    obtain ⟨h1, h4, h15, h16, h17⟩ := hL
    clear hK K
    refine awl_nil ?_
    refine loop_again _ ?meas ⟨i + 1, rfl, (by omega), (by simp only [go_sem, simprocAttr, h1, h4, h15, h16, h17, hi1, e1_1, e1_15, e1_16]), (by rw [h4]; congr 1; simp_all [okU, okP]), (h17), rfl⟩
    case meas => subst hn; omega
   ·
    try simp only [cnd] at c2
    refine awl_seq ?_
    refine awl_regS _ rfl fun K hK => ?_
    try simp only [go_sem, simprocAttr, h1, h4, h6, h7, h15, h16, h17, h29, hi1]
    repeat' (refine And.intro (by first | rfl | omega | (simp; done)) ?_)
    refine hK _ _ (.mk (awl_live' [1, 4, 7, 15, 16, 17, 39] fun ρ hL => ?_))
    try simp only [go_sem, simprocAttr, h1, h4, h6, h7, h15, h16, h17, h29, hi1] at hL
    try clear h1 h4 h6 h7 h15 h16 h17 h29
    obtain ⟨h1, h4, h7, h15, h16, h17, h39⟩ := hL
    clear hK K
    refine awl_cond h39 (fun c3 => ?_) (fun c3 => ?_)
    ·
     try simp only [cnd] at c3
     refine awl_regS _ rfl fun K hK => ?_
     try simp only [go_sem, simprocAttr, h1, h4, h7, h15, h16, h17, h39, hi1]
     repeat' (refine And.intro (by first | rfl | omega | (simp; done)) ?_)
     refine awpS_live [1, 7, 15, 16, 17, 43] fun ρ hL => ?_
     try simp only [go_sem, simprocAttr, h1, h4, h7, h15, h16, h17, h39, hi1] at hL
     try clear h1 h4 h7 h15 h16 h17 h39
     obtain ⟨h1, h7, h15, h16, h17, h43⟩ := hL
     refine grp_andN (tc := 43) (tv := 45) (td := 46) (v := ?v2) 2 rfl [1, 15, 16, 17] h43 rfl (fun hb K1 hK1 => ?run) (fun hb => ?skip) (fun ρ hP hL => ?_)
     case skip =>
      exact awpS_skip (want := true) (b := _) (by rw [hb]; rfl) _ [] ρ h43 (fun _ _ => rfl) (by simp) rfl
     case run =>
      simp only [List.take_succ_cons, List.take_zero]
      rw [hb] at h43
      try simp only [go_sem, simprocAttr, h1, h7, h15, h16, h17, h43, hi1]
      repeat' (refine And.intro (by first | rfl | omega | (simp; done)) ?_)
      refine opS_call_ro rfl (sat_impl_in ?_ ?_ ?_) ?ha ?hv ?hh ?_
      case ha => simp only [go_sem, simprocAttr, h1, h7, h15, h16, h17, h43, hi1]; first | done | rfl
      case hv => first | rfl | (simp only [go_sem]; done)
      case hh => first | rfl | (simp only [go_sem]; done)
      try simp only [go_sem, simprocAttr, h1, h7, h15, h16, h17, h43, hi1]
      repeat' (refine And.intro (by first | rfl | omega | (simp; done)) ?_)
      exact hK1 _ (by simp only [go_sem, simprocAttr, h1, h7, h15, h16, h17, h43, hi1]) (by simp only [go_sem, simprocAttr, h1, h7, h15, h16, h17, h43, hi1]; exact rfl) (by simp only [go_sem, simprocAttr, h1, h7, h15, h16, h17, h43, hi1])
     simp only [List.drop_succ_cons, List.drop_zero]
     try simp only [go_sem, simprocAttr, h1, h7, h15, h16, h17, h43, hi1] at hL
     try clear h1 h7 h15 h16 h17 h43
     obtain ⟨h1, h15, h16, h17⟩ := hL
     have h46 := hP
     clear hP
     try simp only [go_sem, simprocAttr, h1, h15, h16, h17, h46, hi1]
     repeat' (refine And.intro (by first | rfl | omega | (simp; done)) ?_)
     refine hK _ _ (.mk (awl_live' [1, 4, 15, 16, 17] fun ρ hL => ?_))
     try simp only [go_sem, simprocAttr, h1, h15, h16, h17, h46, hi1] at hL
     try clear h1 h15 h16 h17 h46
     obtain ⟨h1, h4, h15, h16, h17⟩ := hL
     clear hK K
     refine awl_nil ?_
     refine blk_normal (hR2 _ _ (.mk ?_))
     refine awl_nil ?_
     refine blk_normal (hR1 _ _ (.mk ?_))
     have w1 : IntKind.i64.wrap ((i : Int) + 1) = ((i + 1 : Nat) : Int) := by rw [wrap64 (by omega)]; omega
     refine awl_regS _ rfl fun K hK => ?_
     try simp only [go_sem, simprocAttr, h1, h4, h15, h16, h17, hi1, w1]
     repeat' (refine And.intro (by first | rfl | omega | (simp; done)) ?_)
     refine hK _ _ (.mk (awl_live' [1, 4, 15, 16, 17] fun ρ hL => ?_))
     try simp only [go_sem, simprocAttr, h1, h4, h15, h16, h17, hi1, w1] at hL
     try clear h1 h4 h15 h16 h17
     obtain ⟨h1, h4, h15, h16, h17⟩ := hL
     clear hK K
     refine awl_nil ?_
     refine loop_again _ ?meas ⟨i + 1, rfl, (by omega), (by simp only [go_sem, simprocAttr, h1, h4, h15, h16, h17, hi1, e1_1, e1_15, e1_16]), (by rw [h4]; congr 1; simp_all [okU, okP]), (h17), rfl⟩
     case meas => subst hn; omega
    ·
     try simp only [cnd] at c3
     refine awl_regS _ rfl fun K hK => ?_
     try simp only [go_sem, simprocAttr, h1, h4, h7, h15, h16, h17, h39, hi1]
     repeat' (refine And.intro (by first | rfl | omega | (simp; done)) ?_)
     refine awpS_live [1, 7, 15, 16, 17, 25] fun ρ hL => ?_
     try simp only [go_sem, simprocAttr, h1, h4, h7, h15, h16, h17, h39, hi1] at hL
     try clear h1 h4 h7 h15 h16 h17 h39
     obtain ⟨h1, h7, h15, h16, h17, h25⟩ := hL
     refine grp_andN (tc := 25) (tv := 27) (td := 28) (v := ?v3) 2 rfl [1, 15, 16, 17] h25 rfl (fun hb K1 hK1 => ?run) (fun hb => ?skip) (fun ρ hP hL => ?_)
     case skip =>
      exact awpS_skip (want := true) (b := _) (by rw [hb]; rfl) _ [] ρ h25 (fun _ _ => rfl) (by simp) rfl
     case run =>
      simp only [List.take_succ_cons, List.take_zero]
      rw [hb] at h25
      try simp only [go_sem, simprocAttr, h1, h7, h15, h16, h17, h25, hi1]
      repeat' (refine And.intro (by first | rfl | omega | (simp; done)) ?_)
      refine opS_call_ro rfl (sat_impl_in ?_ ?_ ?_) ?ha ?hv ?hh ?_
      case ha => simp only [go_sem, simprocAttr, h1, h7, h15, h16, h17, h25, hi1]; first | done | rfl
      case hv => first | rfl | (simp only [go_sem]; done)
      case hh => first | rfl | (simp only [go_sem]; done)
      try simp only [go_sem, simprocAttr, h1, h7, h15, h16, h17, h25, hi1]
      repeat' (refine And.intro (by first | rfl | omega | (simp; done)) ?_)
      exact hK1 _ (by simp only [go_sem, simprocAttr, h1, h7, h15, h16, h17, h25, hi1]) (by simp only [go_sem, simprocAttr, h1, h7, h15, h16, h17, h25, hi1]; exact rfl) (by simp only [go_sem, simprocAttr, h1, h7, h15, h16, h17, h25, hi1])
     simp only [List.drop_succ_cons, List.drop_zero]
     try simp only [go_sem, simprocAttr, h1, h7, h15, h16, h17, h25, hi1] at hL
     try clear h1 h7 h15 h16 h17 h25
     obtain ⟨h1, h15, h16, h17⟩ := hL
     have h28 := hP
     clear hP
     try simp only [go_sem, simprocAttr, h1, h15, h16, h17, h28, hi1]
     repeat' (refine And.intro (by first | rfl | omega | (simp; done)) ?_)
     refine hK _ _ (.mk (awl_live' [1, 4, 15, 16, 17] fun ρ hL => ?_))
     try simp only [go_sem, simprocAttr, h1, h15, h16, h17, h28, hi1] at hL
     try clear h1 h15 h16 h17 h28
     obtain ⟨h1, h4, h15, h16, h17⟩ := hL
     clear hK K
     refine awl_nil ?_
     refine blk_normal (hR2 _ _ (.mk ?_))
     refine awl_nil ?_
     refine blk_normal (hR1 _ _ (.mk ?_))
     have w1 : IntKind.i64.wrap ((i : Int) + 1) = ((i + 1 : Nat) : Int) := by rw [wrap64 (by omega)]; omega
     refine awl_regS _ rfl fun K hK => ?_
     try simp only [go_sem, simprocAttr, h1, h4, h15, h16, h17, hi1, w1]
     repeat' (refine And.intro (by first | rfl | omega | (simp; done)) ?_)
     refine hK _ _ (.mk (awl_live' [1, 4, 15, 16, 17] fun ρ hL => ?_))
     try simp only [go_sem, simprocAttr, h1, h4, h15, h16, h17, hi1, w1] at hL
     try clear h1 h4 h15 h16 h17
     obtain ⟨h1, h4, h15, h16, h17⟩ := hL
     clear hK K
     refine awl_nil ?_
     refine loop_again _ ?meas ⟨i + 1, rfl, (by omega), (by simp only [go_sem, simprocAttr, h1, h4, h15, h16, h17, hi1, e1_1, e1_15, e1_16]), (by rw [h4]; congr 1; simp_all [okU, okP]), (h17), rfl⟩
     case meas => subst hn; omega
  ·
   try simp only [cnd] at c1
   refine awl_exit ?_
   refine loop_break ?_
   exact ⟨(by simp only [go_sem, simprocAttr, h1, h4, h15, h16, h17, h18, e1_1, e1_15, e1_16]), (by rw [h4, show i = 4 by omega]), rfl⟩
 case after1 =>
  obtain ⟨hL, k4, hG⟩ := hJ
  subst hG
  clear h1 h4 h15 h16 h17
  clear hL
  have h4 := k4
  clear k4
  refine awl_seq ?_
  refine awl_regS _ rfl fun K hK => ?_
  try simp only [go_sem, simprocAttr, h4]
  repeat' (refine And.intro (by first | rfl | omega | (simp; done)) ?_)
  refine hK _ _ (.mk (awl_live' [2] fun ρ hL => ?_))
  try simp only [go_sem, simprocAttr, h4] at hL
  try clear h4
  have h2 := hL
  clear hL
  clear hK K
  refine awl_ret ?_
  refine ret0 (by simp only [go_sem, simprocAttr, h2]; exact rfl) ?_
  try simp only [go_sem, simprocAttr]
  all_goals try clear hR1
  all_goals try clear hR2
  all_goals (rw [okU_all])
end Go.Proofs.YtopjagninmjkbaaGreat.AM
