/- What the laws find again of cores. No conditions but those each theorem bears. -/
import Derived.Test.YtgddflnhibhacaaFa
import Derived.Test.YtgddflnhibhacaaSp12
import Derived.Test.YtgddflnhibhacaaCa22
set_option linter.unusedSimpArgs false
set_option linter.unusedVariables false
namespace Go.Proofs.Ytgddflnhibhacaa.AM
open Go

set_option maxRecDepth 100000 in
theorem seE0 {z : Nat} {t s : Int} {c i : Nat} (hi : i < z) (hs : s = t + (40 * i : Nat)) (hb : z ≤ 1099511627776) (ht : 0 ≤ t ∧ t ≤ 1099511627776) {cs : List Code} {Q : Exit → Env → Heap → Prop} {ρ : Env} (h0 : ρ 0 = .sl z c (rows (mrow markQ 40 t z))) (h1 : ρ 1 = .int .i64 s) (h5 : ρ 5 = .int .i64 (i : Int)) (next : ∀ ρ : Env, ρ 0 = .sl z c (rows (mrow markQ 40 t z)) → ρ 1 = .int .i64 (s + 1) → ρ 5 = .int .i64 (i : Int) → awpL Try.prog 0 (codeAt (fnCode Try.f98) [1, 0, 1, 2, 2, 1, 0, 2, 1, 1] :: cs) Q ρ []) :
    awpL Try.prog 0 (codeAt (fnCode Try.f98) [1, 0, 1, 2, 2, 1, 0, 2] :: cs) Q ρ [] := by
  have hq := seeQ0 (t := t) (z := z) hi hs
  refine awl_seq ?_
  refine awl_seq ?_
  refine awl_regS [(some 12, (.move (.tmp 0)), none), (some 13, (.move (.tmp 5)), none), (some 14, (.indexAddr 59 (.tmp 12) (.tmp 13)), none), (some 15, (.fieldAddr 96 (.tmp 14) 0), none), (some 16, (.fieldAddr 42 (.tmp 15) 0), none), (some 17, (.load 3 (.tmp 16)), none), (some 18, (.move (.tmp 1)), none), (some 19, (.binOp .neq 3 (.tmp 17) (.tmp 18) 3), none)] rfl fun K hK => ?_
  simp only [go_sem, simprocAttr, h0, h1, h5, hi, hq]
  repeat' (refine And.intro (by first | rfl | omega) ?_)
  refine hK _ _ (.mk (awl_live' [0, 1, 5, 19] fun ρ hL => ?_))
  simp only [go_sem, simprocAttr, h0, h1, h5] at hL
  obtain ⟨h0, h1, h5, h19⟩ := hL
  clear hK K
  refine awl_cond h19 (fun c1 => ?_) (fun c1 => ?_)
  · exact absurd c1 (by simp)
  clear c1 h19
  refine awl_skip ?_
  refine awl_seq ?_
  have w1_ : IntKind.i64.wrap (s + 1) = s + 1 := by rw [wrap64 (by omega)]
  refine awl_regS [(some 20, (.move (.tmp 1)), none), (some 21, (.binOp .add 3 (.tmp 20) (.const (.int .i64 1)) 3), none), (some 1, (.assign (.tmp 21)), none)] rfl fun K hK => ?_
  simp only [go_sem, simprocAttr, h0, h1, h5, w1_]
  refine hK _ _ (.mk (awl_live' [0, 1, 5] fun ρ hL => ?_))
  simp only [go_sem, simprocAttr, h0, h1, h5, w1_] at hL
  obtain ⟨h0, h1, h5⟩ := hL
  exact next ρ h0 h1 h5
set_option maxRecDepth 100000 in
theorem seE1 {z : Nat} {t s : Int} {c i : Nat} (hi : i < z) (hs : s = t + (40 * i : Nat)) (hb : z ≤ 1099511627776) (ht : 0 ≤ t ∧ t ≤ 1099511627776) {cs : List Code} {Q : Exit → Env → Heap → Prop} {ρ : Env} (h0 : ρ 0 = .sl z c (rows (mrow markQ 40 t z))) (h1 : ρ 1 = .int .i64 (s + 1)) (h5 : ρ 5 = .int .i64 (i : Int)) (next : ∀ ρ : Env, ρ 0 = .sl z c (rows (mrow markQ 40 t z)) → ρ 1 = .int .i64 (s + 2) → ρ 5 = .int .i64 (i : Int) → awpL Try.prog 0 (codeAt (fnCode Try.f98) [1, 0, 1, 2, 2, 1, 0, 2, 1, 1, 1, 1] :: cs) Q ρ []) :
    awpL Try.prog 0 (codeAt (fnCode Try.f98) [1, 0, 1, 2, 2, 1, 0, 2, 1, 1] :: cs) Q ρ [] := by
  have hq := seeQ1 (t := t) (z := z) hi hs
  refine awl_seq ?_
  refine awl_seq ?_
  refine awl_regS [(some 22, (.move (.tmp 0)), none), (some 23, (.move (.tmp 5)), none), (some 24, (.indexAddr 59 (.tmp 22) (.tmp 23)), none), (some 25, (.fieldAddr 96 (.tmp 24) 0), none), (some 26, (.fieldAddr 42 (.tmp 25) 1), none), (some 27, (.load 4 (.tmp 26)), none), (some 28, (.move (.tmp 1)), none), (some 29, (.binOp .rem 3 (.tmp 28) (.const (.int .i64 3)) 3), none), (some 30, (.binOp .eql 3 (.tmp 29) (.const (.int .i64 0)) 3), none), (some 31, (.binOp .neq 4 (.tmp 27) (.tmp 30) 4), none)] rfl fun K hK => ?_
  simp only [go_sem, simprocAttr, h0, h1, h5, hi, hq]
  repeat' (refine And.intro (by first | rfl | omega) ?_)
  refine hK _ _ (.mk (awl_live' [0, 1, 5, 31] fun ρ hL => ?_))
  simp only [go_sem, simprocAttr, h0, h1, h5] at hL
  obtain ⟨h0, h1, h5, h31⟩ := hL
  clear hK K
  refine awl_cond h31 (fun c1 => ?_) (fun c1 => ?_)
  · exact absurd c1 (by simp)
  clear c1 h31
  refine awl_skip ?_
  refine awl_seq ?_
  have w2_ : IntKind.i64.wrap (s + 1 + 1) = s + 2 := by rw [wrap64 (by omega)]; omega
  refine awl_regS [(some 32, (.move (.tmp 1)), none), (some 33, (.binOp .add 3 (.tmp 32) (.const (.int .i64 1)) 3), none), (some 1, (.assign (.tmp 33)), none)] rfl fun K hK => ?_
  simp only [go_sem, simprocAttr, h0, h1, h5, w2_]
  refine hK _ _ (.mk (awl_live' [0, 1, 5] fun ρ hL => ?_))
  simp only [go_sem, simprocAttr, h0, h1, h5, w2_] at hL
  obtain ⟨h0, h1, h5⟩ := hL
  exact next ρ h0 h1 h5
set_option maxRecDepth 100000 in
theorem seE2 {z : Nat} {t s : Int} {c i : Nat} (hi : i < z) (hs : s = t + (40 * i : Nat)) (hb : z ≤ 1099511627776) (ht : 0 ≤ t ∧ t ≤ 1099511627776) {cs : List Code} {Q : Exit → Env → Heap → Prop} {ρ : Env} (h0 : ρ 0 = .sl z c (rows (mrow markQ 40 t z))) (h1 : ρ 1 = .int .i64 (s + 2)) (h5 : ρ 5 = .int .i64 (i : Int)) (next : ∀ ρ : Env, ρ 0 = .sl z c (rows (mrow markQ 40 t z)) → ρ 1 = .int .i64 (s + 3) → ρ 5 = .int .i64 (i : Int) → awpL Try.prog 0 (codeAt (fnCode Try.f98) [1, 0, 1, 2, 2, 1, 0, 2, 1, 1, 1, 1, 1, 1] :: cs) Q ρ []) :
    awpL Try.prog 0 (codeAt (fnCode Try.f98) [1, 0, 1, 2, 2, 1, 0, 2, 1, 1, 1, 1] :: cs) Q ρ [] := by
  have hq := seeQ2 (t := t) (z := z) hi hs
  refine awl_seq ?_
  refine awl_seq ?_
  refine awl_regS [(some 34, (.move (.tmp 0)), none), (some 35, (.move (.tmp 5)), none), (some 36, (.indexAddr 59 (.tmp 34) (.tmp 35)), none), (some 37, (.fieldAddr 96 (.tmp 36) 0), none), (some 38, (.fieldAddr 42 (.tmp 37) 2), none), (some 39, (.fieldAddr 40 (.tmp 38) 0), none), (some 40, (.load 3 (.tmp 39)), none), (some 41, (.move (.tmp 1)), none), (some 42, (.binOp .neq 3 (.tmp 40) (.tmp 41) 3), none)] rfl fun K hK => ?_
  simp only [go_sem, simprocAttr, h0, h1, h5, hi, hq]
  repeat' (refine And.intro (by first | rfl | omega) ?_)
  refine hK _ _ (.mk (awl_live' [0, 1, 5, 42] fun ρ hL => ?_))
  simp only [go_sem, simprocAttr, h0, h1, h5] at hL
  obtain ⟨h0, h1, h5, h42⟩ := hL
  clear hK K
  refine awl_cond h42 (fun c1 => ?_) (fun c1 => ?_)
  · exact absurd c1 (by simp)
  clear c1 h42
  refine awl_skip ?_
  refine awl_seq ?_
  have w3_ : IntKind.i64.wrap (s + 2 + 1) = s + 3 := by rw [wrap64 (by omega)]; omega
  refine awl_regS [(some 43, (.move (.tmp 1)), none), (some 44, (.binOp .add 3 (.tmp 43) (.const (.int .i64 1)) 3), none), (some 1, (.assign (.tmp 44)), none)] rfl fun K hK => ?_
  simp only [go_sem, simprocAttr, h0, h1, h5, w3_]
  refine hK _ _ (.mk (awl_live' [0, 1, 5] fun ρ hL => ?_))
  simp only [go_sem, simprocAttr, h0, h1, h5, w3_] at hL
  obtain ⟨h0, h1, h5⟩ := hL
  exact next ρ h0 h1 h5
set_option maxRecDepth 100000 in
theorem seE3 {z : Nat} {t s : Int} {c i : Nat} (hi : i < z) (hs : s = t + (40 * i : Nat)) (hb : z ≤ 1099511627776) (ht : 0 ≤ t ∧ t ≤ 1099511627776) {cs : List Code} {Q : Exit → Env → Heap → Prop} {ρ : Env} (h0 : ρ 0 = .sl z c (rows (mrow markQ 40 t z))) (h1 : ρ 1 = .int .i64 (s + 3)) (h5 : ρ 5 = .int .i64 (i : Int)) (next : ∀ ρ : Env, ρ 0 = .sl z c (rows (mrow markQ 40 t z)) → ρ 1 = .int .i64 (s + 4) → ρ 5 = .int .i64 (i : Int) → awpL Try.prog 0 (codeAt (fnCode Try.f98) [1, 0, 1, 2, 2, 1, 0, 2, 1, 1, 1, 1, 1, 1, 1, 1] :: cs) Q ρ []) :
    awpL Try.prog 0 (codeAt (fnCode Try.f98) [1, 0, 1, 2, 2, 1, 0, 2, 1, 1, 1, 1, 1, 1] :: cs) Q ρ [] := by
  have hq := seeQ3 (t := t) (z := z) hi hs
  refine awl_seq ?_
  refine awl_seq ?_
  refine awl_regS [(some 45, (.move (.tmp 0)), none), (some 46, (.move (.tmp 5)), none), (some 47, (.indexAddr 59 (.tmp 45) (.tmp 46)), none), (some 48, (.fieldAddr 96 (.tmp 47) 0), none), (some 49, (.fieldAddr 42 (.tmp 48) 2), none), (some 50, (.fieldAddr 40 (.tmp 49) 1), none), (some 51, (.load 3 (.tmp 50)), none), (some 52, (.move (.tmp 1)), none), (some 53, (.binOp .neq 3 (.tmp 51) (.tmp 52) 3), none)] rfl fun K hK => ?_
  simp only [go_sem, simprocAttr, h0, h1, h5, hi, hq]
  repeat' (refine And.intro (by first | rfl | omega) ?_)
  refine hK _ _ (.mk (awl_live' [0, 1, 5, 53] fun ρ hL => ?_))
  simp only [go_sem, simprocAttr, h0, h1, h5] at hL
  obtain ⟨h0, h1, h5, h53⟩ := hL
  clear hK K
  refine awl_cond h53 (fun c1 => ?_) (fun c1 => ?_)
  · exact absurd c1 (by simp)
  clear c1 h53
  refine awl_skip ?_
  refine awl_seq ?_
  have w4_ : IntKind.i64.wrap (s + 3 + 1) = s + 4 := by rw [wrap64 (by omega)]; omega
  refine awl_regS [(some 54, (.move (.tmp 1)), none), (some 55, (.binOp .add 3 (.tmp 54) (.const (.int .i64 1)) 3), none), (some 1, (.assign (.tmp 55)), none)] rfl fun K hK => ?_
  simp only [go_sem, simprocAttr, h0, h1, h5, w4_]
  refine hK _ _ (.mk (awl_live' [0, 1, 5] fun ρ hL => ?_))
  simp only [go_sem, simprocAttr, h0, h1, h5, w4_] at hL
  obtain ⟨h0, h1, h5⟩ := hL
  exact next ρ h0 h1 h5
set_option maxRecDepth 100000 in
theorem seE4 {z : Nat} {t s : Int} {c i : Nat} (hi : i < z) (hs : s = t + (40 * i : Nat)) (hb : z ≤ 1099511627776) (ht : 0 ≤ t ∧ t ≤ 1099511627776) {cs : List Code} {Q : Exit → Env → Heap → Prop} {ρ : Env} (h0 : ρ 0 = .sl z c (rows (mrow markQ 40 t z))) (h1 : ρ 1 = .int .i64 (s + 4)) (h5 : ρ 5 = .int .i64 (i : Int)) (next : ∀ ρ : Env, ρ 0 = .sl z c (rows (mrow markQ 40 t z)) → ρ 1 = .int .i64 (s + 5) → ρ 5 = .int .i64 (i : Int) → awpL Try.prog 0 (codeAt (fnCode Try.f98) [1, 0, 1, 2, 2, 1, 0, 2, 1, 1, 1, 1, 1, 1, 1, 1, 1, 1] :: cs) Q ρ []) :
    awpL Try.prog 0 (codeAt (fnCode Try.f98) [1, 0, 1, 2, 2, 1, 0, 2, 1, 1, 1, 1, 1, 1, 1, 1] :: cs) Q ρ [] := by
  have hq := seeQ4 (t := t) (z := z) hi hs
  refine awl_seq ?_
  refine awl_seq ?_
  refine awl_regS [(some 56, (.move (.tmp 0)), none), (some 57, (.move (.tmp 5)), none), (some 58, (.indexAddr 59 (.tmp 56) (.tmp 57)), none), (some 59, (.fieldAddr 96 (.tmp 58) 0), none), (some 60, (.fieldAddr 42 (.tmp 59) 2), none), (some 61, (.fieldAddr 40 (.tmp 60) 2), none), (some 62, (.load 3 (.tmp 61)), none), (some 63, (.move (.tmp 1)), none), (some 64, (.binOp .neq 3 (.tmp 62) (.tmp 63) 3), none)] rfl fun K hK => ?_
  simp only [go_sem, simprocAttr, h0, h1, h5, hi, hq]
  repeat' (refine And.intro (by first | rfl | omega) ?_)
  refine hK _ _ (.mk (awl_live' [0, 1, 5, 64] fun ρ hL => ?_))
  simp only [go_sem, simprocAttr, h0, h1, h5] at hL
  obtain ⟨h0, h1, h5, h64⟩ := hL
  clear hK K
  refine awl_cond h64 (fun c1 => ?_) (fun c1 => ?_)
  · exact absurd c1 (by simp)
  clear c1 h64
  refine awl_skip ?_
  refine awl_seq ?_
  have w5_ : IntKind.i64.wrap (s + 4 + 1) = s + 5 := by rw [wrap64 (by omega)]; omega
  refine awl_regS [(some 65, (.move (.tmp 1)), none), (some 66, (.binOp .add 3 (.tmp 65) (.const (.int .i64 1)) 3), none), (some 1, (.assign (.tmp 66)), none)] rfl fun K hK => ?_
  simp only [go_sem, simprocAttr, h0, h1, h5, w5_]
  refine hK _ _ (.mk (awl_live' [0, 1, 5] fun ρ hL => ?_))
  simp only [go_sem, simprocAttr, h0, h1, h5, w5_] at hL
  obtain ⟨h0, h1, h5⟩ := hL
  exact next ρ h0 h1 h5
set_option maxRecDepth 100000 in
theorem seE5 {z : Nat} {t s : Int} {c i : Nat} (hi : i < z) (hs : s = t + (40 * i : Nat)) (hb : z ≤ 1099511627776) (ht : 0 ≤ t ∧ t ≤ 1099511627776) {cs : List Code} {Q : Exit → Env → Heap → Prop} {ρ : Env} (h0 : ρ 0 = .sl z c (rows (mrow markQ 40 t z))) (h1 : ρ 1 = .int .i64 (s + 5)) (h5 : ρ 5 = .int .i64 (i : Int)) (next : ∀ ρ : Env, ρ 0 = .sl z c (rows (mrow markQ 40 t z)) → ρ 1 = .int .i64 (s + 6) → ρ 5 = .int .i64 (i : Int) → awpL Try.prog 0 (codeAt (fnCode Try.f98) [1, 0, 1, 2, 2, 1, 0, 2, 1, 1, 1, 1, 1, 1, 1, 1, 1, 1, 1, 1] :: cs) Q ρ []) :
    awpL Try.prog 0 (codeAt (fnCode Try.f98) [1, 0, 1, 2, 2, 1, 0, 2, 1, 1, 1, 1, 1, 1, 1, 1, 1, 1] :: cs) Q ρ [] := by
  have hq := seeQ5 (t := t) (z := z) hi hs
  refine awl_seq ?_
  refine awl_seq ?_
  refine awl_regS [(some 67, (.move (.tmp 0)), none), (some 68, (.move (.tmp 5)), none), (some 69, (.indexAddr 59 (.tmp 67) (.tmp 68)), none), (some 70, (.fieldAddr 96 (.tmp 69) 0), none), (some 71, (.fieldAddr 42 (.tmp 70) 2), none), (some 72, (.fieldAddr 40 (.tmp 71) 3), none), (some 73, (.load 3 (.tmp 72)), none), (some 74, (.move (.tmp 1)), none), (some 75, (.binOp .neq 3 (.tmp 73) (.tmp 74) 3), none)] rfl fun K hK => ?_
  simp only [go_sem, simprocAttr, h0, h1, h5, hi, hq]
  repeat' (refine And.intro (by first | rfl | omega) ?_)
  refine hK _ _ (.mk (awl_live' [0, 1, 5, 75] fun ρ hL => ?_))
  simp only [go_sem, simprocAttr, h0, h1, h5] at hL
  obtain ⟨h0, h1, h5, h75⟩ := hL
  clear hK K
  refine awl_cond h75 (fun c1 => ?_) (fun c1 => ?_)
  · exact absurd c1 (by simp)
  clear c1 h75
  refine awl_skip ?_
  refine awl_seq ?_
  have w6_ : IntKind.i64.wrap (s + 5 + 1) = s + 6 := by rw [wrap64 (by omega)]; omega
  refine awl_regS [(some 76, (.move (.tmp 1)), none), (some 77, (.binOp .add 3 (.tmp 76) (.const (.int .i64 1)) 3), none), (some 1, (.assign (.tmp 77)), none)] rfl fun K hK => ?_
  simp only [go_sem, simprocAttr, h0, h1, h5, w6_]
  refine hK _ _ (.mk (awl_live' [0, 1, 5] fun ρ hL => ?_))
  simp only [go_sem, simprocAttr, h0, h1, h5, w6_] at hL
  obtain ⟨h0, h1, h5⟩ := hL
  exact next ρ h0 h1 h5
set_option maxRecDepth 100000 in
theorem seE6 {z : Nat} {t s : Int} {c i : Nat} (hi : i < z) (hs : s = t + (40 * i : Nat)) (hb : z ≤ 1099511627776) (ht : 0 ≤ t ∧ t ≤ 1099511627776) {cs : List Code} {Q : Exit → Env → Heap → Prop} {ρ : Env} (h0 : ρ 0 = .sl z c (rows (mrow markQ 40 t z))) (h1 : ρ 1 = .int .i64 (s + 6)) (h5 : ρ 5 = .int .i64 (i : Int)) (next : ∀ ρ : Env, ρ 0 = .sl z c (rows (mrow markQ 40 t z)) → ρ 1 = .int .i64 (s + 7) → ρ 5 = .int .i64 (i : Int) → awpL Try.prog 0 (codeAt (fnCode Try.f98) [1, 0, 1, 2, 2, 1, 0, 2, 1, 1, 1, 1, 1, 1, 1, 1, 1, 1, 1, 1, 1, 1] :: cs) Q ρ []) :
    awpL Try.prog 0 (codeAt (fnCode Try.f98) [1, 0, 1, 2, 2, 1, 0, 2, 1, 1, 1, 1, 1, 1, 1, 1, 1, 1, 1, 1] :: cs) Q ρ [] := by
  have hq := seeQ6 (t := t) (z := z) hi hs
  refine awl_seq ?_
  refine awl_seq ?_
  refine awl_regS [(some 78, (.move (.tmp 0)), none), (some 79, (.move (.tmp 5)), none), (some 80, (.indexAddr 59 (.tmp 78) (.tmp 79)), none), (some 81, (.fieldAddr 96 (.tmp 80) 1), none), (some 82, (.fieldAddr 94 (.tmp 81) 0), none), (some 83, (.load 3 (.tmp 82)), none), (some 84, (.move (.tmp 1)), none), (some 85, (.binOp .neq 3 (.tmp 83) (.tmp 84) 3), none)] rfl fun K hK => ?_
  simp only [go_sem, simprocAttr, h0, h1, h5, hi, hq]
  repeat' (refine And.intro (by first | rfl | omega) ?_)
  refine hK _ _ (.mk (awl_live' [0, 1, 5, 85] fun ρ hL => ?_))
  simp only [go_sem, simprocAttr, h0, h1, h5] at hL
  obtain ⟨h0, h1, h5, h85⟩ := hL
  clear hK K
  refine awl_cond h85 (fun c1 => ?_) (fun c1 => ?_)
  · exact absurd c1 (by simp)
  clear c1 h85
  refine awl_skip ?_
  refine awl_seq ?_
  have w7_ : IntKind.i64.wrap (s + 6 + 1) = s + 7 := by rw [wrap64 (by omega)]; omega
  refine awl_regS [(some 86, (.move (.tmp 1)), none), (some 87, (.binOp .add 3 (.tmp 86) (.const (.int .i64 1)) 3), none), (some 1, (.assign (.tmp 87)), none)] rfl fun K hK => ?_
  simp only [go_sem, simprocAttr, h0, h1, h5, w7_]
  refine hK _ _ (.mk (awl_live' [0, 1, 5] fun ρ hL => ?_))
  simp only [go_sem, simprocAttr, h0, h1, h5, w7_] at hL
  obtain ⟨h0, h1, h5⟩ := hL
  exact next ρ h0 h1 h5
set_option maxRecDepth 100000 in
theorem seE7 {z : Nat} {t s : Int} {c i : Nat} (hi : i < z) (hs : s = t + (40 * i : Nat)) (hb : z ≤ 1099511627776) (ht : 0 ≤ t ∧ t ≤ 1099511627776) {cs : List Code} {Q : Exit → Env → Heap → Prop} {ρ : Env} (h0 : ρ 0 = .sl z c (rows (mrow markQ 40 t z))) (h1 : ρ 1 = .int .i64 (s + 7)) (h5 : ρ 5 = .int .i64 (i : Int)) (next : ∀ ρ : Env, ρ 0 = .sl z c (rows (mrow markQ 40 t z)) → ρ 1 = .int .i64 (s + 8) → ρ 5 = .int .i64 (i : Int) → awpL Try.prog 0 (codeAt (fnCode Try.f98) [1, 0, 1, 2, 2, 1, 0, 2, 1, 1, 1, 1, 1, 1, 1, 1, 1, 1, 1, 1, 1, 1, 1, 1] :: cs) Q ρ []) :
    awpL Try.prog 0 (codeAt (fnCode Try.f98) [1, 0, 1, 2, 2, 1, 0, 2, 1, 1, 1, 1, 1, 1, 1, 1, 1, 1, 1, 1, 1, 1] :: cs) Q ρ [] := by
  have hq := seeQ7 (t := t) (z := z) hi hs
  refine awl_seq ?_
  refine awl_seq ?_
  refine awl_regS [(some 88, (.move (.tmp 0)), none), (some 89, (.move (.tmp 5)), none), (some 90, (.indexAddr 59 (.tmp 88) (.tmp 89)), none), (some 91, (.fieldAddr 96 (.tmp 90) 1), none), (some 92, (.fieldAddr 94 (.tmp 91) 1), none), (some 93, (.load 3 (.tmp 92)), none), (some 94, (.move (.tmp 1)), none), (some 95, (.binOp .neq 3 (.tmp 93) (.tmp 94) 3), none)] rfl fun K hK => ?_
  simp only [go_sem, simprocAttr, h0, h1, h5, hi, hq]
  repeat' (refine And.intro (by first | rfl | omega) ?_)
  refine hK _ _ (.mk (awl_live' [0, 1, 5, 95] fun ρ hL => ?_))
  simp only [go_sem, simprocAttr, h0, h1, h5] at hL
  obtain ⟨h0, h1, h5, h95⟩ := hL
  clear hK K
  refine awl_cond h95 (fun c1 => ?_) (fun c1 => ?_)
  · exact absurd c1 (by simp)
  clear c1 h95
  refine awl_skip ?_
  refine awl_seq ?_
  have w8_ : IntKind.i64.wrap (s + 7 + 1) = s + 8 := by rw [wrap64 (by omega)]; omega
  refine awl_regS [(some 96, (.move (.tmp 1)), none), (some 97, (.binOp .add 3 (.tmp 96) (.const (.int .i64 1)) 3), none), (some 1, (.assign (.tmp 97)), none)] rfl fun K hK => ?_
  simp only [go_sem, simprocAttr, h0, h1, h5, w8_]
  refine hK _ _ (.mk (awl_live' [0, 1, 5] fun ρ hL => ?_))
  simp only [go_sem, simprocAttr, h0, h1, h5, w8_] at hL
  obtain ⟨h0, h1, h5⟩ := hL
  exact next ρ h0 h1 h5
set_option maxRecDepth 100000 in
theorem seE8 {z : Nat} {t s : Int} {c i : Nat} (hi : i < z) (hs : s = t + (40 * i : Nat)) (hb : z ≤ 1099511627776) (ht : 0 ≤ t ∧ t ≤ 1099511627776) {cs : List Code} {Q : Exit → Env → Heap → Prop} {ρ : Env} (h0 : ρ 0 = .sl z c (rows (mrow markQ 40 t z))) (h1 : ρ 1 = .int .i64 (s + 8)) (h5 : ρ 5 = .int .i64 (i : Int)) (next : ∀ ρ : Env, ρ 0 = .sl z c (rows (mrow markQ 40 t z)) → ρ 1 = .int .i64 (s + 9) → ρ 5 = .int .i64 (i : Int) → awpL Try.prog 0 (codeAt (fnCode Try.f98) [1, 0, 1, 2, 2, 1, 0, 2, 1, 1, 1, 1, 1, 1, 1, 1, 1, 1, 1, 1, 1, 1, 1, 1, 1, 1] :: cs) Q ρ []) :
    awpL Try.prog 0 (codeAt (fnCode Try.f98) [1, 0, 1, 2, 2, 1, 0, 2, 1, 1, 1, 1, 1, 1, 1, 1, 1, 1, 1, 1, 1, 1, 1, 1] :: cs) Q ρ [] := by
  have hq := seeQ8 (t := t) (z := z) hi hs
  refine awl_seq ?_
  refine awl_seq ?_
  refine awl_regS [(some 98, (.move (.tmp 0)), none), (some 99, (.move (.tmp 5)), none), (some 100, (.indexAddr 59 (.tmp 98) (.tmp 99)), none), (some 101, (.fieldAddr 96 (.tmp 100) 1), none), (some 102, (.fieldAddr 94 (.tmp 101) 2), none), (some 103, (.load 3 (.tmp 102)), none), (some 104, (.move (.tmp 1)), none), (some 105, (.binOp .neq 3 (.tmp 103) (.tmp 104) 3), none)] rfl fun K hK => ?_
  simp only [go_sem, simprocAttr, h0, h1, h5, hi, hq]
  repeat' (refine And.intro (by first | rfl | omega) ?_)
  refine hK _ _ (.mk (awl_live' [0, 1, 5, 105] fun ρ hL => ?_))
  simp only [go_sem, simprocAttr, h0, h1, h5] at hL
  obtain ⟨h0, h1, h5, h105⟩ := hL
  clear hK K
  refine awl_cond h105 (fun c1 => ?_) (fun c1 => ?_)
  · exact absurd c1 (by simp)
  clear c1 h105
  refine awl_skip ?_
  refine awl_seq ?_
  have w9_ : IntKind.i64.wrap (s + 8 + 1) = s + 9 := by rw [wrap64 (by omega)]; omega
  refine awl_regS [(some 106, (.move (.tmp 1)), none), (some 107, (.binOp .add 3 (.tmp 106) (.const (.int .i64 1)) 3), none), (some 1, (.assign (.tmp 107)), none)] rfl fun K hK => ?_
  simp only [go_sem, simprocAttr, h0, h1, h5, w9_]
  refine hK _ _ (.mk (awl_live' [0, 1, 5] fun ρ hL => ?_))
  simp only [go_sem, simprocAttr, h0, h1, h5, w9_] at hL
  obtain ⟨h0, h1, h5⟩ := hL
  exact next ρ h0 h1 h5
set_option maxRecDepth 100000 in
theorem seE9 {z : Nat} {t s : Int} {c i : Nat} (hi : i < z) (hs : s = t + (40 * i : Nat)) (hb : z ≤ 1099511627776) (ht : 0 ≤ t ∧ t ≤ 1099511627776) {cs : List Code} {Q : Exit → Env → Heap → Prop} {ρ : Env} (h0 : ρ 0 = .sl z c (rows (mrow markQ 40 t z))) (h1 : ρ 1 = .int .i64 (s + 9)) (h5 : ρ 5 = .int .i64 (i : Int)) (next : ∀ ρ : Env, ρ 0 = .sl z c (rows (mrow markQ 40 t z)) → ρ 1 = .int .i64 (s + 10) → ρ 5 = .int .i64 (i : Int) → awpL Try.prog 0 (codeAt (fnCode Try.f98) [1, 0, 1, 2, 2, 1, 0, 2, 1, 1, 1, 1, 1, 1, 1, 1, 1, 1, 1, 1, 1, 1, 1, 1, 1, 1, 1, 1] :: cs) Q ρ []) :
    awpL Try.prog 0 (codeAt (fnCode Try.f98) [1, 0, 1, 2, 2, 1, 0, 2, 1, 1, 1, 1, 1, 1, 1, 1, 1, 1, 1, 1, 1, 1, 1, 1, 1, 1] :: cs) Q ρ [] := by
  have hq := seeQ9 (t := t) (z := z) hi hs
  refine awl_seq ?_
  refine awl_seq ?_
  refine awl_regS [(some 108, (.move (.tmp 0)), none), (some 109, (.move (.tmp 5)), none), (some 110, (.indexAddr 59 (.tmp 108) (.tmp 109)), none), (some 111, (.fieldAddr 96 (.tmp 110) 1), none), (some 112, (.fieldAddr 94 (.tmp 111) 3), none), (some 113, (.load 3 (.tmp 112)), none), (some 114, (.move (.tmp 1)), none), (some 115, (.binOp .neq 3 (.tmp 113) (.tmp 114) 3), none)] rfl fun K hK => ?_
  simp only [go_sem, simprocAttr, h0, h1, h5, hi, hq]
  repeat' (refine And.intro (by first | rfl | omega) ?_)
  refine hK _ _ (.mk (awl_live' [0, 1, 5, 115] fun ρ hL => ?_))
  simp only [go_sem, simprocAttr, h0, h1, h5] at hL
  obtain ⟨h0, h1, h5, h115⟩ := hL
  clear hK K
  refine awl_cond h115 (fun c1 => ?_) (fun c1 => ?_)
  · exact absurd c1 (by simp)
  clear c1 h115
  refine awl_skip ?_
  refine awl_seq ?_
  have w10_ : IntKind.i64.wrap (s + 9 + 1) = s + 10 := by rw [wrap64 (by omega)]; omega
  refine awl_regS [(some 116, (.move (.tmp 1)), none), (some 117, (.binOp .add 3 (.tmp 116) (.const (.int .i64 1)) 3), none), (some 1, (.assign (.tmp 117)), none)] rfl fun K hK => ?_
  simp only [go_sem, simprocAttr, h0, h1, h5, w10_]
  refine hK _ _ (.mk (awl_live' [0, 1, 5] fun ρ hL => ?_))
  simp only [go_sem, simprocAttr, h0, h1, h5, w10_] at hL
  obtain ⟨h0, h1, h5⟩ := hL
  exact next ρ h0 h1 h5
set_option maxRecDepth 100000 in
theorem seE10 {z : Nat} {t s : Int} {c i : Nat} (hi : i < z) (hs : s = t + (40 * i : Nat)) (hb : z ≤ 1099511627776) (ht : 0 ≤ t ∧ t ≤ 1099511627776) {cs : List Code} {Q : Exit → Env → Heap → Prop} {ρ : Env} (h0 : ρ 0 = .sl z c (rows (mrow markQ 40 t z))) (h1 : ρ 1 = .int .i64 (s + 10)) (h5 : ρ 5 = .int .i64 (i : Int)) (next : ∀ ρ : Env, ρ 0 = .sl z c (rows (mrow markQ 40 t z)) → ρ 1 = .int .i64 (s + 11) → ρ 5 = .int .i64 (i : Int) → awpL Try.prog 0 (codeAt (fnCode Try.f98) [1, 0, 1, 2, 2, 1, 0, 2, 1, 1, 1, 1, 1, 1, 1, 1, 1, 1, 1, 1, 1, 1, 1, 1, 1, 1, 1, 1, 1, 1] :: cs) Q ρ []) :
    awpL Try.prog 0 (codeAt (fnCode Try.f98) [1, 0, 1, 2, 2, 1, 0, 2, 1, 1, 1, 1, 1, 1, 1, 1, 1, 1, 1, 1, 1, 1, 1, 1, 1, 1, 1, 1] :: cs) Q ρ [] := by
  have hq := seeQ10 (t := t) (z := z) hi hs
  refine awl_seq ?_
  refine awl_seq ?_
  refine awl_regS [(some 118, (.move (.tmp 0)), none), (some 119, (.move (.tmp 5)), none), (some 120, (.indexAddr 59 (.tmp 118) (.tmp 119)), none), (some 121, (.fieldAddr 96 (.tmp 120) 1), none), (some 122, (.fieldAddr 94 (.tmp 121) 4), none), (some 123, (.load 3 (.tmp 122)), none), (some 124, (.move (.tmp 1)), none), (some 125, (.binOp .neq 3 (.tmp 123) (.tmp 124) 3), none)] rfl fun K hK => ?_
  simp only [go_sem, simprocAttr, h0, h1, h5, hi, hq]
  repeat' (refine And.intro (by first | rfl | omega) ?_)
  refine hK _ _ (.mk (awl_live' [0, 1, 5, 125] fun ρ hL => ?_))
  simp only [go_sem, simprocAttr, h0, h1, h5] at hL
  obtain ⟨h0, h1, h5, h125⟩ := hL
  clear hK K
  refine awl_cond h125 (fun c1 => ?_) (fun c1 => ?_)
  · exact absurd c1 (by simp)
  clear c1 h125
  refine awl_skip ?_
  refine awl_seq ?_
  have w11_ : IntKind.i64.wrap (s + 10 + 1) = s + 11 := by rw [wrap64 (by omega)]; omega
  refine awl_regS [(some 126, (.move (.tmp 1)), none), (some 127, (.binOp .add 3 (.tmp 126) (.const (.int .i64 1)) 3), none), (some 1, (.assign (.tmp 127)), none)] rfl fun K hK => ?_
  simp only [go_sem, simprocAttr, h0, h1, h5, w11_]
  refine hK _ _ (.mk (awl_live' [0, 1, 5] fun ρ hL => ?_))
  simp only [go_sem, simprocAttr, h0, h1, h5, w11_] at hL
  obtain ⟨h0, h1, h5⟩ := hL
  exact next ρ h0 h1 h5
set_option maxRecDepth 100000 in
theorem seE11 {z : Nat} {t s : Int} {c i : Nat} (hi : i < z) (hs : s = t + (40 * i : Nat)) (hb : z ≤ 1099511627776) (ht : 0 ≤ t ∧ t ≤ 1099511627776) {cs : List Code} {Q : Exit → Env → Heap → Prop} {ρ : Env} (h0 : ρ 0 = .sl z c (rows (mrow markQ 40 t z))) (h1 : ρ 1 = .int .i64 (s + 11)) (h5 : ρ 5 = .int .i64 (i : Int)) (next : ∀ ρ : Env, ρ 0 = .sl z c (rows (mrow markQ 40 t z)) → ρ 1 = .int .i64 (s + 12) → ρ 5 = .int .i64 (i : Int) → awpL Try.prog 0 (codeAt (fnCode Try.f98) [1, 0, 1, 2, 2, 1, 0, 2, 1, 1, 1, 1, 1, 1, 1, 1, 1, 1, 1, 1, 1, 1, 1, 1, 1, 1, 1, 1, 1, 1, 1, 1] :: cs) Q ρ []) :
    awpL Try.prog 0 (codeAt (fnCode Try.f98) [1, 0, 1, 2, 2, 1, 0, 2, 1, 1, 1, 1, 1, 1, 1, 1, 1, 1, 1, 1, 1, 1, 1, 1, 1, 1, 1, 1, 1, 1] :: cs) Q ρ [] := by
  have hq := seeQ11 (t := t) (z := z) hi hs
  refine awl_seq ?_
  refine awl_seq ?_
  refine awl_regS [(some 128, (.move (.tmp 0)), none), (some 129, (.move (.tmp 5)), none), (some 130, (.indexAddr 59 (.tmp 128) (.tmp 129)), none), (some 131, (.fieldAddr 96 (.tmp 130) 2), none), (some 132, (.load 4 (.tmp 131)), none), (some 133, (.move (.tmp 1)), none), (some 134, (.binOp .rem 3 (.tmp 133) (.const (.int .i64 3)) 3), none), (some 135, (.binOp .eql 3 (.tmp 134) (.const (.int .i64 0)) 3), none), (some 136, (.binOp .neq 4 (.tmp 132) (.tmp 135) 4), none)] rfl fun K hK => ?_
  simp only [go_sem, simprocAttr, h0, h1, h5, hi, hq]
  repeat' (refine And.intro (by first | rfl | omega) ?_)
  refine hK _ _ (.mk (awl_live' [0, 1, 5, 136] fun ρ hL => ?_))
  simp only [go_sem, simprocAttr, h0, h1, h5] at hL
  obtain ⟨h0, h1, h5, h136⟩ := hL
  clear hK K
  refine awl_cond h136 (fun c1 => ?_) (fun c1 => ?_)
  · exact absurd c1 (by simp)
  clear c1 h136
  refine awl_skip ?_
  refine awl_seq ?_
  have w12_ : IntKind.i64.wrap (s + 11 + 1) = s + 12 := by rw [wrap64 (by omega)]; omega
  refine awl_regS [(some 137, (.move (.tmp 1)), none), (some 138, (.binOp .add 3 (.tmp 137) (.const (.int .i64 1)) 3), none), (some 1, (.assign (.tmp 138)), none)] rfl fun K hK => ?_
  simp only [go_sem, simprocAttr, h0, h1, h5, w12_]
  refine hK _ _ (.mk (awl_live' [0, 1, 5] fun ρ hL => ?_))
  simp only [go_sem, simprocAttr, h0, h1, h5, w12_] at hL
  obtain ⟨h0, h1, h5⟩ := hL
  exact next ρ h0 h1 h5
set_option maxRecDepth 100000 in
theorem seE12 {z : Nat} {t s : Int} {c i : Nat} (hi : i < z) (hs : s = t + (40 * i : Nat)) (hb : z ≤ 1099511627776) (ht : 0 ≤ t ∧ t ≤ 1099511627776) {cs : List Code} {Q : Exit → Env → Heap → Prop} {ρ : Env} (h0 : ρ 0 = .sl z c (rows (mrow markQ 40 t z))) (h1 : ρ 1 = .int .i64 (s + 12)) (h5 : ρ 5 = .int .i64 (i : Int)) (next : ∀ ρ : Env, ρ 0 = .sl z c (rows (mrow markQ 40 t z)) → ρ 1 = .int .i64 (s + 13) → ρ 5 = .int .i64 (i : Int) → awpL Try.prog 0 (codeAt (fnCode Try.f98) [1, 0, 1, 2, 2, 1, 0, 2, 1, 1, 1, 1, 1, 1, 1, 1, 1, 1, 1, 1, 1, 1, 1, 1, 1, 1, 1, 1, 1, 1, 1, 1, 1, 1] :: cs) Q ρ []) :
    awpL Try.prog 0 (codeAt (fnCode Try.f98) [1, 0, 1, 2, 2, 1, 0, 2, 1, 1, 1, 1, 1, 1, 1, 1, 1, 1, 1, 1, 1, 1, 1, 1, 1, 1, 1, 1, 1, 1, 1, 1] :: cs) Q ρ [] := by
  have hq := seeQ12 (t := t) (z := z) hi hs
  refine awl_seq ?_
  refine awl_seq ?_
  refine awl_regS [(some 139, (.move (.tmp 0)), none), (some 140, (.move (.tmp 5)), none), (some 141, (.indexAddr 59 (.tmp 139) (.tmp 140)), none), (some 142, (.fieldAddr 96 (.tmp 141) 3), none), (some 143, (.fieldAddr 92 (.tmp 142) 0), none), (some 144, (.load 3 (.tmp 143)), none), (some 145, (.move (.tmp 1)), none), (some 146, (.binOp .neq 3 (.tmp 144) (.tmp 145) 3), none)] rfl fun K hK => ?_
  simp only [go_sem, simprocAttr, h0, h1, h5, hi, hq]
  repeat' (refine And.intro (by first | rfl | omega) ?_)
  refine hK _ _ (.mk (awl_live' [0, 1, 5, 146] fun ρ hL => ?_))
  simp only [go_sem, simprocAttr, h0, h1, h5] at hL
  obtain ⟨h0, h1, h5, h146⟩ := hL
  clear hK K
  refine awl_cond h146 (fun c1 => ?_) (fun c1 => ?_)
  · exact absurd c1 (by simp)
  clear c1 h146
  refine awl_skip ?_
  refine awl_seq ?_
  have w13_ : IntKind.i64.wrap (s + 12 + 1) = s + 13 := by rw [wrap64 (by omega)]; omega
  refine awl_regS [(some 147, (.move (.tmp 1)), none), (some 148, (.binOp .add 3 (.tmp 147) (.const (.int .i64 1)) 3), none), (some 1, (.assign (.tmp 148)), none)] rfl fun K hK => ?_
  simp only [go_sem, simprocAttr, h0, h1, h5, w13_]
  refine hK _ _ (.mk (awl_live' [0, 1, 5] fun ρ hL => ?_))
  simp only [go_sem, simprocAttr, h0, h1, h5, w13_] at hL
  obtain ⟨h0, h1, h5⟩ := hL
  exact next ρ h0 h1 h5
set_option maxRecDepth 100000 in
theorem seE13 {z : Nat} {t s : Int} {c i : Nat} (hi : i < z) (hs : s = t + (40 * i : Nat)) (hb : z ≤ 1099511627776) (ht : 0 ≤ t ∧ t ≤ 1099511627776) {cs : List Code} {Q : Exit → Env → Heap → Prop} {ρ : Env} (h0 : ρ 0 = .sl z c (rows (mrow markQ 40 t z))) (h1 : ρ 1 = .int .i64 (s + 13)) (h5 : ρ 5 = .int .i64 (i : Int)) (next : ∀ ρ : Env, ρ 0 = .sl z c (rows (mrow markQ 40 t z)) → ρ 1 = .int .i64 (s + 14) → ρ 5 = .int .i64 (i : Int) → awpL Try.prog 0 (codeAt (fnCode Try.f98) [1, 0, 1, 2, 2, 1, 0, 2, 1, 1, 1, 1, 1, 1, 1, 1, 1, 1, 1, 1, 1, 1, 1, 1, 1, 1, 1, 1, 1, 1, 1, 1, 1, 1, 1, 1] :: cs) Q ρ []) :
    awpL Try.prog 0 (codeAt (fnCode Try.f98) [1, 0, 1, 2, 2, 1, 0, 2, 1, 1, 1, 1, 1, 1, 1, 1, 1, 1, 1, 1, 1, 1, 1, 1, 1, 1, 1, 1, 1, 1, 1, 1, 1, 1] :: cs) Q ρ [] := by
  have hq := seeQ13 (t := t) (z := z) hi hs
  refine awl_seq ?_
  refine awl_seq ?_
  refine awl_regS [(some 149, (.move (.tmp 0)), none), (some 150, (.move (.tmp 5)), none), (some 151, (.indexAddr 59 (.tmp 149) (.tmp 150)), none), (some 152, (.fieldAddr 96 (.tmp 151) 3), none), (some 153, (.fieldAddr 92 (.tmp 152) 1), none), (some 154, (.load 3 (.tmp 153)), none), (some 155, (.move (.tmp 1)), none), (some 156, (.binOp .neq 3 (.tmp 154) (.tmp 155) 3), none)] rfl fun K hK => ?_
  simp only [go_sem, simprocAttr, h0, h1, h5, hi, hq]
  repeat' (refine And.intro (by first | rfl | omega) ?_)
  refine hK _ _ (.mk (awl_live' [0, 1, 5, 156] fun ρ hL => ?_))
  simp only [go_sem, simprocAttr, h0, h1, h5] at hL
  obtain ⟨h0, h1, h5, h156⟩ := hL
  clear hK K
  refine awl_cond h156 (fun c1 => ?_) (fun c1 => ?_)
  · exact absurd c1 (by simp)
  clear c1 h156
  refine awl_skip ?_
  refine awl_seq ?_
  have w14_ : IntKind.i64.wrap (s + 13 + 1) = s + 14 := by rw [wrap64 (by omega)]; omega
  refine awl_regS [(some 157, (.move (.tmp 1)), none), (some 158, (.binOp .add 3 (.tmp 157) (.const (.int .i64 1)) 3), none), (some 1, (.assign (.tmp 158)), none)] rfl fun K hK => ?_
  simp only [go_sem, simprocAttr, h0, h1, h5, w14_]
  refine hK _ _ (.mk (awl_live' [0, 1, 5] fun ρ hL => ?_))
  simp only [go_sem, simprocAttr, h0, h1, h5, w14_] at hL
  obtain ⟨h0, h1, h5⟩ := hL
  exact next ρ h0 h1 h5
set_option maxRecDepth 100000 in
theorem seE14 {z : Nat} {t s : Int} {c i : Nat} (hi : i < z) (hs : s = t + (40 * i : Nat)) (hb : z ≤ 1099511627776) (ht : 0 ≤ t ∧ t ≤ 1099511627776) {cs : List Code} {Q : Exit → Env → Heap → Prop} {ρ : Env} (h0 : ρ 0 = .sl z c (rows (mrow markQ 40 t z))) (h1 : ρ 1 = .int .i64 (s + 14)) (h5 : ρ 5 = .int .i64 (i : Int)) (next : ∀ ρ : Env, ρ 0 = .sl z c (rows (mrow markQ 40 t z)) → ρ 1 = .int .i64 (s + 15) → ρ 5 = .int .i64 (i : Int) → awpL Try.prog 0 (codeAt (fnCode Try.f98) [1, 0, 1, 2, 2, 1, 0, 2, 1, 1, 1, 1, 1, 1, 1, 1, 1, 1, 1, 1, 1, 1, 1, 1, 1, 1, 1, 1, 1, 1, 1, 1, 1, 1, 1, 1, 1, 1] :: cs) Q ρ []) :
    awpL Try.prog 0 (codeAt (fnCode Try.f98) [1, 0, 1, 2, 2, 1, 0, 2, 1, 1, 1, 1, 1, 1, 1, 1, 1, 1, 1, 1, 1, 1, 1, 1, 1, 1, 1, 1, 1, 1, 1, 1, 1, 1, 1, 1] :: cs) Q ρ [] := by
  have hq := seeQ14 (t := t) (z := z) hi hs
  refine awl_seq ?_
  refine awl_seq ?_
  refine awl_regS [(some 159, (.move (.tmp 0)), none), (some 160, (.move (.tmp 5)), none), (some 161, (.indexAddr 59 (.tmp 159) (.tmp 160)), none), (some 162, (.fieldAddr 96 (.tmp 161) 3), none), (some 163, (.fieldAddr 92 (.tmp 162) 2), none), (some 164, (.fieldAddr 42 (.tmp 163) 0), none), (some 165, (.load 3 (.tmp 164)), none), (some 166, (.move (.tmp 1)), none), (some 167, (.binOp .neq 3 (.tmp 165) (.tmp 166) 3), none)] rfl fun K hK => ?_
  simp only [go_sem, simprocAttr, h0, h1, h5, hi, hq]
  repeat' (refine And.intro (by first | rfl | omega) ?_)
  refine hK _ _ (.mk (awl_live' [0, 1, 5, 167] fun ρ hL => ?_))
  simp only [go_sem, simprocAttr, h0, h1, h5] at hL
  obtain ⟨h0, h1, h5, h167⟩ := hL
  clear hK K
  refine awl_cond h167 (fun c1 => ?_) (fun c1 => ?_)
  · exact absurd c1 (by simp)
  clear c1 h167
  refine awl_skip ?_
  refine awl_seq ?_
  have w15_ : IntKind.i64.wrap (s + 14 + 1) = s + 15 := by rw [wrap64 (by omega)]; omega
  refine awl_regS [(some 168, (.move (.tmp 1)), none), (some 169, (.binOp .add 3 (.tmp 168) (.const (.int .i64 1)) 3), none), (some 1, (.assign (.tmp 169)), none)] rfl fun K hK => ?_
  simp only [go_sem, simprocAttr, h0, h1, h5, w15_]
  refine hK _ _ (.mk (awl_live' [0, 1, 5] fun ρ hL => ?_))
  simp only [go_sem, simprocAttr, h0, h1, h5, w15_] at hL
  obtain ⟨h0, h1, h5⟩ := hL
  exact next ρ h0 h1 h5
set_option maxRecDepth 100000 in
theorem seE15 {z : Nat} {t s : Int} {c i : Nat} (hi : i < z) (hs : s = t + (40 * i : Nat)) (hb : z ≤ 1099511627776) (ht : 0 ≤ t ∧ t ≤ 1099511627776) {cs : List Code} {Q : Exit → Env → Heap → Prop} {ρ : Env} (h0 : ρ 0 = .sl z c (rows (mrow markQ 40 t z))) (h1 : ρ 1 = .int .i64 (s + 15)) (h5 : ρ 5 = .int .i64 (i : Int)) (next : ∀ ρ : Env, ρ 0 = .sl z c (rows (mrow markQ 40 t z)) → ρ 1 = .int .i64 (s + 16) → ρ 5 = .int .i64 (i : Int) → awpL Try.prog 0 (codeAt (fnCode Try.f98) [1, 0, 1, 2, 2, 1, 0, 2, 1, 1, 1, 1, 1, 1, 1, 1, 1, 1, 1, 1, 1, 1, 1, 1, 1, 1, 1, 1, 1, 1, 1, 1, 1, 1, 1, 1, 1, 1, 1, 1] :: cs) Q ρ []) :
    awpL Try.prog 0 (codeAt (fnCode Try.f98) [1, 0, 1, 2, 2, 1, 0, 2, 1, 1, 1, 1, 1, 1, 1, 1, 1, 1, 1, 1, 1, 1, 1, 1, 1, 1, 1, 1, 1, 1, 1, 1, 1, 1, 1, 1, 1, 1] :: cs) Q ρ [] := by
  have hq := seeQ15 (t := t) (z := z) hi hs
  refine awl_seq ?_
  refine awl_seq ?_
  refine awl_regS [(some 170, (.move (.tmp 0)), none), (some 171, (.move (.tmp 5)), none), (some 172, (.indexAddr 59 (.tmp 170) (.tmp 171)), none), (some 173, (.fieldAddr 96 (.tmp 172) 3), none), (some 174, (.fieldAddr 92 (.tmp 173) 2), none), (some 175, (.fieldAddr 42 (.tmp 174) 1), none), (some 176, (.load 4 (.tmp 175)), none), (some 177, (.move (.tmp 1)), none), (some 178, (.binOp .rem 3 (.tmp 177) (.const (.int .i64 3)) 3), none), (some 179, (.binOp .eql 3 (.tmp 178) (.const (.int .i64 0)) 3), none), (some 180, (.binOp .neq 4 (.tmp 176) (.tmp 179) 4), none)] rfl fun K hK => ?_
  simp only [go_sem, simprocAttr, h0, h1, h5, hi, hq]
  repeat' (refine And.intro (by first | rfl | omega) ?_)
  refine hK _ _ (.mk (awl_live' [0, 1, 5, 180] fun ρ hL => ?_))
  simp only [go_sem, simprocAttr, h0, h1, h5] at hL
  obtain ⟨h0, h1, h5, h180⟩ := hL
  clear hK K
  refine awl_cond h180 (fun c1 => ?_) (fun c1 => ?_)
  · exact absurd c1 (by simp)
  clear c1 h180
  refine awl_skip ?_
  refine awl_seq ?_
  have w16_ : IntKind.i64.wrap (s + 15 + 1) = s + 16 := by rw [wrap64 (by omega)]; omega
  refine awl_regS [(some 181, (.move (.tmp 1)), none), (some 182, (.binOp .add 3 (.tmp 181) (.const (.int .i64 1)) 3), none), (some 1, (.assign (.tmp 182)), none)] rfl fun K hK => ?_
  simp only [go_sem, simprocAttr, h0, h1, h5, w16_]
  refine hK _ _ (.mk (awl_live' [0, 1, 5] fun ρ hL => ?_))
  simp only [go_sem, simprocAttr, h0, h1, h5, w16_] at hL
  obtain ⟨h0, h1, h5⟩ := hL
  exact next ρ h0 h1 h5
set_option maxRecDepth 100000 in
theorem seE16 {z : Nat} {t s : Int} {c i : Nat} (hi : i < z) (hs : s = t + (40 * i : Nat)) (hb : z ≤ 1099511627776) (ht : 0 ≤ t ∧ t ≤ 1099511627776) {cs : List Code} {Q : Exit → Env → Heap → Prop} {ρ : Env} (h0 : ρ 0 = .sl z c (rows (mrow markQ 40 t z))) (h1 : ρ 1 = .int .i64 (s + 16)) (h5 : ρ 5 = .int .i64 (i : Int)) (next : ∀ ρ : Env, ρ 0 = .sl z c (rows (mrow markQ 40 t z)) → ρ 1 = .int .i64 (s + 17) → ρ 5 = .int .i64 (i : Int) → awpL Try.prog 0 (codeAt (fnCode Try.f98) [1, 0, 1, 2, 2, 1, 0, 2, 1, 1, 1, 1, 1, 1, 1, 1, 1, 1, 1, 1, 1, 1, 1, 1, 1, 1, 1, 1, 1, 1, 1, 1, 1, 1, 1, 1, 1, 1, 1, 1, 1, 1] :: cs) Q ρ []) :
    awpL Try.prog 0 (codeAt (fnCode Try.f98) [1, 0, 1, 2, 2, 1, 0, 2, 1, 1, 1, 1, 1, 1, 1, 1, 1, 1, 1, 1, 1, 1, 1, 1, 1, 1, 1, 1, 1, 1, 1, 1, 1, 1, 1, 1, 1, 1, 1, 1] :: cs) Q ρ [] := by
  have hq := seeQ16 (t := t) (z := z) hi hs
  refine awl_seq ?_
  refine awl_seq ?_
  refine awl_regS [(some 183, (.move (.tmp 0)), none), (some 184, (.move (.tmp 5)), none), (some 185, (.indexAddr 59 (.tmp 183) (.tmp 184)), none), (some 186, (.fieldAddr 96 (.tmp 185) 3), none), (some 187, (.fieldAddr 92 (.tmp 186) 2), none), (some 188, (.fieldAddr 42 (.tmp 187) 2), none), (some 189, (.fieldAddr 40 (.tmp 188) 0), none), (some 190, (.load 3 (.tmp 189)), none), (some 191, (.move (.tmp 1)), none), (some 192, (.binOp .neq 3 (.tmp 190) (.tmp 191) 3), none)] rfl fun K hK => ?_
  simp only [go_sem, simprocAttr, h0, h1, h5, hi, hq]
  repeat' (refine And.intro (by first | rfl | omega) ?_)
  refine hK _ _ (.mk (awl_live' [0, 1, 5, 192] fun ρ hL => ?_))
  simp only [go_sem, simprocAttr, h0, h1, h5] at hL
  obtain ⟨h0, h1, h5, h192⟩ := hL
  clear hK K
  refine awl_cond h192 (fun c1 => ?_) (fun c1 => ?_)
  · exact absurd c1 (by simp)
  clear c1 h192
  refine awl_skip ?_
  refine awl_seq ?_
  have w17_ : IntKind.i64.wrap (s + 16 + 1) = s + 17 := by rw [wrap64 (by omega)]; omega
  refine awl_regS [(some 193, (.move (.tmp 1)), none), (some 194, (.binOp .add 3 (.tmp 193) (.const (.int .i64 1)) 3), none), (some 1, (.assign (.tmp 194)), none)] rfl fun K hK => ?_
  simp only [go_sem, simprocAttr, h0, h1, h5, w17_]
  refine hK _ _ (.mk (awl_live' [0, 1, 5] fun ρ hL => ?_))
  simp only [go_sem, simprocAttr, h0, h1, h5, w17_] at hL
  obtain ⟨h0, h1, h5⟩ := hL
  exact next ρ h0 h1 h5
set_option maxRecDepth 100000 in
theorem seE17 {z : Nat} {t s : Int} {c i : Nat} (hi : i < z) (hs : s = t + (40 * i : Nat)) (hb : z ≤ 1099511627776) (ht : 0 ≤ t ∧ t ≤ 1099511627776) {cs : List Code} {Q : Exit → Env → Heap → Prop} {ρ : Env} (h0 : ρ 0 = .sl z c (rows (mrow markQ 40 t z))) (h1 : ρ 1 = .int .i64 (s + 17)) (h5 : ρ 5 = .int .i64 (i : Int)) (next : ∀ ρ : Env, ρ 0 = .sl z c (rows (mrow markQ 40 t z)) → ρ 1 = .int .i64 (s + 18) → ρ 5 = .int .i64 (i : Int) → awpL Try.prog 0 (codeAt (fnCode Try.f98) [1, 0, 1, 2, 2, 1, 0, 2, 1, 1, 1, 1, 1, 1, 1, 1, 1, 1, 1, 1, 1, 1, 1, 1, 1, 1, 1, 1, 1, 1, 1, 1, 1, 1, 1, 1, 1, 1, 1, 1, 1, 1, 1, 1] :: cs) Q ρ []) :
    awpL Try.prog 0 (codeAt (fnCode Try.f98) [1, 0, 1, 2, 2, 1, 0, 2, 1, 1, 1, 1, 1, 1, 1, 1, 1, 1, 1, 1, 1, 1, 1, 1, 1, 1, 1, 1, 1, 1, 1, 1, 1, 1, 1, 1, 1, 1, 1, 1, 1, 1] :: cs) Q ρ [] := by
  have hq := seeQ17 (t := t) (z := z) hi hs
  refine awl_seq ?_
  refine awl_seq ?_
  refine awl_regS [(some 195, (.move (.tmp 0)), none), (some 196, (.move (.tmp 5)), none), (some 197, (.indexAddr 59 (.tmp 195) (.tmp 196)), none), (some 198, (.fieldAddr 96 (.tmp 197) 3), none), (some 199, (.fieldAddr 92 (.tmp 198) 2), none), (some 200, (.fieldAddr 42 (.tmp 199) 2), none), (some 201, (.fieldAddr 40 (.tmp 200) 1), none), (some 202, (.load 3 (.tmp 201)), none), (some 203, (.move (.tmp 1)), none), (some 204, (.binOp .neq 3 (.tmp 202) (.tmp 203) 3), none)] rfl fun K hK => ?_
  simp only [go_sem, simprocAttr, h0, h1, h5, hi, hq]
  repeat' (refine And.intro (by first | rfl | omega) ?_)
  refine hK _ _ (.mk (awl_live' [0, 1, 5, 204] fun ρ hL => ?_))
  simp only [go_sem, simprocAttr, h0, h1, h5] at hL
  obtain ⟨h0, h1, h5, h204⟩ := hL
  clear hK K
  refine awl_cond h204 (fun c1 => ?_) (fun c1 => ?_)
  · exact absurd c1 (by simp)
  clear c1 h204
  refine awl_skip ?_
  refine awl_seq ?_
  have w18_ : IntKind.i64.wrap (s + 17 + 1) = s + 18 := by rw [wrap64 (by omega)]; omega
  refine awl_regS [(some 205, (.move (.tmp 1)), none), (some 206, (.binOp .add 3 (.tmp 205) (.const (.int .i64 1)) 3), none), (some 1, (.assign (.tmp 206)), none)] rfl fun K hK => ?_
  simp only [go_sem, simprocAttr, h0, h1, h5, w18_]
  refine hK _ _ (.mk (awl_live' [0, 1, 5] fun ρ hL => ?_))
  simp only [go_sem, simprocAttr, h0, h1, h5, w18_] at hL
  obtain ⟨h0, h1, h5⟩ := hL
  exact next ρ h0 h1 h5
set_option maxRecDepth 100000 in
theorem seE18 {z : Nat} {t s : Int} {c i : Nat} (hi : i < z) (hs : s = t + (40 * i : Nat)) (hb : z ≤ 1099511627776) (ht : 0 ≤ t ∧ t ≤ 1099511627776) {cs : List Code} {Q : Exit → Env → Heap → Prop} {ρ : Env} (h0 : ρ 0 = .sl z c (rows (mrow markQ 40 t z))) (h1 : ρ 1 = .int .i64 (s + 18)) (h5 : ρ 5 = .int .i64 (i : Int)) (next : ∀ ρ : Env, ρ 0 = .sl z c (rows (mrow markQ 40 t z)) → ρ 1 = .int .i64 (s + 19) → ρ 5 = .int .i64 (i : Int) → awpL Try.prog 0 (codeAt (fnCode Try.f98) [1, 0, 1, 2, 2, 1, 0, 2, 1, 1, 1, 1, 1, 1, 1, 1, 1, 1, 1, 1, 1, 1, 1, 1, 1, 1, 1, 1, 1, 1, 1, 1, 1, 1, 1, 1, 1, 1, 1, 1, 1, 1, 1, 1, 1, 1] :: cs) Q ρ []) :
    awpL Try.prog 0 (codeAt (fnCode Try.f98) [1, 0, 1, 2, 2, 1, 0, 2, 1, 1, 1, 1, 1, 1, 1, 1, 1, 1, 1, 1, 1, 1, 1, 1, 1, 1, 1, 1, 1, 1, 1, 1, 1, 1, 1, 1, 1, 1, 1, 1, 1, 1, 1, 1] :: cs) Q ρ [] := by
  have hq := seeQ18 (t := t) (z := z) hi hs
  refine awl_seq ?_
  refine awl_seq ?_
  refine awl_regS [(some 207, (.move (.tmp 0)), none), (some 208, (.move (.tmp 5)), none), (some 209, (.indexAddr 59 (.tmp 207) (.tmp 208)), none), (some 210, (.fieldAddr 96 (.tmp 209) 3), none), (some 211, (.fieldAddr 92 (.tmp 210) 2), none), (some 212, (.fieldAddr 42 (.tmp 211) 2), none), (some 213, (.fieldAddr 40 (.tmp 212) 2), none), (some 214, (.load 3 (.tmp 213)), none), (some 215, (.move (.tmp 1)), none), (some 216, (.binOp .neq 3 (.tmp 214) (.tmp 215) 3), none)] rfl fun K hK => ?_
  simp only [go_sem, simprocAttr, h0, h1, h5, hi, hq]
  repeat' (refine And.intro (by first | rfl | omega) ?_)
  refine hK _ _ (.mk (awl_live' [0, 1, 5, 216] fun ρ hL => ?_))
  simp only [go_sem, simprocAttr, h0, h1, h5] at hL
  obtain ⟨h0, h1, h5, h216⟩ := hL
  clear hK K
  refine awl_cond h216 (fun c1 => ?_) (fun c1 => ?_)
  · exact absurd c1 (by simp)
  clear c1 h216
  refine awl_skip ?_
  refine awl_seq ?_
  have w19_ : IntKind.i64.wrap (s + 18 + 1) = s + 19 := by rw [wrap64 (by omega)]; omega
  refine awl_regS [(some 217, (.move (.tmp 1)), none), (some 218, (.binOp .add 3 (.tmp 217) (.const (.int .i64 1)) 3), none), (some 1, (.assign (.tmp 218)), none)] rfl fun K hK => ?_
  simp only [go_sem, simprocAttr, h0, h1, h5, w19_]
  refine hK _ _ (.mk (awl_live' [0, 1, 5] fun ρ hL => ?_))
  simp only [go_sem, simprocAttr, h0, h1, h5, w19_] at hL
  obtain ⟨h0, h1, h5⟩ := hL
  exact next ρ h0 h1 h5
set_option maxRecDepth 100000 in
theorem seE19 {z : Nat} {t s : Int} {c i : Nat} (hi : i < z) (hs : s = t + (40 * i : Nat)) (hb : z ≤ 1099511627776) (ht : 0 ≤ t ∧ t ≤ 1099511627776) {cs : List Code} {Q : Exit → Env → Heap → Prop} {ρ : Env} (h0 : ρ 0 = .sl z c (rows (mrow markQ 40 t z))) (h1 : ρ 1 = .int .i64 (s + 19)) (h5 : ρ 5 = .int .i64 (i : Int)) (next : ∀ ρ : Env, ρ 0 = .sl z c (rows (mrow markQ 40 t z)) → ρ 1 = .int .i64 (s + 20) → ρ 5 = .int .i64 (i : Int) → awpL Try.prog 0 (codeAt (fnCode Try.f98) [1, 0, 1, 2, 2, 1, 0, 2, 1, 1, 1, 1, 1, 1, 1, 1, 1, 1, 1, 1, 1, 1, 1, 1, 1, 1, 1, 1, 1, 1, 1, 1, 1, 1, 1, 1, 1, 1, 1, 1, 1, 1, 1, 1, 1, 1, 1, 1] :: cs) Q ρ []) :
    awpL Try.prog 0 (codeAt (fnCode Try.f98) [1, 0, 1, 2, 2, 1, 0, 2, 1, 1, 1, 1, 1, 1, 1, 1, 1, 1, 1, 1, 1, 1, 1, 1, 1, 1, 1, 1, 1, 1, 1, 1, 1, 1, 1, 1, 1, 1, 1, 1, 1, 1, 1, 1, 1, 1] :: cs) Q ρ [] := by
  have hq := seeQ19 (t := t) (z := z) hi hs
  refine awl_seq ?_
  refine awl_seq ?_
  refine awl_regS [(some 219, (.move (.tmp 0)), none), (some 220, (.move (.tmp 5)), none), (some 221, (.indexAddr 59 (.tmp 219) (.tmp 220)), none), (some 222, (.fieldAddr 96 (.tmp 221) 3), none), (some 223, (.fieldAddr 92 (.tmp 222) 2), none), (some 224, (.fieldAddr 42 (.tmp 223) 2), none), (some 225, (.fieldAddr 40 (.tmp 224) 3), none), (some 226, (.load 3 (.tmp 225)), none), (some 227, (.move (.tmp 1)), none), (some 228, (.binOp .neq 3 (.tmp 226) (.tmp 227) 3), none)] rfl fun K hK => ?_
  simp only [go_sem, simprocAttr, h0, h1, h5, hi, hq]
  repeat' (refine And.intro (by first | rfl | omega) ?_)
  refine hK _ _ (.mk (awl_live' [0, 1, 5, 228] fun ρ hL => ?_))
  simp only [go_sem, simprocAttr, h0, h1, h5] at hL
  obtain ⟨h0, h1, h5, h228⟩ := hL
  clear hK K
  refine awl_cond h228 (fun c1 => ?_) (fun c1 => ?_)
  · exact absurd c1 (by simp)
  clear c1 h228
  refine awl_skip ?_
  refine awl_seq ?_
  have w20_ : IntKind.i64.wrap (s + 19 + 1) = s + 20 := by rw [wrap64 (by omega)]; omega
  refine awl_regS [(some 229, (.move (.tmp 1)), none), (some 230, (.binOp .add 3 (.tmp 229) (.const (.int .i64 1)) 3), none), (some 1, (.assign (.tmp 230)), none)] rfl fun K hK => ?_
  simp only [go_sem, simprocAttr, h0, h1, h5, w20_]
  refine hK _ _ (.mk (awl_live' [0, 1, 5] fun ρ hL => ?_))
  simp only [go_sem, simprocAttr, h0, h1, h5, w20_] at hL
  obtain ⟨h0, h1, h5⟩ := hL
  exact next ρ h0 h1 h5
set_option maxRecDepth 100000 in
theorem seE20 {z : Nat} {t s : Int} {c i : Nat} (hi : i < z) (hs : s = t + (40 * i : Nat)) (hb : z ≤ 1099511627776) (ht : 0 ≤ t ∧ t ≤ 1099511627776) {cs : List Code} {Q : Exit → Env → Heap → Prop} {ρ : Env} (h0 : ρ 0 = .sl z c (rows (mrow markQ 40 t z))) (h1 : ρ 1 = .int .i64 (s + 20)) (h5 : ρ 5 = .int .i64 (i : Int)) (next : ∀ ρ : Env, ρ 0 = .sl z c (rows (mrow markQ 40 t z)) → ρ 1 = .int .i64 (s + 21) → ρ 5 = .int .i64 (i : Int) → awpL Try.prog 0 (codeAt (fnCode Try.f98) [1, 0, 1, 2, 2, 1, 0, 2, 1, 1, 1, 1, 1, 1, 1, 1, 1, 1, 1, 1, 1, 1, 1, 1, 1, 1, 1, 1, 1, 1, 1, 1, 1, 1, 1, 1, 1, 1, 1, 1, 1, 1, 1, 1, 1, 1, 1, 1, 1, 1] :: cs) Q ρ []) :
    awpL Try.prog 0 (codeAt (fnCode Try.f98) [1, 0, 1, 2, 2, 1, 0, 2, 1, 1, 1, 1, 1, 1, 1, 1, 1, 1, 1, 1, 1, 1, 1, 1, 1, 1, 1, 1, 1, 1, 1, 1, 1, 1, 1, 1, 1, 1, 1, 1, 1, 1, 1, 1, 1, 1, 1, 1] :: cs) Q ρ [] := by
  have hq := seeQ20 (t := t) (z := z) hi hs
  refine awl_seq ?_
  refine awl_seq ?_
  refine awl_regS [(some 231, (.move (.tmp 0)), none), (some 232, (.move (.tmp 5)), none), (some 233, (.indexAddr 59 (.tmp 231) (.tmp 232)), none), (some 234, (.fieldAddr 96 (.tmp 233) 3), none), (some 235, (.fieldAddr 92 (.tmp 234) 3), none), (some 236, (.fieldAddr 42 (.tmp 235) 0), none), (some 237, (.load 3 (.tmp 236)), none), (some 238, (.move (.tmp 1)), none), (some 239, (.binOp .neq 3 (.tmp 237) (.tmp 238) 3), none)] rfl fun K hK => ?_
  simp only [go_sem, simprocAttr, h0, h1, h5, hi, hq]
  repeat' (refine And.intro (by first | rfl | omega) ?_)
  refine hK _ _ (.mk (awl_live' [0, 1, 5, 239] fun ρ hL => ?_))
  simp only [go_sem, simprocAttr, h0, h1, h5] at hL
  obtain ⟨h0, h1, h5, h239⟩ := hL
  clear hK K
  refine awl_cond h239 (fun c1 => ?_) (fun c1 => ?_)
  · exact absurd c1 (by simp)
  clear c1 h239
  refine awl_skip ?_
  refine awl_seq ?_
  have w21_ : IntKind.i64.wrap (s + 20 + 1) = s + 21 := by rw [wrap64 (by omega)]; omega
  refine awl_regS [(some 240, (.move (.tmp 1)), none), (some 241, (.binOp .add 3 (.tmp 240) (.const (.int .i64 1)) 3), none), (some 1, (.assign (.tmp 241)), none)] rfl fun K hK => ?_
  simp only [go_sem, simprocAttr, h0, h1, h5, w21_]
  refine hK _ _ (.mk (awl_live' [0, 1, 5] fun ρ hL => ?_))
  simp only [go_sem, simprocAttr, h0, h1, h5, w21_] at hL
  obtain ⟨h0, h1, h5⟩ := hL
  exact next ρ h0 h1 h5
set_option maxRecDepth 100000 in
theorem seE21 {z : Nat} {t s : Int} {c i : Nat} (hi : i < z) (hs : s = t + (40 * i : Nat)) (hb : z ≤ 1099511627776) (ht : 0 ≤ t ∧ t ≤ 1099511627776) {cs : List Code} {Q : Exit → Env → Heap → Prop} {ρ : Env} (h0 : ρ 0 = .sl z c (rows (mrow markQ 40 t z))) (h1 : ρ 1 = .int .i64 (s + 21)) (h5 : ρ 5 = .int .i64 (i : Int)) (next : ∀ ρ : Env, ρ 0 = .sl z c (rows (mrow markQ 40 t z)) → ρ 1 = .int .i64 (s + 22) → ρ 5 = .int .i64 (i : Int) → awpL Try.prog 0 (codeAt (fnCode Try.f98) [1, 0, 1, 2, 2, 1, 0, 2, 1, 1, 1, 1, 1, 1, 1, 1, 1, 1, 1, 1, 1, 1, 1, 1, 1, 1, 1, 1, 1, 1, 1, 1, 1, 1, 1, 1, 1, 1, 1, 1, 1, 1, 1, 1, 1, 1, 1, 1, 1, 1, 1, 1] :: cs) Q ρ []) :
    awpL Try.prog 0 (codeAt (fnCode Try.f98) [1, 0, 1, 2, 2, 1, 0, 2, 1, 1, 1, 1, 1, 1, 1, 1, 1, 1, 1, 1, 1, 1, 1, 1, 1, 1, 1, 1, 1, 1, 1, 1, 1, 1, 1, 1, 1, 1, 1, 1, 1, 1, 1, 1, 1, 1, 1, 1, 1, 1] :: cs) Q ρ [] := by
  have hq := seeQ21 (t := t) (z := z) hi hs
  refine awl_seq ?_
  refine awl_seq ?_
  refine awl_regS [(some 242, (.move (.tmp 0)), none), (some 243, (.move (.tmp 5)), none), (some 244, (.indexAddr 59 (.tmp 242) (.tmp 243)), none), (some 245, (.fieldAddr 96 (.tmp 244) 3), none), (some 246, (.fieldAddr 92 (.tmp 245) 3), none), (some 247, (.fieldAddr 42 (.tmp 246) 1), none), (some 248, (.load 4 (.tmp 247)), none), (some 249, (.move (.tmp 1)), none), (some 250, (.binOp .rem 3 (.tmp 249) (.const (.int .i64 3)) 3), none), (some 251, (.binOp .eql 3 (.tmp 250) (.const (.int .i64 0)) 3), none), (some 252, (.binOp .neq 4 (.tmp 248) (.tmp 251) 4), none)] rfl fun K hK => ?_
  simp only [go_sem, simprocAttr, h0, h1, h5, hi, hq]
  repeat' (refine And.intro (by first | rfl | omega) ?_)
  refine hK _ _ (.mk (awl_live' [0, 1, 5, 252] fun ρ hL => ?_))
  simp only [go_sem, simprocAttr, h0, h1, h5] at hL
  obtain ⟨h0, h1, h5, h252⟩ := hL
  clear hK K
  refine awl_cond h252 (fun c1 => ?_) (fun c1 => ?_)
  · exact absurd c1 (by simp)
  clear c1 h252
  refine awl_skip ?_
  refine awl_seq ?_
  have w22_ : IntKind.i64.wrap (s + 21 + 1) = s + 22 := by rw [wrap64 (by omega)]; omega
  refine awl_regS [(some 253, (.move (.tmp 1)), none), (some 254, (.binOp .add 3 (.tmp 253) (.const (.int .i64 1)) 3), none), (some 1, (.assign (.tmp 254)), none)] rfl fun K hK => ?_
  simp only [go_sem, simprocAttr, h0, h1, h5, w22_]
  refine hK _ _ (.mk (awl_live' [0, 1, 5] fun ρ hL => ?_))
  simp only [go_sem, simprocAttr, h0, h1, h5, w22_] at hL
  obtain ⟨h0, h1, h5⟩ := hL
  exact next ρ h0 h1 h5
set_option maxRecDepth 100000 in
theorem seE22 {z : Nat} {t s : Int} {c i : Nat} (hi : i < z) (hs : s = t + (40 * i : Nat)) (hb : z ≤ 1099511627776) (ht : 0 ≤ t ∧ t ≤ 1099511627776) {cs : List Code} {Q : Exit → Env → Heap → Prop} {ρ : Env} (h0 : ρ 0 = .sl z c (rows (mrow markQ 40 t z))) (h1 : ρ 1 = .int .i64 (s + 22)) (h5 : ρ 5 = .int .i64 (i : Int)) (next : ∀ ρ : Env, ρ 0 = .sl z c (rows (mrow markQ 40 t z)) → ρ 1 = .int .i64 (s + 23) → ρ 5 = .int .i64 (i : Int) → awpL Try.prog 0 (codeAt (fnCode Try.f98) [1, 0, 1, 2, 2, 1, 0, 2, 1, 1, 1, 1, 1, 1, 1, 1, 1, 1, 1, 1, 1, 1, 1, 1, 1, 1, 1, 1, 1, 1, 1, 1, 1, 1, 1, 1, 1, 1, 1, 1, 1, 1, 1, 1, 1, 1, 1, 1, 1, 1, 1, 1, 1, 1] :: cs) Q ρ []) :
    awpL Try.prog 0 (codeAt (fnCode Try.f98) [1, 0, 1, 2, 2, 1, 0, 2, 1, 1, 1, 1, 1, 1, 1, 1, 1, 1, 1, 1, 1, 1, 1, 1, 1, 1, 1, 1, 1, 1, 1, 1, 1, 1, 1, 1, 1, 1, 1, 1, 1, 1, 1, 1, 1, 1, 1, 1, 1, 1, 1, 1] :: cs) Q ρ [] := by
  have hq := seeQ22 (t := t) (z := z) hi hs
  refine awl_seq ?_
  refine awl_seq ?_
  refine awl_regS [(some 255, (.move (.tmp 0)), none), (some 256, (.move (.tmp 5)), none), (some 257, (.indexAddr 59 (.tmp 255) (.tmp 256)), none), (some 258, (.fieldAddr 96 (.tmp 257) 3), none), (some 259, (.fieldAddr 92 (.tmp 258) 3), none), (some 260, (.fieldAddr 42 (.tmp 259) 2), none), (some 261, (.fieldAddr 40 (.tmp 260) 0), none), (some 262, (.load 3 (.tmp 261)), none), (some 263, (.move (.tmp 1)), none), (some 264, (.binOp .neq 3 (.tmp 262) (.tmp 263) 3), none)] rfl fun K hK => ?_
  simp only [go_sem, simprocAttr, h0, h1, h5, hi, hq]
  repeat' (refine And.intro (by first | rfl | omega) ?_)
  refine hK _ _ (.mk (awl_live' [0, 1, 5, 264] fun ρ hL => ?_))
  simp only [go_sem, simprocAttr, h0, h1, h5] at hL
  obtain ⟨h0, h1, h5, h264⟩ := hL
  clear hK K
  refine awl_cond h264 (fun c1 => ?_) (fun c1 => ?_)
  · exact absurd c1 (by simp)
  clear c1 h264
  refine awl_skip ?_
  refine awl_seq ?_
  have w23_ : IntKind.i64.wrap (s + 22 + 1) = s + 23 := by rw [wrap64 (by omega)]; omega
  refine awl_regS [(some 265, (.move (.tmp 1)), none), (some 266, (.binOp .add 3 (.tmp 265) (.const (.int .i64 1)) 3), none), (some 1, (.assign (.tmp 266)), none)] rfl fun K hK => ?_
  simp only [go_sem, simprocAttr, h0, h1, h5, w23_]
  refine hK _ _ (.mk (awl_live' [0, 1, 5] fun ρ hL => ?_))
  simp only [go_sem, simprocAttr, h0, h1, h5, w23_] at hL
  obtain ⟨h0, h1, h5⟩ := hL
  exact next ρ h0 h1 h5
set_option maxRecDepth 100000 in
theorem seE23 {z : Nat} {t s : Int} {c i : Nat} (hi : i < z) (hs : s = t + (40 * i : Nat)) (hb : z ≤ 1099511627776) (ht : 0 ≤ t ∧ t ≤ 1099511627776) {cs : List Code} {Q : Exit → Env → Heap → Prop} {ρ : Env} (h0 : ρ 0 = .sl z c (rows (mrow markQ 40 t z))) (h1 : ρ 1 = .int .i64 (s + 23)) (h5 : ρ 5 = .int .i64 (i : Int)) (next : ∀ ρ : Env, ρ 0 = .sl z c (rows (mrow markQ 40 t z)) → ρ 1 = .int .i64 (s + 24) → ρ 5 = .int .i64 (i : Int) → awpL Try.prog 0 (codeAt (fnCode Try.f98) [1, 0, 1, 2, 2, 1, 0, 2, 1, 1, 1, 1, 1, 1, 1, 1, 1, 1, 1, 1, 1, 1, 1, 1, 1, 1, 1, 1, 1, 1, 1, 1, 1, 1, 1, 1, 1, 1, 1, 1, 1, 1, 1, 1, 1, 1, 1, 1, 1, 1, 1, 1, 1, 1, 1, 1] :: cs) Q ρ []) :
    awpL Try.prog 0 (codeAt (fnCode Try.f98) [1, 0, 1, 2, 2, 1, 0, 2, 1, 1, 1, 1, 1, 1, 1, 1, 1, 1, 1, 1, 1, 1, 1, 1, 1, 1, 1, 1, 1, 1, 1, 1, 1, 1, 1, 1, 1, 1, 1, 1, 1, 1, 1, 1, 1, 1, 1, 1, 1, 1, 1, 1, 1, 1] :: cs) Q ρ [] := by
  have hq := seeQ23 (t := t) (z := z) hi hs
  refine awl_seq ?_
  refine awl_seq ?_
  refine awl_regS [(some 267, (.move (.tmp 0)), none), (some 268, (.move (.tmp 5)), none), (some 269, (.indexAddr 59 (.tmp 267) (.tmp 268)), none), (some 270, (.fieldAddr 96 (.tmp 269) 3), none), (some 271, (.fieldAddr 92 (.tmp 270) 3), none), (some 272, (.fieldAddr 42 (.tmp 271) 2), none), (some 273, (.fieldAddr 40 (.tmp 272) 1), none), (some 274, (.load 3 (.tmp 273)), none), (some 275, (.move (.tmp 1)), none), (some 276, (.binOp .neq 3 (.tmp 274) (.tmp 275) 3), none)] rfl fun K hK => ?_
  simp only [go_sem, simprocAttr, h0, h1, h5, hi, hq]
  repeat' (refine And.intro (by first | rfl | omega) ?_)
  refine hK _ _ (.mk (awl_live' [0, 1, 5, 276] fun ρ hL => ?_))
  simp only [go_sem, simprocAttr, h0, h1, h5] at hL
  obtain ⟨h0, h1, h5, h276⟩ := hL
  clear hK K
  refine awl_cond h276 (fun c1 => ?_) (fun c1 => ?_)
  · exact absurd c1 (by simp)
  clear c1 h276
  refine awl_skip ?_
  refine awl_seq ?_
  have w24_ : IntKind.i64.wrap (s + 23 + 1) = s + 24 := by rw [wrap64 (by omega)]; omega
  refine awl_regS [(some 277, (.move (.tmp 1)), none), (some 278, (.binOp .add 3 (.tmp 277) (.const (.int .i64 1)) 3), none), (some 1, (.assign (.tmp 278)), none)] rfl fun K hK => ?_
  simp only [go_sem, simprocAttr, h0, h1, h5, w24_]
  refine hK _ _ (.mk (awl_live' [0, 1, 5] fun ρ hL => ?_))
  simp only [go_sem, simprocAttr, h0, h1, h5, w24_] at hL
  obtain ⟨h0, h1, h5⟩ := hL
  exact next ρ h0 h1 h5
set_option maxRecDepth 100000 in
theorem seE24 {z : Nat} {t s : Int} {c i : Nat} (hi : i < z) (hs : s = t + (40 * i : Nat)) (hb : z ≤ 1099511627776) (ht : 0 ≤ t ∧ t ≤ 1099511627776) {cs : List Code} {Q : Exit → Env → Heap → Prop} {ρ : Env} (h0 : ρ 0 = .sl z c (rows (mrow markQ 40 t z))) (h1 : ρ 1 = .int .i64 (s + 24)) (h5 : ρ 5 = .int .i64 (i : Int)) (next : ∀ ρ : Env, ρ 0 = .sl z c (rows (mrow markQ 40 t z)) → ρ 1 = .int .i64 (s + 25) → ρ 5 = .int .i64 (i : Int) → awpL Try.prog 0 (codeAt (fnCode Try.f98) [1, 0, 1, 2, 2, 1, 0, 2, 1, 1, 1, 1, 1, 1, 1, 1, 1, 1, 1, 1, 1, 1, 1, 1, 1, 1, 1, 1, 1, 1, 1, 1, 1, 1, 1, 1, 1, 1, 1, 1, 1, 1, 1, 1, 1, 1, 1, 1, 1, 1, 1, 1, 1, 1, 1, 1, 1, 1] :: cs) Q ρ []) :
    awpL Try.prog 0 (codeAt (fnCode Try.f98) [1, 0, 1, 2, 2, 1, 0, 2, 1, 1, 1, 1, 1, 1, 1, 1, 1, 1, 1, 1, 1, 1, 1, 1, 1, 1, 1, 1, 1, 1, 1, 1, 1, 1, 1, 1, 1, 1, 1, 1, 1, 1, 1, 1, 1, 1, 1, 1, 1, 1, 1, 1, 1, 1, 1, 1] :: cs) Q ρ [] := by
  have hq := seeQ24 (t := t) (z := z) hi hs
  refine awl_seq ?_
  refine awl_seq ?_
  refine awl_regS [(some 279, (.move (.tmp 0)), none), (some 280, (.move (.tmp 5)), none), (some 281, (.indexAddr 59 (.tmp 279) (.tmp 280)), none), (some 282, (.fieldAddr 96 (.tmp 281) 3), none), (some 283, (.fieldAddr 92 (.tmp 282) 3), none), (some 284, (.fieldAddr 42 (.tmp 283) 2), none), (some 285, (.fieldAddr 40 (.tmp 284) 2), none), (some 286, (.load 3 (.tmp 285)), none), (some 287, (.move (.tmp 1)), none), (some 288, (.binOp .neq 3 (.tmp 286) (.tmp 287) 3), none)] rfl fun K hK => ?_
  simp only [go_sem, simprocAttr, h0, h1, h5, hi, hq]
  repeat' (refine And.intro (by first | rfl | omega) ?_)
  refine hK _ _ (.mk (awl_live' [0, 1, 5, 288] fun ρ hL => ?_))
  simp only [go_sem, simprocAttr, h0, h1, h5] at hL
  obtain ⟨h0, h1, h5, h288⟩ := hL
  clear hK K
  refine awl_cond h288 (fun c1 => ?_) (fun c1 => ?_)
  · exact absurd c1 (by simp)
  clear c1 h288
  refine awl_skip ?_
  refine awl_seq ?_
  have w25_ : IntKind.i64.wrap (s + 24 + 1) = s + 25 := by rw [wrap64 (by omega)]; omega
  refine awl_regS [(some 289, (.move (.tmp 1)), none), (some 290, (.binOp .add 3 (.tmp 289) (.const (.int .i64 1)) 3), none), (some 1, (.assign (.tmp 290)), none)] rfl fun K hK => ?_
  simp only [go_sem, simprocAttr, h0, h1, h5, w25_]
  refine hK _ _ (.mk (awl_live' [0, 1, 5] fun ρ hL => ?_))
  simp only [go_sem, simprocAttr, h0, h1, h5, w25_] at hL
  obtain ⟨h0, h1, h5⟩ := hL
  exact next ρ h0 h1 h5
set_option maxRecDepth 100000 in
theorem seE25 {z : Nat} {t s : Int} {c i : Nat} (hi : i < z) (hs : s = t + (40 * i : Nat)) (hb : z ≤ 1099511627776) (ht : 0 ≤ t ∧ t ≤ 1099511627776) {cs : List Code} {Q : Exit → Env → Heap → Prop} {ρ : Env} (h0 : ρ 0 = .sl z c (rows (mrow markQ 40 t z))) (h1 : ρ 1 = .int .i64 (s + 25)) (h5 : ρ 5 = .int .i64 (i : Int)) (next : ∀ ρ : Env, ρ 0 = .sl z c (rows (mrow markQ 40 t z)) → ρ 1 = .int .i64 (s + 26) → ρ 5 = .int .i64 (i : Int) → awpL Try.prog 0 (codeAt (fnCode Try.f98) [1, 0, 1, 2, 2, 1, 0, 2, 1, 1, 1, 1, 1, 1, 1, 1, 1, 1, 1, 1, 1, 1, 1, 1, 1, 1, 1, 1, 1, 1, 1, 1, 1, 1, 1, 1, 1, 1, 1, 1, 1, 1, 1, 1, 1, 1, 1, 1, 1, 1, 1, 1, 1, 1, 1, 1, 1, 1, 1, 1] :: cs) Q ρ []) :
    awpL Try.prog 0 (codeAt (fnCode Try.f98) [1, 0, 1, 2, 2, 1, 0, 2, 1, 1, 1, 1, 1, 1, 1, 1, 1, 1, 1, 1, 1, 1, 1, 1, 1, 1, 1, 1, 1, 1, 1, 1, 1, 1, 1, 1, 1, 1, 1, 1, 1, 1, 1, 1, 1, 1, 1, 1, 1, 1, 1, 1, 1, 1, 1, 1, 1, 1] :: cs) Q ρ [] := by
  have hq := seeQ25 (t := t) (z := z) hi hs
  refine awl_seq ?_
  refine awl_seq ?_
  refine awl_regS [(some 291, (.move (.tmp 0)), none), (some 292, (.move (.tmp 5)), none), (some 293, (.indexAddr 59 (.tmp 291) (.tmp 292)), none), (some 294, (.fieldAddr 96 (.tmp 293) 3), none), (some 295, (.fieldAddr 92 (.tmp 294) 3), none), (some 296, (.fieldAddr 42 (.tmp 295) 2), none), (some 297, (.fieldAddr 40 (.tmp 296) 3), none), (some 298, (.load 3 (.tmp 297)), none), (some 299, (.move (.tmp 1)), none), (some 300, (.binOp .neq 3 (.tmp 298) (.tmp 299) 3), none)] rfl fun K hK => ?_
  simp only [go_sem, simprocAttr, h0, h1, h5, hi, hq]
  repeat' (refine And.intro (by first | rfl | omega) ?_)
  refine hK _ _ (.mk (awl_live' [0, 1, 5, 300] fun ρ hL => ?_))
  simp only [go_sem, simprocAttr, h0, h1, h5] at hL
  obtain ⟨h0, h1, h5, h300⟩ := hL
  clear hK K
  refine awl_cond h300 (fun c1 => ?_) (fun c1 => ?_)
  · exact absurd c1 (by simp)
  clear c1 h300
  refine awl_skip ?_
  refine awl_seq ?_
  have w26_ : IntKind.i64.wrap (s + 25 + 1) = s + 26 := by rw [wrap64 (by omega)]; omega
  refine awl_regS [(some 301, (.move (.tmp 1)), none), (some 302, (.binOp .add 3 (.tmp 301) (.const (.int .i64 1)) 3), none), (some 1, (.assign (.tmp 302)), none)] rfl fun K hK => ?_
  simp only [go_sem, simprocAttr, h0, h1, h5, w26_]
  refine hK _ _ (.mk (awl_live' [0, 1, 5] fun ρ hL => ?_))
  simp only [go_sem, simprocAttr, h0, h1, h5, w26_] at hL
  obtain ⟨h0, h1, h5⟩ := hL
  exact next ρ h0 h1 h5
set_option maxRecDepth 100000 in
theorem seE26 {z : Nat} {t s : Int} {c i : Nat} (hi : i < z) (hs : s = t + (40 * i : Nat)) (hb : z ≤ 1099511627776) (ht : 0 ≤ t ∧ t ≤ 1099511627776) {cs : List Code} {Q : Exit → Env → Heap → Prop} {ρ : Env} (h0 : ρ 0 = .sl z c (rows (mrow markQ 40 t z))) (h1 : ρ 1 = .int .i64 (s + 26)) (h5 : ρ 5 = .int .i64 (i : Int)) (next : ∀ ρ : Env, ρ 0 = .sl z c (rows (mrow markQ 40 t z)) → ρ 1 = .int .i64 (s + 27) → ρ 5 = .int .i64 (i : Int) → awpL Try.prog 0 (codeAt (fnCode Try.f98) [1, 0, 1, 2, 2, 1, 0, 2, 1, 1, 1, 1, 1, 1, 1, 1, 1, 1, 1, 1, 1, 1, 1, 1, 1, 1, 1, 1, 1, 1, 1, 1, 1, 1, 1, 1, 1, 1, 1, 1, 1, 1, 1, 1, 1, 1, 1, 1, 1, 1, 1, 1, 1, 1, 1, 1, 1, 1, 1, 1, 1, 1] :: cs) Q ρ []) :
    awpL Try.prog 0 (codeAt (fnCode Try.f98) [1, 0, 1, 2, 2, 1, 0, 2, 1, 1, 1, 1, 1, 1, 1, 1, 1, 1, 1, 1, 1, 1, 1, 1, 1, 1, 1, 1, 1, 1, 1, 1, 1, 1, 1, 1, 1, 1, 1, 1, 1, 1, 1, 1, 1, 1, 1, 1, 1, 1, 1, 1, 1, 1, 1, 1, 1, 1, 1, 1] :: cs) Q ρ [] := by
  have hq := seeQ26 (t := t) (z := z) hi hs
  refine awl_seq ?_
  refine awl_seq ?_
  refine awl_regS [(some 303, (.move (.tmp 0)), none), (some 304, (.move (.tmp 5)), none), (some 305, (.indexAddr 59 (.tmp 303) (.tmp 304)), none), (some 306, (.fieldAddr 96 (.tmp 305) 3), none), (some 307, (.fieldAddr 92 (.tmp 306) 4), none), (some 308, (.load 3 (.tmp 307)), none), (some 309, (.move (.tmp 1)), none), (some 310, (.binOp .neq 3 (.tmp 308) (.tmp 309) 3), none)] rfl fun K hK => ?_
  simp only [go_sem, simprocAttr, h0, h1, h5, hi, hq]
  repeat' (refine And.intro (by first | rfl | omega) ?_)
  refine hK _ _ (.mk (awl_live' [0, 1, 5, 310] fun ρ hL => ?_))
  simp only [go_sem, simprocAttr, h0, h1, h5] at hL
  obtain ⟨h0, h1, h5, h310⟩ := hL
  clear hK K
  refine awl_cond h310 (fun c1 => ?_) (fun c1 => ?_)
  · exact absurd c1 (by simp)
  clear c1 h310
  refine awl_skip ?_
  refine awl_seq ?_
  have w27_ : IntKind.i64.wrap (s + 26 + 1) = s + 27 := by rw [wrap64 (by omega)]; omega
  refine awl_regS [(some 311, (.move (.tmp 1)), none), (some 312, (.binOp .add 3 (.tmp 311) (.const (.int .i64 1)) 3), none), (some 1, (.assign (.tmp 312)), none)] rfl fun K hK => ?_
  simp only [go_sem, simprocAttr, h0, h1, h5, w27_]
  refine hK _ _ (.mk (awl_live' [0, 1, 5] fun ρ hL => ?_))
  simp only [go_sem, simprocAttr, h0, h1, h5, w27_] at hL
  obtain ⟨h0, h1, h5⟩ := hL
  exact next ρ h0 h1 h5
set_option maxRecDepth 100000 in
theorem seE27 {z : Nat} {t s : Int} {c i : Nat} (hi : i < z) (hs : s = t + (40 * i : Nat)) (hb : z ≤ 1099511627776) (ht : 0 ≤ t ∧ t ≤ 1099511627776) {cs : List Code} {Q : Exit → Env → Heap → Prop} {ρ : Env} (h0 : ρ 0 = .sl z c (rows (mrow markQ 40 t z))) (h1 : ρ 1 = .int .i64 (s + 27)) (h5 : ρ 5 = .int .i64 (i : Int)) (next : ∀ ρ : Env, ρ 0 = .sl z c (rows (mrow markQ 40 t z)) → ρ 1 = .int .i64 (s + 28) → ρ 5 = .int .i64 (i : Int) → awpL Try.prog 0 (codeAt (fnCode Try.f98) [1, 0, 1, 2, 2, 1, 0, 2, 1, 1, 1, 1, 1, 1, 1, 1, 1, 1, 1, 1, 1, 1, 1, 1, 1, 1, 1, 1, 1, 1, 1, 1, 1, 1, 1, 1, 1, 1, 1, 1, 1, 1, 1, 1, 1, 1, 1, 1, 1, 1, 1, 1, 1, 1, 1, 1, 1, 1, 1, 1, 1, 1, 1, 1] :: cs) Q ρ []) :
    awpL Try.prog 0 (codeAt (fnCode Try.f98) [1, 0, 1, 2, 2, 1, 0, 2, 1, 1, 1, 1, 1, 1, 1, 1, 1, 1, 1, 1, 1, 1, 1, 1, 1, 1, 1, 1, 1, 1, 1, 1, 1, 1, 1, 1, 1, 1, 1, 1, 1, 1, 1, 1, 1, 1, 1, 1, 1, 1, 1, 1, 1, 1, 1, 1, 1, 1, 1, 1, 1, 1] :: cs) Q ρ [] := by
  have hq := seeQ27 (t := t) (z := z) hi hs
  refine awl_seq ?_
  refine awl_seq ?_
  refine awl_regS [(some 313, (.move (.tmp 0)), none), (some 314, (.move (.tmp 5)), none), (some 315, (.indexAddr 59 (.tmp 313) (.tmp 314)), none), (some 316, (.fieldAddr 96 (.tmp 315) 3), none), (some 317, (.fieldAddr 92 (.tmp 316) 5), none), (some 318, (.fieldAddr 42 (.tmp 317) 0), none), (some 319, (.load 3 (.tmp 318)), none), (some 320, (.move (.tmp 1)), none), (some 321, (.binOp .neq 3 (.tmp 319) (.tmp 320) 3), none)] rfl fun K hK => ?_
  simp only [go_sem, simprocAttr, h0, h1, h5, hi, hq]
  repeat' (refine And.intro (by first | rfl | omega) ?_)
  refine hK _ _ (.mk (awl_live' [0, 1, 5, 321] fun ρ hL => ?_))
  simp only [go_sem, simprocAttr, h0, h1, h5] at hL
  obtain ⟨h0, h1, h5, h321⟩ := hL
  clear hK K
  refine awl_cond h321 (fun c1 => ?_) (fun c1 => ?_)
  · exact absurd c1 (by simp)
  clear c1 h321
  refine awl_skip ?_
  refine awl_seq ?_
  have w28_ : IntKind.i64.wrap (s + 27 + 1) = s + 28 := by rw [wrap64 (by omega)]; omega
  refine awl_regS [(some 322, (.move (.tmp 1)), none), (some 323, (.binOp .add 3 (.tmp 322) (.const (.int .i64 1)) 3), none), (some 1, (.assign (.tmp 323)), none)] rfl fun K hK => ?_
  simp only [go_sem, simprocAttr, h0, h1, h5, w28_]
  refine hK _ _ (.mk (awl_live' [0, 1, 5] fun ρ hL => ?_))
  simp only [go_sem, simprocAttr, h0, h1, h5, w28_] at hL
  obtain ⟨h0, h1, h5⟩ := hL
  exact next ρ h0 h1 h5
set_option maxRecDepth 100000 in
theorem seE28 {z : Nat} {t s : Int} {c i : Nat} (hi : i < z) (hs : s = t + (40 * i : Nat)) (hb : z ≤ 1099511627776) (ht : 0 ≤ t ∧ t ≤ 1099511627776) {cs : List Code} {Q : Exit → Env → Heap → Prop} {ρ : Env} (h0 : ρ 0 = .sl z c (rows (mrow markQ 40 t z))) (h1 : ρ 1 = .int .i64 (s + 28)) (h5 : ρ 5 = .int .i64 (i : Int)) (next : ∀ ρ : Env, ρ 0 = .sl z c (rows (mrow markQ 40 t z)) → ρ 1 = .int .i64 (s + 29) → ρ 5 = .int .i64 (i : Int) → awpL Try.prog 0 (codeAt (fnCode Try.f98) [1, 0, 1, 2, 2, 1, 0, 2, 1, 1, 1, 1, 1, 1, 1, 1, 1, 1, 1, 1, 1, 1, 1, 1, 1, 1, 1, 1, 1, 1, 1, 1, 1, 1, 1, 1, 1, 1, 1, 1, 1, 1, 1, 1, 1, 1, 1, 1, 1, 1, 1, 1, 1, 1, 1, 1, 1, 1, 1, 1, 1, 1, 1, 1, 1, 1] :: cs) Q ρ []) :
    awpL Try.prog 0 (codeAt (fnCode Try.f98) [1, 0, 1, 2, 2, 1, 0, 2, 1, 1, 1, 1, 1, 1, 1, 1, 1, 1, 1, 1, 1, 1, 1, 1, 1, 1, 1, 1, 1, 1, 1, 1, 1, 1, 1, 1, 1, 1, 1, 1, 1, 1, 1, 1, 1, 1, 1, 1, 1, 1, 1, 1, 1, 1, 1, 1, 1, 1, 1, 1, 1, 1, 1, 1] :: cs) Q ρ [] := by
  have hq := seeQ28 (t := t) (z := z) hi hs
  refine awl_seq ?_
  refine awl_seq ?_
  refine awl_regS [(some 324, (.move (.tmp 0)), none), (some 325, (.move (.tmp 5)), none), (some 326, (.indexAddr 59 (.tmp 324) (.tmp 325)), none), (some 327, (.fieldAddr 96 (.tmp 326) 3), none), (some 328, (.fieldAddr 92 (.tmp 327) 5), none), (some 329, (.fieldAddr 42 (.tmp 328) 1), none), (some 330, (.load 4 (.tmp 329)), none), (some 331, (.move (.tmp 1)), none), (some 332, (.binOp .rem 3 (.tmp 331) (.const (.int .i64 3)) 3), none), (some 333, (.binOp .eql 3 (.tmp 332) (.const (.int .i64 0)) 3), none), (some 334, (.binOp .neq 4 (.tmp 330) (.tmp 333) 4), none)] rfl fun K hK => ?_
  simp only [go_sem, simprocAttr, h0, h1, h5, hi, hq]
  repeat' (refine And.intro (by first | rfl | omega) ?_)
  refine hK _ _ (.mk (awl_live' [0, 1, 5, 334] fun ρ hL => ?_))
  simp only [go_sem, simprocAttr, h0, h1, h5] at hL
  obtain ⟨h0, h1, h5, h334⟩ := hL
  clear hK K
  refine awl_cond h334 (fun c1 => ?_) (fun c1 => ?_)
  · exact absurd c1 (by simp)
  clear c1 h334
  refine awl_skip ?_
  refine awl_seq ?_
  have w29_ : IntKind.i64.wrap (s + 28 + 1) = s + 29 := by rw [wrap64 (by omega)]; omega
  refine awl_regS [(some 335, (.move (.tmp 1)), none), (some 336, (.binOp .add 3 (.tmp 335) (.const (.int .i64 1)) 3), none), (some 1, (.assign (.tmp 336)), none)] rfl fun K hK => ?_
  simp only [go_sem, simprocAttr, h0, h1, h5, w29_]
  refine hK _ _ (.mk (awl_live' [0, 1, 5] fun ρ hL => ?_))
  simp only [go_sem, simprocAttr, h0, h1, h5, w29_] at hL
  obtain ⟨h0, h1, h5⟩ := hL
  exact next ρ h0 h1 h5
set_option maxRecDepth 100000 in
theorem seE29 {z : Nat} {t s : Int} {c i : Nat} (hi : i < z) (hs : s = t + (40 * i : Nat)) (hb : z ≤ 1099511627776) (ht : 0 ≤ t ∧ t ≤ 1099511627776) {cs : List Code} {Q : Exit → Env → Heap → Prop} {ρ : Env} (h0 : ρ 0 = .sl z c (rows (mrow markQ 40 t z))) (h1 : ρ 1 = .int .i64 (s + 29)) (h5 : ρ 5 = .int .i64 (i : Int)) (next : ∀ ρ : Env, ρ 0 = .sl z c (rows (mrow markQ 40 t z)) → ρ 1 = .int .i64 (s + 30) → ρ 5 = .int .i64 (i : Int) → awpL Try.prog 0 (codeAt (fnCode Try.f98) [1, 0, 1, 2, 2, 1, 0, 2, 1, 1, 1, 1, 1, 1, 1, 1, 1, 1, 1, 1, 1, 1, 1, 1, 1, 1, 1, 1, 1, 1, 1, 1, 1, 1, 1, 1, 1, 1, 1, 1, 1, 1, 1, 1, 1, 1, 1, 1, 1, 1, 1, 1, 1, 1, 1, 1, 1, 1, 1, 1, 1, 1, 1, 1, 1, 1, 1, 1] :: cs) Q ρ []) :
    awpL Try.prog 0 (codeAt (fnCode Try.f98) [1, 0, 1, 2, 2, 1, 0, 2, 1, 1, 1, 1, 1, 1, 1, 1, 1, 1, 1, 1, 1, 1, 1, 1, 1, 1, 1, 1, 1, 1, 1, 1, 1, 1, 1, 1, 1, 1, 1, 1, 1, 1, 1, 1, 1, 1, 1, 1, 1, 1, 1, 1, 1, 1, 1, 1, 1, 1, 1, 1, 1, 1, 1, 1, 1, 1] :: cs) Q ρ [] := by
  have hq := seeQ29 (t := t) (z := z) hi hs
  refine awl_seq ?_
  refine awl_seq ?_
  refine awl_regS [(some 337, (.move (.tmp 0)), none), (some 338, (.move (.tmp 5)), none), (some 339, (.indexAddr 59 (.tmp 337) (.tmp 338)), none), (some 340, (.fieldAddr 96 (.tmp 339) 3), none), (some 341, (.fieldAddr 92 (.tmp 340) 5), none), (some 342, (.fieldAddr 42 (.tmp 341) 2), none), (some 343, (.fieldAddr 40 (.tmp 342) 0), none), (some 344, (.load 3 (.tmp 343)), none), (some 345, (.move (.tmp 1)), none), (some 346, (.binOp .neq 3 (.tmp 344) (.tmp 345) 3), none)] rfl fun K hK => ?_
  simp only [go_sem, simprocAttr, h0, h1, h5, hi, hq]
  repeat' (refine And.intro (by first | rfl | omega) ?_)
  refine hK _ _ (.mk (awl_live' [0, 1, 5, 346] fun ρ hL => ?_))
  simp only [go_sem, simprocAttr, h0, h1, h5] at hL
  obtain ⟨h0, h1, h5, h346⟩ := hL
  clear hK K
  refine awl_cond h346 (fun c1 => ?_) (fun c1 => ?_)
  · exact absurd c1 (by simp)
  clear c1 h346
  refine awl_skip ?_
  refine awl_seq ?_
  have w30_ : IntKind.i64.wrap (s + 29 + 1) = s + 30 := by rw [wrap64 (by omega)]; omega
  refine awl_regS [(some 347, (.move (.tmp 1)), none), (some 348, (.binOp .add 3 (.tmp 347) (.const (.int .i64 1)) 3), none), (some 1, (.assign (.tmp 348)), none)] rfl fun K hK => ?_
  simp only [go_sem, simprocAttr, h0, h1, h5, w30_]
  refine hK _ _ (.mk (awl_live' [0, 1, 5] fun ρ hL => ?_))
  simp only [go_sem, simprocAttr, h0, h1, h5, w30_] at hL
  obtain ⟨h0, h1, h5⟩ := hL
  exact next ρ h0 h1 h5
set_option maxRecDepth 100000 in
theorem seE30 {z : Nat} {t s : Int} {c i : Nat} (hi : i < z) (hs : s = t + (40 * i : Nat)) (hb : z ≤ 1099511627776) (ht : 0 ≤ t ∧ t ≤ 1099511627776) {cs : List Code} {Q : Exit → Env → Heap → Prop} {ρ : Env} (h0 : ρ 0 = .sl z c (rows (mrow markQ 40 t z))) (h1 : ρ 1 = .int .i64 (s + 30)) (h5 : ρ 5 = .int .i64 (i : Int)) (next : ∀ ρ : Env, ρ 0 = .sl z c (rows (mrow markQ 40 t z)) → ρ 1 = .int .i64 (s + 31) → ρ 5 = .int .i64 (i : Int) → awpL Try.prog 0 (codeAt (fnCode Try.f98) [1, 0, 1, 2, 2, 1, 0, 2, 1, 1, 1, 1, 1, 1, 1, 1, 1, 1, 1, 1, 1, 1, 1, 1, 1, 1, 1, 1, 1, 1, 1, 1, 1, 1, 1, 1, 1, 1, 1, 1, 1, 1, 1, 1, 1, 1, 1, 1, 1, 1, 1, 1, 1, 1, 1, 1, 1, 1, 1, 1, 1, 1, 1, 1, 1, 1, 1, 1, 1, 1] :: cs) Q ρ []) :
    awpL Try.prog 0 (codeAt (fnCode Try.f98) [1, 0, 1, 2, 2, 1, 0, 2, 1, 1, 1, 1, 1, 1, 1, 1, 1, 1, 1, 1, 1, 1, 1, 1, 1, 1, 1, 1, 1, 1, 1, 1, 1, 1, 1, 1, 1, 1, 1, 1, 1, 1, 1, 1, 1, 1, 1, 1, 1, 1, 1, 1, 1, 1, 1, 1, 1, 1, 1, 1, 1, 1, 1, 1, 1, 1, 1, 1] :: cs) Q ρ [] := by
  have hq := seeQ30 (t := t) (z := z) hi hs
  refine awl_seq ?_
  refine awl_seq ?_
  refine awl_regS [(some 349, (.move (.tmp 0)), none), (some 350, (.move (.tmp 5)), none), (some 351, (.indexAddr 59 (.tmp 349) (.tmp 350)), none), (some 352, (.fieldAddr 96 (.tmp 351) 3), none), (some 353, (.fieldAddr 92 (.tmp 352) 5), none), (some 354, (.fieldAddr 42 (.tmp 353) 2), none), (some 355, (.fieldAddr 40 (.tmp 354) 1), none), (some 356, (.load 3 (.tmp 355)), none), (some 357, (.move (.tmp 1)), none), (some 358, (.binOp .neq 3 (.tmp 356) (.tmp 357) 3), none)] rfl fun K hK => ?_
  simp only [go_sem, simprocAttr, h0, h1, h5, hi, hq]
  repeat' (refine And.intro (by first | rfl | omega) ?_)
  refine hK _ _ (.mk (awl_live' [0, 1, 5, 358] fun ρ hL => ?_))
  simp only [go_sem, simprocAttr, h0, h1, h5] at hL
  obtain ⟨h0, h1, h5, h358⟩ := hL
  clear hK K
  refine awl_cond h358 (fun c1 => ?_) (fun c1 => ?_)
  · exact absurd c1 (by simp)
  clear c1 h358
  refine awl_skip ?_
  refine awl_seq ?_
  have w31_ : IntKind.i64.wrap (s + 30 + 1) = s + 31 := by rw [wrap64 (by omega)]; omega
  refine awl_regS [(some 359, (.move (.tmp 1)), none), (some 360, (.binOp .add 3 (.tmp 359) (.const (.int .i64 1)) 3), none), (some 1, (.assign (.tmp 360)), none)] rfl fun K hK => ?_
  simp only [go_sem, simprocAttr, h0, h1, h5, w31_]
  refine hK _ _ (.mk (awl_live' [0, 1, 5] fun ρ hL => ?_))
  simp only [go_sem, simprocAttr, h0, h1, h5, w31_] at hL
  obtain ⟨h0, h1, h5⟩ := hL
  exact next ρ h0 h1 h5
set_option maxRecDepth 100000 in
theorem seE31 {z : Nat} {t s : Int} {c i : Nat} (hi : i < z) (hs : s = t + (40 * i : Nat)) (hb : z ≤ 1099511627776) (ht : 0 ≤ t ∧ t ≤ 1099511627776) {cs : List Code} {Q : Exit → Env → Heap → Prop} {ρ : Env} (h0 : ρ 0 = .sl z c (rows (mrow markQ 40 t z))) (h1 : ρ 1 = .int .i64 (s + 31)) (h5 : ρ 5 = .int .i64 (i : Int)) (next : ∀ ρ : Env, ρ 0 = .sl z c (rows (mrow markQ 40 t z)) → ρ 1 = .int .i64 (s + 32) → ρ 5 = .int .i64 (i : Int) → awpL Try.prog 0 (codeAt (fnCode Try.f98) [1, 0, 1, 2, 2, 1, 0, 2, 1, 1, 1, 1, 1, 1, 1, 1, 1, 1, 1, 1, 1, 1, 1, 1, 1, 1, 1, 1, 1, 1, 1, 1, 1, 1, 1, 1, 1, 1, 1, 1, 1, 1, 1, 1, 1, 1, 1, 1, 1, 1, 1, 1, 1, 1, 1, 1, 1, 1, 1, 1, 1, 1, 1, 1, 1, 1, 1, 1, 1, 1, 1, 1] :: cs) Q ρ []) :
    awpL Try.prog 0 (codeAt (fnCode Try.f98) [1, 0, 1, 2, 2, 1, 0, 2, 1, 1, 1, 1, 1, 1, 1, 1, 1, 1, 1, 1, 1, 1, 1, 1, 1, 1, 1, 1, 1, 1, 1, 1, 1, 1, 1, 1, 1, 1, 1, 1, 1, 1, 1, 1, 1, 1, 1, 1, 1, 1, 1, 1, 1, 1, 1, 1, 1, 1, 1, 1, 1, 1, 1, 1, 1, 1, 1, 1, 1, 1] :: cs) Q ρ [] := by
  have hq := seeQ31 (t := t) (z := z) hi hs
  refine awl_seq ?_
  refine awl_seq ?_
  refine awl_regS [(some 361, (.move (.tmp 0)), none), (some 362, (.move (.tmp 5)), none), (some 363, (.indexAddr 59 (.tmp 361) (.tmp 362)), none), (some 364, (.fieldAddr 96 (.tmp 363) 3), none), (some 365, (.fieldAddr 92 (.tmp 364) 5), none), (some 366, (.fieldAddr 42 (.tmp 365) 2), none), (some 367, (.fieldAddr 40 (.tmp 366) 2), none), (some 368, (.load 3 (.tmp 367)), none), (some 369, (.move (.tmp 1)), none), (some 370, (.binOp .neq 3 (.tmp 368) (.tmp 369) 3), none)] rfl fun K hK => ?_
  simp only [go_sem, simprocAttr, h0, h1, h5, hi, hq]
  repeat' (refine And.intro (by first | rfl | omega) ?_)
  refine hK _ _ (.mk (awl_live' [0, 1, 5, 370] fun ρ hL => ?_))
  simp only [go_sem, simprocAttr, h0, h1, h5] at hL
  obtain ⟨h0, h1, h5, h370⟩ := hL
  clear hK K
  refine awl_cond h370 (fun c1 => ?_) (fun c1 => ?_)
  · exact absurd c1 (by simp)
  clear c1 h370
  refine awl_skip ?_
  refine awl_seq ?_
  have w32_ : IntKind.i64.wrap (s + 31 + 1) = s + 32 := by rw [wrap64 (by omega)]; omega
  refine awl_regS [(some 371, (.move (.tmp 1)), none), (some 372, (.binOp .add 3 (.tmp 371) (.const (.int .i64 1)) 3), none), (some 1, (.assign (.tmp 372)), none)] rfl fun K hK => ?_
  simp only [go_sem, simprocAttr, h0, h1, h5, w32_]
  refine hK _ _ (.mk (awl_live' [0, 1, 5] fun ρ hL => ?_))
  simp only [go_sem, simprocAttr, h0, h1, h5, w32_] at hL
  obtain ⟨h0, h1, h5⟩ := hL
  exact next ρ h0 h1 h5
set_option maxRecDepth 100000 in
theorem seE32 {z : Nat} {t s : Int} {c i : Nat} (hi : i < z) (hs : s = t + (40 * i : Nat)) (hb : z ≤ 1099511627776) (ht : 0 ≤ t ∧ t ≤ 1099511627776) {cs : List Code} {Q : Exit → Env → Heap → Prop} {ρ : Env} (h0 : ρ 0 = .sl z c (rows (mrow markQ 40 t z))) (h1 : ρ 1 = .int .i64 (s + 32)) (h5 : ρ 5 = .int .i64 (i : Int)) (next : ∀ ρ : Env, ρ 0 = .sl z c (rows (mrow markQ 40 t z)) → ρ 1 = .int .i64 (s + 33) → ρ 5 = .int .i64 (i : Int) → awpL Try.prog 0 (codeAt (fnCode Try.f98) [1, 0, 1, 2, 2, 1, 0, 2, 1, 1, 1, 1, 1, 1, 1, 1, 1, 1, 1, 1, 1, 1, 1, 1, 1, 1, 1, 1, 1, 1, 1, 1, 1, 1, 1, 1, 1, 1, 1, 1, 1, 1, 1, 1, 1, 1, 1, 1, 1, 1, 1, 1, 1, 1, 1, 1, 1, 1, 1, 1, 1, 1, 1, 1, 1, 1, 1, 1, 1, 1, 1, 1, 1, 1] :: cs) Q ρ []) :
    awpL Try.prog 0 (codeAt (fnCode Try.f98) [1, 0, 1, 2, 2, 1, 0, 2, 1, 1, 1, 1, 1, 1, 1, 1, 1, 1, 1, 1, 1, 1, 1, 1, 1, 1, 1, 1, 1, 1, 1, 1, 1, 1, 1, 1, 1, 1, 1, 1, 1, 1, 1, 1, 1, 1, 1, 1, 1, 1, 1, 1, 1, 1, 1, 1, 1, 1, 1, 1, 1, 1, 1, 1, 1, 1, 1, 1, 1, 1, 1, 1] :: cs) Q ρ [] := by
  have hq := seeQ32 (t := t) (z := z) hi hs
  refine awl_seq ?_
  refine awl_seq ?_
  refine awl_regS [(some 373, (.move (.tmp 0)), none), (some 374, (.move (.tmp 5)), none), (some 375, (.indexAddr 59 (.tmp 373) (.tmp 374)), none), (some 376, (.fieldAddr 96 (.tmp 375) 3), none), (some 377, (.fieldAddr 92 (.tmp 376) 5), none), (some 378, (.fieldAddr 42 (.tmp 377) 2), none), (some 379, (.fieldAddr 40 (.tmp 378) 3), none), (some 380, (.load 3 (.tmp 379)), none), (some 381, (.move (.tmp 1)), none), (some 382, (.binOp .neq 3 (.tmp 380) (.tmp 381) 3), none)] rfl fun K hK => ?_
  simp only [go_sem, simprocAttr, h0, h1, h5, hi, hq]
  repeat' (refine And.intro (by first | rfl | omega) ?_)
  refine hK _ _ (.mk (awl_live' [0, 1, 5, 382] fun ρ hL => ?_))
  simp only [go_sem, simprocAttr, h0, h1, h5] at hL
  obtain ⟨h0, h1, h5, h382⟩ := hL
  clear hK K
  refine awl_cond h382 (fun c1 => ?_) (fun c1 => ?_)
  · exact absurd c1 (by simp)
  clear c1 h382
  refine awl_skip ?_
  refine awl_seq ?_
  have w33_ : IntKind.i64.wrap (s + 32 + 1) = s + 33 := by rw [wrap64 (by omega)]; omega
  refine awl_regS [(some 383, (.move (.tmp 1)), none), (some 384, (.binOp .add 3 (.tmp 383) (.const (.int .i64 1)) 3), none), (some 1, (.assign (.tmp 384)), none)] rfl fun K hK => ?_
  simp only [go_sem, simprocAttr, h0, h1, h5, w33_]
  refine hK _ _ (.mk (awl_live' [0, 1, 5] fun ρ hL => ?_))
  simp only [go_sem, simprocAttr, h0, h1, h5, w33_] at hL
  obtain ⟨h0, h1, h5⟩ := hL
  exact next ρ h0 h1 h5
set_option maxRecDepth 100000 in
theorem seE33 {z : Nat} {t s : Int} {c i : Nat} (hi : i < z) (hs : s = t + (40 * i : Nat)) (hb : z ≤ 1099511627776) (ht : 0 ≤ t ∧ t ≤ 1099511627776) {cs : List Code} {Q : Exit → Env → Heap → Prop} {ρ : Env} (h0 : ρ 0 = .sl z c (rows (mrow markQ 40 t z))) (h1 : ρ 1 = .int .i64 (s + 33)) (h5 : ρ 5 = .int .i64 (i : Int)) (next : ∀ ρ : Env, ρ 0 = .sl z c (rows (mrow markQ 40 t z)) → ρ 1 = .int .i64 (s + 34) → ρ 5 = .int .i64 (i : Int) → awpL Try.prog 0 (codeAt (fnCode Try.f98) [1, 0, 1, 2, 2, 1, 0, 2, 1, 1, 1, 1, 1, 1, 1, 1, 1, 1, 1, 1, 1, 1, 1, 1, 1, 1, 1, 1, 1, 1, 1, 1, 1, 1, 1, 1, 1, 1, 1, 1, 1, 1, 1, 1, 1, 1, 1, 1, 1, 1, 1, 1, 1, 1, 1, 1, 1, 1, 1, 1, 1, 1, 1, 1, 1, 1, 1, 1, 1, 1, 1, 1, 1, 1, 1, 1] :: cs) Q ρ []) :
    awpL Try.prog 0 (codeAt (fnCode Try.f98) [1, 0, 1, 2, 2, 1, 0, 2, 1, 1, 1, 1, 1, 1, 1, 1, 1, 1, 1, 1, 1, 1, 1, 1, 1, 1, 1, 1, 1, 1, 1, 1, 1, 1, 1, 1, 1, 1, 1, 1, 1, 1, 1, 1, 1, 1, 1, 1, 1, 1, 1, 1, 1, 1, 1, 1, 1, 1, 1, 1, 1, 1, 1, 1, 1, 1, 1, 1, 1, 1, 1, 1, 1, 1] :: cs) Q ρ [] := by
  have hq := seeQ33 (t := t) (z := z) hi hs
  refine awl_seq ?_
  refine awl_seq ?_
  refine awl_regS [(some 385, (.move (.tmp 0)), none), (some 386, (.move (.tmp 5)), none), (some 387, (.indexAddr 59 (.tmp 385) (.tmp 386)), none), (some 388, (.fieldAddr 96 (.tmp 387) 3), none), (some 389, (.fieldAddr 92 (.tmp 388) 6), none), (some 390, (.load 3 (.tmp 389)), none), (some 391, (.move (.tmp 1)), none), (some 392, (.binOp .neq 3 (.tmp 390) (.tmp 391) 3), none)] rfl fun K hK => ?_
  simp only [go_sem, simprocAttr, h0, h1, h5, hi, hq]
  repeat' (refine And.intro (by first | rfl | omega) ?_)
  refine hK _ _ (.mk (awl_live' [0, 1, 5, 392] fun ρ hL => ?_))
  simp only [go_sem, simprocAttr, h0, h1, h5] at hL
  obtain ⟨h0, h1, h5, h392⟩ := hL
  clear hK K
  refine awl_cond h392 (fun c1 => ?_) (fun c1 => ?_)
  · exact absurd c1 (by simp)
  clear c1 h392
  refine awl_skip ?_
  refine awl_seq ?_
  have w34_ : IntKind.i64.wrap (s + 33 + 1) = s + 34 := by rw [wrap64 (by omega)]; omega
  refine awl_regS [(some 393, (.move (.tmp 1)), none), (some 394, (.binOp .add 3 (.tmp 393) (.const (.int .i64 1)) 3), none), (some 1, (.assign (.tmp 394)), none)] rfl fun K hK => ?_
  simp only [go_sem, simprocAttr, h0, h1, h5, w34_]
  refine hK _ _ (.mk (awl_live' [0, 1, 5] fun ρ hL => ?_))
  simp only [go_sem, simprocAttr, h0, h1, h5, w34_] at hL
  obtain ⟨h0, h1, h5⟩ := hL
  exact next ρ h0 h1 h5
set_option maxRecDepth 100000 in
theorem seE34 {z : Nat} {t s : Int} {c i : Nat} (hi : i < z) (hs : s = t + (40 * i : Nat)) (hb : z ≤ 1099511627776) (ht : 0 ≤ t ∧ t ≤ 1099511627776) {cs : List Code} {Q : Exit → Env → Heap → Prop} {ρ : Env} (h0 : ρ 0 = .sl z c (rows (mrow markQ 40 t z))) (h1 : ρ 1 = .int .i64 (s + 34)) (h5 : ρ 5 = .int .i64 (i : Int)) (next : ∀ ρ : Env, ρ 0 = .sl z c (rows (mrow markQ 40 t z)) → ρ 1 = .int .i64 (s + 35) → ρ 5 = .int .i64 (i : Int) → awpL Try.prog 0 (codeAt (fnCode Try.f98) [1, 0, 1, 2, 2, 1, 0, 2, 1, 1, 1, 1, 1, 1, 1, 1, 1, 1, 1, 1, 1, 1, 1, 1, 1, 1, 1, 1, 1, 1, 1, 1, 1, 1, 1, 1, 1, 1, 1, 1, 1, 1, 1, 1, 1, 1, 1, 1, 1, 1, 1, 1, 1, 1, 1, 1, 1, 1, 1, 1, 1, 1, 1, 1, 1, 1, 1, 1, 1, 1, 1, 1, 1, 1, 1, 1, 1, 1] :: cs) Q ρ []) :
    awpL Try.prog 0 (codeAt (fnCode Try.f98) [1, 0, 1, 2, 2, 1, 0, 2, 1, 1, 1, 1, 1, 1, 1, 1, 1, 1, 1, 1, 1, 1, 1, 1, 1, 1, 1, 1, 1, 1, 1, 1, 1, 1, 1, 1, 1, 1, 1, 1, 1, 1, 1, 1, 1, 1, 1, 1, 1, 1, 1, 1, 1, 1, 1, 1, 1, 1, 1, 1, 1, 1, 1, 1, 1, 1, 1, 1, 1, 1, 1, 1, 1, 1, 1, 1] :: cs) Q ρ [] := by
  have hq := seeQ34 (t := t) (z := z) hi hs
  refine awl_seq ?_
  refine awl_seq ?_
  refine awl_regS [(some 395, (.move (.tmp 0)), none), (some 396, (.move (.tmp 5)), none), (some 397, (.indexAddr 59 (.tmp 395) (.tmp 396)), none), (some 398, (.fieldAddr 96 (.tmp 397) 4), none), (some 399, (.fieldAddr 42 (.tmp 398) 0), none), (some 400, (.load 3 (.tmp 399)), none), (some 401, (.move (.tmp 1)), none), (some 402, (.binOp .neq 3 (.tmp 400) (.tmp 401) 3), none)] rfl fun K hK => ?_
  simp only [go_sem, simprocAttr, h0, h1, h5, hi, hq]
  repeat' (refine And.intro (by first | rfl | omega) ?_)
  refine hK _ _ (.mk (awl_live' [0, 1, 5, 402] fun ρ hL => ?_))
  simp only [go_sem, simprocAttr, h0, h1, h5] at hL
  obtain ⟨h0, h1, h5, h402⟩ := hL
  clear hK K
  refine awl_cond h402 (fun c1 => ?_) (fun c1 => ?_)
  · exact absurd c1 (by simp)
  clear c1 h402
  refine awl_skip ?_
  refine awl_seq ?_
  have w35_ : IntKind.i64.wrap (s + 34 + 1) = s + 35 := by rw [wrap64 (by omega)]; omega
  refine awl_regS [(some 403, (.move (.tmp 1)), none), (some 404, (.binOp .add 3 (.tmp 403) (.const (.int .i64 1)) 3), none), (some 1, (.assign (.tmp 404)), none)] rfl fun K hK => ?_
  simp only [go_sem, simprocAttr, h0, h1, h5, w35_]
  refine hK _ _ (.mk (awl_live' [0, 1, 5] fun ρ hL => ?_))
  simp only [go_sem, simprocAttr, h0, h1, h5, w35_] at hL
  obtain ⟨h0, h1, h5⟩ := hL
  exact next ρ h0 h1 h5
set_option maxRecDepth 100000 in
theorem seE35 {z : Nat} {t s : Int} {c i : Nat} (hi : i < z) (hs : s = t + (40 * i : Nat)) (hb : z ≤ 1099511627776) (ht : 0 ≤ t ∧ t ≤ 1099511627776) {cs : List Code} {Q : Exit → Env → Heap → Prop} {ρ : Env} (h0 : ρ 0 = .sl z c (rows (mrow markQ 40 t z))) (h1 : ρ 1 = .int .i64 (s + 35)) (h5 : ρ 5 = .int .i64 (i : Int)) (next : ∀ ρ : Env, ρ 0 = .sl z c (rows (mrow markQ 40 t z)) → ρ 1 = .int .i64 (s + 36) → ρ 5 = .int .i64 (i : Int) → awpL Try.prog 0 (codeAt (fnCode Try.f98) [1, 0, 1, 2, 2, 1, 0, 2, 1, 1, 1, 1, 1, 1, 1, 1, 1, 1, 1, 1, 1, 1, 1, 1, 1, 1, 1, 1, 1, 1, 1, 1, 1, 1, 1, 1, 1, 1, 1, 1, 1, 1, 1, 1, 1, 1, 1, 1, 1, 1, 1, 1, 1, 1, 1, 1, 1, 1, 1, 1, 1, 1, 1, 1, 1, 1, 1, 1, 1, 1, 1, 1, 1, 1, 1, 1, 1, 1, 1, 1] :: cs) Q ρ []) :
    awpL Try.prog 0 (codeAt (fnCode Try.f98) [1, 0, 1, 2, 2, 1, 0, 2, 1, 1, 1, 1, 1, 1, 1, 1, 1, 1, 1, 1, 1, 1, 1, 1, 1, 1, 1, 1, 1, 1, 1, 1, 1, 1, 1, 1, 1, 1, 1, 1, 1, 1, 1, 1, 1, 1, 1, 1, 1, 1, 1, 1, 1, 1, 1, 1, 1, 1, 1, 1, 1, 1, 1, 1, 1, 1, 1, 1, 1, 1, 1, 1, 1, 1, 1, 1, 1, 1] :: cs) Q ρ [] := by
  have hq := seeQ35 (t := t) (z := z) hi hs
  refine awl_seq ?_
  refine awl_seq ?_
  refine awl_regS [(some 405, (.move (.tmp 0)), none), (some 406, (.move (.tmp 5)), none), (some 407, (.indexAddr 59 (.tmp 405) (.tmp 406)), none), (some 408, (.fieldAddr 96 (.tmp 407) 4), none), (some 409, (.fieldAddr 42 (.tmp 408) 1), none), (some 410, (.load 4 (.tmp 409)), none), (some 411, (.move (.tmp 1)), none), (some 412, (.binOp .rem 3 (.tmp 411) (.const (.int .i64 3)) 3), none), (some 413, (.binOp .eql 3 (.tmp 412) (.const (.int .i64 0)) 3), none), (some 414, (.binOp .neq 4 (.tmp 410) (.tmp 413) 4), none)] rfl fun K hK => ?_
  simp only [go_sem, simprocAttr, h0, h1, h5, hi, hq]
  repeat' (refine And.intro (by first | rfl | omega) ?_)
  refine hK _ _ (.mk (awl_live' [0, 1, 5, 414] fun ρ hL => ?_))
  simp only [go_sem, simprocAttr, h0, h1, h5] at hL
  obtain ⟨h0, h1, h5, h414⟩ := hL
  clear hK K
  refine awl_cond h414 (fun c1 => ?_) (fun c1 => ?_)
  · exact absurd c1 (by simp)
  clear c1 h414
  refine awl_skip ?_
  refine awl_seq ?_
  have w36_ : IntKind.i64.wrap (s + 35 + 1) = s + 36 := by rw [wrap64 (by omega)]; omega
  refine awl_regS [(some 415, (.move (.tmp 1)), none), (some 416, (.binOp .add 3 (.tmp 415) (.const (.int .i64 1)) 3), none), (some 1, (.assign (.tmp 416)), none)] rfl fun K hK => ?_
  simp only [go_sem, simprocAttr, h0, h1, h5, w36_]
  refine hK _ _ (.mk (awl_live' [0, 1, 5] fun ρ hL => ?_))
  simp only [go_sem, simprocAttr, h0, h1, h5, w36_] at hL
  obtain ⟨h0, h1, h5⟩ := hL
  exact next ρ h0 h1 h5
set_option maxRecDepth 100000 in
theorem seE36 {z : Nat} {t s : Int} {c i : Nat} (hi : i < z) (hs : s = t + (40 * i : Nat)) (hb : z ≤ 1099511627776) (ht : 0 ≤ t ∧ t ≤ 1099511627776) {cs : List Code} {Q : Exit → Env → Heap → Prop} {ρ : Env} (h0 : ρ 0 = .sl z c (rows (mrow markQ 40 t z))) (h1 : ρ 1 = .int .i64 (s + 36)) (h5 : ρ 5 = .int .i64 (i : Int)) (next : ∀ ρ : Env, ρ 0 = .sl z c (rows (mrow markQ 40 t z)) → ρ 1 = .int .i64 (s + 37) → ρ 5 = .int .i64 (i : Int) → awpL Try.prog 0 (codeAt (fnCode Try.f98) [1, 0, 1, 2, 2, 1, 0, 2, 1, 1, 1, 1, 1, 1, 1, 1, 1, 1, 1, 1, 1, 1, 1, 1, 1, 1, 1, 1, 1, 1, 1, 1, 1, 1, 1, 1, 1, 1, 1, 1, 1, 1, 1, 1, 1, 1, 1, 1, 1, 1, 1, 1, 1, 1, 1, 1, 1, 1, 1, 1, 1, 1, 1, 1, 1, 1, 1, 1, 1, 1, 1, 1, 1, 1, 1, 1, 1, 1, 1, 1, 1, 1] :: cs) Q ρ []) :
    awpL Try.prog 0 (codeAt (fnCode Try.f98) [1, 0, 1, 2, 2, 1, 0, 2, 1, 1, 1, 1, 1, 1, 1, 1, 1, 1, 1, 1, 1, 1, 1, 1, 1, 1, 1, 1, 1, 1, 1, 1, 1, 1, 1, 1, 1, 1, 1, 1, 1, 1, 1, 1, 1, 1, 1, 1, 1, 1, 1, 1, 1, 1, 1, 1, 1, 1, 1, 1, 1, 1, 1, 1, 1, 1, 1, 1, 1, 1, 1, 1, 1, 1, 1, 1, 1, 1, 1, 1] :: cs) Q ρ [] := by
  have hq := seeQ36 (t := t) (z := z) hi hs
  refine awl_seq ?_
  refine awl_seq ?_
  refine awl_regS [(some 417, (.move (.tmp 0)), none), (some 418, (.move (.tmp 5)), none), (some 419, (.indexAddr 59 (.tmp 417) (.tmp 418)), none), (some 420, (.fieldAddr 96 (.tmp 419) 4), none), (some 421, (.fieldAddr 42 (.tmp 420) 2), none), (some 422, (.fieldAddr 40 (.tmp 421) 0), none), (some 423, (.load 3 (.tmp 422)), none), (some 424, (.move (.tmp 1)), none), (some 425, (.binOp .neq 3 (.tmp 423) (.tmp 424) 3), none)] rfl fun K hK => ?_
  simp only [go_sem, simprocAttr, h0, h1, h5, hi, hq]
  repeat' (refine And.intro (by first | rfl | omega) ?_)
  refine hK _ _ (.mk (awl_live' [0, 1, 5, 425] fun ρ hL => ?_))
  simp only [go_sem, simprocAttr, h0, h1, h5] at hL
  obtain ⟨h0, h1, h5, h425⟩ := hL
  clear hK K
  refine awl_cond h425 (fun c1 => ?_) (fun c1 => ?_)
  · exact absurd c1 (by simp)
  clear c1 h425
  refine awl_skip ?_
  refine awl_seq ?_
  have w37_ : IntKind.i64.wrap (s + 36 + 1) = s + 37 := by rw [wrap64 (by omega)]; omega
  refine awl_regS [(some 426, (.move (.tmp 1)), none), (some 427, (.binOp .add 3 (.tmp 426) (.const (.int .i64 1)) 3), none), (some 1, (.assign (.tmp 427)), none)] rfl fun K hK => ?_
  simp only [go_sem, simprocAttr, h0, h1, h5, w37_]
  refine hK _ _ (.mk (awl_live' [0, 1, 5] fun ρ hL => ?_))
  simp only [go_sem, simprocAttr, h0, h1, h5, w37_] at hL
  obtain ⟨h0, h1, h5⟩ := hL
  exact next ρ h0 h1 h5
set_option maxRecDepth 100000 in
theorem seE37 {z : Nat} {t s : Int} {c i : Nat} (hi : i < z) (hs : s = t + (40 * i : Nat)) (hb : z ≤ 1099511627776) (ht : 0 ≤ t ∧ t ≤ 1099511627776) {cs : List Code} {Q : Exit → Env → Heap → Prop} {ρ : Env} (h0 : ρ 0 = .sl z c (rows (mrow markQ 40 t z))) (h1 : ρ 1 = .int .i64 (s + 37)) (h5 : ρ 5 = .int .i64 (i : Int)) (next : ∀ ρ : Env, ρ 0 = .sl z c (rows (mrow markQ 40 t z)) → ρ 1 = .int .i64 (s + 38) → ρ 5 = .int .i64 (i : Int) → awpL Try.prog 0 (codeAt (fnCode Try.f98) [1, 0, 1, 2, 2, 1, 0, 2, 1, 1, 1, 1, 1, 1, 1, 1, 1, 1, 1, 1, 1, 1, 1, 1, 1, 1, 1, 1, 1, 1, 1, 1, 1, 1, 1, 1, 1, 1, 1, 1, 1, 1, 1, 1, 1, 1, 1, 1, 1, 1, 1, 1, 1, 1, 1, 1, 1, 1, 1, 1, 1, 1, 1, 1, 1, 1, 1, 1, 1, 1, 1, 1, 1, 1, 1, 1, 1, 1, 1, 1, 1, 1, 1, 1] :: cs) Q ρ []) :
    awpL Try.prog 0 (codeAt (fnCode Try.f98) [1, 0, 1, 2, 2, 1, 0, 2, 1, 1, 1, 1, 1, 1, 1, 1, 1, 1, 1, 1, 1, 1, 1, 1, 1, 1, 1, 1, 1, 1, 1, 1, 1, 1, 1, 1, 1, 1, 1, 1, 1, 1, 1, 1, 1, 1, 1, 1, 1, 1, 1, 1, 1, 1, 1, 1, 1, 1, 1, 1, 1, 1, 1, 1, 1, 1, 1, 1, 1, 1, 1, 1, 1, 1, 1, 1, 1, 1, 1, 1, 1, 1] :: cs) Q ρ [] := by
  have hq := seeQ37 (t := t) (z := z) hi hs
  refine awl_seq ?_
  refine awl_seq ?_
  refine awl_regS [(some 428, (.move (.tmp 0)), none), (some 429, (.move (.tmp 5)), none), (some 430, (.indexAddr 59 (.tmp 428) (.tmp 429)), none), (some 431, (.fieldAddr 96 (.tmp 430) 4), none), (some 432, (.fieldAddr 42 (.tmp 431) 2), none), (some 433, (.fieldAddr 40 (.tmp 432) 1), none), (some 434, (.load 3 (.tmp 433)), none), (some 435, (.move (.tmp 1)), none), (some 436, (.binOp .neq 3 (.tmp 434) (.tmp 435) 3), none)] rfl fun K hK => ?_
  simp only [go_sem, simprocAttr, h0, h1, h5, hi, hq]
  repeat' (refine And.intro (by first | rfl | omega) ?_)
  refine hK _ _ (.mk (awl_live' [0, 1, 5, 436] fun ρ hL => ?_))
  simp only [go_sem, simprocAttr, h0, h1, h5] at hL
  obtain ⟨h0, h1, h5, h436⟩ := hL
  clear hK K
  refine awl_cond h436 (fun c1 => ?_) (fun c1 => ?_)
  · exact absurd c1 (by simp)
  clear c1 h436
  refine awl_skip ?_
  refine awl_seq ?_
  have w38_ : IntKind.i64.wrap (s + 37 + 1) = s + 38 := by rw [wrap64 (by omega)]; omega
  refine awl_regS [(some 437, (.move (.tmp 1)), none), (some 438, (.binOp .add 3 (.tmp 437) (.const (.int .i64 1)) 3), none), (some 1, (.assign (.tmp 438)), none)] rfl fun K hK => ?_
  simp only [go_sem, simprocAttr, h0, h1, h5, w38_]
  refine hK _ _ (.mk (awl_live' [0, 1, 5] fun ρ hL => ?_))
  simp only [go_sem, simprocAttr, h0, h1, h5, w38_] at hL
  obtain ⟨h0, h1, h5⟩ := hL
  exact next ρ h0 h1 h5
set_option maxRecDepth 100000 in
theorem seE38 {z : Nat} {t s : Int} {c i : Nat} (hi : i < z) (hs : s = t + (40 * i : Nat)) (hb : z ≤ 1099511627776) (ht : 0 ≤ t ∧ t ≤ 1099511627776) {cs : List Code} {Q : Exit → Env → Heap → Prop} {ρ : Env} (h0 : ρ 0 = .sl z c (rows (mrow markQ 40 t z))) (h1 : ρ 1 = .int .i64 (s + 38)) (h5 : ρ 5 = .int .i64 (i : Int)) (next : ∀ ρ : Env, ρ 0 = .sl z c (rows (mrow markQ 40 t z)) → ρ 1 = .int .i64 (s + 39) → ρ 5 = .int .i64 (i : Int) → awpL Try.prog 0 (codeAt (fnCode Try.f98) [1, 0, 1, 2, 2, 1, 0, 2, 1, 1, 1, 1, 1, 1, 1, 1, 1, 1, 1, 1, 1, 1, 1, 1, 1, 1, 1, 1, 1, 1, 1, 1, 1, 1, 1, 1, 1, 1, 1, 1, 1, 1, 1, 1, 1, 1, 1, 1, 1, 1, 1, 1, 1, 1, 1, 1, 1, 1, 1, 1, 1, 1, 1, 1, 1, 1, 1, 1, 1, 1, 1, 1, 1, 1, 1, 1, 1, 1, 1, 1, 1, 1, 1, 1, 1, 1] :: cs) Q ρ []) :
    awpL Try.prog 0 (codeAt (fnCode Try.f98) [1, 0, 1, 2, 2, 1, 0, 2, 1, 1, 1, 1, 1, 1, 1, 1, 1, 1, 1, 1, 1, 1, 1, 1, 1, 1, 1, 1, 1, 1, 1, 1, 1, 1, 1, 1, 1, 1, 1, 1, 1, 1, 1, 1, 1, 1, 1, 1, 1, 1, 1, 1, 1, 1, 1, 1, 1, 1, 1, 1, 1, 1, 1, 1, 1, 1, 1, 1, 1, 1, 1, 1, 1, 1, 1, 1, 1, 1, 1, 1, 1, 1, 1, 1] :: cs) Q ρ [] := by
  have hq := seeQ38 (t := t) (z := z) hi hs
  refine awl_seq ?_
  refine awl_seq ?_
  refine awl_regS [(some 439, (.move (.tmp 0)), none), (some 440, (.move (.tmp 5)), none), (some 441, (.indexAddr 59 (.tmp 439) (.tmp 440)), none), (some 442, (.fieldAddr 96 (.tmp 441) 4), none), (some 443, (.fieldAddr 42 (.tmp 442) 2), none), (some 444, (.fieldAddr 40 (.tmp 443) 2), none), (some 445, (.load 3 (.tmp 444)), none), (some 446, (.move (.tmp 1)), none), (some 447, (.binOp .neq 3 (.tmp 445) (.tmp 446) 3), none)] rfl fun K hK => ?_
  simp only [go_sem, simprocAttr, h0, h1, h5, hi, hq]
  repeat' (refine And.intro (by first | rfl | omega) ?_)
  refine hK _ _ (.mk (awl_live' [0, 1, 5, 447] fun ρ hL => ?_))
  simp only [go_sem, simprocAttr, h0, h1, h5] at hL
  obtain ⟨h0, h1, h5, h447⟩ := hL
  clear hK K
  refine awl_cond h447 (fun c1 => ?_) (fun c1 => ?_)
  · exact absurd c1 (by simp)
  clear c1 h447
  refine awl_skip ?_
  refine awl_seq ?_
  have w39_ : IntKind.i64.wrap (s + 38 + 1) = s + 39 := by rw [wrap64 (by omega)]; omega
  refine awl_regS [(some 448, (.move (.tmp 1)), none), (some 449, (.binOp .add 3 (.tmp 448) (.const (.int .i64 1)) 3), none), (some 1, (.assign (.tmp 449)), none)] rfl fun K hK => ?_
  simp only [go_sem, simprocAttr, h0, h1, h5, w39_]
  refine hK _ _ (.mk (awl_live' [0, 1, 5] fun ρ hL => ?_))
  simp only [go_sem, simprocAttr, h0, h1, h5, w39_] at hL
  obtain ⟨h0, h1, h5⟩ := hL
  exact next ρ h0 h1 h5
set_option maxRecDepth 100000 in
theorem seE39 {z : Nat} {t s : Int} {c i : Nat} (hi : i < z) (hs : s = t + (40 * i : Nat)) (hb : z ≤ 1099511627776) (ht : 0 ≤ t ∧ t ≤ 1099511627776) {cs : List Code} {Q : Exit → Env → Heap → Prop} {ρ : Env} (h0 : ρ 0 = .sl z c (rows (mrow markQ 40 t z))) (h1 : ρ 1 = .int .i64 (s + 39)) (h5 : ρ 5 = .int .i64 (i : Int)) (next : ∀ ρ : Env, ρ 0 = .sl z c (rows (mrow markQ 40 t z)) → ρ 1 = .int .i64 (s + 40) → ρ 5 = .int .i64 (i : Int) → awpL Try.prog 0 cs Q ρ []) :
    awpL Try.prog 0 (codeAt (fnCode Try.f98) [1, 0, 1, 2, 2, 1, 0, 2, 1, 1, 1, 1, 1, 1, 1, 1, 1, 1, 1, 1, 1, 1, 1, 1, 1, 1, 1, 1, 1, 1, 1, 1, 1, 1, 1, 1, 1, 1, 1, 1, 1, 1, 1, 1, 1, 1, 1, 1, 1, 1, 1, 1, 1, 1, 1, 1, 1, 1, 1, 1, 1, 1, 1, 1, 1, 1, 1, 1, 1, 1, 1, 1, 1, 1, 1, 1, 1, 1, 1, 1, 1, 1, 1, 1, 1, 1] :: cs) Q ρ [] := by
  have hq := seeQ39 (t := t) (z := z) hi hs
  refine awl_seq ?_
  refine awl_seq ?_
  refine awl_regS [(some 450, (.move (.tmp 0)), none), (some 451, (.move (.tmp 5)), none), (some 452, (.indexAddr 59 (.tmp 450) (.tmp 451)), none), (some 453, (.fieldAddr 96 (.tmp 452) 4), none), (some 454, (.fieldAddr 42 (.tmp 453) 2), none), (some 455, (.fieldAddr 40 (.tmp 454) 3), none), (some 456, (.load 3 (.tmp 455)), none), (some 457, (.move (.tmp 1)), none), (some 458, (.binOp .neq 3 (.tmp 456) (.tmp 457) 3), none)] rfl fun K hK => ?_
  simp only [go_sem, simprocAttr, h0, h1, h5, hi, hq]
  repeat' (refine And.intro (by first | rfl | omega) ?_)
  refine hK _ _ (.mk (awl_live' [0, 1, 5, 458] fun ρ hL => ?_))
  simp only [go_sem, simprocAttr, h0, h1, h5] at hL
  obtain ⟨h0, h1, h5, h458⟩ := hL
  clear hK K
  refine awl_cond h458 (fun c1 => ?_) (fun c1 => ?_)
  · exact absurd c1 (by simp)
  clear c1 h458
  refine awl_skip ?_
  have w40_ : IntKind.i64.wrap (s + 39 + 1) = s + 40 := by rw [wrap64 (by omega)]; omega
  refine awl_regS [(some 459, (.move (.tmp 1)), none), (some 460, (.binOp .add 3 (.tmp 459) (.const (.int .i64 1)) 3), none), (some 1, (.assign (.tmp 460)), none)] rfl fun K hK => ?_
  simp only [go_sem, simprocAttr, h0, h1, h5, w40_]
  refine hK _ _ (.mk (awl_live' [0, 1, 5] fun ρ hL => ?_))
  simp only [go_sem, simprocAttr, h0, h1, h5, w40_] at hL
  obtain ⟨h0, h1, h5⟩ := hL
  exact next ρ h0 h1 h5
set_option maxHeartbeats 8000000 in
set_option maxRecDepth 100000 in
theorem sat_laws_heldEntryS (z : Nat) (t : Int) (c : Nat) (hb : z ≤ 1099511627776) (ht : 0 ≤ t ∧ t ≤ 1099511627776) : Sat Try.prog 98 [.sl z c (rows (mrow markQ 40 t z)), .int .i64 t] [] (.int .i64 (t + (40 * z : Nat))) [] := by
  refine sat_mk [.tmp 4] 0 462 Try.call98 Try.func98 Try.ntmps98 rfl rfl rfl rfl rfl ?_
  refine awl_live' [0, 1] fun ρ hL => ?_
  try simp only [go_sem, simprocAttr] at hL
  obtain ⟨h0, h1⟩ := hL
  refine awl_seq ?_
  refine awl_regS [(some 4, (.assign (.const (.int .i64 0))), none)] rfl fun K hK => ?_
  try simp only [go_sem, simprocAttr, h0, h1]
  repeat' (refine And.intro (by first | rfl | omega | (simp; done)) ?_)
  refine hK _ _ (.mk (awl_live' [0, 1] fun ρ hL => ?_))
  try simp only [go_sem, simprocAttr, h0, h1] at hL
  try clear h0 h1
  obtain ⟨h0, h1⟩ := hL
  clear hK K
  refine awl_seq ?_
  refine awl_seq ?_
  refine awl_regS [(some 5, (.assign (.const (.int .i64 0))), none)] rfl fun K hK => ?_
  try simp only [go_sem, simprocAttr, h0, h1]
  repeat' (refine And.intro (by first | rfl | omega | (simp; done)) ?_)
  refine hK _ _ (.mk (awl_live' [0, 1, 5] fun ρ hL => ?_))
  try simp only [go_sem, simprocAttr, h0, h1] at hL
  try clear h0 h1
  obtain ⟨h0, h1, h5⟩ := hL
  clear hK K
  have e1_0 := h0
  refine awl_loopH (fun H0 n σ G => ∃ (i : Nat), n = z - i ∧ (i ≤ z) ∧ liveE [0] σ ρ ∧ σ 1 = .int .i64 (t + (40 * i : Nat)) ∧ σ 5 = .int .i64 (i : Int) ∧ G = H0) (fun H0 σ G => liveE [] σ ρ ∧ σ 1 = .int .i64 (t + (40 * z : Nat)) ∧ G = H0) ((fun (i : Nat) => z - i) 0) ?init1 (fun n ρ G hI => ?round1) (fun ρ G hJ => ?after1)
  case init1 => exact ⟨0, rfl, (Nat.zero_le _), liveE_refl _ _, (by rw [h1]; simp), (h5), rfl⟩
  case round1 =>
    obtain ⟨i, hn, i1_0, hL, k1, k5, hG⟩ := hI
    subst hG
    try simp only [go_sem, simprocAttr, h0, h1, h5] at hL
    clear h0 h1 h5
    have h0 := hL
    clear hL
    have h1 := k1
    clear k1
    have h5 := k5
    clear k5
    refine awl_seq ?_
    refine awl_seq ?_
    refine awl_regS [(some 6, (.move (.tmp 5)), none), (some 7, (.move (.tmp 0)), none), (some 8, (.call ⟨(.builtin .len), #[(.tmp 7)], #[59]⟩), none), (some 9, (.binOp .lss 3 (.tmp 6) (.tmp 8) 3), none)] rfl fun K hK => ?_
    try simp only [go_sem, simprocAttr, h0, h1, h5]
    repeat' (refine And.intro (by first | rfl | omega | (simp; done)) ?_)
    refine hK _ _ (.mk (awl_live' [0, 1, 5, 9] fun ρ hL => ?_))
    try simp only [go_sem, simprocAttr, h0, h1, h5] at hL
    try clear h0 h1 h5
    obtain ⟨h0, h1, h5, h9⟩ := hL
    clear hK K
    refine awl_cond h9 (fun c1 => ?_) (fun c1 => ?_)
    ·
      try simp only [cnd] at c1
      have hi1 : i < z := by omega
      refine awl_skip ?_
      refine awl_seq ?_
      refine awl_block fun R1 hw1 hR1 => ?_
      obtain ⟨s, hs⟩ : ∃ s : Int, s = t + (40 * i : Nat) := ⟨_, rfl⟩
      rw [← hs] at h1
      refine seE0 hi1 hs hb ht h0 h1 h5 fun ρ h0 h1 h5 => ?_
      refine seE1 hi1 hs hb ht h0 h1 h5 fun ρ h0 h1 h5 => ?_
      refine seE2 hi1 hs hb ht h0 h1 h5 fun ρ h0 h1 h5 => ?_
      refine seE3 hi1 hs hb ht h0 h1 h5 fun ρ h0 h1 h5 => ?_
      refine seE4 hi1 hs hb ht h0 h1 h5 fun ρ h0 h1 h5 => ?_
      refine seE5 hi1 hs hb ht h0 h1 h5 fun ρ h0 h1 h5 => ?_
      refine seE6 hi1 hs hb ht h0 h1 h5 fun ρ h0 h1 h5 => ?_
      refine seE7 hi1 hs hb ht h0 h1 h5 fun ρ h0 h1 h5 => ?_
      refine seE8 hi1 hs hb ht h0 h1 h5 fun ρ h0 h1 h5 => ?_
      refine seE9 hi1 hs hb ht h0 h1 h5 fun ρ h0 h1 h5 => ?_
      refine seE10 hi1 hs hb ht h0 h1 h5 fun ρ h0 h1 h5 => ?_
      refine seE11 hi1 hs hb ht h0 h1 h5 fun ρ h0 h1 h5 => ?_
      refine seE12 hi1 hs hb ht h0 h1 h5 fun ρ h0 h1 h5 => ?_
      refine seE13 hi1 hs hb ht h0 h1 h5 fun ρ h0 h1 h5 => ?_
      refine seE14 hi1 hs hb ht h0 h1 h5 fun ρ h0 h1 h5 => ?_
      refine seE15 hi1 hs hb ht h0 h1 h5 fun ρ h0 h1 h5 => ?_
      refine seE16 hi1 hs hb ht h0 h1 h5 fun ρ h0 h1 h5 => ?_
      refine seE17 hi1 hs hb ht h0 h1 h5 fun ρ h0 h1 h5 => ?_
      refine seE18 hi1 hs hb ht h0 h1 h5 fun ρ h0 h1 h5 => ?_
      refine seE19 hi1 hs hb ht h0 h1 h5 fun ρ h0 h1 h5 => ?_
      refine seE20 hi1 hs hb ht h0 h1 h5 fun ρ h0 h1 h5 => ?_
      refine seE21 hi1 hs hb ht h0 h1 h5 fun ρ h0 h1 h5 => ?_
      refine seE22 hi1 hs hb ht h0 h1 h5 fun ρ h0 h1 h5 => ?_
      refine seE23 hi1 hs hb ht h0 h1 h5 fun ρ h0 h1 h5 => ?_
      refine seE24 hi1 hs hb ht h0 h1 h5 fun ρ h0 h1 h5 => ?_
      refine seE25 hi1 hs hb ht h0 h1 h5 fun ρ h0 h1 h5 => ?_
      refine seE26 hi1 hs hb ht h0 h1 h5 fun ρ h0 h1 h5 => ?_
      refine seE27 hi1 hs hb ht h0 h1 h5 fun ρ h0 h1 h5 => ?_
      refine seE28 hi1 hs hb ht h0 h1 h5 fun ρ h0 h1 h5 => ?_
      refine seE29 hi1 hs hb ht h0 h1 h5 fun ρ h0 h1 h5 => ?_
      refine seE30 hi1 hs hb ht h0 h1 h5 fun ρ h0 h1 h5 => ?_
      refine seE31 hi1 hs hb ht h0 h1 h5 fun ρ h0 h1 h5 => ?_
      refine seE32 hi1 hs hb ht h0 h1 h5 fun ρ h0 h1 h5 => ?_
      refine seE33 hi1 hs hb ht h0 h1 h5 fun ρ h0 h1 h5 => ?_
      refine seE34 hi1 hs hb ht h0 h1 h5 fun ρ h0 h1 h5 => ?_
      refine seE35 hi1 hs hb ht h0 h1 h5 fun ρ h0 h1 h5 => ?_
      refine seE36 hi1 hs hb ht h0 h1 h5 fun ρ h0 h1 h5 => ?_
      refine seE37 hi1 hs hb ht h0 h1 h5 fun ρ h0 h1 h5 => ?_
      refine seE38 hi1 hs hb ht h0 h1 h5 fun ρ h0 h1 h5 => ?_
      refine seE39 hi1 hs hb ht h0 h1 h5 fun ρ h0 h1 h5 => ?_
      refine awl_nil ?_
      refine blk_normal (hR1 _ _ (.mk ?_))
      have w1 : IntKind.i64.wrap ((i : Int) + 1) = ((i + 1 : Nat) : Int) := by rw [wrap64 (by omega)]; omega
      refine awl_regS [(some 10, (.move (.tmp 5)), none), (some 11, (.binOp .add 3 (.tmp 10) (.const (.int .i64 1)) 3), none), (some 5, (.assign (.tmp 11)), none)] rfl fun K hK => ?_
      try simp only [go_sem, simprocAttr, h0, h1, h5, hi1, w1]
      repeat' (refine And.intro (by first | rfl | omega | (simp; done)) ?_)
      refine hK _ _ (.mk (awl_live' [0, 1, 5] fun ρ hL => ?_))
      try simp only [go_sem, simprocAttr, h0, h1, h5, hi1, w1] at hL
      try clear h0 h1 h5
      obtain ⟨h0, h1, h5⟩ := hL
      clear hK K
      refine awl_nil ?_
      refine loop_again _ ?meas ⟨i + 1, rfl, (by omega), (by simp only [go_sem, simprocAttr, h0, h1, h5, hi1, e1_0]), (by rw [h1]; congr 1; omega), (h5), rfl⟩
      case meas => subst hn; omega
    ·
      try simp only [cnd] at c1
      refine awl_exit ?_
      refine loop_break ?_
      exact ⟨(by simp only [go_sem, simprocAttr, h0, h1, h5, h9, e1_0]), (by rw [h1, show i = z by omega]), rfl⟩
  case after1 =>
    obtain ⟨hL, k1, hG⟩ := hJ
    subst hG
    clear h0 h1 h5
    clear hL
    have h1 := k1
    clear k1
    refine awl_seq ?_
    refine awl_regS [(some 461, (.move (.tmp 1)), none), (some 4, (.assign (.tmp 461)), none)] rfl fun K hK => ?_
    try simp only [go_sem, simprocAttr, h1]
    repeat' (refine And.intro (by first | rfl | omega | (simp; done)) ?_)
    refine hK _ _ (.mk (awl_live' [4] fun ρ hL => ?_))
    try simp only [go_sem, simprocAttr, h1] at hL
    try clear h1
    have h4 := hL
    clear hL
    clear hK K
    refine awl_ret ?_
    refine ret0 (by simp only [go_sem, simprocAttr, h4]; exact rfl) ?_
    try simp only [go_sem, simprocAttr]
    all_goals try clear hR1
    all_goals (first | done | rfl | (simp; done) | (simp [inR]; done) | (simp_all [inR]; done) | (simp [inR]; grind))
set_option maxHeartbeats 8000000 in
set_option maxRecDepth 100000 in
theorem sat_laws_heldCore (c : Cor) (t : Int) (hf : c.fit) (ht : 0 ≤ t ∧ t ≤ 1099300000000) : Sat Try.prog 49 [.agg (Cor.cells (c.markedQ t)), .int .i64 t] [] (.int .i64 (t + (c.cost : Nat))) [] := by
  refine sat_mk [.tmp 4] 0 24 Try.call49 Try.func49 Try.ntmps49 rfl rfl rfl rfl rfl ?_
  refine awl_live' [0, 1] fun ρ hL => ?_
  try simp only [go_sem, simprocAttr, Mem.marked, Stt.marked, Cor.markedQ, mrow_len, marks_len] at hL
  obtain ⟨h0, h1⟩ := hL
  refine awl_seq ?_
  refine awl_regS [(some 2, (.box 61 (.tmp 0)), none), (some 4, (.assign (.const (.int .i64 0))), none)] rfl fun K hK => ?_
  try simp only [go_sem, simprocAttr, h0, h1, Mem.marked, Stt.marked, Cor.markedQ, mrow_len, marks_len]
  repeat' (refine And.intro (by first | rfl | omega | (simp; done)) ?_)
  refine hK _ _ (.mk (awl_live' [1, 2] fun ρ hL => ?_))
  try simp only [go_sem, simprocAttr, h0, h1, Mem.marked, Stt.marked, Cor.markedQ, mrow_len, marks_len] at hL
  try clear h0 h1
  obtain ⟨h1, h2⟩ := hL
  clear hK K
  refine awl_seq ?_
  refine awl_regS [(some 5, (.fieldAddr 61 (.tmp 2) 0), none), (some 6, (.load 46 (.tmp 5)), none), (some 7, (.move (.tmp 1)), none), (some 8, (.call ⟨(.value (.func 97)), #[(.tmp 6), (.tmp 7)], #[46, 3]⟩), none), (some 1, (.assign (.tmp 8)), none)] rfl fun K hK => ?_
  try simp only [go_sem, simprocAttr, h1, h2, Mem.marked, Stt.marked, Cor.markedQ, mrow_len, marks_len]
  repeat' (refine And.intro (by first | rfl | omega | (simp; done)) ?_)
  refine opS_call_ro rfl (sat_laws_heldState c.s t hf.1 (by omega)) ?ha ?hv ?hh ?_
  case ha => simp only [go_sem, simprocAttr, h1, h2, Mem.marked, Stt.marked, Cor.markedQ, mrow_len, marks_len]; first | done | rfl
  case hv => first | rfl | (simp only [go_sem]; done)
  case hh => first | rfl | (simp only [go_sem]; done)
  try simp only [go_sem, simprocAttr, h1, h2, Mem.marked, Stt.marked, Cor.markedQ, mrow_len, marks_len]
  repeat' (refine And.intro (by first | rfl | omega | (simp; done)) ?_)
  refine hK _ _ (.mk (awl_live' [1, 2] fun ρ hL => ?_))
  try simp only [go_sem, simprocAttr, h1, h2, Mem.marked, Stt.marked, Cor.markedQ, mrow_len, marks_len] at hL
  try clear h1 h2
  obtain ⟨h1, h2⟩ := hL
  clear hK K
  refine awl_seq ?_
  refine awl_seq ?_
  refine awl_regS [(some 9, (.move (.tmp 1)), none), (some 10, (.binOp .lss 3 (.tmp 9) (.const (.int .i64 0)) 3), none)] rfl fun K hK => ?_
  try simp only [go_sem, simprocAttr, h1, h2, Mem.marked, Stt.marked, Cor.markedQ, mrow_len, marks_len]
  repeat' (refine And.intro (by first | rfl | omega | (simp; done)) ?_)
  refine hK _ _ (.mk (awl_live' [1, 2, 10] fun ρ hL => ?_))
  try simp only [go_sem, simprocAttr, h1, h2, Mem.marked, Stt.marked, Cor.markedQ, mrow_len, marks_len] at hL
  try clear h1 h2
  obtain ⟨h1, h2, h10⟩ := hL
  clear hK K
  refine awl_cond h10 (fun c1 => ?_) (fun c1 => ?_)
  ·
    try simp only [cnd] at c1
    omega
  ·
    try simp only [cnd] at c1
    refine awl_skip ?_
    refine awl_seq ?_
    refine awl_regS [(some 11, (.fieldAddr 61 (.tmp 2) 1), none), (some 12, (.load 59 (.tmp 11)), none), (some 13, (.move (.tmp 1)), none), (some 14, (.call ⟨(.value (.func 98)), #[(.tmp 12), (.tmp 13)], #[59, 3]⟩), none), (some 1, (.assign (.tmp 14)), none)] rfl fun K hK => ?_
    try simp only [go_sem, simprocAttr, h1, h2, h10, Mem.marked, Stt.marked, Cor.markedQ, mrow_len, marks_len]
    repeat' (refine And.intro (by first | rfl | omega | (simp; done)) ?_)
    refine opS_call_ro rfl (sat_laws_heldEntryS c.rob.length (t + (c.s.cost : Nat)) c.rob.length (Nat.le_trans hf.2.1 (by decide)) (by have := Stt.cost_le hf.1; omega)) ?ha ?hv ?hh ?_
    case ha => simp only [go_sem, simprocAttr, h1, h2, h10, Mem.marked, Stt.marked, Cor.markedQ, mrow_len, marks_len]; first | done | rfl
    case hv => first | rfl | (simp only [go_sem]; done)
    case hh => first | rfl | (simp only [go_sem]; done)
    try simp only [go_sem, simprocAttr, h1, h2, h10, Mem.marked, Stt.marked, Cor.markedQ, mrow_len, marks_len]
    repeat' (refine And.intro (by first | rfl | omega | (simp; done)) ?_)
    refine hK _ _ (.mk (awl_live' [1, 2] fun ρ hL => ?_))
    try simp only [go_sem, simprocAttr, h1, h2, h10, Mem.marked, Stt.marked, Cor.markedQ, mrow_len, marks_len] at hL
    try clear h1 h2 h10
    obtain ⟨h1, h2⟩ := hL
    clear hK K
    refine awl_seq ?_
    refine awl_seq ?_
    refine awl_regS [(some 15, (.move (.tmp 1)), none), (some 16, (.binOp .lss 3 (.tmp 15) (.const (.int .i64 0)) 3), none)] rfl fun K hK => ?_
    try simp only [go_sem, simprocAttr, h1, h2, Mem.marked, Stt.marked, Cor.markedQ, mrow_len, marks_len]
    repeat' (refine And.intro (by first | rfl | omega | (simp; done)) ?_)
    refine hK _ _ (.mk (awl_live' [1, 2, 16] fun ρ hL => ?_))
    try simp only [go_sem, simprocAttr, h1, h2, Mem.marked, Stt.marked, Cor.markedQ, mrow_len, marks_len] at hL
    try clear h1 h2
    obtain ⟨h1, h2, h16⟩ := hL
    clear hK K
    refine awl_cond h16 (fun c2 => ?_) (fun c2 => ?_)
    ·
      try simp only [cnd] at c2
      omega
    ·
      try simp only [cnd] at c2
      refine awl_skip ?_
      refine awl_seq ?_
      refine awl_regS [(some 17, (.fieldAddr 61 (.tmp 2) 4), none), (some 18, (.load 22 (.tmp 17)), none), (some 19, (.move (.tmp 1)), none), (some 20, (.call ⟨(.value (.func 17)), #[(.tmp 18), (.tmp 19)], #[22, 3]⟩), none), (some 1, (.assign (.tmp 20)), none)] rfl fun K hK => ?_
      try simp only [go_sem, simprocAttr, h1, h2, h16, Mem.marked, Stt.marked, Cor.markedQ, mrow_len, marks_len]
      repeat' (refine And.intro (by first | rfl | omega | (simp; done)) ?_)
      refine opS_call_ro rfl (sat_laws_heldIntS c.guesses.length (t + (c.s.cost : Nat) + (40 * c.rob.length : Nat)) c.guesses.length (Nat.le_trans hf.2.2 (by decide)) (by have := Stt.cost_le hf.1; have := hf.2.1; omega)) ?ha ?hv ?hh ?_
      case ha => simp only [go_sem, simprocAttr, h1, h2, h16, Mem.marked, Stt.marked, Cor.markedQ, mrow_len, marks_len]; first | done | rfl
      case hv => first | rfl | (simp only [go_sem]; done)
      case hh => first | rfl | (simp only [go_sem]; done)
      try simp only [go_sem, simprocAttr, h1, h2, h16, Mem.marked, Stt.marked, Cor.markedQ, mrow_len, marks_len]
      repeat' (refine And.intro (by first | rfl | omega | (simp; done)) ?_)
      refine hK _ _ (.mk (awl_live' [1] fun ρ hL => ?_))
      try simp only [go_sem, simprocAttr, h1, h2, h16, Mem.marked, Stt.marked, Cor.markedQ, mrow_len, marks_len] at hL
      try clear h1 h2 h16
      have h1 := hL
      clear hL
      clear hK K
      refine awl_seq ?_
      refine awl_seq ?_
      refine awl_regS [(some 21, (.move (.tmp 1)), none), (some 22, (.binOp .lss 3 (.tmp 21) (.const (.int .i64 0)) 3), none)] rfl fun K hK => ?_
      try simp only [go_sem, simprocAttr, h1, Mem.marked, Stt.marked, Cor.markedQ, mrow_len, marks_len]
      repeat' (refine And.intro (by first | rfl | omega | (simp; done)) ?_)
      refine hK _ _ (.mk (awl_live' [1, 22] fun ρ hL => ?_))
      try simp only [go_sem, simprocAttr, h1, Mem.marked, Stt.marked, Cor.markedQ, mrow_len, marks_len] at hL
      try clear h1
      obtain ⟨h1, h22⟩ := hL
      clear hK K
      refine awl_cond h22 (fun c3 => ?_) (fun c3 => ?_)
      ·
        try simp only [cnd] at c3
        omega
      ·
        try simp only [cnd] at c3
        refine awl_skip ?_
        refine awl_seq ?_
        refine awl_regS [(some 23, (.move (.tmp 1)), none), (some 4, (.assign (.tmp 23)), none)] rfl fun K hK => ?_
        try simp only [go_sem, simprocAttr, h1, h22, Mem.marked, Stt.marked, Cor.markedQ, mrow_len, marks_len]
        repeat' (refine And.intro (by first | rfl | omega | (simp; done)) ?_)
        refine hK _ _ (.mk (awl_live' [4] fun ρ hL => ?_))
        try simp only [go_sem, simprocAttr, h1, h22, Mem.marked, Stt.marked, Cor.markedQ, mrow_len, marks_len] at hL
        try clear h1 h22
        have h4 := hL
        clear hL
        clear hK K
        refine awl_ret ?_
        refine ret0 (by simp only [go_sem, simprocAttr, h4, Mem.marked, Stt.marked, Cor.markedQ, mrow_len, marks_len]; exact rfl) ?_
        try simp only [go_sem, simprocAttr]
        all_goals (first | done | rfl | (congr 1; simp only [Mem.cost, Stt.cost, Cor.cost]; omega))
end Go.Proofs.Ytgddflnhibhacaa.AM
