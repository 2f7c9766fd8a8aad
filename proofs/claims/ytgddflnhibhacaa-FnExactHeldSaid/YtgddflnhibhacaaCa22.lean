/- What the laws mark of cores. No conditions but those each theorem bears. -/
import Derived.Test.YtgddflnhibhacaaFa
import Derived.Test.YtgddflnhibhacaaSp12
import Derived.Test.YtgddflnhibhacaaCa16
set_option linter.unusedSimpArgs false
set_option linter.unusedVariables false
namespace Go.Proofs.Ytgddflnhibhacaa.AM
open Go

set_option maxRecDepth 100000 in
theorem mkE0 {xs : List Ent} {t s : Int} {c i : Nat} (hi : i < xs.length) (hs : s = t + (40 * i : Nat)) (hb : xs.length ≤ 1099511627776) (ht : 0 ≤ t ∧ t ≤ 1099511627776) {cs : List Code} {Q : Exit → Env → Heap → Prop} {ρ : Env} (h0 : ρ 0 = .slice 0 0 xs.length c) (h1 : ρ 1 = .int .i64 s) (h5 : ρ 5 = .int .i64 (i : Int)) (next : ∀ ρ : Env, ρ 0 = .slice 0 0 xs.length c → ρ 1 = .int .i64 (s + 1) → ρ 5 = .int .i64 (i : Int) → awpL Try.prog 1 (codeAt (fnCode Try.f88) [1, 0, 1, 2, 2, 1, 0, 2, 1, 1] :: cs) Q ρ [⟨40, rows (mrow markQ 40 t i) ++ (mixQ s (xs.getD i noEnt) 1 ++ rows (xs.drop (i + 1))), true, false⟩]) :
    awpL Try.prog 1 (codeAt (fnCode Try.f88) [1, 0, 1, 2, 2, 1, 0, 2] :: cs) Q ρ [⟨40, rows (mrow markQ 40 t i) ++ (mixQ s (xs.getD i noEnt) 0 ++ rows (xs.drop (i + 1))), true, false⟩] := by
  have lx : (rows (mrow markQ 40 t i) ++ (mixQ s (xs.getD i noEnt) 0 ++ rows (xs.drop (i + 1)))).length = xs.length * 40 := by rw [List.length_append, List.length_append, mrowsE_len, mixQ_len, ents_len, List.length_drop]; omega
  refine awl_seq ?_
  refine awl_regS [(some 12, (.move (.tmp 0)), none), (some 13, (.move (.tmp 5)), none), (some 14, (.move (.tmp 1)), none), (some 15, (.indexAddr 59 (.tmp 12) (.tmp 13)), none), (some 16, (.fieldAddr 96 (.tmp 15) 0), none), (some 17, (.fieldAddr 42 (.tmp 16) 0), none), (none, (.store 3 (.tmp 17) (.tmp 14)), none)] rfl fun K hK => ?_
  simp only [go_sem, simprocAttr, h0, h1, h5, hi, lx, mixQ0]
  repeat' (refine And.intro (by first | rfl | omega) ?_)
  refine hK _ _ (.mk (awl_live' [0, 1, 5] fun ρ hL => ?_))
  simp only [go_sem, simprocAttr, h0, h1, h5] at hL
  obtain ⟨h0, h1, h5⟩ := hL
  clear hK K
  refine awl_seq ?_
  have w1_ : IntKind.i64.wrap (s + 1) = s + 1 := by rw [wrap64 (by omega)]
  refine awl_regS [(some 18, (.move (.tmp 1)), none), (some 19, (.binOp .add 3 (.tmp 18) (.const (.int .i64 1)) 3), none), (some 1, (.assign (.tmp 19)), none)] rfl fun K hK => ?_
  simp only [go_sem, simprocAttr, h0, h1, h5, w1_]
  refine hK _ _ (.mk (awl_live' [0, 1, 5] fun ρ hL => ?_))
  simp only [go_sem, simprocAttr, h0, h1, h5, w1_] at hL
  obtain ⟨h0, h1, h5⟩ := hL
  exact next ρ h0 h1 h5
set_option maxRecDepth 100000 in
theorem mkE1 {xs : List Ent} {t s : Int} {c i : Nat} (hi : i < xs.length) (hs : s = t + (40 * i : Nat)) (hb : xs.length ≤ 1099511627776) (ht : 0 ≤ t ∧ t ≤ 1099511627776) {cs : List Code} {Q : Exit → Env → Heap → Prop} {ρ : Env} (h0 : ρ 0 = .slice 0 0 xs.length c) (h1 : ρ 1 = .int .i64 (s + 1)) (h5 : ρ 5 = .int .i64 (i : Int)) (next : ∀ ρ : Env, ρ 0 = .slice 0 0 xs.length c → ρ 1 = .int .i64 (s + 2) → ρ 5 = .int .i64 (i : Int) → awpL Try.prog 1 (codeAt (fnCode Try.f88) [1, 0, 1, 2, 2, 1, 0, 2, 1, 1, 1, 1] :: cs) Q ρ [⟨40, rows (mrow markQ 40 t i) ++ (mixQ s (xs.getD i noEnt) 2 ++ rows (xs.drop (i + 1))), true, false⟩]) :
    awpL Try.prog 1 (codeAt (fnCode Try.f88) [1, 0, 1, 2, 2, 1, 0, 2, 1, 1] :: cs) Q ρ [⟨40, rows (mrow markQ 40 t i) ++ (mixQ s (xs.getD i noEnt) 1 ++ rows (xs.drop (i + 1))), true, false⟩] := by
  have lx : (rows (mrow markQ 40 t i) ++ (mixQ s (xs.getD i noEnt) 1 ++ rows (xs.drop (i + 1)))).length = xs.length * 40 := by rw [List.length_append, List.length_append, mrowsE_len, mixQ_len, ents_len, List.length_drop]; omega
  refine awl_seq ?_
  refine awl_regS [(some 20, (.move (.tmp 0)), none), (some 21, (.move (.tmp 5)), none), (some 22, (.move (.tmp 1)), none), (some 23, (.binOp .rem 3 (.tmp 22) (.const (.int .i64 3)) 3), none), (some 24, (.binOp .eql 3 (.tmp 23) (.const (.int .i64 0)) 3), none), (some 25, (.indexAddr 59 (.tmp 20) (.tmp 21)), none), (some 26, (.fieldAddr 96 (.tmp 25) 0), none), (some 27, (.fieldAddr 42 (.tmp 26) 1), none), (none, (.store 4 (.tmp 27) (.tmp 24)), none)] rfl fun K hK => ?_
  simp only [go_sem, simprocAttr, h0, h1, h5, hi, lx, mixQ1]
  repeat' (refine And.intro (by first | rfl | omega) ?_)
  refine hK _ _ (.mk (awl_live' [0, 1, 5] fun ρ hL => ?_))
  simp only [go_sem, simprocAttr, h0, h1, h5] at hL
  obtain ⟨h0, h1, h5⟩ := hL
  clear hK K
  refine awl_seq ?_
  have w2_ : IntKind.i64.wrap (s + 1 + 1) = s + 2 := by rw [wrap64 (by omega)]; omega
  refine awl_regS [(some 28, (.move (.tmp 1)), none), (some 29, (.binOp .add 3 (.tmp 28) (.const (.int .i64 1)) 3), none), (some 1, (.assign (.tmp 29)), none)] rfl fun K hK => ?_
  simp only [go_sem, simprocAttr, h0, h1, h5, w2_]
  refine hK _ _ (.mk (awl_live' [0, 1, 5] fun ρ hL => ?_))
  simp only [go_sem, simprocAttr, h0, h1, h5, w2_] at hL
  obtain ⟨h0, h1, h5⟩ := hL
  exact next ρ h0 h1 h5
set_option maxRecDepth 100000 in
theorem mkE2 {xs : List Ent} {t s : Int} {c i : Nat} (hi : i < xs.length) (hs : s = t + (40 * i : Nat)) (hb : xs.length ≤ 1099511627776) (ht : 0 ≤ t ∧ t ≤ 1099511627776) {cs : List Code} {Q : Exit → Env → Heap → Prop} {ρ : Env} (h0 : ρ 0 = .slice 0 0 xs.length c) (h1 : ρ 1 = .int .i64 (s + 2)) (h5 : ρ 5 = .int .i64 (i : Int)) (next : ∀ ρ : Env, ρ 0 = .slice 0 0 xs.length c → ρ 1 = .int .i64 (s + 3) → ρ 5 = .int .i64 (i : Int) → awpL Try.prog 1 (codeAt (fnCode Try.f88) [1, 0, 1, 2, 2, 1, 0, 2, 1, 1, 1, 1, 1, 1] :: cs) Q ρ [⟨40, rows (mrow markQ 40 t i) ++ (mixQ s (xs.getD i noEnt) 3 ++ rows (xs.drop (i + 1))), true, false⟩]) :
    awpL Try.prog 1 (codeAt (fnCode Try.f88) [1, 0, 1, 2, 2, 1, 0, 2, 1, 1, 1, 1] :: cs) Q ρ [⟨40, rows (mrow markQ 40 t i) ++ (mixQ s (xs.getD i noEnt) 2 ++ rows (xs.drop (i + 1))), true, false⟩] := by
  have lx : (rows (mrow markQ 40 t i) ++ (mixQ s (xs.getD i noEnt) 2 ++ rows (xs.drop (i + 1)))).length = xs.length * 40 := by rw [List.length_append, List.length_append, mrowsE_len, mixQ_len, ents_len, List.length_drop]; omega
  refine awl_seq ?_
  refine awl_regS [(some 30, (.move (.tmp 0)), none), (some 31, (.move (.tmp 5)), none), (some 32, (.move (.tmp 1)), none), (some 33, (.indexAddr 59 (.tmp 30) (.tmp 31)), none), (some 34, (.fieldAddr 96 (.tmp 33) 0), none), (some 35, (.fieldAddr 42 (.tmp 34) 2), none), (some 36, (.fieldAddr 40 (.tmp 35) 0), none), (none, (.store 3 (.tmp 36) (.tmp 32)), none)] rfl fun K hK => ?_
  simp only [go_sem, simprocAttr, h0, h1, h5, hi, lx, mixQ2]
  repeat' (refine And.intro (by first | rfl | omega) ?_)
  refine hK _ _ (.mk (awl_live' [0, 1, 5] fun ρ hL => ?_))
  simp only [go_sem, simprocAttr, h0, h1, h5] at hL
  obtain ⟨h0, h1, h5⟩ := hL
  clear hK K
  refine awl_seq ?_
  have w3_ : IntKind.i64.wrap (s + 2 + 1) = s + 3 := by rw [wrap64 (by omega)]; omega
  refine awl_regS [(some 37, (.move (.tmp 1)), none), (some 38, (.binOp .add 3 (.tmp 37) (.const (.int .i64 1)) 3), none), (some 1, (.assign (.tmp 38)), none)] rfl fun K hK => ?_
  simp only [go_sem, simprocAttr, h0, h1, h5, w3_]
  refine hK _ _ (.mk (awl_live' [0, 1, 5] fun ρ hL => ?_))
  simp only [go_sem, simprocAttr, h0, h1, h5, w3_] at hL
  obtain ⟨h0, h1, h5⟩ := hL
  exact next ρ h0 h1 h5
set_option maxRecDepth 100000 in
theorem mkE3 {xs : List Ent} {t s : Int} {c i : Nat} (hi : i < xs.length) (hs : s = t + (40 * i : Nat)) (hb : xs.length ≤ 1099511627776) (ht : 0 ≤ t ∧ t ≤ 1099511627776) {cs : List Code} {Q : Exit → Env → Heap → Prop} {ρ : Env} (h0 : ρ 0 = .slice 0 0 xs.length c) (h1 : ρ 1 = .int .i64 (s + 3)) (h5 : ρ 5 = .int .i64 (i : Int)) (next : ∀ ρ : Env, ρ 0 = .slice 0 0 xs.length c → ρ 1 = .int .i64 (s + 4) → ρ 5 = .int .i64 (i : Int) → awpL Try.prog 1 (codeAt (fnCode Try.f88) [1, 0, 1, 2, 2, 1, 0, 2, 1, 1, 1, 1, 1, 1, 1, 1] :: cs) Q ρ [⟨40, rows (mrow markQ 40 t i) ++ (mixQ s (xs.getD i noEnt) 4 ++ rows (xs.drop (i + 1))), true, false⟩]) :
    awpL Try.prog 1 (codeAt (fnCode Try.f88) [1, 0, 1, 2, 2, 1, 0, 2, 1, 1, 1, 1, 1, 1] :: cs) Q ρ [⟨40, rows (mrow markQ 40 t i) ++ (mixQ s (xs.getD i noEnt) 3 ++ rows (xs.drop (i + 1))), true, false⟩] := by
  have lx : (rows (mrow markQ 40 t i) ++ (mixQ s (xs.getD i noEnt) 3 ++ rows (xs.drop (i + 1)))).length = xs.length * 40 := by rw [List.length_append, List.length_append, mrowsE_len, mixQ_len, ents_len, List.length_drop]; omega
  refine awl_seq ?_
  refine awl_regS [(some 39, (.move (.tmp 0)), none), (some 40, (.move (.tmp 5)), none), (some 41, (.move (.tmp 1)), none), (some 42, (.indexAddr 59 (.tmp 39) (.tmp 40)), none), (some 43, (.fieldAddr 96 (.tmp 42) 0), none), (some 44, (.fieldAddr 42 (.tmp 43) 2), none), (some 45, (.fieldAddr 40 (.tmp 44) 1), none), (none, (.store 3 (.tmp 45) (.tmp 41)), none)] rfl fun K hK => ?_
  simp only [go_sem, simprocAttr, h0, h1, h5, hi, lx, mixQ3]
  repeat' (refine And.intro (by first | rfl | omega) ?_)
  refine hK _ _ (.mk (awl_live' [0, 1, 5] fun ρ hL => ?_))
  simp only [go_sem, simprocAttr, h0, h1, h5] at hL
  obtain ⟨h0, h1, h5⟩ := hL
  clear hK K
  refine awl_seq ?_
  have w4_ : IntKind.i64.wrap (s + 3 + 1) = s + 4 := by rw [wrap64 (by omega)]; omega
  refine awl_regS [(some 46, (.move (.tmp 1)), none), (some 47, (.binOp .add 3 (.tmp 46) (.const (.int .i64 1)) 3), none), (some 1, (.assign (.tmp 47)), none)] rfl fun K hK => ?_
  simp only [go_sem, simprocAttr, h0, h1, h5, w4_]
  refine hK _ _ (.mk (awl_live' [0, 1, 5] fun ρ hL => ?_))
  simp only [go_sem, simprocAttr, h0, h1, h5, w4_] at hL
  obtain ⟨h0, h1, h5⟩ := hL
  exact next ρ h0 h1 h5
set_option maxRecDepth 100000 in
theorem mkE4 {xs : List Ent} {t s : Int} {c i : Nat} (hi : i < xs.length) (hs : s = t + (40 * i : Nat)) (hb : xs.length ≤ 1099511627776) (ht : 0 ≤ t ∧ t ≤ 1099511627776) {cs : List Code} {Q : Exit → Env → Heap → Prop} {ρ : Env} (h0 : ρ 0 = .slice 0 0 xs.length c) (h1 : ρ 1 = .int .i64 (s + 4)) (h5 : ρ 5 = .int .i64 (i : Int)) (next : ∀ ρ : Env, ρ 0 = .slice 0 0 xs.length c → ρ 1 = .int .i64 (s + 5) → ρ 5 = .int .i64 (i : Int) → awpL Try.prog 1 (codeAt (fnCode Try.f88) [1, 0, 1, 2, 2, 1, 0, 2, 1, 1, 1, 1, 1, 1, 1, 1, 1, 1] :: cs) Q ρ [⟨40, rows (mrow markQ 40 t i) ++ (mixQ s (xs.getD i noEnt) 5 ++ rows (xs.drop (i + 1))), true, false⟩]) :
    awpL Try.prog 1 (codeAt (fnCode Try.f88) [1, 0, 1, 2, 2, 1, 0, 2, 1, 1, 1, 1, 1, 1, 1, 1] :: cs) Q ρ [⟨40, rows (mrow markQ 40 t i) ++ (mixQ s (xs.getD i noEnt) 4 ++ rows (xs.drop (i + 1))), true, false⟩] := by
  have lx : (rows (mrow markQ 40 t i) ++ (mixQ s (xs.getD i noEnt) 4 ++ rows (xs.drop (i + 1)))).length = xs.length * 40 := by rw [List.length_append, List.length_append, mrowsE_len, mixQ_len, ents_len, List.length_drop]; omega
  refine awl_seq ?_
  refine awl_regS [(some 48, (.move (.tmp 0)), none), (some 49, (.move (.tmp 5)), none), (some 50, (.move (.tmp 1)), none), (some 51, (.indexAddr 59 (.tmp 48) (.tmp 49)), none), (some 52, (.fieldAddr 96 (.tmp 51) 0), none), (some 53, (.fieldAddr 42 (.tmp 52) 2), none), (some 54, (.fieldAddr 40 (.tmp 53) 2), none), (none, (.store 3 (.tmp 54) (.tmp 50)), none)] rfl fun K hK => ?_
  simp only [go_sem, simprocAttr, h0, h1, h5, hi, lx, mixQ4]
  repeat' (refine And.intro (by first | rfl | omega) ?_)
  refine hK _ _ (.mk (awl_live' [0, 1, 5] fun ρ hL => ?_))
  simp only [go_sem, simprocAttr, h0, h1, h5] at hL
  obtain ⟨h0, h1, h5⟩ := hL
  clear hK K
  refine awl_seq ?_
  have w5_ : IntKind.i64.wrap (s + 4 + 1) = s + 5 := by rw [wrap64 (by omega)]; omega
  refine awl_regS [(some 55, (.move (.tmp 1)), none), (some 56, (.binOp .add 3 (.tmp 55) (.const (.int .i64 1)) 3), none), (some 1, (.assign (.tmp 56)), none)] rfl fun K hK => ?_
  simp only [go_sem, simprocAttr, h0, h1, h5, w5_]
  refine hK _ _ (.mk (awl_live' [0, 1, 5] fun ρ hL => ?_))
  simp only [go_sem, simprocAttr, h0, h1, h5, w5_] at hL
  obtain ⟨h0, h1, h5⟩ := hL
  exact next ρ h0 h1 h5
set_option maxRecDepth 100000 in
theorem mkE5 {xs : List Ent} {t s : Int} {c i : Nat} (hi : i < xs.length) (hs : s = t + (40 * i : Nat)) (hb : xs.length ≤ 1099511627776) (ht : 0 ≤ t ∧ t ≤ 1099511627776) {cs : List Code} {Q : Exit → Env → Heap → Prop} {ρ : Env} (h0 : ρ 0 = .slice 0 0 xs.length c) (h1 : ρ 1 = .int .i64 (s + 5)) (h5 : ρ 5 = .int .i64 (i : Int)) (next : ∀ ρ : Env, ρ 0 = .slice 0 0 xs.length c → ρ 1 = .int .i64 (s + 6) → ρ 5 = .int .i64 (i : Int) → awpL Try.prog 1 (codeAt (fnCode Try.f88) [1, 0, 1, 2, 2, 1, 0, 2, 1, 1, 1, 1, 1, 1, 1, 1, 1, 1, 1, 1] :: cs) Q ρ [⟨40, rows (mrow markQ 40 t i) ++ (mixQ s (xs.getD i noEnt) 6 ++ rows (xs.drop (i + 1))), true, false⟩]) :
    awpL Try.prog 1 (codeAt (fnCode Try.f88) [1, 0, 1, 2, 2, 1, 0, 2, 1, 1, 1, 1, 1, 1, 1, 1, 1, 1] :: cs) Q ρ [⟨40, rows (mrow markQ 40 t i) ++ (mixQ s (xs.getD i noEnt) 5 ++ rows (xs.drop (i + 1))), true, false⟩] := by
  have lx : (rows (mrow markQ 40 t i) ++ (mixQ s (xs.getD i noEnt) 5 ++ rows (xs.drop (i + 1)))).length = xs.length * 40 := by rw [List.length_append, List.length_append, mrowsE_len, mixQ_len, ents_len, List.length_drop]; omega
  refine awl_seq ?_
  refine awl_regS [(some 57, (.move (.tmp 0)), none), (some 58, (.move (.tmp 5)), none), (some 59, (.move (.tmp 1)), none), (some 60, (.indexAddr 59 (.tmp 57) (.tmp 58)), none), (some 61, (.fieldAddr 96 (.tmp 60) 0), none), (some 62, (.fieldAddr 42 (.tmp 61) 2), none), (some 63, (.fieldAddr 40 (.tmp 62) 3), none), (none, (.store 3 (.tmp 63) (.tmp 59)), none)] rfl fun K hK => ?_
  simp only [go_sem, simprocAttr, h0, h1, h5, hi, lx, mixQ5]
  repeat' (refine And.intro (by first | rfl | omega) ?_)
  refine hK _ _ (.mk (awl_live' [0, 1, 5] fun ρ hL => ?_))
  simp only [go_sem, simprocAttr, h0, h1, h5] at hL
  obtain ⟨h0, h1, h5⟩ := hL
  clear hK K
  refine awl_seq ?_
  have w6_ : IntKind.i64.wrap (s + 5 + 1) = s + 6 := by rw [wrap64 (by omega)]; omega
  refine awl_regS [(some 64, (.move (.tmp 1)), none), (some 65, (.binOp .add 3 (.tmp 64) (.const (.int .i64 1)) 3), none), (some 1, (.assign (.tmp 65)), none)] rfl fun K hK => ?_
  simp only [go_sem, simprocAttr, h0, h1, h5, w6_]
  refine hK _ _ (.mk (awl_live' [0, 1, 5] fun ρ hL => ?_))
  simp only [go_sem, simprocAttr, h0, h1, h5, w6_] at hL
  obtain ⟨h0, h1, h5⟩ := hL
  exact next ρ h0 h1 h5
set_option maxRecDepth 100000 in
theorem mkE6 {xs : List Ent} {t s : Int} {c i : Nat} (hi : i < xs.length) (hs : s = t + (40 * i : Nat)) (hb : xs.length ≤ 1099511627776) (ht : 0 ≤ t ∧ t ≤ 1099511627776) {cs : List Code} {Q : Exit → Env → Heap → Prop} {ρ : Env} (h0 : ρ 0 = .slice 0 0 xs.length c) (h1 : ρ 1 = .int .i64 (s + 6)) (h5 : ρ 5 = .int .i64 (i : Int)) (next : ∀ ρ : Env, ρ 0 = .slice 0 0 xs.length c → ρ 1 = .int .i64 (s + 7) → ρ 5 = .int .i64 (i : Int) → awpL Try.prog 1 (codeAt (fnCode Try.f88) [1, 0, 1, 2, 2, 1, 0, 2, 1, 1, 1, 1, 1, 1, 1, 1, 1, 1, 1, 1, 1, 1] :: cs) Q ρ [⟨40, rows (mrow markQ 40 t i) ++ (mixQ s (xs.getD i noEnt) 7 ++ rows (xs.drop (i + 1))), true, false⟩]) :
    awpL Try.prog 1 (codeAt (fnCode Try.f88) [1, 0, 1, 2, 2, 1, 0, 2, 1, 1, 1, 1, 1, 1, 1, 1, 1, 1, 1, 1] :: cs) Q ρ [⟨40, rows (mrow markQ 40 t i) ++ (mixQ s (xs.getD i noEnt) 6 ++ rows (xs.drop (i + 1))), true, false⟩] := by
  have lx : (rows (mrow markQ 40 t i) ++ (mixQ s (xs.getD i noEnt) 6 ++ rows (xs.drop (i + 1)))).length = xs.length * 40 := by rw [List.length_append, List.length_append, mrowsE_len, mixQ_len, ents_len, List.length_drop]; omega
  refine awl_seq ?_
  refine awl_regS [(some 66, (.move (.tmp 0)), none), (some 67, (.move (.tmp 5)), none), (some 68, (.move (.tmp 1)), none), (some 69, (.indexAddr 59 (.tmp 66) (.tmp 67)), none), (some 70, (.fieldAddr 96 (.tmp 69) 1), none), (some 71, (.fieldAddr 94 (.tmp 70) 0), none), (none, (.store 3 (.tmp 71) (.tmp 68)), none)] rfl fun K hK => ?_
  simp only [go_sem, simprocAttr, h0, h1, h5, hi, lx, mixQ6]
  repeat' (refine And.intro (by first | rfl | omega) ?_)
  refine hK _ _ (.mk (awl_live' [0, 1, 5] fun ρ hL => ?_))
  simp only [go_sem, simprocAttr, h0, h1, h5] at hL
  obtain ⟨h0, h1, h5⟩ := hL
  clear hK K
  refine awl_seq ?_
  have w7_ : IntKind.i64.wrap (s + 6 + 1) = s + 7 := by rw [wrap64 (by omega)]; omega
  refine awl_regS [(some 72, (.move (.tmp 1)), none), (some 73, (.binOp .add 3 (.tmp 72) (.const (.int .i64 1)) 3), none), (some 1, (.assign (.tmp 73)), none)] rfl fun K hK => ?_
  simp only [go_sem, simprocAttr, h0, h1, h5, w7_]
  refine hK _ _ (.mk (awl_live' [0, 1, 5] fun ρ hL => ?_))
  simp only [go_sem, simprocAttr, h0, h1, h5, w7_] at hL
  obtain ⟨h0, h1, h5⟩ := hL
  exact next ρ h0 h1 h5
set_option maxRecDepth 100000 in
theorem mkE7 {xs : List Ent} {t s : Int} {c i : Nat} (hi : i < xs.length) (hs : s = t + (40 * i : Nat)) (hb : xs.length ≤ 1099511627776) (ht : 0 ≤ t ∧ t ≤ 1099511627776) {cs : List Code} {Q : Exit → Env → Heap → Prop} {ρ : Env} (h0 : ρ 0 = .slice 0 0 xs.length c) (h1 : ρ 1 = .int .i64 (s + 7)) (h5 : ρ 5 = .int .i64 (i : Int)) (next : ∀ ρ : Env, ρ 0 = .slice 0 0 xs.length c → ρ 1 = .int .i64 (s + 8) → ρ 5 = .int .i64 (i : Int) → awpL Try.prog 1 (codeAt (fnCode Try.f88) [1, 0, 1, 2, 2, 1, 0, 2, 1, 1, 1, 1, 1, 1, 1, 1, 1, 1, 1, 1, 1, 1, 1, 1] :: cs) Q ρ [⟨40, rows (mrow markQ 40 t i) ++ (mixQ s (xs.getD i noEnt) 8 ++ rows (xs.drop (i + 1))), true, false⟩]) :
    awpL Try.prog 1 (codeAt (fnCode Try.f88) [1, 0, 1, 2, 2, 1, 0, 2, 1, 1, 1, 1, 1, 1, 1, 1, 1, 1, 1, 1, 1, 1] :: cs) Q ρ [⟨40, rows (mrow markQ 40 t i) ++ (mixQ s (xs.getD i noEnt) 7 ++ rows (xs.drop (i + 1))), true, false⟩] := by
  have lx : (rows (mrow markQ 40 t i) ++ (mixQ s (xs.getD i noEnt) 7 ++ rows (xs.drop (i + 1)))).length = xs.length * 40 := by rw [List.length_append, List.length_append, mrowsE_len, mixQ_len, ents_len, List.length_drop]; omega
  refine awl_seq ?_
  refine awl_regS [(some 74, (.move (.tmp 0)), none), (some 75, (.move (.tmp 5)), none), (some 76, (.move (.tmp 1)), none), (some 77, (.indexAddr 59 (.tmp 74) (.tmp 75)), none), (some 78, (.fieldAddr 96 (.tmp 77) 1), none), (some 79, (.fieldAddr 94 (.tmp 78) 1), none), (none, (.store 3 (.tmp 79) (.tmp 76)), none)] rfl fun K hK => ?_
  simp only [go_sem, simprocAttr, h0, h1, h5, hi, lx, mixQ7]
  repeat' (refine And.intro (by first | rfl | omega) ?_)
  refine hK _ _ (.mk (awl_live' [0, 1, 5] fun ρ hL => ?_))
  simp only [go_sem, simprocAttr, h0, h1, h5] at hL
  obtain ⟨h0, h1, h5⟩ := hL
  clear hK K
  refine awl_seq ?_
  have w8_ : IntKind.i64.wrap (s + 7 + 1) = s + 8 := by rw [wrap64 (by omega)]; omega
  refine awl_regS [(some 80, (.move (.tmp 1)), none), (some 81, (.binOp .add 3 (.tmp 80) (.const (.int .i64 1)) 3), none), (some 1, (.assign (.tmp 81)), none)] rfl fun K hK => ?_
  simp only [go_sem, simprocAttr, h0, h1, h5, w8_]
  refine hK _ _ (.mk (awl_live' [0, 1, 5] fun ρ hL => ?_))
  simp only [go_sem, simprocAttr, h0, h1, h5, w8_] at hL
  obtain ⟨h0, h1, h5⟩ := hL
  exact next ρ h0 h1 h5
set_option maxRecDepth 100000 in
theorem mkE8 {xs : List Ent} {t s : Int} {c i : Nat} (hi : i < xs.length) (hs : s = t + (40 * i : Nat)) (hb : xs.length ≤ 1099511627776) (ht : 0 ≤ t ∧ t ≤ 1099511627776) {cs : List Code} {Q : Exit → Env → Heap → Prop} {ρ : Env} (h0 : ρ 0 = .slice 0 0 xs.length c) (h1 : ρ 1 = .int .i64 (s + 8)) (h5 : ρ 5 = .int .i64 (i : Int)) (next : ∀ ρ : Env, ρ 0 = .slice 0 0 xs.length c → ρ 1 = .int .i64 (s + 9) → ρ 5 = .int .i64 (i : Int) → awpL Try.prog 1 (codeAt (fnCode Try.f88) [1, 0, 1, 2, 2, 1, 0, 2, 1, 1, 1, 1, 1, 1, 1, 1, 1, 1, 1, 1, 1, 1, 1, 1, 1, 1] :: cs) Q ρ [⟨40, rows (mrow markQ 40 t i) ++ (mixQ s (xs.getD i noEnt) 9 ++ rows (xs.drop (i + 1))), true, false⟩]) :
    awpL Try.prog 1 (codeAt (fnCode Try.f88) [1, 0, 1, 2, 2, 1, 0, 2, 1, 1, 1, 1, 1, 1, 1, 1, 1, 1, 1, 1, 1, 1, 1, 1] :: cs) Q ρ [⟨40, rows (mrow markQ 40 t i) ++ (mixQ s (xs.getD i noEnt) 8 ++ rows (xs.drop (i + 1))), true, false⟩] := by
  have lx : (rows (mrow markQ 40 t i) ++ (mixQ s (xs.getD i noEnt) 8 ++ rows (xs.drop (i + 1)))).length = xs.length * 40 := by rw [List.length_append, List.length_append, mrowsE_len, mixQ_len, ents_len, List.length_drop]; omega
  refine awl_seq ?_
  refine awl_regS [(some 82, (.move (.tmp 0)), none), (some 83, (.move (.tmp 5)), none), (some 84, (.move (.tmp 1)), none), (some 85, (.indexAddr 59 (.tmp 82) (.tmp 83)), none), (some 86, (.fieldAddr 96 (.tmp 85) 1), none), (some 87, (.fieldAddr 94 (.tmp 86) 2), none), (none, (.store 3 (.tmp 87) (.tmp 84)), none)] rfl fun K hK => ?_
  simp only [go_sem, simprocAttr, h0, h1, h5, hi, lx, mixQ8]
  repeat' (refine And.intro (by first | rfl | omega) ?_)
  refine hK _ _ (.mk (awl_live' [0, 1, 5] fun ρ hL => ?_))
  simp only [go_sem, simprocAttr, h0, h1, h5] at hL
  obtain ⟨h0, h1, h5⟩ := hL
  clear hK K
  refine awl_seq ?_
  have w9_ : IntKind.i64.wrap (s + 8 + 1) = s + 9 := by rw [wrap64 (by omega)]; omega
  refine awl_regS [(some 88, (.move (.tmp 1)), none), (some 89, (.binOp .add 3 (.tmp 88) (.const (.int .i64 1)) 3), none), (some 1, (.assign (.tmp 89)), none)] rfl fun K hK => ?_
  simp only [go_sem, simprocAttr, h0, h1, h5, w9_]
  refine hK _ _ (.mk (awl_live' [0, 1, 5] fun ρ hL => ?_))
  simp only [go_sem, simprocAttr, h0, h1, h5, w9_] at hL
  obtain ⟨h0, h1, h5⟩ := hL
  exact next ρ h0 h1 h5
set_option maxRecDepth 100000 in
theorem mkE9 {xs : List Ent} {t s : Int} {c i : Nat} (hi : i < xs.length) (hs : s = t + (40 * i : Nat)) (hb : xs.length ≤ 1099511627776) (ht : 0 ≤ t ∧ t ≤ 1099511627776) {cs : List Code} {Q : Exit → Env → Heap → Prop} {ρ : Env} (h0 : ρ 0 = .slice 0 0 xs.length c) (h1 : ρ 1 = .int .i64 (s + 9)) (h5 : ρ 5 = .int .i64 (i : Int)) (next : ∀ ρ : Env, ρ 0 = .slice 0 0 xs.length c → ρ 1 = .int .i64 (s + 10) → ρ 5 = .int .i64 (i : Int) → awpL Try.prog 1 (codeAt (fnCode Try.f88) [1, 0, 1, 2, 2, 1, 0, 2, 1, 1, 1, 1, 1, 1, 1, 1, 1, 1, 1, 1, 1, 1, 1, 1, 1, 1, 1, 1] :: cs) Q ρ [⟨40, rows (mrow markQ 40 t i) ++ (mixQ s (xs.getD i noEnt) 10 ++ rows (xs.drop (i + 1))), true, false⟩]) :
    awpL Try.prog 1 (codeAt (fnCode Try.f88) [1, 0, 1, 2, 2, 1, 0, 2, 1, 1, 1, 1, 1, 1, 1, 1, 1, 1, 1, 1, 1, 1, 1, 1, 1, 1] :: cs) Q ρ [⟨40, rows (mrow markQ 40 t i) ++ (mixQ s (xs.getD i noEnt) 9 ++ rows (xs.drop (i + 1))), true, false⟩] := by
  have lx : (rows (mrow markQ 40 t i) ++ (mixQ s (xs.getD i noEnt) 9 ++ rows (xs.drop (i + 1)))).length = xs.length * 40 := by rw [List.length_append, List.length_append, mrowsE_len, mixQ_len, ents_len, List.length_drop]; omega
  refine awl_seq ?_
  refine awl_regS [(some 90, (.move (.tmp 0)), none), (some 91, (.move (.tmp 5)), none), (some 92, (.move (.tmp 1)), none), (some 93, (.indexAddr 59 (.tmp 90) (.tmp 91)), none), (some 94, (.fieldAddr 96 (.tmp 93) 1), none), (some 95, (.fieldAddr 94 (.tmp 94) 3), none), (none, (.store 3 (.tmp 95) (.tmp 92)), none)] rfl fun K hK => ?_
  simp only [go_sem, simprocAttr, h0, h1, h5, hi, lx, mixQ9]
  repeat' (refine And.intro (by first | rfl | omega) ?_)
  refine hK _ _ (.mk (awl_live' [0, 1, 5] fun ρ hL => ?_))
  simp only [go_sem, simprocAttr, h0, h1, h5] at hL
  obtain ⟨h0, h1, h5⟩ := hL
  clear hK K
  refine awl_seq ?_
  have w10_ : IntKind.i64.wrap (s + 9 + 1) = s + 10 := by rw [wrap64 (by omega)]; omega
  refine awl_regS [(some 96, (.move (.tmp 1)), none), (some 97, (.binOp .add 3 (.tmp 96) (.const (.int .i64 1)) 3), none), (some 1, (.assign (.tmp 97)), none)] rfl fun K hK => ?_
  simp only [go_sem, simprocAttr, h0, h1, h5, w10_]
  refine hK _ _ (.mk (awl_live' [0, 1, 5] fun ρ hL => ?_))
  simp only [go_sem, simprocAttr, h0, h1, h5, w10_] at hL
  obtain ⟨h0, h1, h5⟩ := hL
  exact next ρ h0 h1 h5
set_option maxRecDepth 100000 in
theorem mkE10 {xs : List Ent} {t s : Int} {c i : Nat} (hi : i < xs.length) (hs : s = t + (40 * i : Nat)) (hb : xs.length ≤ 1099511627776) (ht : 0 ≤ t ∧ t ≤ 1099511627776) {cs : List Code} {Q : Exit → Env → Heap → Prop} {ρ : Env} (h0 : ρ 0 = .slice 0 0 xs.length c) (h1 : ρ 1 = .int .i64 (s + 10)) (h5 : ρ 5 = .int .i64 (i : Int)) (next : ∀ ρ : Env, ρ 0 = .slice 0 0 xs.length c → ρ 1 = .int .i64 (s + 11) → ρ 5 = .int .i64 (i : Int) → awpL Try.prog 1 (codeAt (fnCode Try.f88) [1, 0, 1, 2, 2, 1, 0, 2, 1, 1, 1, 1, 1, 1, 1, 1, 1, 1, 1, 1, 1, 1, 1, 1, 1, 1, 1, 1, 1, 1] :: cs) Q ρ [⟨40, rows (mrow markQ 40 t i) ++ (mixQ s (xs.getD i noEnt) 11 ++ rows (xs.drop (i + 1))), true, false⟩]) :
    awpL Try.prog 1 (codeAt (fnCode Try.f88) [1, 0, 1, 2, 2, 1, 0, 2, 1, 1, 1, 1, 1, 1, 1, 1, 1, 1, 1, 1, 1, 1, 1, 1, 1, 1, 1, 1] :: cs) Q ρ [⟨40, rows (mrow markQ 40 t i) ++ (mixQ s (xs.getD i noEnt) 10 ++ rows (xs.drop (i + 1))), true, false⟩] := by
  have lx : (rows (mrow markQ 40 t i) ++ (mixQ s (xs.getD i noEnt) 10 ++ rows (xs.drop (i + 1)))).length = xs.length * 40 := by rw [List.length_append, List.length_append, mrowsE_len, mixQ_len, ents_len, List.length_drop]; omega
  refine awl_seq ?_
  refine awl_regS [(some 98, (.move (.tmp 0)), none), (some 99, (.move (.tmp 5)), none), (some 100, (.move (.tmp 1)), none), (some 101, (.indexAddr 59 (.tmp 98) (.tmp 99)), none), (some 102, (.fieldAddr 96 (.tmp 101) 1), none), (some 103, (.fieldAddr 94 (.tmp 102) 4), none), (none, (.store 3 (.tmp 103) (.tmp 100)), none)] rfl fun K hK => ?_
  simp only [go_sem, simprocAttr, h0, h1, h5, hi, lx, mixQ10]
  repeat' (refine And.intro (by first | rfl | omega) ?_)
  refine hK _ _ (.mk (awl_live' [0, 1, 5] fun ρ hL => ?_))
  simp only [go_sem, simprocAttr, h0, h1, h5] at hL
  obtain ⟨h0, h1, h5⟩ := hL
  clear hK K
  refine awl_seq ?_
  have w11_ : IntKind.i64.wrap (s + 10 + 1) = s + 11 := by rw [wrap64 (by omega)]; omega
  refine awl_regS [(some 104, (.move (.tmp 1)), none), (some 105, (.binOp .add 3 (.tmp 104) (.const (.int .i64 1)) 3), none), (some 1, (.assign (.tmp 105)), none)] rfl fun K hK => ?_
  simp only [go_sem, simprocAttr, h0, h1, h5, w11_]
  refine hK _ _ (.mk (awl_live' [0, 1, 5] fun ρ hL => ?_))
  simp only [go_sem, simprocAttr, h0, h1, h5, w11_] at hL
  obtain ⟨h0, h1, h5⟩ := hL
  exact next ρ h0 h1 h5
set_option maxRecDepth 100000 in
theorem mkE11 {xs : List Ent} {t s : Int} {c i : Nat} (hi : i < xs.length) (hs : s = t + (40 * i : Nat)) (hb : xs.length ≤ 1099511627776) (ht : 0 ≤ t ∧ t ≤ 1099511627776) {cs : List Code} {Q : Exit → Env → Heap → Prop} {ρ : Env} (h0 : ρ 0 = .slice 0 0 xs.length c) (h1 : ρ 1 = .int .i64 (s + 11)) (h5 : ρ 5 = .int .i64 (i : Int)) (next : ∀ ρ : Env, ρ 0 = .slice 0 0 xs.length c → ρ 1 = .int .i64 (s + 12) → ρ 5 = .int .i64 (i : Int) → awpL Try.prog 1 (codeAt (fnCode Try.f88) [1, 0, 1, 2, 2, 1, 0, 2, 1, 1, 1, 1, 1, 1, 1, 1, 1, 1, 1, 1, 1, 1, 1, 1, 1, 1, 1, 1, 1, 1, 1, 1] :: cs) Q ρ [⟨40, rows (mrow markQ 40 t i) ++ (mixQ s (xs.getD i noEnt) 12 ++ rows (xs.drop (i + 1))), true, false⟩]) :
    awpL Try.prog 1 (codeAt (fnCode Try.f88) [1, 0, 1, 2, 2, 1, 0, 2, 1, 1, 1, 1, 1, 1, 1, 1, 1, 1, 1, 1, 1, 1, 1, 1, 1, 1, 1, 1, 1, 1] :: cs) Q ρ [⟨40, rows (mrow markQ 40 t i) ++ (mixQ s (xs.getD i noEnt) 11 ++ rows (xs.drop (i + 1))), true, false⟩] := by
  have lx : (rows (mrow markQ 40 t i) ++ (mixQ s (xs.getD i noEnt) 11 ++ rows (xs.drop (i + 1)))).length = xs.length * 40 := by rw [List.length_append, List.length_append, mrowsE_len, mixQ_len, ents_len, List.length_drop]; omega
  refine awl_seq ?_
  refine awl_regS [(some 106, (.move (.tmp 0)), none), (some 107, (.move (.tmp 5)), none), (some 108, (.move (.tmp 1)), none), (some 109, (.binOp .rem 3 (.tmp 108) (.const (.int .i64 3)) 3), none), (some 110, (.binOp .eql 3 (.tmp 109) (.const (.int .i64 0)) 3), none), (some 111, (.indexAddr 59 (.tmp 106) (.tmp 107)), none), (some 112, (.fieldAddr 96 (.tmp 111) 2), none), (none, (.store 4 (.tmp 112) (.tmp 110)), none)] rfl fun K hK => ?_
  simp only [go_sem, simprocAttr, h0, h1, h5, hi, lx, mixQ11]
  repeat' (refine And.intro (by first | rfl | omega) ?_)
  refine hK _ _ (.mk (awl_live' [0, 1, 5] fun ρ hL => ?_))
  simp only [go_sem, simprocAttr, h0, h1, h5] at hL
  obtain ⟨h0, h1, h5⟩ := hL
  clear hK K
  refine awl_seq ?_
  have w12_ : IntKind.i64.wrap (s + 11 + 1) = s + 12 := by rw [wrap64 (by omega)]; omega
  refine awl_regS [(some 113, (.move (.tmp 1)), none), (some 114, (.binOp .add 3 (.tmp 113) (.const (.int .i64 1)) 3), none), (some 1, (.assign (.tmp 114)), none)] rfl fun K hK => ?_
  simp only [go_sem, simprocAttr, h0, h1, h5, w12_]
  refine hK _ _ (.mk (awl_live' [0, 1, 5] fun ρ hL => ?_))
  simp only [go_sem, simprocAttr, h0, h1, h5, w12_] at hL
  obtain ⟨h0, h1, h5⟩ := hL
  exact next ρ h0 h1 h5
set_option maxRecDepth 100000 in
theorem mkE12 {xs : List Ent} {t s : Int} {c i : Nat} (hi : i < xs.length) (hs : s = t + (40 * i : Nat)) (hb : xs.length ≤ 1099511627776) (ht : 0 ≤ t ∧ t ≤ 1099511627776) {cs : List Code} {Q : Exit → Env → Heap → Prop} {ρ : Env} (h0 : ρ 0 = .slice 0 0 xs.length c) (h1 : ρ 1 = .int .i64 (s + 12)) (h5 : ρ 5 = .int .i64 (i : Int)) (next : ∀ ρ : Env, ρ 0 = .slice 0 0 xs.length c → ρ 1 = .int .i64 (s + 13) → ρ 5 = .int .i64 (i : Int) → awpL Try.prog 1 (codeAt (fnCode Try.f88) [1, 0, 1, 2, 2, 1, 0, 2, 1, 1, 1, 1, 1, 1, 1, 1, 1, 1, 1, 1, 1, 1, 1, 1, 1, 1, 1, 1, 1, 1, 1, 1, 1, 1] :: cs) Q ρ [⟨40, rows (mrow markQ 40 t i) ++ (mixQ s (xs.getD i noEnt) 13 ++ rows (xs.drop (i + 1))), true, false⟩]) :
    awpL Try.prog 1 (codeAt (fnCode Try.f88) [1, 0, 1, 2, 2, 1, 0, 2, 1, 1, 1, 1, 1, 1, 1, 1, 1, 1, 1, 1, 1, 1, 1, 1, 1, 1, 1, 1, 1, 1, 1, 1] :: cs) Q ρ [⟨40, rows (mrow markQ 40 t i) ++ (mixQ s (xs.getD i noEnt) 12 ++ rows (xs.drop (i + 1))), true, false⟩] := by
  have lx : (rows (mrow markQ 40 t i) ++ (mixQ s (xs.getD i noEnt) 12 ++ rows (xs.drop (i + 1)))).length = xs.length * 40 := by rw [List.length_append, List.length_append, mrowsE_len, mixQ_len, ents_len, List.length_drop]; omega
  refine awl_seq ?_
  refine awl_regS [(some 115, (.move (.tmp 0)), none), (some 116, (.move (.tmp 5)), none), (some 117, (.move (.tmp 1)), none), (some 118, (.indexAddr 59 (.tmp 115) (.tmp 116)), none), (some 119, (.fieldAddr 96 (.tmp 118) 3), none), (some 120, (.fieldAddr 92 (.tmp 119) 0), none), (none, (.store 3 (.tmp 120) (.tmp 117)), none)] rfl fun K hK => ?_
  simp only [go_sem, simprocAttr, h0, h1, h5, hi, lx, mixQ12]
  repeat' (refine And.intro (by first | rfl | omega) ?_)
  refine hK _ _ (.mk (awl_live' [0, 1, 5] fun ρ hL => ?_))
  simp only [go_sem, simprocAttr, h0, h1, h5] at hL
  obtain ⟨h0, h1, h5⟩ := hL
  clear hK K
  refine awl_seq ?_
  have w13_ : IntKind.i64.wrap (s + 12 + 1) = s + 13 := by rw [wrap64 (by omega)]; omega
  refine awl_regS [(some 121, (.move (.tmp 1)), none), (some 122, (.binOp .add 3 (.tmp 121) (.const (.int .i64 1)) 3), none), (some 1, (.assign (.tmp 122)), none)] rfl fun K hK => ?_
  simp only [go_sem, simprocAttr, h0, h1, h5, w13_]
  refine hK _ _ (.mk (awl_live' [0, 1, 5] fun ρ hL => ?_))
  simp only [go_sem, simprocAttr, h0, h1, h5, w13_] at hL
  obtain ⟨h0, h1, h5⟩ := hL
  exact next ρ h0 h1 h5
set_option maxRecDepth 100000 in
theorem mkE13 {xs : List Ent} {t s : Int} {c i : Nat} (hi : i < xs.length) (hs : s = t + (40 * i : Nat)) (hb : xs.length ≤ 1099511627776) (ht : 0 ≤ t ∧ t ≤ 1099511627776) {cs : List Code} {Q : Exit → Env → Heap → Prop} {ρ : Env} (h0 : ρ 0 = .slice 0 0 xs.length c) (h1 : ρ 1 = .int .i64 (s + 13)) (h5 : ρ 5 = .int .i64 (i : Int)) (next : ∀ ρ : Env, ρ 0 = .slice 0 0 xs.length c → ρ 1 = .int .i64 (s + 14) → ρ 5 = .int .i64 (i : Int) → awpL Try.prog 1 (codeAt (fnCode Try.f88) [1, 0, 1, 2, 2, 1, 0, 2, 1, 1, 1, 1, 1, 1, 1, 1, 1, 1, 1, 1, 1, 1, 1, 1, 1, 1, 1, 1, 1, 1, 1, 1, 1, 1, 1, 1] :: cs) Q ρ [⟨40, rows (mrow markQ 40 t i) ++ (mixQ s (xs.getD i noEnt) 14 ++ rows (xs.drop (i + 1))), true, false⟩]) :
    awpL Try.prog 1 (codeAt (fnCode Try.f88) [1, 0, 1, 2, 2, 1, 0, 2, 1, 1, 1, 1, 1, 1, 1, 1, 1, 1, 1, 1, 1, 1, 1, 1, 1, 1, 1, 1, 1, 1, 1, 1, 1, 1] :: cs) Q ρ [⟨40, rows (mrow markQ 40 t i) ++ (mixQ s (xs.getD i noEnt) 13 ++ rows (xs.drop (i + 1))), true, false⟩] := by
  have lx : (rows (mrow markQ 40 t i) ++ (mixQ s (xs.getD i noEnt) 13 ++ rows (xs.drop (i + 1)))).length = xs.length * 40 := by rw [List.length_append, List.length_append, mrowsE_len, mixQ_len, ents_len, List.length_drop]; omega
  refine awl_seq ?_
  refine awl_regS [(some 123, (.move (.tmp 0)), none), (some 124, (.move (.tmp 5)), none), (some 125, (.move (.tmp 1)), none), (some 126, (.indexAddr 59 (.tmp 123) (.tmp 124)), none), (some 127, (.fieldAddr 96 (.tmp 126) 3), none), (some 128, (.fieldAddr 92 (.tmp 127) 1), none), (none, (.store 3 (.tmp 128) (.tmp 125)), none)] rfl fun K hK => ?_
  simp only [go_sem, simprocAttr, h0, h1, h5, hi, lx, mixQ13]
  repeat' (refine And.intro (by first | rfl | omega) ?_)
  refine hK _ _ (.mk (awl_live' [0, 1, 5] fun ρ hL => ?_))
  simp only [go_sem, simprocAttr, h0, h1, h5] at hL
  obtain ⟨h0, h1, h5⟩ := hL
  clear hK K
  refine awl_seq ?_
  have w14_ : IntKind.i64.wrap (s + 13 + 1) = s + 14 := by rw [wrap64 (by omega)]; omega
  refine awl_regS [(some 129, (.move (.tmp 1)), none), (some 130, (.binOp .add 3 (.tmp 129) (.const (.int .i64 1)) 3), none), (some 1, (.assign (.tmp 130)), none)] rfl fun K hK => ?_
  simp only [go_sem, simprocAttr, h0, h1, h5, w14_]
  refine hK _ _ (.mk (awl_live' [0, 1, 5] fun ρ hL => ?_))
  simp only [go_sem, simprocAttr, h0, h1, h5, w14_] at hL
  obtain ⟨h0, h1, h5⟩ := hL
  exact next ρ h0 h1 h5
set_option maxRecDepth 100000 in
theorem mkE14 {xs : List Ent} {t s : Int} {c i : Nat} (hi : i < xs.length) (hs : s = t + (40 * i : Nat)) (hb : xs.length ≤ 1099511627776) (ht : 0 ≤ t ∧ t ≤ 1099511627776) {cs : List Code} {Q : Exit → Env → Heap → Prop} {ρ : Env} (h0 : ρ 0 = .slice 0 0 xs.length c) (h1 : ρ 1 = .int .i64 (s + 14)) (h5 : ρ 5 = .int .i64 (i : Int)) (next : ∀ ρ : Env, ρ 0 = .slice 0 0 xs.length c → ρ 1 = .int .i64 (s + 15) → ρ 5 = .int .i64 (i : Int) → awpL Try.prog 1 (codeAt (fnCode Try.f88) [1, 0, 1, 2, 2, 1, 0, 2, 1, 1, 1, 1, 1, 1, 1, 1, 1, 1, 1, 1, 1, 1, 1, 1, 1, 1, 1, 1, 1, 1, 1, 1, 1, 1, 1, 1, 1, 1] :: cs) Q ρ [⟨40, rows (mrow markQ 40 t i) ++ (mixQ s (xs.getD i noEnt) 15 ++ rows (xs.drop (i + 1))), true, false⟩]) :
    awpL Try.prog 1 (codeAt (fnCode Try.f88) [1, 0, 1, 2, 2, 1, 0, 2, 1, 1, 1, 1, 1, 1, 1, 1, 1, 1, 1, 1, 1, 1, 1, 1, 1, 1, 1, 1, 1, 1, 1, 1, 1, 1, 1, 1] :: cs) Q ρ [⟨40, rows (mrow markQ 40 t i) ++ (mixQ s (xs.getD i noEnt) 14 ++ rows (xs.drop (i + 1))), true, false⟩] := by
  have lx : (rows (mrow markQ 40 t i) ++ (mixQ s (xs.getD i noEnt) 14 ++ rows (xs.drop (i + 1)))).length = xs.length * 40 := by rw [List.length_append, List.length_append, mrowsE_len, mixQ_len, ents_len, List.length_drop]; omega
  refine awl_seq ?_
  refine awl_regS [(some 131, (.move (.tmp 0)), none), (some 132, (.move (.tmp 5)), none), (some 133, (.move (.tmp 1)), none), (some 134, (.indexAddr 59 (.tmp 131) (.tmp 132)), none), (some 135, (.fieldAddr 96 (.tmp 134) 3), none), (some 136, (.fieldAddr 92 (.tmp 135) 2), none), (some 137, (.fieldAddr 42 (.tmp 136) 0), none), (none, (.store 3 (.tmp 137) (.tmp 133)), none)] rfl fun K hK => ?_
  simp only [go_sem, simprocAttr, h0, h1, h5, hi, lx, mixQ14]
  repeat' (refine And.intro (by first | rfl | omega) ?_)
  refine hK _ _ (.mk (awl_live' [0, 1, 5] fun ρ hL => ?_))
  simp only [go_sem, simprocAttr, h0, h1, h5] at hL
  obtain ⟨h0, h1, h5⟩ := hL
  clear hK K
  refine awl_seq ?_
  have w15_ : IntKind.i64.wrap (s + 14 + 1) = s + 15 := by rw [wrap64 (by omega)]; omega
  refine awl_regS [(some 138, (.move (.tmp 1)), none), (some 139, (.binOp .add 3 (.tmp 138) (.const (.int .i64 1)) 3), none), (some 1, (.assign (.tmp 139)), none)] rfl fun K hK => ?_
  simp only [go_sem, simprocAttr, h0, h1, h5, w15_]
  refine hK _ _ (.mk (awl_live' [0, 1, 5] fun ρ hL => ?_))
  simp only [go_sem, simprocAttr, h0, h1, h5, w15_] at hL
  obtain ⟨h0, h1, h5⟩ := hL
  exact next ρ h0 h1 h5
set_option maxRecDepth 100000 in
theorem mkE15 {xs : List Ent} {t s : Int} {c i : Nat} (hi : i < xs.length) (hs : s = t + (40 * i : Nat)) (hb : xs.length ≤ 1099511627776) (ht : 0 ≤ t ∧ t ≤ 1099511627776) {cs : List Code} {Q : Exit → Env → Heap → Prop} {ρ : Env} (h0 : ρ 0 = .slice 0 0 xs.length c) (h1 : ρ 1 = .int .i64 (s + 15)) (h5 : ρ 5 = .int .i64 (i : Int)) (next : ∀ ρ : Env, ρ 0 = .slice 0 0 xs.length c → ρ 1 = .int .i64 (s + 16) → ρ 5 = .int .i64 (i : Int) → awpL Try.prog 1 (codeAt (fnCode Try.f88) [1, 0, 1, 2, 2, 1, 0, 2, 1, 1, 1, 1, 1, 1, 1, 1, 1, 1, 1, 1, 1, 1, 1, 1, 1, 1, 1, 1, 1, 1, 1, 1, 1, 1, 1, 1, 1, 1, 1, 1] :: cs) Q ρ [⟨40, rows (mrow markQ 40 t i) ++ (mixQ s (xs.getD i noEnt) 16 ++ rows (xs.drop (i + 1))), true, false⟩]) :
    awpL Try.prog 1 (codeAt (fnCode Try.f88) [1, 0, 1, 2, 2, 1, 0, 2, 1, 1, 1, 1, 1, 1, 1, 1, 1, 1, 1, 1, 1, 1, 1, 1, 1, 1, 1, 1, 1, 1, 1, 1, 1, 1, 1, 1, 1, 1] :: cs) Q ρ [⟨40, rows (mrow markQ 40 t i) ++ (mixQ s (xs.getD i noEnt) 15 ++ rows (xs.drop (i + 1))), true, false⟩] := by
  have lx : (rows (mrow markQ 40 t i) ++ (mixQ s (xs.getD i noEnt) 15 ++ rows (xs.drop (i + 1)))).length = xs.length * 40 := by rw [List.length_append, List.length_append, mrowsE_len, mixQ_len, ents_len, List.length_drop]; omega
  refine awl_seq ?_
  refine awl_regS [(some 140, (.move (.tmp 0)), none), (some 141, (.move (.tmp 5)), none), (some 142, (.move (.tmp 1)), none), (some 143, (.binOp .rem 3 (.tmp 142) (.const (.int .i64 3)) 3), none), (some 144, (.binOp .eql 3 (.tmp 143) (.const (.int .i64 0)) 3), none), (some 145, (.indexAddr 59 (.tmp 140) (.tmp 141)), none), (some 146, (.fieldAddr 96 (.tmp 145) 3), none), (some 147, (.fieldAddr 92 (.tmp 146) 2), none), (some 148, (.fieldAddr 42 (.tmp 147) 1), none), (none, (.store 4 (.tmp 148) (.tmp 144)), none)] rfl fun K hK => ?_
  simp only [go_sem, simprocAttr, h0, h1, h5, hi, lx, mixQ15]
  repeat' (refine And.intro (by first | rfl | omega) ?_)
  refine hK _ _ (.mk (awl_live' [0, 1, 5] fun ρ hL => ?_))
  simp only [go_sem, simprocAttr, h0, h1, h5] at hL
  obtain ⟨h0, h1, h5⟩ := hL
  clear hK K
  refine awl_seq ?_
  have w16_ : IntKind.i64.wrap (s + 15 + 1) = s + 16 := by rw [wrap64 (by omega)]; omega
  refine awl_regS [(some 149, (.move (.tmp 1)), none), (some 150, (.binOp .add 3 (.tmp 149) (.const (.int .i64 1)) 3), none), (some 1, (.assign (.tmp 150)), none)] rfl fun K hK => ?_
  simp only [go_sem, simprocAttr, h0, h1, h5, w16_]
  refine hK _ _ (.mk (awl_live' [0, 1, 5] fun ρ hL => ?_))
  simp only [go_sem, simprocAttr, h0, h1, h5, w16_] at hL
  obtain ⟨h0, h1, h5⟩ := hL
  exact next ρ h0 h1 h5
set_option maxRecDepth 100000 in
theorem mkE16 {xs : List Ent} {t s : Int} {c i : Nat} (hi : i < xs.length) (hs : s = t + (40 * i : Nat)) (hb : xs.length ≤ 1099511627776) (ht : 0 ≤ t ∧ t ≤ 1099511627776) {cs : List Code} {Q : Exit → Env → Heap → Prop} {ρ : Env} (h0 : ρ 0 = .slice 0 0 xs.length c) (h1 : ρ 1 = .int .i64 (s + 16)) (h5 : ρ 5 = .int .i64 (i : Int)) (next : ∀ ρ : Env, ρ 0 = .slice 0 0 xs.length c → ρ 1 = .int .i64 (s + 17) → ρ 5 = .int .i64 (i : Int) → awpL Try.prog 1 (codeAt (fnCode Try.f88) [1, 0, 1, 2, 2, 1, 0, 2, 1, 1, 1, 1, 1, 1, 1, 1, 1, 1, 1, 1, 1, 1, 1, 1, 1, 1, 1, 1, 1, 1, 1, 1, 1, 1, 1, 1, 1, 1, 1, 1, 1, 1] :: cs) Q ρ [⟨40, rows (mrow markQ 40 t i) ++ (mixQ s (xs.getD i noEnt) 17 ++ rows (xs.drop (i + 1))), true, false⟩]) :
    awpL Try.prog 1 (codeAt (fnCode Try.f88) [1, 0, 1, 2, 2, 1, 0, 2, 1, 1, 1, 1, 1, 1, 1, 1, 1, 1, 1, 1, 1, 1, 1, 1, 1, 1, 1, 1, 1, 1, 1, 1, 1, 1, 1, 1, 1, 1, 1, 1] :: cs) Q ρ [⟨40, rows (mrow markQ 40 t i) ++ (mixQ s (xs.getD i noEnt) 16 ++ rows (xs.drop (i + 1))), true, false⟩] := by
  have lx : (rows (mrow markQ 40 t i) ++ (mixQ s (xs.getD i noEnt) 16 ++ rows (xs.drop (i + 1)))).length = xs.length * 40 := by rw [List.length_append, List.length_append, mrowsE_len, mixQ_len, ents_len, List.length_drop]; omega
  refine awl_seq ?_
  refine awl_regS [(some 151, (.move (.tmp 0)), none), (some 152, (.move (.tmp 5)), none), (some 153, (.move (.tmp 1)), none), (some 154, (.indexAddr 59 (.tmp 151) (.tmp 152)), none), (some 155, (.fieldAddr 96 (.tmp 154) 3), none), (some 156, (.fieldAddr 92 (.tmp 155) 2), none), (some 157, (.fieldAddr 42 (.tmp 156) 2), none), (some 158, (.fieldAddr 40 (.tmp 157) 0), none), (none, (.store 3 (.tmp 158) (.tmp 153)), none)] rfl fun K hK => ?_
  simp only [go_sem, simprocAttr, h0, h1, h5, hi, lx, mixQ16]
  repeat' (refine And.intro (by first | rfl | omega) ?_)
  refine hK _ _ (.mk (awl_live' [0, 1, 5] fun ρ hL => ?_))
  simp only [go_sem, simprocAttr, h0, h1, h5] at hL
  obtain ⟨h0, h1, h5⟩ := hL
  clear hK K
  refine awl_seq ?_
  have w17_ : IntKind.i64.wrap (s + 16 + 1) = s + 17 := by rw [wrap64 (by omega)]; omega
  refine awl_regS [(some 159, (.move (.tmp 1)), none), (some 160, (.binOp .add 3 (.tmp 159) (.const (.int .i64 1)) 3), none), (some 1, (.assign (.tmp 160)), none)] rfl fun K hK => ?_
  simp only [go_sem, simprocAttr, h0, h1, h5, w17_]
  refine hK _ _ (.mk (awl_live' [0, 1, 5] fun ρ hL => ?_))
  simp only [go_sem, simprocAttr, h0, h1, h5, w17_] at hL
  obtain ⟨h0, h1, h5⟩ := hL
  exact next ρ h0 h1 h5
set_option maxRecDepth 100000 in
theorem mkE17 {xs : List Ent} {t s : Int} {c i : Nat} (hi : i < xs.length) (hs : s = t + (40 * i : Nat)) (hb : xs.length ≤ 1099511627776) (ht : 0 ≤ t ∧ t ≤ 1099511627776) {cs : List Code} {Q : Exit → Env → Heap → Prop} {ρ : Env} (h0 : ρ 0 = .slice 0 0 xs.length c) (h1 : ρ 1 = .int .i64 (s + 17)) (h5 : ρ 5 = .int .i64 (i : Int)) (next : ∀ ρ : Env, ρ 0 = .slice 0 0 xs.length c → ρ 1 = .int .i64 (s + 18) → ρ 5 = .int .i64 (i : Int) → awpL Try.prog 1 (codeAt (fnCode Try.f88) [1, 0, 1, 2, 2, 1, 0, 2, 1, 1, 1, 1, 1, 1, 1, 1, 1, 1, 1, 1, 1, 1, 1, 1, 1, 1, 1, 1, 1, 1, 1, 1, 1, 1, 1, 1, 1, 1, 1, 1, 1, 1, 1, 1] :: cs) Q ρ [⟨40, rows (mrow markQ 40 t i) ++ (mixQ s (xs.getD i noEnt) 18 ++ rows (xs.drop (i + 1))), true, false⟩]) :
    awpL Try.prog 1 (codeAt (fnCode Try.f88) [1, 0, 1, 2, 2, 1, 0, 2, 1, 1, 1, 1, 1, 1, 1, 1, 1, 1, 1, 1, 1, 1, 1, 1, 1, 1, 1, 1, 1, 1, 1, 1, 1, 1, 1, 1, 1, 1, 1, 1, 1, 1] :: cs) Q ρ [⟨40, rows (mrow markQ 40 t i) ++ (mixQ s (xs.getD i noEnt) 17 ++ rows (xs.drop (i + 1))), true, false⟩] := by
  have lx : (rows (mrow markQ 40 t i) ++ (mixQ s (xs.getD i noEnt) 17 ++ rows (xs.drop (i + 1)))).length = xs.length * 40 := by rw [List.length_append, List.length_append, mrowsE_len, mixQ_len, ents_len, List.length_drop]; omega
  refine awl_seq ?_
  refine awl_regS [(some 161, (.move (.tmp 0)), none), (some 162, (.move (.tmp 5)), none), (some 163, (.move (.tmp 1)), none), (some 164, (.indexAddr 59 (.tmp 161) (.tmp 162)), none), (some 165, (.fieldAddr 96 (.tmp 164) 3), none), (some 166, (.fieldAddr 92 (.tmp 165) 2), none), (some 167, (.fieldAddr 42 (.tmp 166) 2), none), (some 168, (.fieldAddr 40 (.tmp 167) 1), none), (none, (.store 3 (.tmp 168) (.tmp 163)), none)] rfl fun K hK => ?_
  simp only [go_sem, simprocAttr, h0, h1, h5, hi, lx, mixQ17]
  repeat' (refine And.intro (by first | rfl | omega) ?_)
  refine hK _ _ (.mk (awl_live' [0, 1, 5] fun ρ hL => ?_))
  simp only [go_sem, simprocAttr, h0, h1, h5] at hL
  obtain ⟨h0, h1, h5⟩ := hL
  clear hK K
  refine awl_seq ?_
  have w18_ : IntKind.i64.wrap (s + 17 + 1) = s + 18 := by rw [wrap64 (by omega)]; omega
  refine awl_regS [(some 169, (.move (.tmp 1)), none), (some 170, (.binOp .add 3 (.tmp 169) (.const (.int .i64 1)) 3), none), (some 1, (.assign (.tmp 170)), none)] rfl fun K hK => ?_
  simp only [go_sem, simprocAttr, h0, h1, h5, w18_]
  refine hK _ _ (.mk (awl_live' [0, 1, 5] fun ρ hL => ?_))
  simp only [go_sem, simprocAttr, h0, h1, h5, w18_] at hL
  obtain ⟨h0, h1, h5⟩ := hL
  exact next ρ h0 h1 h5
set_option maxRecDepth 100000 in
theorem mkE18 {xs : List Ent} {t s : Int} {c i : Nat} (hi : i < xs.length) (hs : s = t + (40 * i : Nat)) (hb : xs.length ≤ 1099511627776) (ht : 0 ≤ t ∧ t ≤ 1099511627776) {cs : List Code} {Q : Exit → Env → Heap → Prop} {ρ : Env} (h0 : ρ 0 = .slice 0 0 xs.length c) (h1 : ρ 1 = .int .i64 (s + 18)) (h5 : ρ 5 = .int .i64 (i : Int)) (next : ∀ ρ : Env, ρ 0 = .slice 0 0 xs.length c → ρ 1 = .int .i64 (s + 19) → ρ 5 = .int .i64 (i : Int) → awpL Try.prog 1 (codeAt (fnCode Try.f88) [1, 0, 1, 2, 2, 1, 0, 2, 1, 1, 1, 1, 1, 1, 1, 1, 1, 1, 1, 1, 1, 1, 1, 1, 1, 1, 1, 1, 1, 1, 1, 1, 1, 1, 1, 1, 1, 1, 1, 1, 1, 1, 1, 1, 1, 1] :: cs) Q ρ [⟨40, rows (mrow markQ 40 t i) ++ (mixQ s (xs.getD i noEnt) 19 ++ rows (xs.drop (i + 1))), true, false⟩]) :
    awpL Try.prog 1 (codeAt (fnCode Try.f88) [1, 0, 1, 2, 2, 1, 0, 2, 1, 1, 1, 1, 1, 1, 1, 1, 1, 1, 1, 1, 1, 1, 1, 1, 1, 1, 1, 1, 1, 1, 1, 1, 1, 1, 1, 1, 1, 1, 1, 1, 1, 1, 1, 1] :: cs) Q ρ [⟨40, rows (mrow markQ 40 t i) ++ (mixQ s (xs.getD i noEnt) 18 ++ rows (xs.drop (i + 1))), true, false⟩] := by
  have lx : (rows (mrow markQ 40 t i) ++ (mixQ s (xs.getD i noEnt) 18 ++ rows (xs.drop (i + 1)))).length = xs.length * 40 := by rw [List.length_append, List.length_append, mrowsE_len, mixQ_len, ents_len, List.length_drop]; omega
  refine awl_seq ?_
  refine awl_regS [(some 171, (.move (.tmp 0)), none), (some 172, (.move (.tmp 5)), none), (some 173, (.move (.tmp 1)), none), (some 174, (.indexAddr 59 (.tmp 171) (.tmp 172)), none), (some 175, (.fieldAddr 96 (.tmp 174) 3), none), (some 176, (.fieldAddr 92 (.tmp 175) 2), none), (some 177, (.fieldAddr 42 (.tmp 176) 2), none), (some 178, (.fieldAddr 40 (.tmp 177) 2), none), (none, (.store 3 (.tmp 178) (.tmp 173)), none)] rfl fun K hK => ?_
  simp only [go_sem, simprocAttr, h0, h1, h5, hi, lx, mixQ18]
  repeat' (refine And.intro (by first | rfl | omega) ?_)
  refine hK _ _ (.mk (awl_live' [0, 1, 5] fun ρ hL => ?_))
  simp only [go_sem, simprocAttr, h0, h1, h5] at hL
  obtain ⟨h0, h1, h5⟩ := hL
  clear hK K
  refine awl_seq ?_
  have w19_ : IntKind.i64.wrap (s + 18 + 1) = s + 19 := by rw [wrap64 (by omega)]; omega
  refine awl_regS [(some 179, (.move (.tmp 1)), none), (some 180, (.binOp .add 3 (.tmp 179) (.const (.int .i64 1)) 3), none), (some 1, (.assign (.tmp 180)), none)] rfl fun K hK => ?_
  simp only [go_sem, simprocAttr, h0, h1, h5, w19_]
  refine hK _ _ (.mk (awl_live' [0, 1, 5] fun ρ hL => ?_))
  simp only [go_sem, simprocAttr, h0, h1, h5, w19_] at hL
  obtain ⟨h0, h1, h5⟩ := hL
  exact next ρ h0 h1 h5
set_option maxRecDepth 100000 in
theorem mkE19 {xs : List Ent} {t s : Int} {c i : Nat} (hi : i < xs.length) (hs : s = t + (40 * i : Nat)) (hb : xs.length ≤ 1099511627776) (ht : 0 ≤ t ∧ t ≤ 1099511627776) {cs : List Code} {Q : Exit → Env → Heap → Prop} {ρ : Env} (h0 : ρ 0 = .slice 0 0 xs.length c) (h1 : ρ 1 = .int .i64 (s + 19)) (h5 : ρ 5 = .int .i64 (i : Int)) (next : ∀ ρ : Env, ρ 0 = .slice 0 0 xs.length c → ρ 1 = .int .i64 (s + 20) → ρ 5 = .int .i64 (i : Int) → awpL Try.prog 1 (codeAt (fnCode Try.f88) [1, 0, 1, 2, 2, 1, 0, 2, 1, 1, 1, 1, 1, 1, 1, 1, 1, 1, 1, 1, 1, 1, 1, 1, 1, 1, 1, 1, 1, 1, 1, 1, 1, 1, 1, 1, 1, 1, 1, 1, 1, 1, 1, 1, 1, 1, 1, 1] :: cs) Q ρ [⟨40, rows (mrow markQ 40 t i) ++ (mixQ s (xs.getD i noEnt) 20 ++ rows (xs.drop (i + 1))), true, false⟩]) :
    awpL Try.prog 1 (codeAt (fnCode Try.f88) [1, 0, 1, 2, 2, 1, 0, 2, 1, 1, 1, 1, 1, 1, 1, 1, 1, 1, 1, 1, 1, 1, 1, 1, 1, 1, 1, 1, 1, 1, 1, 1, 1, 1, 1, 1, 1, 1, 1, 1, 1, 1, 1, 1, 1, 1] :: cs) Q ρ [⟨40, rows (mrow markQ 40 t i) ++ (mixQ s (xs.getD i noEnt) 19 ++ rows (xs.drop (i + 1))), true, false⟩] := by
  have lx : (rows (mrow markQ 40 t i) ++ (mixQ s (xs.getD i noEnt) 19 ++ rows (xs.drop (i + 1)))).length = xs.length * 40 := by rw [List.length_append, List.length_append, mrowsE_len, mixQ_len, ents_len, List.length_drop]; omega
  refine awl_seq ?_
  refine awl_regS [(some 181, (.move (.tmp 0)), none), (some 182, (.move (.tmp 5)), none), (some 183, (.move (.tmp 1)), none), (some 184, (.indexAddr 59 (.tmp 181) (.tmp 182)), none), (some 185, (.fieldAddr 96 (.tmp 184) 3), none), (some 186, (.fieldAddr 92 (.tmp 185) 2), none), (some 187, (.fieldAddr 42 (.tmp 186) 2), none), (some 188, (.fieldAddr 40 (.tmp 187) 3), none), (none, (.store 3 (.tmp 188) (.tmp 183)), none)] rfl fun K hK => ?_
  simp only [go_sem, simprocAttr, h0, h1, h5, hi, lx, mixQ19]
  repeat' (refine And.intro (by first | rfl | omega) ?_)
  refine hK _ _ (.mk (awl_live' [0, 1, 5] fun ρ hL => ?_))
  simp only [go_sem, simprocAttr, h0, h1, h5] at hL
  obtain ⟨h0, h1, h5⟩ := hL
  clear hK K
  refine awl_seq ?_
  have w20_ : IntKind.i64.wrap (s + 19 + 1) = s + 20 := by rw [wrap64 (by omega)]; omega
  refine awl_regS [(some 189, (.move (.tmp 1)), none), (some 190, (.binOp .add 3 (.tmp 189) (.const (.int .i64 1)) 3), none), (some 1, (.assign (.tmp 190)), none)] rfl fun K hK => ?_
  simp only [go_sem, simprocAttr, h0, h1, h5, w20_]
  refine hK _ _ (.mk (awl_live' [0, 1, 5] fun ρ hL => ?_))
  simp only [go_sem, simprocAttr, h0, h1, h5, w20_] at hL
  obtain ⟨h0, h1, h5⟩ := hL
  exact next ρ h0 h1 h5
set_option maxRecDepth 100000 in
theorem mkE20 {xs : List Ent} {t s : Int} {c i : Nat} (hi : i < xs.length) (hs : s = t + (40 * i : Nat)) (hb : xs.length ≤ 1099511627776) (ht : 0 ≤ t ∧ t ≤ 1099511627776) {cs : List Code} {Q : Exit → Env → Heap → Prop} {ρ : Env} (h0 : ρ 0 = .slice 0 0 xs.length c) (h1 : ρ 1 = .int .i64 (s + 20)) (h5 : ρ 5 = .int .i64 (i : Int)) (next : ∀ ρ : Env, ρ 0 = .slice 0 0 xs.length c → ρ 1 = .int .i64 (s + 21) → ρ 5 = .int .i64 (i : Int) → awpL Try.prog 1 (codeAt (fnCode Try.f88) [1, 0, 1, 2, 2, 1, 0, 2, 1, 1, 1, 1, 1, 1, 1, 1, 1, 1, 1, 1, 1, 1, 1, 1, 1, 1, 1, 1, 1, 1, 1, 1, 1, 1, 1, 1, 1, 1, 1, 1, 1, 1, 1, 1, 1, 1, 1, 1, 1, 1] :: cs) Q ρ [⟨40, rows (mrow markQ 40 t i) ++ (mixQ s (xs.getD i noEnt) 21 ++ rows (xs.drop (i + 1))), true, false⟩]) :
    awpL Try.prog 1 (codeAt (fnCode Try.f88) [1, 0, 1, 2, 2, 1, 0, 2, 1, 1, 1, 1, 1, 1, 1, 1, 1, 1, 1, 1, 1, 1, 1, 1, 1, 1, 1, 1, 1, 1, 1, 1, 1, 1, 1, 1, 1, 1, 1, 1, 1, 1, 1, 1, 1, 1, 1, 1] :: cs) Q ρ [⟨40, rows (mrow markQ 40 t i) ++ (mixQ s (xs.getD i noEnt) 20 ++ rows (xs.drop (i + 1))), true, false⟩] := by
  have lx : (rows (mrow markQ 40 t i) ++ (mixQ s (xs.getD i noEnt) 20 ++ rows (xs.drop (i + 1)))).length = xs.length * 40 := by rw [List.length_append, List.length_append, mrowsE_len, mixQ_len, ents_len, List.length_drop]; omega
  refine awl_seq ?_
  refine awl_regS [(some 191, (.move (.tmp 0)), none), (some 192, (.move (.tmp 5)), none), (some 193, (.move (.tmp 1)), none), (some 194, (.indexAddr 59 (.tmp 191) (.tmp 192)), none), (some 195, (.fieldAddr 96 (.tmp 194) 3), none), (some 196, (.fieldAddr 92 (.tmp 195) 3), none), (some 197, (.fieldAddr 42 (.tmp 196) 0), none), (none, (.store 3 (.tmp 197) (.tmp 193)), none)] rfl fun K hK => ?_
  simp only [go_sem, simprocAttr, h0, h1, h5, hi, lx, mixQ20]
  repeat' (refine And.intro (by first | rfl | omega) ?_)
  refine hK _ _ (.mk (awl_live' [0, 1, 5] fun ρ hL => ?_))
  simp only [go_sem, simprocAttr, h0, h1, h5] at hL
  obtain ⟨h0, h1, h5⟩ := hL
  clear hK K
  refine awl_seq ?_
  have w21_ : IntKind.i64.wrap (s + 20 + 1) = s + 21 := by rw [wrap64 (by omega)]; omega
  refine awl_regS [(some 198, (.move (.tmp 1)), none), (some 199, (.binOp .add 3 (.tmp 198) (.const (.int .i64 1)) 3), none), (some 1, (.assign (.tmp 199)), none)] rfl fun K hK => ?_
  simp only [go_sem, simprocAttr, h0, h1, h5, w21_]
  refine hK _ _ (.mk (awl_live' [0, 1, 5] fun ρ hL => ?_))
  simp only [go_sem, simprocAttr, h0, h1, h5, w21_] at hL
  obtain ⟨h0, h1, h5⟩ := hL
  exact next ρ h0 h1 h5
set_option maxRecDepth 100000 in
theorem mkE21 {xs : List Ent} {t s : Int} {c i : Nat} (hi : i < xs.length) (hs : s = t + (40 * i : Nat)) (hb : xs.length ≤ 1099511627776) (ht : 0 ≤ t ∧ t ≤ 1099511627776) {cs : List Code} {Q : Exit → Env → Heap → Prop} {ρ : Env} (h0 : ρ 0 = .slice 0 0 xs.length c) (h1 : ρ 1 = .int .i64 (s + 21)) (h5 : ρ 5 = .int .i64 (i : Int)) (next : ∀ ρ : Env, ρ 0 = .slice 0 0 xs.length c → ρ 1 = .int .i64 (s + 22) → ρ 5 = .int .i64 (i : Int) → awpL Try.prog 1 (codeAt (fnCode Try.f88) [1, 0, 1, 2, 2, 1, 0, 2, 1, 1, 1, 1, 1, 1, 1, 1, 1, 1, 1, 1, 1, 1, 1, 1, 1, 1, 1, 1, 1, 1, 1, 1, 1, 1, 1, 1, 1, 1, 1, 1, 1, 1, 1, 1, 1, 1, 1, 1, 1, 1, 1, 1] :: cs) Q ρ [⟨40, rows (mrow markQ 40 t i) ++ (mixQ s (xs.getD i noEnt) 22 ++ rows (xs.drop (i + 1))), true, false⟩]) :
    awpL Try.prog 1 (codeAt (fnCode Try.f88) [1, 0, 1, 2, 2, 1, 0, 2, 1, 1, 1, 1, 1, 1, 1, 1, 1, 1, 1, 1, 1, 1, 1, 1, 1, 1, 1, 1, 1, 1, 1, 1, 1, 1, 1, 1, 1, 1, 1, 1, 1, 1, 1, 1, 1, 1, 1, 1, 1, 1] :: cs) Q ρ [⟨40, rows (mrow markQ 40 t i) ++ (mixQ s (xs.getD i noEnt) 21 ++ rows (xs.drop (i + 1))), true, false⟩] := by
  have lx : (rows (mrow markQ 40 t i) ++ (mixQ s (xs.getD i noEnt) 21 ++ rows (xs.drop (i + 1)))).length = xs.length * 40 := by rw [List.length_append, List.length_append, mrowsE_len, mixQ_len, ents_len, List.length_drop]; omega
  refine awl_seq ?_
  refine awl_regS [(some 200, (.move (.tmp 0)), none), (some 201, (.move (.tmp 5)), none), (some 202, (.move (.tmp 1)), none), (some 203, (.binOp .rem 3 (.tmp 202) (.const (.int .i64 3)) 3), none), (some 204, (.binOp .eql 3 (.tmp 203) (.const (.int .i64 0)) 3), none), (some 205, (.indexAddr 59 (.tmp 200) (.tmp 201)), none), (some 206, (.fieldAddr 96 (.tmp 205) 3), none), (some 207, (.fieldAddr 92 (.tmp 206) 3), none), (some 208, (.fieldAddr 42 (.tmp 207) 1), none), (none, (.store 4 (.tmp 208) (.tmp 204)), none)] rfl fun K hK => ?_
  simp only [go_sem, simprocAttr, h0, h1, h5, hi, lx, mixQ21]
  repeat' (refine And.intro (by first | rfl | omega) ?_)
  refine hK _ _ (.mk (awl_live' [0, 1, 5] fun ρ hL => ?_))
  simp only [go_sem, simprocAttr, h0, h1, h5] at hL
  obtain ⟨h0, h1, h5⟩ := hL
  clear hK K
  refine awl_seq ?_
  have w22_ : IntKind.i64.wrap (s + 21 + 1) = s + 22 := by rw [wrap64 (by omega)]; omega
  refine awl_regS [(some 209, (.move (.tmp 1)), none), (some 210, (.binOp .add 3 (.tmp 209) (.const (.int .i64 1)) 3), none), (some 1, (.assign (.tmp 210)), none)] rfl fun K hK => ?_
  simp only [go_sem, simprocAttr, h0, h1, h5, w22_]
  refine hK _ _ (.mk (awl_live' [0, 1, 5] fun ρ hL => ?_))
  simp only [go_sem, simprocAttr, h0, h1, h5, w22_] at hL
  obtain ⟨h0, h1, h5⟩ := hL
  exact next ρ h0 h1 h5
set_option maxRecDepth 100000 in
theorem mkE22 {xs : List Ent} {t s : Int} {c i : Nat} (hi : i < xs.length) (hs : s = t + (40 * i : Nat)) (hb : xs.length ≤ 1099511627776) (ht : 0 ≤ t ∧ t ≤ 1099511627776) {cs : List Code} {Q : Exit → Env → Heap → Prop} {ρ : Env} (h0 : ρ 0 = .slice 0 0 xs.length c) (h1 : ρ 1 = .int .i64 (s + 22)) (h5 : ρ 5 = .int .i64 (i : Int)) (next : ∀ ρ : Env, ρ 0 = .slice 0 0 xs.length c → ρ 1 = .int .i64 (s + 23) → ρ 5 = .int .i64 (i : Int) → awpL Try.prog 1 (codeAt (fnCode Try.f88) [1, 0, 1, 2, 2, 1, 0, 2, 1, 1, 1, 1, 1, 1, 1, 1, 1, 1, 1, 1, 1, 1, 1, 1, 1, 1, 1, 1, 1, 1, 1, 1, 1, 1, 1, 1, 1, 1, 1, 1, 1, 1, 1, 1, 1, 1, 1, 1, 1, 1, 1, 1, 1, 1] :: cs) Q ρ [⟨40, rows (mrow markQ 40 t i) ++ (mixQ s (xs.getD i noEnt) 23 ++ rows (xs.drop (i + 1))), true, false⟩]) :
    awpL Try.prog 1 (codeAt (fnCode Try.f88) [1, 0, 1, 2, 2, 1, 0, 2, 1, 1, 1, 1, 1, 1, 1, 1, 1, 1, 1, 1, 1, 1, 1, 1, 1, 1, 1, 1, 1, 1, 1, 1, 1, 1, 1, 1, 1, 1, 1, 1, 1, 1, 1, 1, 1, 1, 1, 1, 1, 1, 1, 1] :: cs) Q ρ [⟨40, rows (mrow markQ 40 t i) ++ (mixQ s (xs.getD i noEnt) 22 ++ rows (xs.drop (i + 1))), true, false⟩] := by
  have lx : (rows (mrow markQ 40 t i) ++ (mixQ s (xs.getD i noEnt) 22 ++ rows (xs.drop (i + 1)))).length = xs.length * 40 := by rw [List.length_append, List.length_append, mrowsE_len, mixQ_len, ents_len, List.length_drop]; omega
  refine awl_seq ?_
  refine awl_regS [(some 211, (.move (.tmp 0)), none), (some 212, (.move (.tmp 5)), none), (some 213, (.move (.tmp 1)), none), (some 214, (.indexAddr 59 (.tmp 211) (.tmp 212)), none), (some 215, (.fieldAddr 96 (.tmp 214) 3), none), (some 216, (.fieldAddr 92 (.tmp 215) 3), none), (some 217, (.fieldAddr 42 (.tmp 216) 2), none), (some 218, (.fieldAddr 40 (.tmp 217) 0), none), (none, (.store 3 (.tmp 218) (.tmp 213)), none)] rfl fun K hK => ?_
  simp only [go_sem, simprocAttr, h0, h1, h5, hi, lx, mixQ22]
  repeat' (refine And.intro (by first | rfl | omega) ?_)
  refine hK _ _ (.mk (awl_live' [0, 1, 5] fun ρ hL => ?_))
  simp only [go_sem, simprocAttr, h0, h1, h5] at hL
  obtain ⟨h0, h1, h5⟩ := hL
  clear hK K
  refine awl_seq ?_
  have w23_ : IntKind.i64.wrap (s + 22 + 1) = s + 23 := by rw [wrap64 (by omega)]; omega
  refine awl_regS [(some 219, (.move (.tmp 1)), none), (some 220, (.binOp .add 3 (.tmp 219) (.const (.int .i64 1)) 3), none), (some 1, (.assign (.tmp 220)), none)] rfl fun K hK => ?_
  simp only [go_sem, simprocAttr, h0, h1, h5, w23_]
  refine hK _ _ (.mk (awl_live' [0, 1, 5] fun ρ hL => ?_))
  simp only [go_sem, simprocAttr, h0, h1, h5, w23_] at hL
  obtain ⟨h0, h1, h5⟩ := hL
  exact next ρ h0 h1 h5
set_option maxRecDepth 100000 in
theorem mkE23 {xs : List Ent} {t s : Int} {c i : Nat} (hi : i < xs.length) (hs : s = t + (40 * i : Nat)) (hb : xs.length ≤ 1099511627776) (ht : 0 ≤ t ∧ t ≤ 1099511627776) {cs : List Code} {Q : Exit → Env → Heap → Prop} {ρ : Env} (h0 : ρ 0 = .slice 0 0 xs.length c) (h1 : ρ 1 = .int .i64 (s + 23)) (h5 : ρ 5 = .int .i64 (i : Int)) (next : ∀ ρ : Env, ρ 0 = .slice 0 0 xs.length c → ρ 1 = .int .i64 (s + 24) → ρ 5 = .int .i64 (i : Int) → awpL Try.prog 1 (codeAt (fnCode Try.f88) [1, 0, 1, 2, 2, 1, 0, 2, 1, 1, 1, 1, 1, 1, 1, 1, 1, 1, 1, 1, 1, 1, 1, 1, 1, 1, 1, 1, 1, 1, 1, 1, 1, 1, 1, 1, 1, 1, 1, 1, 1, 1, 1, 1, 1, 1, 1, 1, 1, 1, 1, 1, 1, 1, 1, 1] :: cs) Q ρ [⟨40, rows (mrow markQ 40 t i) ++ (mixQ s (xs.getD i noEnt) 24 ++ rows (xs.drop (i + 1))), true, false⟩]) :
    awpL Try.prog 1 (codeAt (fnCode Try.f88) [1, 0, 1, 2, 2, 1, 0, 2, 1, 1, 1, 1, 1, 1, 1, 1, 1, 1, 1, 1, 1, 1, 1, 1, 1, 1, 1, 1, 1, 1, 1, 1, 1, 1, 1, 1, 1, 1, 1, 1, 1, 1, 1, 1, 1, 1, 1, 1, 1, 1, 1, 1, 1, 1] :: cs) Q ρ [⟨40, rows (mrow markQ 40 t i) ++ (mixQ s (xs.getD i noEnt) 23 ++ rows (xs.drop (i + 1))), true, false⟩] := by
  have lx : (rows (mrow markQ 40 t i) ++ (mixQ s (xs.getD i noEnt) 23 ++ rows (xs.drop (i + 1)))).length = xs.length * 40 := by rw [List.length_append, List.length_append, mrowsE_len, mixQ_len, ents_len, List.length_drop]; omega
  refine awl_seq ?_
  refine awl_regS [(some 221, (.move (.tmp 0)), none), (some 222, (.move (.tmp 5)), none), (some 223, (.move (.tmp 1)), none), (some 224, (.indexAddr 59 (.tmp 221) (.tmp 222)), none), (some 225, (.fieldAddr 96 (.tmp 224) 3), none), (some 226, (.fieldAddr 92 (.tmp 225) 3), none), (some 227, (.fieldAddr 42 (.tmp 226) 2), none), (some 228, (.fieldAddr 40 (.tmp 227) 1), none), (none, (.store 3 (.tmp 228) (.tmp 223)), none)] rfl fun K hK => ?_
  simp only [go_sem, simprocAttr, h0, h1, h5, hi, lx, mixQ23]
  repeat' (refine And.intro (by first | rfl | omega) ?_)
  refine hK _ _ (.mk (awl_live' [0, 1, 5] fun ρ hL => ?_))
  simp only [go_sem, simprocAttr, h0, h1, h5] at hL
  obtain ⟨h0, h1, h5⟩ := hL
  clear hK K
  refine awl_seq ?_
  have w24_ : IntKind.i64.wrap (s + 23 + 1) = s + 24 := by rw [wrap64 (by omega)]; omega
  refine awl_regS [(some 229, (.move (.tmp 1)), none), (some 230, (.binOp .add 3 (.tmp 229) (.const (.int .i64 1)) 3), none), (some 1, (.assign (.tmp 230)), none)] rfl fun K hK => ?_
  simp only [go_sem, simprocAttr, h0, h1, h5, w24_]
  refine hK _ _ (.mk (awl_live' [0, 1, 5] fun ρ hL => ?_))
  simp only [go_sem, simprocAttr, h0, h1, h5, w24_] at hL
  obtain ⟨h0, h1, h5⟩ := hL
  exact next ρ h0 h1 h5
set_option maxRecDepth 100000 in
theorem mkE24 {xs : List Ent} {t s : Int} {c i : Nat} (hi : i < xs.length) (hs : s = t + (40 * i : Nat)) (hb : xs.length ≤ 1099511627776) (ht : 0 ≤ t ∧ t ≤ 1099511627776) {cs : List Code} {Q : Exit → Env → Heap → Prop} {ρ : Env} (h0 : ρ 0 = .slice 0 0 xs.length c) (h1 : ρ 1 = .int .i64 (s + 24)) (h5 : ρ 5 = .int .i64 (i : Int)) (next : ∀ ρ : Env, ρ 0 = .slice 0 0 xs.length c → ρ 1 = .int .i64 (s + 25) → ρ 5 = .int .i64 (i : Int) → awpL Try.prog 1 (codeAt (fnCode Try.f88) [1, 0, 1, 2, 2, 1, 0, 2, 1, 1, 1, 1, 1, 1, 1, 1, 1, 1, 1, 1, 1, 1, 1, 1, 1, 1, 1, 1, 1, 1, 1, 1, 1, 1, 1, 1, 1, 1, 1, 1, 1, 1, 1, 1, 1, 1, 1, 1, 1, 1, 1, 1, 1, 1, 1, 1, 1, 1] :: cs) Q ρ [⟨40, rows (mrow markQ 40 t i) ++ (mixQ s (xs.getD i noEnt) 25 ++ rows (xs.drop (i + 1))), true, false⟩]) :
    awpL Try.prog 1 (codeAt (fnCode Try.f88) [1, 0, 1, 2, 2, 1, 0, 2, 1, 1, 1, 1, 1, 1, 1, 1, 1, 1, 1, 1, 1, 1, 1, 1, 1, 1, 1, 1, 1, 1, 1, 1, 1, 1, 1, 1, 1, 1, 1, 1, 1, 1, 1, 1, 1, 1, 1, 1, 1, 1, 1, 1, 1, 1, 1, 1] :: cs) Q ρ [⟨40, rows (mrow markQ 40 t i) ++ (mixQ s (xs.getD i noEnt) 24 ++ rows (xs.drop (i + 1))), true, false⟩] := by
  have lx : (rows (mrow markQ 40 t i) ++ (mixQ s (xs.getD i noEnt) 24 ++ rows (xs.drop (i + 1)))).length = xs.length * 40 := by rw [List.length_append, List.length_append, mrowsE_len, mixQ_len, ents_len, List.length_drop]; omega
  refine awl_seq ?_
  refine awl_regS [(some 231, (.move (.tmp 0)), none), (some 232, (.move (.tmp 5)), none), (some 233, (.move (.tmp 1)), none), (some 234, (.indexAddr 59 (.tmp 231) (.tmp 232)), none), (some 235, (.fieldAddr 96 (.tmp 234) 3), none), (some 236, (.fieldAddr 92 (.tmp 235) 3), none), (some 237, (.fieldAddr 42 (.tmp 236) 2), none), (some 238, (.fieldAddr 40 (.tmp 237) 2), none), (none, (.store 3 (.tmp 238) (.tmp 233)), none)] rfl fun K hK => ?_
  simp only [go_sem, simprocAttr, h0, h1, h5, hi, lx, mixQ24]
  repeat' (refine And.intro (by first | rfl | omega) ?_)
  refine hK _ _ (.mk (awl_live' [0, 1, 5] fun ρ hL => ?_))
  simp only [go_sem, simprocAttr, h0, h1, h5] at hL
  obtain ⟨h0, h1, h5⟩ := hL
  clear hK K
  refine awl_seq ?_
  have w25_ : IntKind.i64.wrap (s + 24 + 1) = s + 25 := by rw [wrap64 (by omega)]; omega
  refine awl_regS [(some 239, (.move (.tmp 1)), none), (some 240, (.binOp .add 3 (.tmp 239) (.const (.int .i64 1)) 3), none), (some 1, (.assign (.tmp 240)), none)] rfl fun K hK => ?_
  simp only [go_sem, simprocAttr, h0, h1, h5, w25_]
  refine hK _ _ (.mk (awl_live' [0, 1, 5] fun ρ hL => ?_))
  simp only [go_sem, simprocAttr, h0, h1, h5, w25_] at hL
  obtain ⟨h0, h1, h5⟩ := hL
  exact next ρ h0 h1 h5
set_option maxRecDepth 100000 in
theorem mkE25 {xs : List Ent} {t s : Int} {c i : Nat} (hi : i < xs.length) (hs : s = t + (40 * i : Nat)) (hb : xs.length ≤ 1099511627776) (ht : 0 ≤ t ∧ t ≤ 1099511627776) {cs : List Code} {Q : Exit → Env → Heap → Prop} {ρ : Env} (h0 : ρ 0 = .slice 0 0 xs.length c) (h1 : ρ 1 = .int .i64 (s + 25)) (h5 : ρ 5 = .int .i64 (i : Int)) (next : ∀ ρ : Env, ρ 0 = .slice 0 0 xs.length c → ρ 1 = .int .i64 (s + 26) → ρ 5 = .int .i64 (i : Int) → awpL Try.prog 1 (codeAt (fnCode Try.f88) [1, 0, 1, 2, 2, 1, 0, 2, 1, 1, 1, 1, 1, 1, 1, 1, 1, 1, 1, 1, 1, 1, 1, 1, 1, 1, 1, 1, 1, 1, 1, 1, 1, 1, 1, 1, 1, 1, 1, 1, 1, 1, 1, 1, 1, 1, 1, 1, 1, 1, 1, 1, 1, 1, 1, 1, 1, 1, 1, 1] :: cs) Q ρ [⟨40, rows (mrow markQ 40 t i) ++ (mixQ s (xs.getD i noEnt) 26 ++ rows (xs.drop (i + 1))), true, false⟩]) :
    awpL Try.prog 1 (codeAt (fnCode Try.f88) [1, 0, 1, 2, 2, 1, 0, 2, 1, 1, 1, 1, 1, 1, 1, 1, 1, 1, 1, 1, 1, 1, 1, 1, 1, 1, 1, 1, 1, 1, 1, 1, 1, 1, 1, 1, 1, 1, 1, 1, 1, 1, 1, 1, 1, 1, 1, 1, 1, 1, 1, 1, 1, 1, 1, 1, 1, 1] :: cs) Q ρ [⟨40, rows (mrow markQ 40 t i) ++ (mixQ s (xs.getD i noEnt) 25 ++ rows (xs.drop (i + 1))), true, false⟩] := by
  have lx : (rows (mrow markQ 40 t i) ++ (mixQ s (xs.getD i noEnt) 25 ++ rows (xs.drop (i + 1)))).length = xs.length * 40 := by rw [List.length_append, List.length_append, mrowsE_len, mixQ_len, ents_len, List.length_drop]; omega
  refine awl_seq ?_
  refine awl_regS [(some 241, (.move (.tmp 0)), none), (some 242, (.move (.tmp 5)), none), (some 243, (.move (.tmp 1)), none), (some 244, (.indexAddr 59 (.tmp 241) (.tmp 242)), none), (some 245, (.fieldAddr 96 (.tmp 244) 3), none), (some 246, (.fieldAddr 92 (.tmp 245) 3), none), (some 247, (.fieldAddr 42 (.tmp 246) 2), none), (some 248, (.fieldAddr 40 (.tmp 247) 3), none), (none, (.store 3 (.tmp 248) (.tmp 243)), none)] rfl fun K hK => ?_
  simp only [go_sem, simprocAttr, h0, h1, h5, hi, lx, mixQ25]
  repeat' (refine And.intro (by first | rfl | omega) ?_)
  refine hK _ _ (.mk (awl_live' [0, 1, 5] fun ρ hL => ?_))
  simp only [go_sem, simprocAttr, h0, h1, h5] at hL
  obtain ⟨h0, h1, h5⟩ := hL
  clear hK K
  refine awl_seq ?_
  have w26_ : IntKind.i64.wrap (s + 25 + 1) = s + 26 := by rw [wrap64 (by omega)]; omega
  refine awl_regS [(some 249, (.move (.tmp 1)), none), (some 250, (.binOp .add 3 (.tmp 249) (.const (.int .i64 1)) 3), none), (some 1, (.assign (.tmp 250)), none)] rfl fun K hK => ?_
  simp only [go_sem, simprocAttr, h0, h1, h5, w26_]
  refine hK _ _ (.mk (awl_live' [0, 1, 5] fun ρ hL => ?_))
  simp only [go_sem, simprocAttr, h0, h1, h5, w26_] at hL
  obtain ⟨h0, h1, h5⟩ := hL
  exact next ρ h0 h1 h5
set_option maxRecDepth 100000 in
theorem mkE26 {xs : List Ent} {t s : Int} {c i : Nat} (hi : i < xs.length) (hs : s = t + (40 * i : Nat)) (hb : xs.length ≤ 1099511627776) (ht : 0 ≤ t ∧ t ≤ 1099511627776) {cs : List Code} {Q : Exit → Env → Heap → Prop} {ρ : Env} (h0 : ρ 0 = .slice 0 0 xs.length c) (h1 : ρ 1 = .int .i64 (s + 26)) (h5 : ρ 5 = .int .i64 (i : Int)) (next : ∀ ρ : Env, ρ 0 = .slice 0 0 xs.length c → ρ 1 = .int .i64 (s + 27) → ρ 5 = .int .i64 (i : Int) → awpL Try.prog 1 (codeAt (fnCode Try.f88) [1, 0, 1, 2, 2, 1, 0, 2, 1, 1, 1, 1, 1, 1, 1, 1, 1, 1, 1, 1, 1, 1, 1, 1, 1, 1, 1, 1, 1, 1, 1, 1, 1, 1, 1, 1, 1, 1, 1, 1, 1, 1, 1, 1, 1, 1, 1, 1, 1, 1, 1, 1, 1, 1, 1, 1, 1, 1, 1, 1, 1, 1] :: cs) Q ρ [⟨40, rows (mrow markQ 40 t i) ++ (mixQ s (xs.getD i noEnt) 27 ++ rows (xs.drop (i + 1))), true, false⟩]) :
    awpL Try.prog 1 (codeAt (fnCode Try.f88) [1, 0, 1, 2, 2, 1, 0, 2, 1, 1, 1, 1, 1, 1, 1, 1, 1, 1, 1, 1, 1, 1, 1, 1, 1, 1, 1, 1, 1, 1, 1, 1, 1, 1, 1, 1, 1, 1, 1, 1, 1, 1, 1, 1, 1, 1, 1, 1, 1, 1, 1, 1, 1, 1, 1, 1, 1, 1, 1, 1] :: cs) Q ρ [⟨40, rows (mrow markQ 40 t i) ++ (mixQ s (xs.getD i noEnt) 26 ++ rows (xs.drop (i + 1))), true, false⟩] := by
  have lx : (rows (mrow markQ 40 t i) ++ (mixQ s (xs.getD i noEnt) 26 ++ rows (xs.drop (i + 1)))).length = xs.length * 40 := by rw [List.length_append, List.length_append, mrowsE_len, mixQ_len, ents_len, List.length_drop]; omega
  refine awl_seq ?_
  refine awl_regS [(some 251, (.move (.tmp 0)), none), (some 252, (.move (.tmp 5)), none), (some 253, (.move (.tmp 1)), none), (some 254, (.indexAddr 59 (.tmp 251) (.tmp 252)), none), (some 255, (.fieldAddr 96 (.tmp 254) 3), none), (some 256, (.fieldAddr 92 (.tmp 255) 4), none), (none, (.store 3 (.tmp 256) (.tmp 253)), none)] rfl fun K hK => ?_
  simp only [go_sem, simprocAttr, h0, h1, h5, hi, lx, mixQ26]
  repeat' (refine And.intro (by first | rfl | omega) ?_)
  refine hK _ _ (.mk (awl_live' [0, 1, 5] fun ρ hL => ?_))
  simp only [go_sem, simprocAttr, h0, h1, h5] at hL
  obtain ⟨h0, h1, h5⟩ := hL
  clear hK K
  refine awl_seq ?_
  have w27_ : IntKind.i64.wrap (s + 26 + 1) = s + 27 := by rw [wrap64 (by omega)]; omega
  refine awl_regS [(some 257, (.move (.tmp 1)), none), (some 258, (.binOp .add 3 (.tmp 257) (.const (.int .i64 1)) 3), none), (some 1, (.assign (.tmp 258)), none)] rfl fun K hK => ?_
  simp only [go_sem, simprocAttr, h0, h1, h5, w27_]
  refine hK _ _ (.mk (awl_live' [0, 1, 5] fun ρ hL => ?_))
  simp only [go_sem, simprocAttr, h0, h1, h5, w27_] at hL
  obtain ⟨h0, h1, h5⟩ := hL
  exact next ρ h0 h1 h5
set_option maxRecDepth 100000 in
theorem mkE27 {xs : List Ent} {t s : Int} {c i : Nat} (hi : i < xs.length) (hs : s = t + (40 * i : Nat)) (hb : xs.length ≤ 1099511627776) (ht : 0 ≤ t ∧ t ≤ 1099511627776) {cs : List Code} {Q : Exit → Env → Heap → Prop} {ρ : Env} (h0 : ρ 0 = .slice 0 0 xs.length c) (h1 : ρ 1 = .int .i64 (s + 27)) (h5 : ρ 5 = .int .i64 (i : Int)) (next : ∀ ρ : Env, ρ 0 = .slice 0 0 xs.length c → ρ 1 = .int .i64 (s + 28) → ρ 5 = .int .i64 (i : Int) → awpL Try.prog 1 (codeAt (fnCode Try.f88) [1, 0, 1, 2, 2, 1, 0, 2, 1, 1, 1, 1, 1, 1, 1, 1, 1, 1, 1, 1, 1, 1, 1, 1, 1, 1, 1, 1, 1, 1, 1, 1, 1, 1, 1, 1, 1, 1, 1, 1, 1, 1, 1, 1, 1, 1, 1, 1, 1, 1, 1, 1, 1, 1, 1, 1, 1, 1, 1, 1, 1, 1, 1, 1] :: cs) Q ρ [⟨40, rows (mrow markQ 40 t i) ++ (mixQ s (xs.getD i noEnt) 28 ++ rows (xs.drop (i + 1))), true, false⟩]) :
    awpL Try.prog 1 (codeAt (fnCode Try.f88) [1, 0, 1, 2, 2, 1, 0, 2, 1, 1, 1, 1, 1, 1, 1, 1, 1, 1, 1, 1, 1, 1, 1, 1, 1, 1, 1, 1, 1, 1, 1, 1, 1, 1, 1, 1, 1, 1, 1, 1, 1, 1, 1, 1, 1, 1, 1, 1, 1, 1, 1, 1, 1, 1, 1, 1, 1, 1, 1, 1, 1, 1] :: cs) Q ρ [⟨40, rows (mrow markQ 40 t i) ++ (mixQ s (xs.getD i noEnt) 27 ++ rows (xs.drop (i + 1))), true, false⟩] := by
  have lx : (rows (mrow markQ 40 t i) ++ (mixQ s (xs.getD i noEnt) 27 ++ rows (xs.drop (i + 1)))).length = xs.length * 40 := by rw [List.length_append, List.length_append, mrowsE_len, mixQ_len, ents_len, List.length_drop]; omega
  refine awl_seq ?_
  refine awl_regS [(some 259, (.move (.tmp 0)), none), (some 260, (.move (.tmp 5)), none), (some 261, (.move (.tmp 1)), none), (some 262, (.indexAddr 59 (.tmp 259) (.tmp 260)), none), (some 263, (.fieldAddr 96 (.tmp 262) 3), none), (some 264, (.fieldAddr 92 (.tmp 263) 5), none), (some 265, (.fieldAddr 42 (.tmp 264) 0), none), (none, (.store 3 (.tmp 265) (.tmp 261)), none)] rfl fun K hK => ?_
  simp only [go_sem, simprocAttr, h0, h1, h5, hi, lx, mixQ27]
  repeat' (refine And.intro (by first | rfl | omega) ?_)
  refine hK _ _ (.mk (awl_live' [0, 1, 5] fun ρ hL => ?_))
  simp only [go_sem, simprocAttr, h0, h1, h5] at hL
  obtain ⟨h0, h1, h5⟩ := hL
  clear hK K
  refine awl_seq ?_
  have w28_ : IntKind.i64.wrap (s + 27 + 1) = s + 28 := by rw [wrap64 (by omega)]; omega
  refine awl_regS [(some 266, (.move (.tmp 1)), none), (some 267, (.binOp .add 3 (.tmp 266) (.const (.int .i64 1)) 3), none), (some 1, (.assign (.tmp 267)), none)] rfl fun K hK => ?_
  simp only [go_sem, simprocAttr, h0, h1, h5, w28_]
  refine hK _ _ (.mk (awl_live' [0, 1, 5] fun ρ hL => ?_))
  simp only [go_sem, simprocAttr, h0, h1, h5, w28_] at hL
  obtain ⟨h0, h1, h5⟩ := hL
  exact next ρ h0 h1 h5
set_option maxRecDepth 100000 in
theorem mkE28 {xs : List Ent} {t s : Int} {c i : Nat} (hi : i < xs.length) (hs : s = t + (40 * i : Nat)) (hb : xs.length ≤ 1099511627776) (ht : 0 ≤ t ∧ t ≤ 1099511627776) {cs : List Code} {Q : Exit → Env → Heap → Prop} {ρ : Env} (h0 : ρ 0 = .slice 0 0 xs.length c) (h1 : ρ 1 = .int .i64 (s + 28)) (h5 : ρ 5 = .int .i64 (i : Int)) (next : ∀ ρ : Env, ρ 0 = .slice 0 0 xs.length c → ρ 1 = .int .i64 (s + 29) → ρ 5 = .int .i64 (i : Int) → awpL Try.prog 1 (codeAt (fnCode Try.f88) [1, 0, 1, 2, 2, 1, 0, 2, 1, 1, 1, 1, 1, 1, 1, 1, 1, 1, 1, 1, 1, 1, 1, 1, 1, 1, 1, 1, 1, 1, 1, 1, 1, 1, 1, 1, 1, 1, 1, 1, 1, 1, 1, 1, 1, 1, 1, 1, 1, 1, 1, 1, 1, 1, 1, 1, 1, 1, 1, 1, 1, 1, 1, 1, 1, 1] :: cs) Q ρ [⟨40, rows (mrow markQ 40 t i) ++ (mixQ s (xs.getD i noEnt) 29 ++ rows (xs.drop (i + 1))), true, false⟩]) :
    awpL Try.prog 1 (codeAt (fnCode Try.f88) [1, 0, 1, 2, 2, 1, 0, 2, 1, 1, 1, 1, 1, 1, 1, 1, 1, 1, 1, 1, 1, 1, 1, 1, 1, 1, 1, 1, 1, 1, 1, 1, 1, 1, 1, 1, 1, 1, 1, 1, 1, 1, 1, 1, 1, 1, 1, 1, 1, 1, 1, 1, 1, 1, 1, 1, 1, 1, 1, 1, 1, 1, 1, 1] :: cs) Q ρ [⟨40, rows (mrow markQ 40 t i) ++ (mixQ s (xs.getD i noEnt) 28 ++ rows (xs.drop (i + 1))), true, false⟩] := by
  have lx : (rows (mrow markQ 40 t i) ++ (mixQ s (xs.getD i noEnt) 28 ++ rows (xs.drop (i + 1)))).length = xs.length * 40 := by rw [List.length_append, List.length_append, mrowsE_len, mixQ_len, ents_len, List.length_drop]; omega
  refine awl_seq ?_
  refine awl_regS [(some 268, (.move (.tmp 0)), none), (some 269, (.move (.tmp 5)), none), (some 270, (.move (.tmp 1)), none), (some 271, (.binOp .rem 3 (.tmp 270) (.const (.int .i64 3)) 3), none), (some 272, (.binOp .eql 3 (.tmp 271) (.const (.int .i64 0)) 3), none), (some 273, (.indexAddr 59 (.tmp 268) (.tmp 269)), none), (some 274, (.fieldAddr 96 (.tmp 273) 3), none), (some 275, (.fieldAddr 92 (.tmp 274) 5), none), (some 276, (.fieldAddr 42 (.tmp 275) 1), none), (none, (.store 4 (.tmp 276) (.tmp 272)), none)] rfl fun K hK => ?_
  simp only [go_sem, simprocAttr, h0, h1, h5, hi, lx, mixQ28]
  repeat' (refine And.intro (by first | rfl | omega) ?_)
  refine hK _ _ (.mk (awl_live' [0, 1, 5] fun ρ hL => ?_))
  simp only [go_sem, simprocAttr, h0, h1, h5] at hL
  obtain ⟨h0, h1, h5⟩ := hL
  clear hK K
  refine awl_seq ?_
  have w29_ : IntKind.i64.wrap (s + 28 + 1) = s + 29 := by rw [wrap64 (by omega)]; omega
  refine awl_regS [(some 277, (.move (.tmp 1)), none), (some 278, (.binOp .add 3 (.tmp 277) (.const (.int .i64 1)) 3), none), (some 1, (.assign (.tmp 278)), none)] rfl fun K hK => ?_
  simp only [go_sem, simprocAttr, h0, h1, h5, w29_]
  refine hK _ _ (.mk (awl_live' [0, 1, 5] fun ρ hL => ?_))
  simp only [go_sem, simprocAttr, h0, h1, h5, w29_] at hL
  obtain ⟨h0, h1, h5⟩ := hL
  exact next ρ h0 h1 h5
set_option maxRecDepth 100000 in
theorem mkE29 {xs : List Ent} {t s : Int} {c i : Nat} (hi : i < xs.length) (hs : s = t + (40 * i : Nat)) (hb : xs.length ≤ 1099511627776) (ht : 0 ≤ t ∧ t ≤ 1099511627776) {cs : List Code} {Q : Exit → Env → Heap → Prop} {ρ : Env} (h0 : ρ 0 = .slice 0 0 xs.length c) (h1 : ρ 1 = .int .i64 (s + 29)) (h5 : ρ 5 = .int .i64 (i : Int)) (next : ∀ ρ : Env, ρ 0 = .slice 0 0 xs.length c → ρ 1 = .int .i64 (s + 30) → ρ 5 = .int .i64 (i : Int) → awpL Try.prog 1 (codeAt (fnCode Try.f88) [1, 0, 1, 2, 2, 1, 0, 2, 1, 1, 1, 1, 1, 1, 1, 1, 1, 1, 1, 1, 1, 1, 1, 1, 1, 1, 1, 1, 1, 1, 1, 1, 1, 1, 1, 1, 1, 1, 1, 1, 1, 1, 1, 1, 1, 1, 1, 1, 1, 1, 1, 1, 1, 1, 1, 1, 1, 1, 1, 1, 1, 1, 1, 1, 1, 1, 1, 1] :: cs) Q ρ [⟨40, rows (mrow markQ 40 t i) ++ (mixQ s (xs.getD i noEnt) 30 ++ rows (xs.drop (i + 1))), true, false⟩]) :
    awpL Try.prog 1 (codeAt (fnCode Try.f88) [1, 0, 1, 2, 2, 1, 0, 2, 1, 1, 1, 1, 1, 1, 1, 1, 1, 1, 1, 1, 1, 1, 1, 1, 1, 1, 1, 1, 1, 1, 1, 1, 1, 1, 1, 1, 1, 1, 1, 1, 1, 1, 1, 1, 1, 1, 1, 1, 1, 1, 1, 1, 1, 1, 1, 1, 1, 1, 1, 1, 1, 1, 1, 1, 1, 1] :: cs) Q ρ [⟨40, rows (mrow markQ 40 t i) ++ (mixQ s (xs.getD i noEnt) 29 ++ rows (xs.drop (i + 1))), true, false⟩] := by
  have lx : (rows (mrow markQ 40 t i) ++ (mixQ s (xs.getD i noEnt) 29 ++ rows (xs.drop (i + 1)))).length = xs.length * 40 := by rw [List.length_append, List.length_append, mrowsE_len, mixQ_len, ents_len, List.length_drop]; omega
  refine awl_seq ?_
  refine awl_regS [(some 279, (.move (.tmp 0)), none), (some 280, (.move (.tmp 5)), none), (some 281, (.move (.tmp 1)), none), (some 282, (.indexAddr 59 (.tmp 279) (.tmp 280)), none), (some 283, (.fieldAddr 96 (.tmp 282) 3), none), (some 284, (.fieldAddr 92 (.tmp 283) 5), none), (some 285, (.fieldAddr 42 (.tmp 284) 2), none), (some 286, (.fieldAddr 40 (.tmp 285) 0), none), (none, (.store 3 (.tmp 286) (.tmp 281)), none)] rfl fun K hK => ?_
  simp only [go_sem, simprocAttr, h0, h1, h5, hi, lx, mixQ29]
  repeat' (refine And.intro (by first | rfl | omega) ?_)
  refine hK _ _ (.mk (awl_live' [0, 1, 5] fun ρ hL => ?_))
  simp only [go_sem, simprocAttr, h0, h1, h5] at hL
  obtain ⟨h0, h1, h5⟩ := hL
  clear hK K
  refine awl_seq ?_
  have w30_ : IntKind.i64.wrap (s + 29 + 1) = s + 30 := by rw [wrap64 (by omega)]; omega
  refine awl_regS [(some 287, (.move (.tmp 1)), none), (some 288, (.binOp .add 3 (.tmp 287) (.const (.int .i64 1)) 3), none), (some 1, (.assign (.tmp 288)), none)] rfl fun K hK => ?_
  simp only [go_sem, simprocAttr, h0, h1, h5, w30_]
  refine hK _ _ (.mk (awl_live' [0, 1, 5] fun ρ hL => ?_))
  simp only [go_sem, simprocAttr, h0, h1, h5, w30_] at hL
  obtain ⟨h0, h1, h5⟩ := hL
  exact next ρ h0 h1 h5
set_option maxRecDepth 100000 in
theorem mkE30 {xs : List Ent} {t s : Int} {c i : Nat} (hi : i < xs.length) (hs : s = t + (40 * i : Nat)) (hb : xs.length ≤ 1099511627776) (ht : 0 ≤ t ∧ t ≤ 1099511627776) {cs : List Code} {Q : Exit → Env → Heap → Prop} {ρ : Env} (h0 : ρ 0 = .slice 0 0 xs.length c) (h1 : ρ 1 = .int .i64 (s + 30)) (h5 : ρ 5 = .int .i64 (i : Int)) (next : ∀ ρ : Env, ρ 0 = .slice 0 0 xs.length c → ρ 1 = .int .i64 (s + 31) → ρ 5 = .int .i64 (i : Int) → awpL Try.prog 1 (codeAt (fnCode Try.f88) [1, 0, 1, 2, 2, 1, 0, 2, 1, 1, 1, 1, 1, 1, 1, 1, 1, 1, 1, 1, 1, 1, 1, 1, 1, 1, 1, 1, 1, 1, 1, 1, 1, 1, 1, 1, 1, 1, 1, 1, 1, 1, 1, 1, 1, 1, 1, 1, 1, 1, 1, 1, 1, 1, 1, 1, 1, 1, 1, 1, 1, 1, 1, 1, 1, 1, 1, 1, 1, 1] :: cs) Q ρ [⟨40, rows (mrow markQ 40 t i) ++ (mixQ s (xs.getD i noEnt) 31 ++ rows (xs.drop (i + 1))), true, false⟩]) :
    awpL Try.prog 1 (codeAt (fnCode Try.f88) [1, 0, 1, 2, 2, 1, 0, 2, 1, 1, 1, 1, 1, 1, 1, 1, 1, 1, 1, 1, 1, 1, 1, 1, 1, 1, 1, 1, 1, 1, 1, 1, 1, 1, 1, 1, 1, 1, 1, 1, 1, 1, 1, 1, 1, 1, 1, 1, 1, 1, 1, 1, 1, 1, 1, 1, 1, 1, 1, 1, 1, 1, 1, 1, 1, 1, 1, 1] :: cs) Q ρ [⟨40, rows (mrow markQ 40 t i) ++ (mixQ s (xs.getD i noEnt) 30 ++ rows (xs.drop (i + 1))), true, false⟩] := by
  have lx : (rows (mrow markQ 40 t i) ++ (mixQ s (xs.getD i noEnt) 30 ++ rows (xs.drop (i + 1)))).length = xs.length * 40 := by rw [List.length_append, List.length_append, mrowsE_len, mixQ_len, ents_len, List.length_drop]; omega
  refine awl_seq ?_
  refine awl_regS [(some 289, (.move (.tmp 0)), none), (some 290, (.move (.tmp 5)), none), (some 291, (.move (.tmp 1)), none), (some 292, (.indexAddr 59 (.tmp 289) (.tmp 290)), none), (some 293, (.fieldAddr 96 (.tmp 292) 3), none), (some 294, (.fieldAddr 92 (.tmp 293) 5), none), (some 295, (.fieldAddr 42 (.tmp 294) 2), none), (some 296, (.fieldAddr 40 (.tmp 295) 1), none), (none, (.store 3 (.tmp 296) (.tmp 291)), none)] rfl fun K hK => ?_
  simp only [go_sem, simprocAttr, h0, h1, h5, hi, lx, mixQ30]
  repeat' (refine And.intro (by first | rfl | omega) ?_)
  refine hK _ _ (.mk (awl_live' [0, 1, 5] fun ρ hL => ?_))
  simp only [go_sem, simprocAttr, h0, h1, h5] at hL
  obtain ⟨h0, h1, h5⟩ := hL
  clear hK K
  refine awl_seq ?_
  have w31_ : IntKind.i64.wrap (s + 30 + 1) = s + 31 := by rw [wrap64 (by omega)]; omega
  refine awl_regS [(some 297, (.move (.tmp 1)), none), (some 298, (.binOp .add 3 (.tmp 297) (.const (.int .i64 1)) 3), none), (some 1, (.assign (.tmp 298)), none)] rfl fun K hK => ?_
  simp only [go_sem, simprocAttr, h0, h1, h5, w31_]
  refine hK _ _ (.mk (awl_live' [0, 1, 5] fun ρ hL => ?_))
  simp only [go_sem, simprocAttr, h0, h1, h5, w31_] at hL
  obtain ⟨h0, h1, h5⟩ := hL
  exact next ρ h0 h1 h5
set_option maxRecDepth 100000 in
theorem mkE31 {xs : List Ent} {t s : Int} {c i : Nat} (hi : i < xs.length) (hs : s = t + (40 * i : Nat)) (hb : xs.length ≤ 1099511627776) (ht : 0 ≤ t ∧ t ≤ 1099511627776) {cs : List Code} {Q : Exit → Env → Heap → Prop} {ρ : Env} (h0 : ρ 0 = .slice 0 0 xs.length c) (h1 : ρ 1 = .int .i64 (s + 31)) (h5 : ρ 5 = .int .i64 (i : Int)) (next : ∀ ρ : Env, ρ 0 = .slice 0 0 xs.length c → ρ 1 = .int .i64 (s + 32) → ρ 5 = .int .i64 (i : Int) → awpL Try.prog 1 (codeAt (fnCode Try.f88) [1, 0, 1, 2, 2, 1, 0, 2, 1, 1, 1, 1, 1, 1, 1, 1, 1, 1, 1, 1, 1, 1, 1, 1, 1, 1, 1, 1, 1, 1, 1, 1, 1, 1, 1, 1, 1, 1, 1, 1, 1, 1, 1, 1, 1, 1, 1, 1, 1, 1, 1, 1, 1, 1, 1, 1, 1, 1, 1, 1, 1, 1, 1, 1, 1, 1, 1, 1, 1, 1, 1, 1] :: cs) Q ρ [⟨40, rows (mrow markQ 40 t i) ++ (mixQ s (xs.getD i noEnt) 32 ++ rows (xs.drop (i + 1))), true, false⟩]) :
    awpL Try.prog 1 (codeAt (fnCode Try.f88) [1, 0, 1, 2, 2, 1, 0, 2, 1, 1, 1, 1, 1, 1, 1, 1, 1, 1, 1, 1, 1, 1, 1, 1, 1, 1, 1, 1, 1, 1, 1, 1, 1, 1, 1, 1, 1, 1, 1, 1, 1, 1, 1, 1, 1, 1, 1, 1, 1, 1, 1, 1, 1, 1, 1, 1, 1, 1, 1, 1, 1, 1, 1, 1, 1, 1, 1, 1, 1, 1] :: cs) Q ρ [⟨40, rows (mrow markQ 40 t i) ++ (mixQ s (xs.getD i noEnt) 31 ++ rows (xs.drop (i + 1))), true, false⟩] := by
  have lx : (rows (mrow markQ 40 t i) ++ (mixQ s (xs.getD i noEnt) 31 ++ rows (xs.drop (i + 1)))).length = xs.length * 40 := by rw [List.length_append, List.length_append, mrowsE_len, mixQ_len, ents_len, List.length_drop]; omega
  refine awl_seq ?_
  refine awl_regS [(some 299, (.move (.tmp 0)), none), (some 300, (.move (.tmp 5)), none), (some 301, (.move (.tmp 1)), none), (some 302, (.indexAddr 59 (.tmp 299) (.tmp 300)), none), (some 303, (.fieldAddr 96 (.tmp 302) 3), none), (some 304, (.fieldAddr 92 (.tmp 303) 5), none), (some 305, (.fieldAddr 42 (.tmp 304) 2), none), (some 306, (.fieldAddr 40 (.tmp 305) 2), none), (none, (.store 3 (.tmp 306) (.tmp 301)), none)] rfl fun K hK => ?_
  simp only [go_sem, simprocAttr, h0, h1, h5, hi, lx, mixQ31]
  repeat' (refine And.intro (by first | rfl | omega) ?_)
  refine hK _ _ (.mk (awl_live' [0, 1, 5] fun ρ hL => ?_))
  simp only [go_sem, simprocAttr, h0, h1, h5] at hL
  obtain ⟨h0, h1, h5⟩ := hL
  clear hK K
  refine awl_seq ?_
  have w32_ : IntKind.i64.wrap (s + 31 + 1) = s + 32 := by rw [wrap64 (by omega)]; omega
  refine awl_regS [(some 307, (.move (.tmp 1)), none), (some 308, (.binOp .add 3 (.tmp 307) (.const (.int .i64 1)) 3), none), (some 1, (.assign (.tmp 308)), none)] rfl fun K hK => ?_
  simp only [go_sem, simprocAttr, h0, h1, h5, w32_]
  refine hK _ _ (.mk (awl_live' [0, 1, 5] fun ρ hL => ?_))
  simp only [go_sem, simprocAttr, h0, h1, h5, w32_] at hL
  obtain ⟨h0, h1, h5⟩ := hL
  exact next ρ h0 h1 h5
set_option maxRecDepth 100000 in
theorem mkE32 {xs : List Ent} {t s : Int} {c i : Nat} (hi : i < xs.length) (hs : s = t + (40 * i : Nat)) (hb : xs.length ≤ 1099511627776) (ht : 0 ≤ t ∧ t ≤ 1099511627776) {cs : List Code} {Q : Exit → Env → Heap → Prop} {ρ : Env} (h0 : ρ 0 = .slice 0 0 xs.length c) (h1 : ρ 1 = .int .i64 (s + 32)) (h5 : ρ 5 = .int .i64 (i : Int)) (next : ∀ ρ : Env, ρ 0 = .slice 0 0 xs.length c → ρ 1 = .int .i64 (s + 33) → ρ 5 = .int .i64 (i : Int) → awpL Try.prog 1 (codeAt (fnCode Try.f88) [1, 0, 1, 2, 2, 1, 0, 2, 1, 1, 1, 1, 1, 1, 1, 1, 1, 1, 1, 1, 1, 1, 1, 1, 1, 1, 1, 1, 1, 1, 1, 1, 1, 1, 1, 1, 1, 1, 1, 1, 1, 1, 1, 1, 1, 1, 1, 1, 1, 1, 1, 1, 1, 1, 1, 1, 1, 1, 1, 1, 1, 1, 1, 1, 1, 1, 1, 1, 1, 1, 1, 1, 1, 1] :: cs) Q ρ [⟨40, rows (mrow markQ 40 t i) ++ (mixQ s (xs.getD i noEnt) 33 ++ rows (xs.drop (i + 1))), true, false⟩]) :
    awpL Try.prog 1 (codeAt (fnCode Try.f88) [1, 0, 1, 2, 2, 1, 0, 2, 1, 1, 1, 1, 1, 1, 1, 1, 1, 1, 1, 1, 1, 1, 1, 1, 1, 1, 1, 1, 1, 1, 1, 1, 1, 1, 1, 1, 1, 1, 1, 1, 1, 1, 1, 1, 1, 1, 1, 1, 1, 1, 1, 1, 1, 1, 1, 1, 1, 1, 1, 1, 1, 1, 1, 1, 1, 1, 1, 1, 1, 1, 1, 1] :: cs) Q ρ [⟨40, rows (mrow markQ 40 t i) ++ (mixQ s (xs.getD i noEnt) 32 ++ rows (xs.drop (i + 1))), true, false⟩] := by
  have lx : (rows (mrow markQ 40 t i) ++ (mixQ s (xs.getD i noEnt) 32 ++ rows (xs.drop (i + 1)))).length = xs.length * 40 := by rw [List.length_append, List.length_append, mrowsE_len, mixQ_len, ents_len, List.length_drop]; omega
  refine awl_seq ?_
  refine awl_regS [(some 309, (.move (.tmp 0)), none), (some 310, (.move (.tmp 5)), none), (some 311, (.move (.tmp 1)), none), (some 312, (.indexAddr 59 (.tmp 309) (.tmp 310)), none), (some 313, (.fieldAddr 96 (.tmp 312) 3), none), (some 314, (.fieldAddr 92 (.tmp 313) 5), none), (some 315, (.fieldAddr 42 (.tmp 314) 2), none), (some 316, (.fieldAddr 40 (.tmp 315) 3), none), (none, (.store 3 (.tmp 316) (.tmp 311)), none)] rfl fun K hK => ?_
  simp only [go_sem, simprocAttr, h0, h1, h5, hi, lx, mixQ32]
  repeat' (refine And.intro (by first | rfl | omega) ?_)
  refine hK _ _ (.mk (awl_live' [0, 1, 5] fun ρ hL => ?_))
  simp only [go_sem, simprocAttr, h0, h1, h5] at hL
  obtain ⟨h0, h1, h5⟩ := hL
  clear hK K
  refine awl_seq ?_
  have w33_ : IntKind.i64.wrap (s + 32 + 1) = s + 33 := by rw [wrap64 (by omega)]; omega
  refine awl_regS [(some 317, (.move (.tmp 1)), none), (some 318, (.binOp .add 3 (.tmp 317) (.const (.int .i64 1)) 3), none), (some 1, (.assign (.tmp 318)), none)] rfl fun K hK => ?_
  simp only [go_sem, simprocAttr, h0, h1, h5, w33_]
  refine hK _ _ (.mk (awl_live' [0, 1, 5] fun ρ hL => ?_))
  simp only [go_sem, simprocAttr, h0, h1, h5, w33_] at hL
  obtain ⟨h0, h1, h5⟩ := hL
  exact next ρ h0 h1 h5
set_option maxRecDepth 100000 in
theorem mkE33 {xs : List Ent} {t s : Int} {c i : Nat} (hi : i < xs.length) (hs : s = t + (40 * i : Nat)) (hb : xs.length ≤ 1099511627776) (ht : 0 ≤ t ∧ t ≤ 1099511627776) {cs : List Code} {Q : Exit → Env → Heap → Prop} {ρ : Env} (h0 : ρ 0 = .slice 0 0 xs.length c) (h1 : ρ 1 = .int .i64 (s + 33)) (h5 : ρ 5 = .int .i64 (i : Int)) (next : ∀ ρ : Env, ρ 0 = .slice 0 0 xs.length c → ρ 1 = .int .i64 (s + 34) → ρ 5 = .int .i64 (i : Int) → awpL Try.prog 1 (codeAt (fnCode Try.f88) [1, 0, 1, 2, 2, 1, 0, 2, 1, 1, 1, 1, 1, 1, 1, 1, 1, 1, 1, 1, 1, 1, 1, 1, 1, 1, 1, 1, 1, 1, 1, 1, 1, 1, 1, 1, 1, 1, 1, 1, 1, 1, 1, 1, 1, 1, 1, 1, 1, 1, 1, 1, 1, 1, 1, 1, 1, 1, 1, 1, 1, 1, 1, 1, 1, 1, 1, 1, 1, 1, 1, 1, 1, 1, 1, 1] :: cs) Q ρ [⟨40, rows (mrow markQ 40 t i) ++ (mixQ s (xs.getD i noEnt) 34 ++ rows (xs.drop (i + 1))), true, false⟩]) :
    awpL Try.prog 1 (codeAt (fnCode Try.f88) [1, 0, 1, 2, 2, 1, 0, 2, 1, 1, 1, 1, 1, 1, 1, 1, 1, 1, 1, 1, 1, 1, 1, 1, 1, 1, 1, 1, 1, 1, 1, 1, 1, 1, 1, 1, 1, 1, 1, 1, 1, 1, 1, 1, 1, 1, 1, 1, 1, 1, 1, 1, 1, 1, 1, 1, 1, 1, 1, 1, 1, 1, 1, 1, 1, 1, 1, 1, 1, 1, 1, 1, 1, 1] :: cs) Q ρ [⟨40, rows (mrow markQ 40 t i) ++ (mixQ s (xs.getD i noEnt) 33 ++ rows (xs.drop (i + 1))), true, false⟩] := by
  have lx : (rows (mrow markQ 40 t i) ++ (mixQ s (xs.getD i noEnt) 33 ++ rows (xs.drop (i + 1)))).length = xs.length * 40 := by rw [List.length_append, List.length_append, mrowsE_len, mixQ_len, ents_len, List.length_drop]; omega
  refine awl_seq ?_
  refine awl_regS [(some 319, (.move (.tmp 0)), none), (some 320, (.move (.tmp 5)), none), (some 321, (.move (.tmp 1)), none), (some 322, (.indexAddr 59 (.tmp 319) (.tmp 320)), none), (some 323, (.fieldAddr 96 (.tmp 322) 3), none), (some 324, (.fieldAddr 92 (.tmp 323) 6), none), (none, (.store 3 (.tmp 324) (.tmp 321)), none)] rfl fun K hK => ?_
  simp only [go_sem, simprocAttr, h0, h1, h5, hi, lx, mixQ33]
  repeat' (refine And.intro (by first | rfl | omega) ?_)
  refine hK _ _ (.mk (awl_live' [0, 1, 5] fun ρ hL => ?_))
  simp only [go_sem, simprocAttr, h0, h1, h5] at hL
  obtain ⟨h0, h1, h5⟩ := hL
  clear hK K
  refine awl_seq ?_
  have w34_ : IntKind.i64.wrap (s + 33 + 1) = s + 34 := by rw [wrap64 (by omega)]; omega
  refine awl_regS [(some 325, (.move (.tmp 1)), none), (some 326, (.binOp .add 3 (.tmp 325) (.const (.int .i64 1)) 3), none), (some 1, (.assign (.tmp 326)), none)] rfl fun K hK => ?_
  simp only [go_sem, simprocAttr, h0, h1, h5, w34_]
  refine hK _ _ (.mk (awl_live' [0, 1, 5] fun ρ hL => ?_))
  simp only [go_sem, simprocAttr, h0, h1, h5, w34_] at hL
  obtain ⟨h0, h1, h5⟩ := hL
  exact next ρ h0 h1 h5
set_option maxRecDepth 100000 in
theorem mkE34 {xs : List Ent} {t s : Int} {c i : Nat} (hi : i < xs.length) (hs : s = t + (40 * i : Nat)) (hb : xs.length ≤ 1099511627776) (ht : 0 ≤ t ∧ t ≤ 1099511627776) {cs : List Code} {Q : Exit → Env → Heap → Prop} {ρ : Env} (h0 : ρ 0 = .slice 0 0 xs.length c) (h1 : ρ 1 = .int .i64 (s + 34)) (h5 : ρ 5 = .int .i64 (i : Int)) (next : ∀ ρ : Env, ρ 0 = .slice 0 0 xs.length c → ρ 1 = .int .i64 (s + 35) → ρ 5 = .int .i64 (i : Int) → awpL Try.prog 1 (codeAt (fnCode Try.f88) [1, 0, 1, 2, 2, 1, 0, 2, 1, 1, 1, 1, 1, 1, 1, 1, 1, 1, 1, 1, 1, 1, 1, 1, 1, 1, 1, 1, 1, 1, 1, 1, 1, 1, 1, 1, 1, 1, 1, 1, 1, 1, 1, 1, 1, 1, 1, 1, 1, 1, 1, 1, 1, 1, 1, 1, 1, 1, 1, 1, 1, 1, 1, 1, 1, 1, 1, 1, 1, 1, 1, 1, 1, 1, 1, 1, 1, 1] :: cs) Q ρ [⟨40, rows (mrow markQ 40 t i) ++ (mixQ s (xs.getD i noEnt) 35 ++ rows (xs.drop (i + 1))), true, false⟩]) :
    awpL Try.prog 1 (codeAt (fnCode Try.f88) [1, 0, 1, 2, 2, 1, 0, 2, 1, 1, 1, 1, 1, 1, 1, 1, 1, 1, 1, 1, 1, 1, 1, 1, 1, 1, 1, 1, 1, 1, 1, 1, 1, 1, 1, 1, 1, 1, 1, 1, 1, 1, 1, 1, 1, 1, 1, 1, 1, 1, 1, 1, 1, 1, 1, 1, 1, 1, 1, 1, 1, 1, 1, 1, 1, 1, 1, 1, 1, 1, 1, 1, 1, 1, 1, 1] :: cs) Q ρ [⟨40, rows (mrow markQ 40 t i) ++ (mixQ s (xs.getD i noEnt) 34 ++ rows (xs.drop (i + 1))), true, false⟩] := by
  have lx : (rows (mrow markQ 40 t i) ++ (mixQ s (xs.getD i noEnt) 34 ++ rows (xs.drop (i + 1)))).length = xs.length * 40 := by rw [List.length_append, List.length_append, mrowsE_len, mixQ_len, ents_len, List.length_drop]; omega
  refine awl_seq ?_
  refine awl_regS [(some 327, (.move (.tmp 0)), none), (some 328, (.move (.tmp 5)), none), (some 329, (.move (.tmp 1)), none), (some 330, (.indexAddr 59 (.tmp 327) (.tmp 328)), none), (some 331, (.fieldAddr 96 (.tmp 330) 4), none), (some 332, (.fieldAddr 42 (.tmp 331) 0), none), (none, (.store 3 (.tmp 332) (.tmp 329)), none)] rfl fun K hK => ?_
  simp only [go_sem, simprocAttr, h0, h1, h5, hi, lx, mixQ34]
  repeat' (refine And.intro (by first | rfl | omega) ?_)
  refine hK _ _ (.mk (awl_live' [0, 1, 5] fun ρ hL => ?_))
  simp only [go_sem, simprocAttr, h0, h1, h5] at hL
  obtain ⟨h0, h1, h5⟩ := hL
  clear hK K
  refine awl_seq ?_
  have w35_ : IntKind.i64.wrap (s + 34 + 1) = s + 35 := by rw [wrap64 (by omega)]; omega
  refine awl_regS [(some 333, (.move (.tmp 1)), none), (some 334, (.binOp .add 3 (.tmp 333) (.const (.int .i64 1)) 3), none), (some 1, (.assign (.tmp 334)), none)] rfl fun K hK => ?_
  simp only [go_sem, simprocAttr, h0, h1, h5, w35_]
  refine hK _ _ (.mk (awl_live' [0, 1, 5] fun ρ hL => ?_))
  simp only [go_sem, simprocAttr, h0, h1, h5, w35_] at hL
  obtain ⟨h0, h1, h5⟩ := hL
  exact next ρ h0 h1 h5
set_option maxRecDepth 100000 in
theorem mkE35 {xs : List Ent} {t s : Int} {c i : Nat} (hi : i < xs.length) (hs : s = t + (40 * i : Nat)) (hb : xs.length ≤ 1099511627776) (ht : 0 ≤ t ∧ t ≤ 1099511627776) {cs : List Code} {Q : Exit → Env → Heap → Prop} {ρ : Env} (h0 : ρ 0 = .slice 0 0 xs.length c) (h1 : ρ 1 = .int .i64 (s + 35)) (h5 : ρ 5 = .int .i64 (i : Int)) (next : ∀ ρ : Env, ρ 0 = .slice 0 0 xs.length c → ρ 1 = .int .i64 (s + 36) → ρ 5 = .int .i64 (i : Int) → awpL Try.prog 1 (codeAt (fnCode Try.f88) [1, 0, 1, 2, 2, 1, 0, 2, 1, 1, 1, 1, 1, 1, 1, 1, 1, 1, 1, 1, 1, 1, 1, 1, 1, 1, 1, 1, 1, 1, 1, 1, 1, 1, 1, 1, 1, 1, 1, 1, 1, 1, 1, 1, 1, 1, 1, 1, 1, 1, 1, 1, 1, 1, 1, 1, 1, 1, 1, 1, 1, 1, 1, 1, 1, 1, 1, 1, 1, 1, 1, 1, 1, 1, 1, 1, 1, 1, 1, 1] :: cs) Q ρ [⟨40, rows (mrow markQ 40 t i) ++ (mixQ s (xs.getD i noEnt) 36 ++ rows (xs.drop (i + 1))), true, false⟩]) :
    awpL Try.prog 1 (codeAt (fnCode Try.f88) [1, 0, 1, 2, 2, 1, 0, 2, 1, 1, 1, 1, 1, 1, 1, 1, 1, 1, 1, 1, 1, 1, 1, 1, 1, 1, 1, 1, 1, 1, 1, 1, 1, 1, 1, 1, 1, 1, 1, 1, 1, 1, 1, 1, 1, 1, 1, 1, 1, 1, 1, 1, 1, 1, 1, 1, 1, 1, 1, 1, 1, 1, 1, 1, 1, 1, 1, 1, 1, 1, 1, 1, 1, 1, 1, 1, 1, 1] :: cs) Q ρ [⟨40, rows (mrow markQ 40 t i) ++ (mixQ s (xs.getD i noEnt) 35 ++ rows (xs.drop (i + 1))), true, false⟩] := by
  have lx : (rows (mrow markQ 40 t i) ++ (mixQ s (xs.getD i noEnt) 35 ++ rows (xs.drop (i + 1)))).length = xs.length * 40 := by rw [List.length_append, List.length_append, mrowsE_len, mixQ_len, ents_len, List.length_drop]; omega
  refine awl_seq ?_
  refine awl_regS [(some 335, (.move (.tmp 0)), none), (some 336, (.move (.tmp 5)), none), (some 337, (.move (.tmp 1)), none), (some 338, (.binOp .rem 3 (.tmp 337) (.const (.int .i64 3)) 3), none), (some 339, (.binOp .eql 3 (.tmp 338) (.const (.int .i64 0)) 3), none), (some 340, (.indexAddr 59 (.tmp 335) (.tmp 336)), none), (some 341, (.fieldAddr 96 (.tmp 340) 4), none), (some 342, (.fieldAddr 42 (.tmp 341) 1), none), (none, (.store 4 (.tmp 342) (.tmp 339)), none)] rfl fun K hK => ?_
  simp only [go_sem, simprocAttr, h0, h1, h5, hi, lx, mixQ35]
  repeat' (refine And.intro (by first | rfl | omega) ?_)
  refine hK _ _ (.mk (awl_live' [0, 1, 5] fun ρ hL => ?_))
  simp only [go_sem, simprocAttr, h0, h1, h5] at hL
  obtain ⟨h0, h1, h5⟩ := hL
  clear hK K
  refine awl_seq ?_
  have w36_ : IntKind.i64.wrap (s + 35 + 1) = s + 36 := by rw [wrap64 (by omega)]; omega
  refine awl_regS [(some 343, (.move (.tmp 1)), none), (some 344, (.binOp .add 3 (.tmp 343) (.const (.int .i64 1)) 3), none), (some 1, (.assign (.tmp 344)), none)] rfl fun K hK => ?_
  simp only [go_sem, simprocAttr, h0, h1, h5, w36_]
  refine hK _ _ (.mk (awl_live' [0, 1, 5] fun ρ hL => ?_))
  simp only [go_sem, simprocAttr, h0, h1, h5, w36_] at hL
  obtain ⟨h0, h1, h5⟩ := hL
  exact next ρ h0 h1 h5
set_option maxRecDepth 100000 in
theorem mkE36 {xs : List Ent} {t s : Int} {c i : Nat} (hi : i < xs.length) (hs : s = t + (40 * i : Nat)) (hb : xs.length ≤ 1099511627776) (ht : 0 ≤ t ∧ t ≤ 1099511627776) {cs : List Code} {Q : Exit → Env → Heap → Prop} {ρ : Env} (h0 : ρ 0 = .slice 0 0 xs.length c) (h1 : ρ 1 = .int .i64 (s + 36)) (h5 : ρ 5 = .int .i64 (i : Int)) (next : ∀ ρ : Env, ρ 0 = .slice 0 0 xs.length c → ρ 1 = .int .i64 (s + 37) → ρ 5 = .int .i64 (i : Int) → awpL Try.prog 1 (codeAt (fnCode Try.f88) [1, 0, 1, 2, 2, 1, 0, 2, 1, 1, 1, 1, 1, 1, 1, 1, 1, 1, 1, 1, 1, 1, 1, 1, 1, 1, 1, 1, 1, 1, 1, 1, 1, 1, 1, 1, 1, 1, 1, 1, 1, 1, 1, 1, 1, 1, 1, 1, 1, 1, 1, 1, 1, 1, 1, 1, 1, 1, 1, 1, 1, 1, 1, 1, 1, 1, 1, 1, 1, 1, 1, 1, 1, 1, 1, 1, 1, 1, 1, 1, 1, 1] :: cs) Q ρ [⟨40, rows (mrow markQ 40 t i) ++ (mixQ s (xs.getD i noEnt) 37 ++ rows (xs.drop (i + 1))), true, false⟩]) :
    awpL Try.prog 1 (codeAt (fnCode Try.f88) [1, 0, 1, 2, 2, 1, 0, 2, 1, 1, 1, 1, 1, 1, 1, 1, 1, 1, 1, 1, 1, 1, 1, 1, 1, 1, 1, 1, 1, 1, 1, 1, 1, 1, 1, 1, 1, 1, 1, 1, 1, 1, 1, 1, 1, 1, 1, 1, 1, 1, 1, 1, 1, 1, 1, 1, 1, 1, 1, 1, 1, 1, 1, 1, 1, 1, 1, 1, 1, 1, 1, 1, 1, 1, 1, 1, 1, 1, 1, 1] :: cs) Q ρ [⟨40, rows (mrow markQ 40 t i) ++ (mixQ s (xs.getD i noEnt) 36 ++ rows (xs.drop (i + 1))), true, false⟩] := by
  have lx : (rows (mrow markQ 40 t i) ++ (mixQ s (xs.getD i noEnt) 36 ++ rows (xs.drop (i + 1)))).length = xs.length * 40 := by rw [List.length_append, List.length_append, mrowsE_len, mixQ_len, ents_len, List.length_drop]; omega
  refine awl_seq ?_
  refine awl_regS [(some 345, (.move (.tmp 0)), none), (some 346, (.move (.tmp 5)), none), (some 347, (.move (.tmp 1)), none), (some 348, (.indexAddr 59 (.tmp 345) (.tmp 346)), none), (some 349, (.fieldAddr 96 (.tmp 348) 4), none), (some 350, (.fieldAddr 42 (.tmp 349) 2), none), (some 351, (.fieldAddr 40 (.tmp 350) 0), none), (none, (.store 3 (.tmp 351) (.tmp 347)), none)] rfl fun K hK => ?_
  simp only [go_sem, simprocAttr, h0, h1, h5, hi, lx, mixQ36]
  repeat' (refine And.intro (by first | rfl | omega) ?_)
  refine hK _ _ (.mk (awl_live' [0, 1, 5] fun ρ hL => ?_))
  simp only [go_sem, simprocAttr, h0, h1, h5] at hL
  obtain ⟨h0, h1, h5⟩ := hL
  clear hK K
  refine awl_seq ?_
  have w37_ : IntKind.i64.wrap (s + 36 + 1) = s + 37 := by rw [wrap64 (by omega)]; omega
  refine awl_regS [(some 352, (.move (.tmp 1)), none), (some 353, (.binOp .add 3 (.tmp 352) (.const (.int .i64 1)) 3), none), (some 1, (.assign (.tmp 353)), none)] rfl fun K hK => ?_
  simp only [go_sem, simprocAttr, h0, h1, h5, w37_]
  refine hK _ _ (.mk (awl_live' [0, 1, 5] fun ρ hL => ?_))
  simp only [go_sem, simprocAttr, h0, h1, h5, w37_] at hL
  obtain ⟨h0, h1, h5⟩ := hL
  exact next ρ h0 h1 h5
set_option maxRecDepth 100000 in
theorem mkE37 {xs : List Ent} {t s : Int} {c i : Nat} (hi : i < xs.length) (hs : s = t + (40 * i : Nat)) (hb : xs.length ≤ 1099511627776) (ht : 0 ≤ t ∧ t ≤ 1099511627776) {cs : List Code} {Q : Exit → Env → Heap → Prop} {ρ : Env} (h0 : ρ 0 = .slice 0 0 xs.length c) (h1 : ρ 1 = .int .i64 (s + 37)) (h5 : ρ 5 = .int .i64 (i : Int)) (next : ∀ ρ : Env, ρ 0 = .slice 0 0 xs.length c → ρ 1 = .int .i64 (s + 38) → ρ 5 = .int .i64 (i : Int) → awpL Try.prog 1 (codeAt (fnCode Try.f88) [1, 0, 1, 2, 2, 1, 0, 2, 1, 1, 1, 1, 1, 1, 1, 1, 1, 1, 1, 1, 1, 1, 1, 1, 1, 1, 1, 1, 1, 1, 1, 1, 1, 1, 1, 1, 1, 1, 1, 1, 1, 1, 1, 1, 1, 1, 1, 1, 1, 1, 1, 1, 1, 1, 1, 1, 1, 1, 1, 1, 1, 1, 1, 1, 1, 1, 1, 1, 1, 1, 1, 1, 1, 1, 1, 1, 1, 1, 1, 1, 1, 1, 1, 1] :: cs) Q ρ [⟨40, rows (mrow markQ 40 t i) ++ (mixQ s (xs.getD i noEnt) 38 ++ rows (xs.drop (i + 1))), true, false⟩]) :
    awpL Try.prog 1 (codeAt (fnCode Try.f88) [1, 0, 1, 2, 2, 1, 0, 2, 1, 1, 1, 1, 1, 1, 1, 1, 1, 1, 1, 1, 1, 1, 1, 1, 1, 1, 1, 1, 1, 1, 1, 1, 1, 1, 1, 1, 1, 1, 1, 1, 1, 1, 1, 1, 1, 1, 1, 1, 1, 1, 1, 1, 1, 1, 1, 1, 1, 1, 1, 1, 1, 1, 1, 1, 1, 1, 1, 1, 1, 1, 1, 1, 1, 1, 1, 1, 1, 1, 1, 1, 1, 1] :: cs) Q ρ [⟨40, rows (mrow markQ 40 t i) ++ (mixQ s (xs.getD i noEnt) 37 ++ rows (xs.drop (i + 1))), true, false⟩] := by
  have lx : (rows (mrow markQ 40 t i) ++ (mixQ s (xs.getD i noEnt) 37 ++ rows (xs.drop (i + 1)))).length = xs.length * 40 := by rw [List.length_append, List.length_append, mrowsE_len, mixQ_len, ents_len, List.length_drop]; omega
  refine awl_seq ?_
  refine awl_regS [(some 354, (.move (.tmp 0)), none), (some 355, (.move (.tmp 5)), none), (some 356, (.move (.tmp 1)), none), (some 357, (.indexAddr 59 (.tmp 354) (.tmp 355)), none), (some 358, (.fieldAddr 96 (.tmp 357) 4), none), (some 359, (.fieldAddr 42 (.tmp 358) 2), none), (some 360, (.fieldAddr 40 (.tmp 359) 1), none), (none, (.store 3 (.tmp 360) (.tmp 356)), none)] rfl fun K hK => ?_
  simp only [go_sem, simprocAttr, h0, h1, h5, hi, lx, mixQ37]
  repeat' (refine And.intro (by first | rfl | omega) ?_)
  refine hK _ _ (.mk (awl_live' [0, 1, 5] fun ρ hL => ?_))
  simp only [go_sem, simprocAttr, h0, h1, h5] at hL
  obtain ⟨h0, h1, h5⟩ := hL
  clear hK K
  refine awl_seq ?_
  have w38_ : IntKind.i64.wrap (s + 37 + 1) = s + 38 := by rw [wrap64 (by omega)]; omega
  refine awl_regS [(some 361, (.move (.tmp 1)), none), (some 362, (.binOp .add 3 (.tmp 361) (.const (.int .i64 1)) 3), none), (some 1, (.assign (.tmp 362)), none)] rfl fun K hK => ?_
  simp only [go_sem, simprocAttr, h0, h1, h5, w38_]
  refine hK _ _ (.mk (awl_live' [0, 1, 5] fun ρ hL => ?_))
  simp only [go_sem, simprocAttr, h0, h1, h5, w38_] at hL
  obtain ⟨h0, h1, h5⟩ := hL
  exact next ρ h0 h1 h5
set_option maxRecDepth 100000 in
theorem mkE38 {xs : List Ent} {t s : Int} {c i : Nat} (hi : i < xs.length) (hs : s = t + (40 * i : Nat)) (hb : xs.length ≤ 1099511627776) (ht : 0 ≤ t ∧ t ≤ 1099511627776) {cs : List Code} {Q : Exit → Env → Heap → Prop} {ρ : Env} (h0 : ρ 0 = .slice 0 0 xs.length c) (h1 : ρ 1 = .int .i64 (s + 38)) (h5 : ρ 5 = .int .i64 (i : Int)) (next : ∀ ρ : Env, ρ 0 = .slice 0 0 xs.length c → ρ 1 = .int .i64 (s + 39) → ρ 5 = .int .i64 (i : Int) → awpL Try.prog 1 (codeAt (fnCode Try.f88) [1, 0, 1, 2, 2, 1, 0, 2, 1, 1, 1, 1, 1, 1, 1, 1, 1, 1, 1, 1, 1, 1, 1, 1, 1, 1, 1, 1, 1, 1, 1, 1, 1, 1, 1, 1, 1, 1, 1, 1, 1, 1, 1, 1, 1, 1, 1, 1, 1, 1, 1, 1, 1, 1, 1, 1, 1, 1, 1, 1, 1, 1, 1, 1, 1, 1, 1, 1, 1, 1, 1, 1, 1, 1, 1, 1, 1, 1, 1, 1, 1, 1, 1, 1, 1, 1] :: cs) Q ρ [⟨40, rows (mrow markQ 40 t i) ++ (mixQ s (xs.getD i noEnt) 39 ++ rows (xs.drop (i + 1))), true, false⟩]) :
    awpL Try.prog 1 (codeAt (fnCode Try.f88) [1, 0, 1, 2, 2, 1, 0, 2, 1, 1, 1, 1, 1, 1, 1, 1, 1, 1, 1, 1, 1, 1, 1, 1, 1, 1, 1, 1, 1, 1, 1, 1, 1, 1, 1, 1, 1, 1, 1, 1, 1, 1, 1, 1, 1, 1, 1, 1, 1, 1, 1, 1, 1, 1, 1, 1, 1, 1, 1, 1, 1, 1, 1, 1, 1, 1, 1, 1, 1, 1, 1, 1, 1, 1, 1, 1, 1, 1, 1, 1, 1, 1, 1, 1] :: cs) Q ρ [⟨40, rows (mrow markQ 40 t i) ++ (mixQ s (xs.getD i noEnt) 38 ++ rows (xs.drop (i + 1))), true, false⟩] := by
  have lx : (rows (mrow markQ 40 t i) ++ (mixQ s (xs.getD i noEnt) 38 ++ rows (xs.drop (i + 1)))).length = xs.length * 40 := by rw [List.length_append, List.length_append, mrowsE_len, mixQ_len, ents_len, List.length_drop]; omega
  refine awl_seq ?_
  refine awl_regS [(some 363, (.move (.tmp 0)), none), (some 364, (.move (.tmp 5)), none), (some 365, (.move (.tmp 1)), none), (some 366, (.indexAddr 59 (.tmp 363) (.tmp 364)), none), (some 367, (.fieldAddr 96 (.tmp 366) 4), none), (some 368, (.fieldAddr 42 (.tmp 367) 2), none), (some 369, (.fieldAddr 40 (.tmp 368) 2), none), (none, (.store 3 (.tmp 369) (.tmp 365)), none)] rfl fun K hK => ?_
  simp only [go_sem, simprocAttr, h0, h1, h5, hi, lx, mixQ38]
  repeat' (refine And.intro (by first | rfl | omega) ?_)
  refine hK _ _ (.mk (awl_live' [0, 1, 5] fun ρ hL => ?_))
  simp only [go_sem, simprocAttr, h0, h1, h5] at hL
  obtain ⟨h0, h1, h5⟩ := hL
  clear hK K
  refine awl_seq ?_
  have w39_ : IntKind.i64.wrap (s + 38 + 1) = s + 39 := by rw [wrap64 (by omega)]; omega
  refine awl_regS [(some 370, (.move (.tmp 1)), none), (some 371, (.binOp .add 3 (.tmp 370) (.const (.int .i64 1)) 3), none), (some 1, (.assign (.tmp 371)), none)] rfl fun K hK => ?_
  simp only [go_sem, simprocAttr, h0, h1, h5, w39_]
  refine hK _ _ (.mk (awl_live' [0, 1, 5] fun ρ hL => ?_))
  simp only [go_sem, simprocAttr, h0, h1, h5, w39_] at hL
  obtain ⟨h0, h1, h5⟩ := hL
  exact next ρ h0 h1 h5
set_option maxRecDepth 100000 in
theorem mkE39 {xs : List Ent} {t s : Int} {c i : Nat} (hi : i < xs.length) (hs : s = t + (40 * i : Nat)) (hb : xs.length ≤ 1099511627776) (ht : 0 ≤ t ∧ t ≤ 1099511627776) {cs : List Code} {Q : Exit → Env → Heap → Prop} {ρ : Env} (h0 : ρ 0 = .slice 0 0 xs.length c) (h1 : ρ 1 = .int .i64 (s + 39)) (h5 : ρ 5 = .int .i64 (i : Int)) (next : ∀ ρ : Env, ρ 0 = .slice 0 0 xs.length c → ρ 1 = .int .i64 (s + 40) → ρ 5 = .int .i64 (i : Int) → awpL Try.prog 1 cs Q ρ [⟨40, rows (mrow markQ 40 t i) ++ (mixQ s (xs.getD i noEnt) 40 ++ rows (xs.drop (i + 1))), true, false⟩]) :
    awpL Try.prog 1 (codeAt (fnCode Try.f88) [1, 0, 1, 2, 2, 1, 0, 2, 1, 1, 1, 1, 1, 1, 1, 1, 1, 1, 1, 1, 1, 1, 1, 1, 1, 1, 1, 1, 1, 1, 1, 1, 1, 1, 1, 1, 1, 1, 1, 1, 1, 1, 1, 1, 1, 1, 1, 1, 1, 1, 1, 1, 1, 1, 1, 1, 1, 1, 1, 1, 1, 1, 1, 1, 1, 1, 1, 1, 1, 1, 1, 1, 1, 1, 1, 1, 1, 1, 1, 1, 1, 1, 1, 1, 1, 1] :: cs) Q ρ [⟨40, rows (mrow markQ 40 t i) ++ (mixQ s (xs.getD i noEnt) 39 ++ rows (xs.drop (i + 1))), true, false⟩] := by
  have lx : (rows (mrow markQ 40 t i) ++ (mixQ s (xs.getD i noEnt) 39 ++ rows (xs.drop (i + 1)))).length = xs.length * 40 := by rw [List.length_append, List.length_append, mrowsE_len, mixQ_len, ents_len, List.length_drop]; omega
  refine awl_seq ?_
  refine awl_regS [(some 372, (.move (.tmp 0)), none), (some 373, (.move (.tmp 5)), none), (some 374, (.move (.tmp 1)), none), (some 375, (.indexAddr 59 (.tmp 372) (.tmp 373)), none), (some 376, (.fieldAddr 96 (.tmp 375) 4), none), (some 377, (.fieldAddr 42 (.tmp 376) 2), none), (some 378, (.fieldAddr 40 (.tmp 377) 3), none), (none, (.store 3 (.tmp 378) (.tmp 374)), none)] rfl fun K hK => ?_
  simp only [go_sem, simprocAttr, h0, h1, h5, hi, lx, mixQ39]
  repeat' (refine And.intro (by first | rfl | omega) ?_)
  refine hK _ _ (.mk (awl_live' [0, 1, 5] fun ρ hL => ?_))
  simp only [go_sem, simprocAttr, h0, h1, h5] at hL
  obtain ⟨h0, h1, h5⟩ := hL
  clear hK K
  have w40_ : IntKind.i64.wrap (s + 39 + 1) = s + 40 := by rw [wrap64 (by omega)]; omega
  refine awl_regS [(some 379, (.move (.tmp 1)), none), (some 380, (.binOp .add 3 (.tmp 379) (.const (.int .i64 1)) 3), none), (some 1, (.assign (.tmp 380)), none)] rfl fun K hK => ?_
  simp only [go_sem, simprocAttr, h0, h1, h5, w40_]
  refine hK _ _ (.mk (awl_live' [0, 1, 5] fun ρ hL => ?_))
  simp only [go_sem, simprocAttr, h0, h1, h5, w40_] at hL
  obtain ⟨h0, h1, h5⟩ := hL
  exact next ρ h0 h1 h5
set_option maxHeartbeats 8000000 in
set_option maxRecDepth 100000 in
theorem sat_laws_markEntryS (xs : List Ent) (t : Int) (c : Nat) (hb : xs.length ≤ 1099511627776) (ht : 0 ≤ t ∧ t ≤ 1099511627776) : Sat Try.prog 88 [.slice 0 0 xs.length c, .int .i64 t] [⟨40, rows xs, true, false⟩] (.int .i64 (t + (40 * xs.length : Nat))) [⟨40, rows (mrow markQ 40 t xs.length), true, false⟩] := by
  refine sat_mk [.tmp 4] 1 382 Try.call88 Try.func88 Try.ntmps88 rfl rfl rfl rfl rfl ?_
  refine awl_live' [0, 1] fun ρ hL => ?_
  try simp only [go_sem, simprocAttr, List.length_append, List.length_drop, mrow_len] at hL
  obtain ⟨h0, h1⟩ := hL
  refine awl_seq ?_
  refine awl_regS [(some 4, (.assign (.const (.int .i64 0))), none)] rfl fun K hK => ?_
  try simp only [go_sem, simprocAttr, h0, h1, List.length_append, List.length_drop, mrow_len]
  repeat' (refine And.intro (by first | rfl | omega | (simp; done)) ?_)
  refine hK _ _ (.mk (awl_live' [0, 1] fun ρ hL => ?_))
  try simp only [go_sem, simprocAttr, h0, h1, List.length_append, List.length_drop, mrow_len] at hL
  try clear h0 h1
  obtain ⟨h0, h1⟩ := hL
  clear hK K
  refine awl_seq ?_
  refine awl_seq ?_
  refine awl_regS [(some 5, (.assign (.const (.int .i64 0))), none)] rfl fun K hK => ?_
  try simp only [go_sem, simprocAttr, h0, h1, List.length_append, List.length_drop, mrow_len]
  repeat' (refine And.intro (by first | rfl | omega | (simp; done)) ?_)
  refine hK _ _ (.mk (awl_live' [0, 1, 5] fun ρ hL => ?_))
  try simp only [go_sem, simprocAttr, h0, h1, List.length_append, List.length_drop, mrow_len] at hL
  try clear h0 h1
  obtain ⟨h0, h1, h5⟩ := hL
  clear hK K
  have e1_0 := h0
  refine awl_loopH (fun H0 n σ G => ∃ (i : Nat), n = xs.length - i ∧ (i ≤ xs.length) ∧ liveE [0] σ ρ ∧ σ 1 = .int .i64 (t + (40 * i : Nat)) ∧ σ 5 = .int .i64 (i : Int) ∧ G = [⟨40, rows (mrow markQ 40 t i) ++ rows (xs.drop i), true, false⟩]) (fun H0 σ G => liveE [] σ ρ ∧ σ 1 = .int .i64 (t + (40 * xs.length : Nat)) ∧ G = [⟨40, rows (mrow markQ 40 t xs.length), true, false⟩]) ((fun (i : Nat) => xs.length - i) 0) ?init1 (fun n ρ G hI => ?round1) (fun ρ G hJ => ?after1)
  case init1 => exact ⟨0, rfl, (Nat.zero_le _), liveE_refl _ _, (by rw [h1]; simp), (h5), rfl⟩
  case round1 =>
    obtain ⟨i, hn, i1_0, hL, k1, k5, hG⟩ := hI
    subst hG
    try simp only [go_sem, simprocAttr, h0, h1, h5, List.length_append, List.length_drop, mrow_len] at hL
    clear h0 h1 h5
    have h0 := hL
    clear hL
    have h1 := k1
    clear k1
    have h5 := k5
    clear k5
    refine awl_seq ?_
    refine awl_seq ?_
    refine awl_regS [(some 6, (.move (.tmp 5)), none), (some 7, (.move (.tmp 0)), none), (some 8, (.call ⟨(.builtin .len), #[(.tmp 7)], #[59]⟩), none), (some 9, (.binOp .lss 3 (.tmp 6) (.tmp 8) 3), none)] rfl fun K hK => ?_
    try simp only [go_sem, simprocAttr, h0, h1, h5, List.length_append, List.length_drop, mrow_len]
    repeat' (refine And.intro (by first | rfl | omega | (simp; done)) ?_)
    refine hK _ _ (.mk (awl_live' [0, 1, 5, 9] fun ρ hL => ?_))
    try simp only [go_sem, simprocAttr, h0, h1, h5, List.length_append, List.length_drop, mrow_len] at hL
    try clear h0 h1 h5
    obtain ⟨h0, h1, h5, h9⟩ := hL
    clear hK K
    refine awl_cond h9 (fun c1 => ?_) (fun c1 => ?_)
    ·
      try simp only [cnd] at c1
      have hi1 : i < xs.length := by omega
      refine awl_skip ?_
      refine awl_seq ?_
      refine awl_block fun R1 hw1 hR1 => ?_
      obtain ⟨s, hs⟩ : ∃ s : Int, s = t + (40 * i : Nat) := ⟨_, rfl⟩
      rw [← hs] at h1
      have hd : rows (xs.drop i) = mixQ s (xs.getD i noEnt) 0 ++ rows (xs.drop (i + 1)) := rows_split hi1
      rw [hd]
      refine mkE0 hi1 hs hb ht h0 h1 h5 fun ρ h0 h1 h5 => ?_
      refine mkE1 hi1 hs hb ht h0 h1 h5 fun ρ h0 h1 h5 => ?_
      refine mkE2 hi1 hs hb ht h0 h1 h5 fun ρ h0 h1 h5 => ?_
      refine mkE3 hi1 hs hb ht h0 h1 h5 fun ρ h0 h1 h5 => ?_
      refine mkE4 hi1 hs hb ht h0 h1 h5 fun ρ h0 h1 h5 => ?_
      refine mkE5 hi1 hs hb ht h0 h1 h5 fun ρ h0 h1 h5 => ?_
      refine mkE6 hi1 hs hb ht h0 h1 h5 fun ρ h0 h1 h5 => ?_
      refine mkE7 hi1 hs hb ht h0 h1 h5 fun ρ h0 h1 h5 => ?_
      refine mkE8 hi1 hs hb ht h0 h1 h5 fun ρ h0 h1 h5 => ?_
      refine mkE9 hi1 hs hb ht h0 h1 h5 fun ρ h0 h1 h5 => ?_
      refine mkE10 hi1 hs hb ht h0 h1 h5 fun ρ h0 h1 h5 => ?_
      refine mkE11 hi1 hs hb ht h0 h1 h5 fun ρ h0 h1 h5 => ?_
      refine mkE12 hi1 hs hb ht h0 h1 h5 fun ρ h0 h1 h5 => ?_
      refine mkE13 hi1 hs hb ht h0 h1 h5 fun ρ h0 h1 h5 => ?_
      refine mkE14 hi1 hs hb ht h0 h1 h5 fun ρ h0 h1 h5 => ?_
      refine mkE15 hi1 hs hb ht h0 h1 h5 fun ρ h0 h1 h5 => ?_
      refine mkE16 hi1 hs hb ht h0 h1 h5 fun ρ h0 h1 h5 => ?_
      refine mkE17 hi1 hs hb ht h0 h1 h5 fun ρ h0 h1 h5 => ?_
      refine mkE18 hi1 hs hb ht h0 h1 h5 fun ρ h0 h1 h5 => ?_
      refine mkE19 hi1 hs hb ht h0 h1 h5 fun ρ h0 h1 h5 => ?_
      refine mkE20 hi1 hs hb ht h0 h1 h5 fun ρ h0 h1 h5 => ?_
      refine mkE21 hi1 hs hb ht h0 h1 h5 fun ρ h0 h1 h5 => ?_
      refine mkE22 hi1 hs hb ht h0 h1 h5 fun ρ h0 h1 h5 => ?_
      refine mkE23 hi1 hs hb ht h0 h1 h5 fun ρ h0 h1 h5 => ?_
      refine mkE24 hi1 hs hb ht h0 h1 h5 fun ρ h0 h1 h5 => ?_
      refine mkE25 hi1 hs hb ht h0 h1 h5 fun ρ h0 h1 h5 => ?_
      refine mkE26 hi1 hs hb ht h0 h1 h5 fun ρ h0 h1 h5 => ?_
      refine mkE27 hi1 hs hb ht h0 h1 h5 fun ρ h0 h1 h5 => ?_
      refine mkE28 hi1 hs hb ht h0 h1 h5 fun ρ h0 h1 h5 => ?_
      refine mkE29 hi1 hs hb ht h0 h1 h5 fun ρ h0 h1 h5 => ?_
      refine mkE30 hi1 hs hb ht h0 h1 h5 fun ρ h0 h1 h5 => ?_
      refine mkE31 hi1 hs hb ht h0 h1 h5 fun ρ h0 h1 h5 => ?_
      refine mkE32 hi1 hs hb ht h0 h1 h5 fun ρ h0 h1 h5 => ?_
      refine mkE33 hi1 hs hb ht h0 h1 h5 fun ρ h0 h1 h5 => ?_
      refine mkE34 hi1 hs hb ht h0 h1 h5 fun ρ h0 h1 h5 => ?_
      refine mkE35 hi1 hs hb ht h0 h1 h5 fun ρ h0 h1 h5 => ?_
      refine mkE36 hi1 hs hb ht h0 h1 h5 fun ρ h0 h1 h5 => ?_
      refine mkE37 hi1 hs hb ht h0 h1 h5 fun ρ h0 h1 h5 => ?_
      refine mkE38 hi1 hs hb ht h0 h1 h5 fun ρ h0 h1 h5 => ?_
      refine mkE39 hi1 hs hb ht h0 h1 h5 fun ρ h0 h1 h5 => ?_
      refine awl_nil ?_
      refine blk_normal (hR1 _ _ (.mk ?_))
      have w1 : IntKind.i64.wrap ((i : Int) + 1) = ((i + 1 : Nat) : Int) := by rw [wrap64 (by omega)]; omega
      refine awl_regS [(some 10, (.move (.tmp 5)), none), (some 11, (.binOp .add 3 (.tmp 10) (.const (.int .i64 1)) 3), none), (some 5, (.assign (.tmp 11)), none)] rfl fun K hK => ?_
      try simp only [go_sem, simprocAttr, h0, h1, h5, hi1, w1, List.length_append, List.length_drop, mrow_len]
      repeat' (refine And.intro (by first | rfl | omega | (simp; done)) ?_)
      refine hK _ _ (.mk (awl_live' [0, 1, 5] fun ρ hL => ?_))
      try simp only [go_sem, simprocAttr, h0, h1, h5, hi1, w1, List.length_append, List.length_drop, mrow_len] at hL
      try clear h0 h1 h5
      obtain ⟨h0, h1, h5⟩ := hL
      clear hK K
      refine awl_nil ?_
      refine loop_again _ ?meas ⟨i + 1, rfl, (by omega), (by simp only [go_sem, simprocAttr, h0, h1, h5, hi1, List.length_append, List.length_drop, mrow_len, e1_0]), (by rw [h1]; congr 1; omega), (h5), congrArg (fun l => [(⟨40, l, true, false⟩ : Blk)]) (mrow_rows (f := markQ) (s := 40) (cs := mixQ s (xs.getD i noEnt) 40) (xs := xs.drop (i + 1)) hs rfl)⟩
      case meas => subst hn; omega
    ·
      try simp only [cnd] at c1
      refine awl_exit ?_
      refine loop_break ?_
      exact ⟨(by simp only [go_sem, simprocAttr, h0, h1, h5, h9, List.length_append, List.length_drop, mrow_len, e1_0]), (by rw [h1, show i = xs.length by omega]), by rw [show i = xs.length by omega, List.drop_length, rows_nil, List.append_nil]⟩
  case after1 =>
    obtain ⟨hL, k1, hG⟩ := hJ
    subst hG
    clear h0 h1 h5
    clear hL
    have h1 := k1
    clear k1
    refine awl_seq ?_
    refine awl_regS [(some 381, (.move (.tmp 1)), none), (some 4, (.assign (.tmp 381)), none)] rfl fun K hK => ?_
    try simp only [go_sem, simprocAttr, h1, List.length_append, List.length_drop, mrow_len]
    repeat' (refine And.intro (by first | rfl | omega | (simp; done)) ?_)
    refine hK _ _ (.mk (awl_live' [4] fun ρ hL => ?_))
    try simp only [go_sem, simprocAttr, h1, List.length_append, List.length_drop, mrow_len] at hL
    try clear h1
    have h4 := hL
    clear hL
    clear hK K
    refine awl_ret ?_
    refine retK [] [0] rfl (by simp only [go_sem, simprocAttr, h4, List.length_append, List.length_drop, mrow_len]; exact rfl) (by decide) (by first | rfl | (simp only [go_sem, simprocAttr, h4, List.length_append, List.length_drop, mrow_len]; first | done | rfl)) (by first | rfl | (simp only [go_sem, simprocAttr, h4, List.length_append, List.length_drop, mrow_len]; first | done | rfl)) ?_ ?_
    all_goals try simp only [go_sem, simprocAttr, h4, List.length_append, List.length_drop, mrow_len]
    all_goals try clear hR1
    all_goals (first | done | rfl | (simp; done) | (simp [inR]; done) | (simp_all [inR]; done) | (simp [inR]; grind))
set_option maxHeartbeats 8000000 in
set_option maxRecDepth 100000 in
theorem sat_laws_markCore (c : Cor) (t : Int) (hf : c.fit) (ht : 0 ≤ t ∧ t ≤ 1099300000000) : Sat Try.prog 42 [.agg (c.own 0 1 2 3 4), .int .i64 t] c.blks (.int .i64 (t + (c.cost : Nat))) (c.markedQ t).blks := by
  refine sat_mk [.tmp 4] 5 18 Try.call42 Try.func42 Try.ntmps42 rfl rfl rfl rfl rfl ?_
  refine awl_live' [0, 1] fun ρ hL => ?_
  try simp only [go_sem, simprocAttr, Mem.marked, Stt.marked, Cor.markedQ] at hL
  obtain ⟨h0, h1⟩ := hL
  refine awl_seq ?_
  refine awl_regS [(some 2, (.box 61 (.tmp 0)), none), (some 4, (.assign (.const (.int .i64 0))), none)] rfl fun K hK => ?_
  try simp only [go_sem, simprocAttr, h0, h1, Mem.marked, Stt.marked, Cor.markedQ]
  repeat' (refine And.intro (by first | rfl | omega | (simp; done)) ?_)
  refine hK _ _ ⟨_, _, Wk.keep [0, 1, 2, 3, 4, 5] rfl, awl_live' [1, 2] fun ρ hL => ?_⟩
  try simp only [go_sem, simprocAttr, h0, h1, Mem.marked, Stt.marked, Cor.markedQ] at hL
  try clear h0 h1
  obtain ⟨h1, h2⟩ := hL
  try simp only [go_sem, simprocAttr, Mem.marked, Stt.marked, Cor.markedQ]
  clear hK K
  refine awl_seq ?_
  refine awl_regS [(some 5, (.fieldAddr 61 (.tmp 2) 0), none), (some 6, (.load 46 (.tmp 5)), none), (some 7, (.move (.tmp 1)), none), (some 8, (.call ⟨(.value (.func 24)), #[(.tmp 6), (.tmp 7)], #[46, 3]⟩), none), (some 1, (.assign (.tmp 8)), none)] rfl fun K hK => ?_
  try simp only [go_sem, simprocAttr, h1, h2, Mem.marked, Stt.marked, Cor.markedQ]
  repeat' (refine And.intro (by first | rfl | omega | (simp; done)) ?_)
  refine opS_call_in [0, 1, 2] rfl (sat_laws_markState c.s t hf.1 (by omega)) ?ha ?hb ?hv ?hh (by decide) rfl ?_
  case ha => simp only [go_sem, simprocAttr, h1, h2, Mem.marked, Stt.marked, Cor.markedQ]; first | done | rfl
  case hb => simp only [go_sem, simprocAttr, h1, h2, Mem.marked, Stt.marked, Cor.markedQ]; first | done | rfl
  case hv => first | rfl | (simp only [go_sem]; done)
  case hh => first | rfl | (simp only [go_sem]; done)
  try simp only [go_sem, simprocAttr, h1, h2, Mem.marked, Stt.marked, Cor.markedQ]
  repeat' (refine And.intro (by first | rfl | omega | (simp; done)) ?_)
  refine hK _ _ ⟨_, _, Wk.keep [0, 1, 2, 3, 4, 5] rfl, awl_live' [1, 2] fun ρ hL => ?_⟩
  try simp only [go_sem, simprocAttr, h1, h2, Mem.marked, Stt.marked, Cor.markedQ] at hL
  try clear h1 h2
  obtain ⟨h1, h2⟩ := hL
  try simp only [go_sem, simprocAttr, Mem.marked, Stt.marked, Cor.markedQ]
  clear hK K
  refine awl_seq ?_
  refine awl_regS [(some 9, (.fieldAddr 61 (.tmp 2) 1), none), (some 10, (.load 59 (.tmp 9)), none), (some 11, (.move (.tmp 1)), none), (some 12, (.call ⟨(.value (.func 88)), #[(.tmp 10), (.tmp 11)], #[59, 3]⟩), none), (some 1, (.assign (.tmp 12)), none)] rfl fun K hK => ?_
  try simp only [go_sem, simprocAttr, h1, h2, Mem.marked, Stt.marked, Cor.markedQ]
  repeat' (refine And.intro (by first | rfl | omega | (simp; done)) ?_)
  refine opS_call_in [3] rfl (sat_laws_markEntryS c.rob (t + (c.s.cost : Nat)) 0 (Nat.le_trans hf.2.1 (by decide)) (by have := Stt.cost_le hf.1; omega)) ?ha ?hb ?hv ?hh (by decide) rfl ?_
  case ha => simp only [go_sem, simprocAttr, h1, h2, Mem.marked, Stt.marked, Cor.markedQ]; first | done | rfl
  case hb => simp only [go_sem, simprocAttr, h1, h2, Mem.marked, Stt.marked, Cor.markedQ]; first | done | rfl
  case hv => first | rfl | (simp only [go_sem]; done)
  case hh => first | rfl | (simp only [go_sem]; done)
  try simp only [go_sem, simprocAttr, h1, h2, Mem.marked, Stt.marked, Cor.markedQ]
  repeat' (refine And.intro (by first | rfl | omega | (simp; done)) ?_)
  refine hK _ _ ⟨_, _, Wk.keep [0, 1, 2, 3, 4, 5] rfl, awl_live' [1, 2] fun ρ hL => ?_⟩
  try simp only [go_sem, simprocAttr, h1, h2, Mem.marked, Stt.marked, Cor.markedQ] at hL
  try clear h1 h2
  obtain ⟨h1, h2⟩ := hL
  try simp only [go_sem, simprocAttr, Mem.marked, Stt.marked, Cor.markedQ]
  clear hK K
  refine awl_seq ?_
  refine awl_regS [(some 13, (.fieldAddr 61 (.tmp 2) 4), none), (some 14, (.load 22 (.tmp 13)), none), (some 15, (.move (.tmp 1)), none), (some 16, (.call ⟨(.value (.func 16)), #[(.tmp 14), (.tmp 15)], #[22, 3]⟩), none), (some 1, (.assign (.tmp 16)), none)] rfl fun K hK => ?_
  try simp only [go_sem, simprocAttr, h1, h2, Mem.marked, Stt.marked, Cor.markedQ]
  repeat' (refine And.intro (by first | rfl | omega | (simp; done)) ?_)
  refine opS_call_in [4] rfl (sat_laws_markIntS c.guesses (t + (c.s.cost : Nat) + (40 * c.rob.length : Nat)) 0 (Nat.le_trans hf.2.2 (by decide)) (by have := Stt.cost_le hf.1; have := hf.2.1; omega)) ?ha ?hb ?hv ?hh (by decide) rfl ?_
  case ha => simp only [go_sem, simprocAttr, h1, h2, Mem.marked, Stt.marked, Cor.markedQ]; first | done | rfl
  case hb => simp only [go_sem, simprocAttr, h1, h2, Mem.marked, Stt.marked, Cor.markedQ]; first | done | rfl
  case hv => first | rfl | (simp only [go_sem]; done)
  case hh => first | rfl | (simp only [go_sem]; done)
  try simp only [go_sem, simprocAttr, h1, h2, Mem.marked, Stt.marked, Cor.markedQ]
  repeat' (refine And.intro (by first | rfl | omega | (simp; done)) ?_)
  refine hK _ _ ⟨_, _, Wk.keep [0, 1, 2, 3, 4] rfl, awl_live' [1] fun ρ hL => ?_⟩
  try simp only [go_sem, simprocAttr, h1, h2, Mem.marked, Stt.marked, Cor.markedQ] at hL
  try clear h1 h2
  have h1 := hL
  clear hL
  try simp only [go_sem, simprocAttr, Mem.marked, Stt.marked, Cor.markedQ]
  clear hK K
  refine awl_seq ?_
  refine awl_regS [(some 17, (.move (.tmp 1)), none), (some 4, (.assign (.tmp 17)), none)] rfl fun K hK => ?_
  try simp only [go_sem, simprocAttr, h1, Mem.marked, Stt.marked, Cor.markedQ]
  repeat' (refine And.intro (by first | rfl | omega | (simp; done)) ?_)
  refine hK _ _ ⟨_, _, Wk.keep [0, 1, 2, 3, 4] rfl, awl_live' [4] fun ρ hL => ?_⟩
  try simp only [go_sem, simprocAttr, h1, Mem.marked, Stt.marked, Cor.markedQ] at hL
  try clear h1
  have h4 := hL
  clear hL
  try simp only [go_sem, simprocAttr, Mem.marked, Stt.marked, Cor.markedQ]
  clear hK K
  refine awl_ret ?_
  refine retK [] [0, 1, 2, 3, 4] rfl (by simp only [go_sem, simprocAttr, h4, Mem.marked, Stt.marked, Cor.markedQ]; exact rfl) (by decide) (by first | rfl | (simp only [go_sem, simprocAttr, h4, Mem.marked, Stt.marked, Cor.markedQ]; first | done | rfl)) (by first | rfl | (simp only [go_sem, simprocAttr, h4, Mem.marked, Stt.marked, Cor.markedQ]; first | done | rfl)) ?_ ?_
  all_goals try simp only [go_sem, simprocAttr, h4, Mem.marked, Stt.marked, Cor.markedQ]
  all_goals (first | done | rfl | (congr 1; simp only [Mem.cost, Stt.cost, Cor.cost]; omega))
end Go.Proofs.Ytgddflnhibhacaa.AM
