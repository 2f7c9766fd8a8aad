/- Runs, by what happens. No conditions. -/
import Derived.Test.YtokjjeibagmgpaaGreatSp10
set_option linter.unusedVariables false
set_option linter.unusedSimpArgs false
namespace Go.Proofs.YtokjjeibagmgpaaGreat.AM
open Go

section
variable {l : List Ins} {s u : Stt} {m : Mem} {n : Int}
theorem noStt_fit : noStt.fit := ⟨Nat.zero_le _, Nat.zero_le _, Nat.zero_le _⟩
theorem noMem_fit : noMem.fit := ⟨Nat.zero_le _, Nat.zero_le _⟩
theorem apply_fit {e : Fx} (h : s.fit) : (applyFx s e).fit := by
  obtain ⟨a, b, c⟩ := h
  refine ⟨?_, ?_, ?_⟩
  · show (if inR e.r 0 7 = true then s.regs.set e.r.toNat e.val else s.regs).length ≤ _
    split <;> simpa using a
  · show (if inR e.adr 0 23 = true then s.mem.words.set e.adr.toNat e.put else s.mem.words).length ≤ _
    split <;> simpa using b
  · show (if inR e.drop 0 23 = true then s.mem.gone.set e.drop.toNat true else s.mem.gone).length ≤ _
    split <;> simpa using c
theorem step_fit (h : s.fit) : (step l s).fit := by
  unfold step
  split
  · exact noStt_fit
  · split
    · exact h
    · split
      · exact h
      · exact apply_fit h
theorem sweep_no (h : memOk m = false) : sweep m n = noMem := by rw [sweep, if_neg (by rw [h]; exact Bool.noConfusion)]
theorem sweep_in (h : memOk m = true) (hn : inR n 0 23 = true) : sweep m n = ⟨m.words.set n.toNat (filt m (m.words.getD n.toNat noWord)), m.gone⟩ := by rw [sweep, if_pos h, if_pos hn]
theorem sweep_out (h : memOk m = true) (hn : inR n 0 23 = false) : sweep m n = m := by rw [sweep, if_pos h, if_neg (by rw [hn]; exact Bool.noConfusion)]
theorem sweep_fit (h : m.fit) : (sweep m n).fit := by
  unfold sweep
  split
  · split
    · exact ⟨by simpa using h.1, h.2⟩
    · exact h
  · exact noMem_fit
theorem runOne_fit (h : s.fit) : (runOne l s n).fit := by
  unfold runOne
  split
  · exact step_fit h
  · exact ⟨h.1, sweep_fit h.2⟩
theorem runOne_step (h : n < 0) : runOne l s n = step l s := by rw [runOne, if_pos h]
theorem runOne_sweep (h : ¬ n < 0) : runOne l s n = withMem s (sweep s.mem n) := by rw [runOne, if_neg h]
theorem foldl_take {ns : List Int} {i : Nat} (h : i < ns.length) (he : (ns.take i).foldl (runOne l) s = u) : (ns.take (i + 1)).foldl (runOne l) s = runOne l u (ns.getD i 0) := by
  have : ns.take (i + 1) = ns.take i ++ [ns.getD i 0] := by rw [List.take_add_one]; simp [h]
  rw [this, List.foldl_append, he]
  rfl
theorem run_no {ns : List Int} (h : sttOk s = false) : run l s ns = noStt := by rw [run, if_pos h]
theorem run_long {ns : List Int} (h : sttOk s = true) (hn : 600 < ns.length) : run l s ns = s := by rw [run, if_neg (by rw [h]; exact Bool.noConfusion), if_pos hn]
theorem run_go {ns : List Int} (h : sttOk s = true) (hn : ¬ 600 < ns.length) : run l s ns = ns.foldl (runOne l) s := by rw [run, if_neg (by rw [h]; exact Bool.noConfusion), if_neg hn]
theorem fold_fit : ∀ (ns : List Int) {s : Stt}, s.fit → (ns.foldl (runOne l) s).fit
  | [], _, h => h
  | n :: ns, s, h => fold_fit ns (runOne_fit (n := n) h)
theorem run_fit {ns : List Int} (h : s.fit) : (run l s ns).fit := by
  unfold run
  split
  · exact noStt_fit
  · split
    · exact h
    · exact fold_fit ns h
theorem ord_stop {N k : Nat} {i : Int} (h : N ≤ k ∨ ¬ u.trap = 0) : ordGo l (N - k) u i = (u, i) := by
  cases hq : N - k with
  | zero => rfl
  | succ m =>
    rw [ordGo, if_neg]
    rcases h with h | h
    · omega
    · exact h
theorem ord_step {N k : Nat} (h : k < N) (ht : u.trap = 0) : ordGo l (N - k) u (k : Int) = ordGo l (N - (k + 1)) (step l u) ((k + 1 : Nat) : Int) := by
  rw [show N - k = (N - (k + 1)) + 1 by omega, ordGo, if_pos ht]
  rfl
theorem ord_fit : ∀ (N : Nat) {s : Stt} {k : Int}, s.fit → (ordGo l N s k).1.fit
  | 0, _, _, h => h
  | N + 1, s, k, h => by
    rw [ordGo]
    split
    · exact ord_fit N (step_fit h)
    · exact h
theorem inOrder_no (h : sttOk s = false) : inOrder l s n = (noStt, 0) := by rw [inOrder, if_pos h]
theorem inOrder_go (h : sttOk s = true) : inOrder l s n = ordGo l (min n 600).toNat s 0 := by rw [inOrder, if_neg (by rw [h]; exact Bool.noConfusion)]
theorem inOrder_fit (h : s.fit) : (inOrder l s n).1.fit := by
  unfold inOrder
  split
  · exact noStt_fit
  · exact ord_fit _ h
theorem corNew_no (h : sttOk s = false) : corNew s = noCor := by rw [corNew, if_neg (by rw [h]; exact Bool.noConfusion)]
theorem corNew_go (h : sttOk s = true) : corNew s = ⟨s, [], s.pc, false, guessNew⟩ := by rw [corNew, if_pos h]
theorem corNew_fit (h : s.fit) : (corNew s).fit := by
  unfold corNew
  split
  · exact ⟨h, Nat.zero_le _, (by simp [guessNew])⟩
  · exact ⟨noStt_fit, Nat.zero_le _, Nat.zero_le _⟩
end
end Go.Proofs.YtokjjeibagmgpaaGreat.AM
