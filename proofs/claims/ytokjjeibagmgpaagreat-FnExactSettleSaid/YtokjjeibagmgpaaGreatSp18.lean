/- Picks and settling, by what happens. No conditions. -/
import Derived.Test.YtokjjeibagmgpaaGreatSp16
set_option linter.unusedVariables false
set_option linter.unusedSimpArgs false
namespace Go.Proofs.YtokjjeibagmgpaaGreat.AM
open Go

section
variable {l : List Ins} {c u : Cor} {p : Pik} {i k w : Nat} {m : Int} {s : Stt}
theorem pick_no (h : corOk c = false) : corPick l c p = (noCor, false) := by rw [corPick, if_pos h]
theorem pick_1 (h : corOk c = true) (h1 : p.kind = 1) : corPick l c p = pull l c := by rw [corPick, if_neg (by rw [h]; exact Bool.noConfusion), if_pos h1]
theorem pick_2 (h : corOk c = true) (h1 : p.kind = 2) : corPick l c p = do_ c p.n := by rw [corPick, if_neg (by rw [h]; exact Bool.noConfusion), if_neg (by omega), if_pos h1]
theorem pick_3 (h : corOk c = true) (h1 : p.kind = 3) : corPick l c p = commit c := by rw [corPick, if_neg (by rw [h]; exact Bool.noConfusion), if_neg (by omega), if_neg (by omega), if_pos h1]
theorem pick_4 (h : corOk c = true) (h1 : p.kind = 4) : corPick l c p = (withS c (withMem c.s (sweep c.s.mem p.n)), inR p.n 0 23) := by rw [corPick, if_neg (by rw [h]; exact Bool.noConfusion), if_neg (by omega), if_neg (by omega), if_neg (by omega), if_pos h1]
theorem pick_5 (h : corOk c = true) (h1 : ¬ p.kind = 1) (h2 : ¬ p.kind = 2) (h3 : ¬ p.kind = 3) (h4 : ¬ p.kind = 4) : corPick l c p = (c, false) := by rw [corPick, if_neg (by rw [h]; exact Bool.noConfusion), if_neg h1, if_neg h2, if_neg h3, if_neg h4]
theorem pick_out (h : corOk c = true) (h1 : p.kind = 4) (hn : inR p.n 0 23 = false) : corPick l c p = (c, false) := by
  rw [pick_4 h h1, hn, sweep_out (sttOk_parts (corOk_parts h).2.1).2.2.2.1 hn]
  rfl
theorem pick_in (h : corOk c = true) (h1 : p.kind = 4) (hn : inR p.n 0 23 = true) : corPick l c p = (withS c (withMem c.s (sweep c.s.mem p.n)), true) := by rw [pick_4 h h1, hn]
theorem pick_idle (h : corOk c = true) (h1 : ¬ p.kind = 1) (h2 : ¬ p.kind = 2) (h3 : ¬ p.kind = 3) (h5 : ¬ p.kind = 4 ∨ inR p.n 0 23 = false) : corPick l c p = (c, false) := by
  by_cases h4 : p.kind = 4
  · exact pick_out h h4 (h5.resolve_left (fun g => g h4))
  · exact pick_5 h h1 h2 h3 h4
theorem pick_fit (h : c.fit) : (corPick l c p).1.fit := by
  unfold corPick
  split
  · exact noCor_fit
  · split
    · exact pull_fit h
    · split
      · exact do_fit h
      · split
        · exact commit_fit h
        · split
          · exact ⟨⟨h.1.1, sweep_fit h.1.2⟩, h.2⟩
          · exact h
theorem fold_fitC : ∀ (ps : List Pik) {x : Cor × List Int}, x.1.fit → (ps.foldl (corStep l) x).1.fit
  | [], _, h => h
  | p :: ps, x, h => fold_fitC ps (pick_fit h)
theorem ints_snoc {o : List Int} {n : Int} : ints o ++ [.int .i64 n] = ints (o ++ [n]) := by simp [ints]
theorem note_len : (noted p).length ≤ 1 := by
  unfold noted
  split
  · simp
  · split <;> simp
theorem step_len {x : Cor × List Int} : (corStep l x p).2.length ≤ x.2.length + 1 := by
  show (x.2 ++ if (corPick l x.1 p).2 = true then noted p else []).length ≤ _
  rw [List.length_append]
  have := note_len (p := p)
  split
  · omega
  · simp
theorem fold_lenC : ∀ (ps : List Pik) {x : Cor × List Int}, (ps.foldl (corStep l) x).2.length ≤ x.2.length + ps.length
  | [], _ => by simp
  | p :: ps, x => by
    have h1 := fold_lenC ps (x := corStep l x p)
    have h2 := step_len (l := l) (x := x) (p := p)
    simp only [List.foldl_cons, List.length_cons]
    omega
theorem runC_fit {ps : List Pik} (h : s.fit) : (corRun l s ps).1.fit := by
  unfold corRun
  split
  · exact noCor_fit
  · exact fold_fitC ps (corNew_fit h)
theorem runC_len {ps : List Pik} : (corRun l s ps).2.length ≤ 600 := by
  unfold corRun
  split
  · simp
  · rename_i h
    have := fold_lenC (l := l) ps (x := (corNew s, []))
    simp only [List.length_nil] at this
    omega
theorem runC_no {ps : List Pik} (h : 600 < ps.length ∨ sttOk s = false) : corRun l s ps = (noCor, []) := by rw [corRun, if_pos h]
theorem runC_go {ps : List Pik} (h : ¬ (600 < ps.length ∨ sttOk s = false)) : corRun l s ps = ps.foldl (corStep l) (corNew s, []) := by rw [corRun, if_neg h]
theorem foldC_take {ps : List Pik} {x y : Cor × List Int} (h : i < ps.length) (he : (ps.take i).foldl (corStep l) x = y) : (ps.take (i + 1)).foldl (corStep l) x = corStep l y (ps.getD i noPik) := by
  have : ps.take (i + 1) = ps.take i ++ [ps.getD i noPik] := by rw [List.take_add_one]; simp [h]
  rw [this, List.foldl_append, he]
  rfl
theorem stepC_on {o : List Int} {n : Int} (h : (corPick l u p).2 = true) (hn : noted p = [n]) : corStep l (u, o) p = ((corPick l u p).1, o ++ [n]) := by
  show ((corPick l u p).1, o ++ if (corPick l u p).2 = true then noted p else []) = _
  rw [if_pos h, hn]
theorem stepC_off {o : List Int} (h : (corPick l u p).2 = false ∨ noted p = []) : corStep l (u, o) p = ((corPick l u p).1, o) := by
  show ((corPick l u p).1, o ++ if (corPick l u p).2 = true then noted p else []) = _
  rcases h with h | h
  · rw [if_neg (by rw [h]; exact Bool.noConfusion), List.append_nil]
  · rw [h, ite_self, List.append_nil]
/-- What a pick is noted by, and whether it is. -/
def numS (p : Pik) : Int := if p.kind = 4 then p.n else -1
def numI (p : Pik) : Int := if p.kind = 3 then -1 else if p.kind = 4 then p.n else 0
def isN (p : Pik) : Bool := decide (p.kind = 3 ∨ p.kind = 4)
theorem noteS (h : isN p = true) : noted p = [numS p] := by
  have := of_decide_eq_true h
  unfold noted numS
  by_cases h3 : p.kind = 3
  · rw [if_pos h3, if_neg (by omega)]
  · rw [if_neg h3, if_pos (by omega), if_pos (by omega)]
theorem noteI (h : isN p = true) : noted p = [numI p] := by
  have := of_decide_eq_true h
  unfold noted numI
  by_cases h3 : p.kind = 3
  · rw [if_pos h3, if_pos h3]
  · rw [if_neg h3, if_neg h3, if_pos (by omega), if_pos (by omega)]
theorem note_off (h : isN p = false) : noted p = [] := by
  have := of_decide_eq_false h
  unfold noted
  rw [if_neg (by omega), if_neg (by omega)]

theorem piks_put {xs : List Pik} {x : Pik} {i : Nat} (h : i < xs.length) : putAt (rows xs) (i * 2) [.int .i64 x.kind, .int .i64 x.n] = rows (xs.set i x) := rows_put h
def markP (t : Int) : Pik := ⟨t, t + 1⟩
/-! ### settling -/
theorem do_len : (do_ c m).1.rob.length ≤ c.rob.length := by
  unfold do_
  split
  · exact Nat.zero_le _
  · split
    · exact Nat.le_refl _
    · unfold doE
      split
      · simp [withRob]; omega
      · split
        · simp [withRob]; omega
        · simp [withRob]
theorem commit_len : (commit c).1.rob.length ≤ c.rob.length := by
  unfold commit
  split
  · exact Nat.zero_le _
  · split
    · exact Nat.le_refl _
    · unfold commitE
      split
      · exact Nat.zero_le _
      · split
        · exact Nat.zero_le _
        · simp
theorem all_step (h : i < u.rob.length) (h6 : u.rob.length ≤ 6) : doAll (7 - i) i u = doAll (7 - (i + 1)) (i + 1) (do_ u (i : Int)).1 := by
  rw [show 7 - i = (7 - (i + 1)) + 1 by omega, doAll, if_pos h]
theorem all_stop (h : ¬ i < u.rob.length) : doAll (7 - i) i u = u := by
  cases hq : 7 - i with
  | zero => rfl
  | succ n => rw [doAll, if_neg h]
theorem all_fit : ∀ (n : Nat) {i : Nat} {c : Cor}, c.fit → (doAll n i c).fit
  | 0, _, _, h => h
  | n + 1, i, c, h => by
    rw [doAll]
    split
    · exact all_fit n (do_fit h)
    · exact h
theorem all_len : ∀ (n : Nat) {i : Nat} {c : Cor}, (doAll n i c).rob.length ≤ c.rob.length
  | 0, _, _ => Nat.le_refl _
  | n + 1, i, c => by
    rw [doAll]
    split
    · exact Nat.le_trans (all_len n) do_len
    · exact Nat.le_refl _
theorem set_stop (h : 600 ≤ k ∨ u.rob.length = 0) : settleGo (600 - k) u m = (u, m) := by
  cases hq : 600 - k with
  | zero => rfl
  | succ n =>
    rw [settleGo, if_pos (List.eq_nil_of_length_eq_zero (by omega))]
theorem set_on (hk : k < 600) (h : 0 < u.rob.length) (hu : c = doAll 7 0 u) (hb : (commit c).2 = true) : settleGo (600 - k) u m = settleGo (600 - (k + 1)) (commit c).1 (m + 1) := by
  rw [show 600 - k = (600 - (k + 1)) + 1 by omega, settleGo, if_neg (fun g => by rw [g] at h; simp at h), ← hu, if_pos hb]
theorem set_off (hk : k < 600) (h : 0 < u.rob.length) (hu : c = doAll 7 0 u) (hb : (commit c).2 = false) : settleGo (600 - k) u m = settleGo (600 - (k + 1)) (commit c).1 m := by
  rw [show 600 - k = (600 - (k + 1)) + 1 by omega, settleGo, if_neg (fun g => by rw [g] at h; simp at h), ← hu, if_neg (by rw [hb]; exact Bool.noConfusion)]
theorem set_fit : ∀ (n : Nat) {c : Cor} {m : Int}, c.fit → (settleGo n c m).1.fit
  | 0, _, _, h => h
  | n + 1, c, m, h => by
    rw [settleGo]
    split
    · exact h
    · exact set_fit n (commit_fit (all_fit 7 h))
theorem set_many : ∀ (n : Nat) {c : Cor} {m : Int}, m ≤ (settleGo n c m).2 ∧ (settleGo n c m).2 ≤ m + n
  | 0, _, _ => by simp [settleGo]
  | n + 1, c, m => by
    rw [settleGo]
    split
    · simp; omega
    · have := set_many n (c := (commit (doAll 7 0 c)).1) (m := if (commit (doAll 7 0 c)).2 = true then m + 1 else m)
      split at this <;> rename_i hb
      · simp only [hb, if_true] at this ⊢; omega
      · simp only [hb] at this ⊢
        simp only [Bool.false_eq_true, if_false] at this ⊢; omega
theorem settle_no (h : corOk c = false) : settle c = (noCor, 0) := by rw [settle, if_pos h]
theorem settle_go (h : corOk c = true) : settle c = settleGo 600 c 0 := by rw [settle, if_neg (by rw [h]; exact Bool.noConfusion)]
theorem settle_fit (h : c.fit) : (settle c).1.fit := by
  unfold settle
  split
  · exact noCor_fit
  · exact set_fit 600 h
theorem settle_many : 0 ≤ (settle c).2 ∧ (settle c).2 ≤ 600 := by
  unfold settle
  split
  · simp
  · have := set_many 600 (c := c) (m := 0)
    exact ⟨this.1, by have := this.2; simpa using this⟩

/-! ### out of order -/
/-- How wide. -/
def wid (w : Int) : Int := if inR w 1 6 = true then w else 1
def widN (w : Int) : Nat := if inR w 1 6 = true then w.toNat else 1
theorem wid_eq {w : Int} : wid w = (widN w : Int) ∧ 1 ≤ widN w ∧ widN w ≤ 6 := by
  unfold wid widN
  split
  · rename_i h
    have := inR_iff.1 h
    omega
  · simp
theorem pulls_step {W : Nat} (h : i < W) : pulls l (W - i) u = pulls l (W - (i + 1)) (pull l u).1 := by
  rw [show W - i = (W - (i + 1)) + 1 by omega, pulls]
theorem pulls_stop {W : Nat} (h : ¬ i < W) : pulls l (W - i) u = u := by
  rw [show W - i = 0 by omega, pulls]
theorem pulls_fit : ∀ (n : Nat) {c : Cor}, c.fit → (pulls l n c).fit
  | 0, _, h => h
  | n + 1, c, h => pulls_fit n (pull_fit h)
theorem out_stop {N W : Nat} (h : N ≤ k ∨ ¬ u.s.trap = 0) : outGo l W (N - k) u m = (u, m) := by
  cases hq : N - k with
  | zero => rfl
  | succ n =>
    rw [outGo, if_neg]
    rcases h with h | h
    · omega
    · exact h
theorem out_step {N W : Nat} (h : k < N) (ht : u.s.trap = 0) (hu : c = pulls l W u) : outGo l W (N - k) u m = outGo l W (N - (k + 1)) (settle c).1 (m + (settle c).2) := by
  rw [show N - k = (N - (k + 1)) + 1 by omega, outGo, if_pos ht, ← hu]
theorem out_fit {W : Nat} : ∀ (n : Nat) {c : Cor} {m : Int}, c.fit → (outGo l W n c m).1.fit
  | 0, _, _, h => h
  | n + 1, c, m, h => by
    rw [outGo]
    split
    · exact out_fit n (settle_fit (pulls_fit W h))
    · exact h
theorem out_many {W : Nat} : ∀ (n : Nat) {c : Cor} {m : Int}, m ≤ (outGo l W n c m).2 ∧ (outGo l W n c m).2 ≤ m + 600 * n
  | 0, _, _ => by simp [outGo]
  | n + 1, c, m => by
    rw [outGo]
    split
    · have h1 := out_many (W := W) n (c := (settle (pulls l W c)).1) (m := m + (settle (pulls l W c)).2)
      have h2 := settle_many (c := pulls l W c)
      omega
    · simp; omega
variable {a b : Int}
theorem outO_no (h : sttOk s = false) : outOrder l s a b = (noStt, 0) := by rw [outOrder, if_pos h]
theorem outO_go (h : sttOk s = true) : outOrder l s a b = ((outGo l (widN a) (min b 600).toNat (corNew s) 0).1.s, (outGo l (widN a) (min b 600).toNat (corNew s) 0).2) := by
  rw [outOrder, if_neg (by rw [h]; exact Bool.noConfusion)]
  rfl
theorem outO_fit (h : s.fit) : (outOrder l s a b).1.fit := by
  by_cases hk : sttOk s = true
  · rw [outO_go hk]; exact (out_fit _ (corNew_fit h)).1
  · rw [outO_no (by simpa using hk)]; exact noStt_fit
theorem outO_many : 0 ≤ (outOrder l s a b).2 ∧ (outOrder l s a b).2 ≤ 360000 := by
  by_cases hk : sttOk s = true
  · rw [outO_go hk]
    have := out_many (l := l) (W := widN a) (min b 600).toNat (c := corNew s) (m := 0)
    simp only
    omega
  · rw [outO_no (by simpa using hk)]; simp
end
end Go.Proofs.YtokjjeibagmgpaaGreat.AM
