/- Commands read, step by step. No conditions. -/
import Derived.Test.YtgpjgljgplngpaaGreatDoorTx8
set_option linter.unusedVariables false
set_option linter.unusedSimpArgs false
namespace Go.Proofs.YtgpjgljgplngpaaGreatDoor.AM
open Go

/-! ### a number -/
def startN (l : Bs) : Nat := if l ≠ [] ∧ ((l.getD 0 0).toNat = 45 ∨ (l.getD 0 0).toNat = 114) then 1 else 0
def signN (l : Bs) (x : Nat) : Int := if startN l = 1 ∧ (l.getD 0 0).toNat = 45 then -(x : Int) else x
theorem numL_is {l : Bs} : numL l = match scan0 3 (l.drop (startN l)) 0 with
    | some x => signN l x
    | none => 0 := by
  cases l with
  | nil => rfl
  | cons b r =>
    have e45 : b = 45 ↔ b.toNat = 45 := by rw [← UInt8.toNat_inj]; rfl
    have e114 : b = 114 ↔ b.toNat = 114 := by rw [← UInt8.toNat_inj]; rfl
    unfold numL startN signN
    by_cases h1 : b = 45
    · have h1' := e45.1 h1
      simp [h1', h1, startN]
      cases scan0 3 r 0 <;> rfl
    · have h1' : ¬ b.toNat = 45 := fun e => h1 (e45.2 e)
      by_cases h2 : b = 114
      · have h2' := e114.1 h2
        simp [h2, startN]
        cases scan0 3 r 0 <;> rfl
      · have h2' : ¬ b.toNat = 114 := fun e => h2 (e114.2 e)
        simp [h1, h2, h1', h2', startN]
        cases scan0 3 (b :: r) 0 <;> rfl
theorem startN_le {l : Bs} : startN l ≤ 1 ∧ startN l ≤ l.length := by
  unfold startN
  split
  · rename_i h
    have : 0 < l.length := List.length_pos_iff.2 h.1
    omega
  · omega
theorem startN_pos {l : Bs} (h : startN l = 1) : 0 < l.length := by have := (startN_le (l := l)).2; omega
theorem scan0_end {l : Bs} {p k v : Nat} (h : k = 0 ∨ l.length ≤ p) : scan0 k (l.drop p) v = some v := by
  rcases h with rfl | h
  · cases l.drop p <;> rfl
  · rw [List.drop_of_length_le h]
    cases k <;> rfl
theorem scan0_no {l : Bs} {p k v : Nat} (h : p < l.length) (hd : (l.getD p 0).toNat < 48 ∨ 57 < (l.getD p 0).toNat) : scan0 (k + 1) (l.drop p) v = none := by
  rw [drop_at h, scan0, if_neg]
  unfold digit
  omega
theorem scan0_go {l : Bs} {p k v : Nat} (h : p < l.length) (hd : 48 ≤ (l.getD p 0).toNat) (he : (l.getD p 0).toNat ≤ 57) : scan0 (k + 1) (l.drop p) v = scan0 k (l.drop (p + 1)) (10 * v + ((l.getD p 0).toNat - 48)) := by
  rw [drop_at h, scan0, if_pos ⟨hd, he⟩]
/-! ### words -/
theorem cut_word {l : Bs} {a i : Nat} (ha : a ≤ i) (hi : i ≤ l.length) : (l.take i).drop a ++ l.drop i = l.drop a := by
  have h1 : a ≤ (l.take i).length := by rw [List.length_take]; omega
  conv => rhs; rw [← List.take_append_drop i l]
  rw [List.drop_append_of_le_length h1]
theorem splitW_at {c : UInt8} {l : Bs} {a i : Nat} (ha : a ≤ i) (hi : i < l.length) (hn : c ∉ (l.take i).drop a) (hc : l.getD i 0 = c) : splitB c (l.drop a) = (l.take i).drop a :: splitB c (l.drop (i + 1)) := by
  rw [← cut_word ha (Nat.le_of_lt hi), drop_at hi, hc]
  exact splitB_app hn
theorem splitW_end {c : UInt8} {l : Bs} {a : Nat} (ha : a ≤ l.length) (hn : c ∉ (l.take l.length).drop a) : splitB c (l.drop a) = [(l.take l.length).drop a] := by
  rw [List.take_length] at hn ⊢
  exact splitB_one hn
theorem word_on {c : UInt8} {l : Bs} {a i : Nat} (ha : a ≤ i) (hi : i < l.length) (hn : c ∉ (l.take i).drop a) (hc : ¬ l.getD i 0 = c) : c ∉ (l.take (i + 1)).drop a := by
  have h1 : a ≤ (l.take i).length := by rw [List.length_take]; omega
  have ht : l.take (i + 1) = l.take i ++ [l.getD i 0] := by rw [List.take_add_one]; simp [hi]
  rw [ht, List.drop_append_of_le_length h1]
  simp only [List.mem_append, List.mem_singleton, not_or]
  exact ⟨hn, fun e => hc e.symm⟩
/-! ### the numbers of a command -/
theorem numsS_len {h : Int} {ws : List Bs} : ∀ k, (numsS h ws k).1.length = 4 ∧ 1 ≤ (numsS h ws k).2 ∧ (numsS h ws k).2 ≤ k + 1
  | 0 => ⟨rfl, Nat.le_refl _, Nat.le_refl _⟩
  | k + 1 => by
    have := numsS_len (h := h) (ws := ws) k
    rw [numsS]
    split
    · simp only [List.length_set]; omega
    · omega
theorem numsS_yes {h : Int} {ws : List Bs} {k : Nat} (hb : ¬ bitop .and .i64 (h.fdiv (2 ^ k)) 1 = 0) (hj : (numsS h ws k).2 < ws.length) : numsS h ws (k + 1) = ((numsS h ws k).1.set k (numL (ws.getD (numsS h ws k).2 [])), (numsS h ws k).2 + 1) := by
  rw [numsS, if_pos ⟨decide_eq_true ((band_one (h.fdiv (2 ^ k))).resolve_left hb), hj⟩]
theorem numsS_no {h : Int} {ws : List Bs} {k : Nat} (hb : bitop .and .i64 (h.fdiv (2 ^ k)) 1 = 0 ∨ ws.length ≤ (numsS h ws k).2) : numsS h ws (k + 1) = numsS h ws k := by
  rw [numsS, if_neg]
  rintro ⟨h1, h2⟩
  rcases hb with hb | hb
  · have : bitop .and .i64 (h.fdiv (2 ^ k)) 1 = 1 := of_decide_eq_true h1
    omega
  · omega
theorem opN_yes {w : Bs} {k : Nat} (h : bt (namesT.getD (k + 1) []) = bt w) : opN w (k + 1) = ((k + 1 : Nat) : Int) := by rw [opN, if_pos (bt_inj.1 h)]
theorem opN_no {w : Bs} {k : Nat} (h : ¬ bt (namesT.getD (k + 1) []) = bt w) : opN w (k + 1) = opN w k := by rw [opN, if_neg (fun e => h (by rw [e]))]
theorem four_heads {xs : List Int} (h : xs.length = 4) : (ints xs).head? = some (.int .i64 (xs.getD 0 0)) ∧ (List.drop 1 (ints xs)).head? = some (.int .i64 (xs.getD 1 0)) ∧ (List.drop 2 (ints xs)).head? = some (.int .i64 (xs.getD 2 0)) ∧ (List.drop 3 (ints xs)).head? = some (.int .i64 (xs.getD 3 0)) := by
  match xs, h with
  | [a, b, c, d], _ => exact ⟨rfl, rfl, rfl, rfl⟩
/-! ### how it is filled -/
theorem fillI_at {F : List UInt8} {ws : List Bs} {x : Ins} {i : Nat} (hf : i < F.length) (hw : i < ws.length) (hv : (atoV (Lib.trimPrefix (ws.getD i []) [114])).2 = true) : fillI (F.drop i) (ws.drop i) x = fillI (F.drop (i + 1)) (ws.drop (i + 1)) (withP x (F.getD i 0) (atoV (Lib.trimPrefix (ws.getD i []) [114])).1) := by
  rw [List.drop_eq_getElem_cons hf, List.drop_eq_getElem_cons hw, fillI]
  have e1 : F.getD i 0 = F[i] := by simp [hf]
  have e2 : ws.getD i [] = ws[i] := by simp [hw]
  rw [e2] at hv
  rw [if_pos hv, e1, e2]
theorem fillI_no {F : List UInt8} {ws : List Bs} {x : Ins} {i : Nat} (hf : i < F.length) (hw : i < ws.length) (hv : (atoV (Lib.trimPrefix (ws.getD i []) [114])).2 = false) : fillI (F.drop i) (ws.drop i) x = none := by
  rw [List.drop_eq_getElem_cons hf, List.drop_eq_getElem_cons hw, fillI]
  have e2 : ws.getD i [] = ws[i] := by simp [hw]
  rw [e2] at hv
  rw [if_neg (by rw [hv]; exact Bool.noConfusion)]
theorem fillI_end {F : List UInt8} {ws : List Bs} {x : Ins} {i : Nat} (hf : F.length ≤ i) : fillI (F.drop i) (ws.drop i) x = some x := by
  rw [List.drop_of_length_le hf]
  cases ws.drop i <;> rfl
theorem withP_is {x : Ins} {p : UInt8} {v : Int} : withP x p v = if (p.toNat : Int) = 82 then ⟨x.op, v, x.a, x.b, x.n⟩ else if (p.toNat : Int) = 65 then ⟨x.op, x.r, v, x.b, x.n⟩ else if (p.toNat : Int) = 66 then ⟨x.op, x.r, x.a, v, x.n⟩ else if (p.toNat : Int) = 78 then ⟨x.op, x.r, x.a, x.b, v⟩ else x := by
  have e : ∀ q : UInt8, (p = q) = ((p.toNat : Int) = (q.toNat : Int)) := fun q => propext ⟨fun h => by rw [h], fun h => UInt8.toNat_inj.1 (by omega)⟩
  unfold withP
  simp only [e]
  rfl
theorem withP_R {x : Ins} {p : UInt8} {v : Int} (h : (p.toNat : Int) = 82) : withP x p v = ⟨x.op, v, x.a, x.b, x.n⟩ := by rw [withP_is, if_pos h]
theorem withP_A {x : Ins} {p : UInt8} {v : Int} (h : (p.toNat : Int) = 65) : withP x p v = ⟨x.op, x.r, v, x.b, x.n⟩ := by rw [withP_is, if_neg (by omega), if_pos h]
theorem withP_B {x : Ins} {p : UInt8} {v : Int} (h : (p.toNat : Int) = 66) : withP x p v = ⟨x.op, x.r, x.a, v, x.n⟩ := by rw [withP_is, if_neg (by omega), if_neg (by omega), if_pos h]
theorem withP_N {x : Ins} {p : UInt8} {v : Int} (h : (p.toNat : Int) = 78) : withP x p v = ⟨x.op, x.r, x.a, x.b, v⟩ := by rw [withP_is, if_neg (by omega), if_neg (by omega), if_neg (by omega), if_pos h]
theorem withP_0 {x : Ins} {p : UInt8} {v : Int} (h1 : ¬ (p.toNat : Int) = 82) (h2 : ¬ (p.toNat : Int) = 65) (h3 : ¬ (p.toNat : Int) = 66) (h4 : ¬ (p.toNat : Int) = 78) : withP x p v = x := by rw [withP_is, if_neg h1, if_neg h2, if_neg h3, if_neg h4]
theorem strsV_take {D : List Bs} : (strsV D).take D.length = strsV D := by rw [← strsV_len (xs := D), List.take_length]
theorem byte32 {b : UInt8} : b.toNat = 32 ↔ b = 32 := by rw [← UInt8.toNat_inj]; rfl
def wIv (l : Bs) (D : List Bs) (a i : Nat) : Prop := (i ≤ l.length ∧ a ≤ i ∧ splitB 32 l = D ++ splitB 32 (l.drop a) ∧ 32 ∉ (l.take i).drop a) ∨ (i = l.length + 1 ∧ splitB 32 l = D)
theorem wIv_zero {l : Bs} : wIv l [] 0 0 := Or.inl ⟨Nat.zero_le _, Nat.le_refl _, rfl, by simp⟩
theorem wIv_get {l : Bs} {D : List Bs} {a i : Nat} (h : wIv l D a i) (hi : i ≤ l.length) : a ≤ i ∧ splitB 32 l = D ++ splitB 32 (l.drop a) ∧ 32 ∉ (l.take i).drop a := h.elim (fun h => h.2) (fun h => absurd h.1 (by omega))
theorem wIv_end {l : Bs} {D : List Bs} {a i : Nat} (h : wIv l D a i) (hi : ¬ i ≤ l.length) : splitB 32 l = D := h.elim (fun h => absurd h.1 hi) (fun h => h.2)
theorem wIv_cut {l : Bs} {D : List Bs} {a i : Nat} (h : wIv l D a i) (hi : i ≤ l.length) (c : i = l.length ∨ (l.getD i 0).toNat = 32) : wIv l (D ++ [(l.take i).drop a]) (i + 1) (i + 1) := by
  obtain ⟨h2, h3, h4⟩ := wIv_get h hi
  by_cases e : i = l.length
  · refine Or.inr ⟨by omega, ?_⟩
    subst e
    rw [h3, splitW_end h2 h4]
  · have hc := byte32.1 (c.resolve_left e)
    refine Or.inl ⟨by omega, Nat.le_refl _, ?_, ?_⟩
    · rw [h3, splitW_at h2 (by omega) h4 hc, List.append_assoc]
      rfl
    · rw [List.drop_of_length_le (by rw [List.length_take]; omega)]
      simp
theorem wIv_on {l : Bs} {D : List Bs} {a i : Nat} (h : wIv l D a i) (hi : i < l.length) (c : ¬ (l.getD i 0).toNat = 32) : wIv l D a (i + 1) := by
  obtain ⟨h2, h3, h4⟩ := wIv_get h (Nat.le_of_lt hi)
  exact Or.inl ⟨by omega, by omega, h3, word_on h2 hi h4 (fun e => c (byte32.2 e))⟩
theorem wIv_len {l : Bs} {D : List Bs} {a i : Nat} (h : wIv l D a i) : D.length ≤ l.length + 1 := by
  have h2 : l.count 32 ≤ l.length := List.count_le_length
  have h3 := splitB_len (c := 32) (l := l)
  rcases h with h | h
  · have h1 := congrArg List.length h.2.2.1
    rw [List.length_append] at h1
    omega
  · rw [← h.2]; omega
theorem splitB_sub {c : UInt8} : ∀ {l : Bs} {w : Bs}, w ∈ splitB c l → w.length ≤ l.length
  | [], w, h => by
    rw [splitB] at h
    obtain rfl := List.mem_singleton.1 h
    exact Nat.le_refl _
  | b :: l, w, h => by
    rw [splitB] at h
    split at h
    · rcases List.mem_cons.1 h with rfl | h
      · exact Nat.zero_le _
      · exact Nat.le_succ_of_le (splitB_sub h)
    · split at h
      · obtain rfl := List.mem_singleton.1 h
        exact Nat.succ_le_succ (Nat.zero_le _)
      · rename_i v vs e
        rcases List.mem_cons.1 h with rfl | h
        · have := splitB_sub (c := c) (l := l) (w := v) (by rw [e]; exact List.mem_cons_self)
          simp only [List.length_cons]; omega
        · exact Nat.le_succ_of_le (splitB_sub (by rw [e]; exact List.mem_cons_of_mem _ h))
theorem word_le {l : Bs} {j : Nat} (h : j < (wordsI l).length) : ((wordsI l).getD j []).length ≤ l.length := splitB_sub (strs_mem h)
theorem words_pos {l : Bs} : 0 < (wordsI l).length := List.length_pos_iff.2 splitB_ne
theorem words_head {l : Bs} : (strsV (wordsI l)).head? = some (.str (bt ((wordsI l).getD 0 []))) := by
  have := strsV_at (xs := wordsI l) words_pos
  rwa [List.drop_zero] at this
/-! ### as it is read, by its ends -/
theorem ir_no {l : Bs} (h : inR (opI l) 1 15 = false ∨ ¬ (wordsI l).length = (formL (opI l)).length + 1) : insRead l = (noIns, false) := by
  rw [insRead, if_neg]
  rintro ⟨h1, h2⟩
  rcases h with h | h
  · rw [h1] at h; cases h
  · exact h h2
theorem ir_none {l : Bs} (h1 : inR (opI l) 1 15 = true) (h2 : (wordsI l).length = (formL (opI l)).length + 1) (h : fillI (formL (opI l)) ((wordsI l).drop 1) ⟨opI l, 0, 0, 0, 0⟩ = none) : insRead l = (noIns, false) := by
  rw [insRead, if_pos ⟨h1, h2⟩, h]
theorem ir_bad {l : Bs} {x : Ins} (h1 : inR (opI l) 1 15 = true) (h2 : (wordsI l).length = (formL (opI l)).length + 1) (h : fillI (formL (opI l)) ((wordsI l).drop 1) ⟨opI l, 0, 0, 0, 0⟩ = some x) (ht : ¬ bt (insT x) = bt l) : insRead l = (noIns, false) := by
  rw [insRead, if_pos ⟨h1, h2⟩, h]
  exact if_neg (fun e => ht (by rw [e]))
theorem ir_good {l : Bs} {x : Ins} (h1 : inR (opI l) 1 15 = true) (h2 : (wordsI l).length = (formL (opI l)).length + 1) (h : fillI (formL (opI l)) ((wordsI l).drop 1) ⟨opI l, 0, 0, 0, 0⟩ = some x) (ht : bt (insT x) = bt l) : insRead l = (x, true) := by
  rw [insRead, if_pos ⟨h1, h2⟩, h]
  exact if_pos (bt_inj.1 ht)
theorem drop_getD {xs : List Bs} {i : Nat} : (xs.drop 1).getD i [] = xs.getD (1 + i) [] := by
  rw [List.getD_eq_getElem?_getD, List.getElem?_drop, List.getD_eq_getElem?_getD]
end Go.Proofs.YtgpjgljgplngpaaGreatDoor.AM
