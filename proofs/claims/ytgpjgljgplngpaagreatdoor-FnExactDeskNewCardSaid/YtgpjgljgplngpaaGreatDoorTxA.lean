/- Rows of commands as texts, step by step. No conditions. -/
import Derived.Test.YtgpjgljgplngpaaGreatDoorTx9
set_option linter.unusedVariables false
set_option linter.unusedSimpArgs false
namespace Go.Proofs.YtgpjgljgplngpaaGreatDoor.AM
open Go

theorem codeOk_no {l : List Ins} {i : Nat} (h : i < l.length) (hn : insOk (l.getD i noIns) = false) : codeOk l = false := by
  cases e : codeOk l with
  | false => rfl
  | true =>
    have hm : l.getD i noIns ∈ l := by
      rw [List.getD_eq_getElem?_getD, List.getElem?_eq_getElem h]
      exact List.getElem_mem h
    have := (codeOk_iff.1 e).2 _ hm
    rw [hn] at this
    cases this
theorem codeB_step {l : List Ins} {i : Nat} (h : i < l.length) : codeB (l.take i) ++ (insT (l.getD i noIns) ++ [10]) = codeB (l.take (i + 1)) := by
  have ht : l.take (i + 1) = l.take i ++ [l.getD i noIns] := by rw [List.take_add_one]; simp [h]
  rw [ht]
  simp only [codeB, List.map_append, List.flatten_append, List.map_cons, List.map_nil, List.flatten_cons, List.flatten_nil, List.append_nil]
theorem codeB_len : ∀ (l : List Ins), (codeB l).length ≤ 98 * l.length
  | [] => Nat.zero_le _
  | x :: l => by
    have h1 := insT_len (x := x)
    have h2 := codeB_len l
    have h3 : (codeB (x :: l)).length = (insT x).length + 1 + (codeB l).length := by
      simp only [codeB, List.map_cons, List.flatten_cons, List.length_append, List.length_cons, List.length_nil]
    rw [h3]
    simp only [List.length_cons]
    omega
theorem codeB_take {l : List Ins} {i : Nat} (h : i ≤ 48) : (codeB (l.take i)).length ≤ 4704 := by
  have h1 := codeB_len (l.take i)
  have h2 : (l.take i).length ≤ i := by rw [List.length_take]; omega
  omega
theorem codeT_at {l : List Ins} {i : Nat} (h : i = 0 ∨ codeOk l = true) (c : l.length ≤ i ∨ codeOk l = false) : codeB (l.take i) = codeT l := by
  unfold codeT
  cases e : codeOk l with
  | true =>
    rw [if_pos rfl, List.take_of_length_le (c.resolve_right (by rw [e]; exact Bool.noConfusion))]
  | false =>
    rw [if_neg Bool.noConfusion, h.resolve_right (by rw [e]; exact Bool.noConfusion)]
    rfl
theorem codeOk_len {l : List Ins} (h : codeOk l = true) : l.length ≤ 48 := (codeOk_iff.1 h).1.2
/-! ### read letter by letter -/
theorem cSG_end {l cur : Bs} {i : Nat} {D : List Ins} (h : l.length ≤ i) : codeSG (l.drop i) cur D = some D := by
  rw [List.drop_of_length_le h]
  rfl
theorem cur_on {l : Bs} {a i : Nat} (ha : a ≤ i) (h : i < l.length) : (l.take (i + 1)).drop a = (l.take i).drop a ++ [l.getD i 0] := by
  have h1 : a ≤ (l.take i).length := by rw [List.length_take]; omega
  have ht : l.take (i + 1) = l.take i ++ [l.getD i 0] := by rw [List.take_add_one]; simp [h]
  rw [ht, List.drop_append_of_le_length h1]
theorem cur_new {l : Bs} {i : Nat} : (l.take i).drop i = [] := List.drop_of_length_le (by rw [List.length_take]; omega)
theorem byte10 {b : UInt8} : b.toNat = 10 ↔ b = 10 := by rw [← UInt8.toNat_inj]; rfl
theorem cSG_on {l : Bs} {a i : Nat} {D : List Ins} (ha : a ≤ i) (h : i < l.length) (hb : ¬ (l.getD i 0).toNat = 10) : codeSG (l.drop i) ((l.take i).drop a) D = codeSG (l.drop (i + 1)) ((l.take (i + 1)).drop a) D := by
  rw [drop_at h, codeSG, if_neg (fun e => hb (byte10.2 e)), cur_on ha h]
theorem cSG_line {l : Bs} {a i : Nat} {D : List Ins} (h : i < l.length) (hb : (l.getD i 0).toNat = 10) (hr : (insRead ((l.take i).drop a)).2 = true) : codeSG (l.drop i) ((l.take i).drop a) D = codeSG (l.drop (i + 1)) ((l.take (i + 1)).drop (i + 1)) (D ++ [(insRead ((l.take i).drop a)).1]) := by
  rw [drop_at h, codeSG, if_pos (byte10.1 hb), if_pos hr, cur_new]
theorem cSG_no {l : Bs} {a i : Nat} {D : List Ins} (h : i < l.length) (hb : (l.getD i 0).toNat = 10) (hr : (insRead ((l.take i).drop a)).2 = false) : codeSG (l.drop i) ((l.take i).drop a) D = none := by
  rw [drop_at h, codeSG, if_pos (byte10.1 hb), if_neg (by rw [hr]; exact Bool.noConfusion)]
theorem crS_none {l : Bs} (h : codeSG l [] [] = none) : codeRead l = ([], false) := by
  rw [← codeRead_eq, codeReadS, h]
theorem crS_bad {l : Bs} {D : List Ins} (h : codeSG l [] [] = some D) (hn : bt l = bt [] ∨ ¬ bt (codeT D) = bt l) : codeRead l = ([], false) := by
  rw [← codeRead_eq, codeReadS, h]
  exact if_pos (hn.imp bt_inj.1 (fun g e => g (by rw [e])))
theorem crS_good {l : Bs} {D : List Ins} (h : codeSG l [] [] = some D) (hn : ¬ bt l = bt []) (ht : bt (codeT D) = bt l) : codeRead l = (D, true) := by
  rw [← codeRead_eq, codeReadS, h]
  exact if_neg (fun g => g.elim (fun e => hn (by rw [e])) (fun e => e (bt_inj.1 ht)))
/-! ### read line by line -/
theorem cGo_end {k : Nat} {r : Bs} {D : List Ins} (h : r = []) : codeGo k r D = some D := by
  subst h
  cases k <;> rfl
theorem cGo_less {r : Bs} {k : Nat} (h : r ≠ []) (hk : r.length ≤ k) : k - 1 < k := by
  have := List.length_pos_iff.2 h
  omega
theorem cGo_no {r : Bs} {k : Nat} {D : List Ins} (h : r ≠ []) (hk : r.length ≤ k) (c : (cutB r 10).2.2 = false ∨ (insRead (cutB r 10).1).2 = false ∨ D.length = 48) : codeGo k r D = none := by
  cases r with
  | nil => exact absurd rfl h
  | cons b rest =>
    cases k with
    | zero => simp at hk
    | succ k => rw [codeGo, if_pos c]
theorem cGo_go {r : Bs} {k : Nat} {D : List Ins} (h : r ≠ []) (hk : r.length ≤ k) (h1 : (cutB r 10).2.2 = true) (h2 : (insRead (cutB r 10).1).2 = true) (h3 : ¬ D.length = 48) : codeGo k r D = codeGo (k - 1) (cutB r 10).2.1 (D ++ [(insRead (cutB r 10).1).1]) ∧ (cutB r 10).2.1.length ≤ k - 1 := by
  have hc := (cut_is h1).2
  have hl := congrArg List.length hc
  simp only [List.length_append, List.length_cons] at hl
  refine ⟨?_, by omega⟩
  cases r with
  | nil => exact absurd rfl h
  | cons b rest =>
    cases k with
    | zero => simp at hk
    | succ k =>
      rw [codeGo, if_neg]
      · rfl
      · rw [h1, h2]
        simp [h3]
theorem crI_none {l : Bs} (h : codeGo l.length l [] = none) : codeRead l = ([], false) := by rw [codeRead, h]
theorem crI_some {l : Bs} {D : List Ins} (h : codeGo l.length l [] = some D) : codeRead l = (D, decide ((D.length : Int) > 0)) := by
  rw [codeRead, h]
  simp only [Prod.mk.injEq, true_and]
  exact decide_eq_decide.2 ⟨fun h => by omega, fun h => by omega⟩
end Go.Proofs.YtgpjgljgplngpaaGreatDoor.AM
