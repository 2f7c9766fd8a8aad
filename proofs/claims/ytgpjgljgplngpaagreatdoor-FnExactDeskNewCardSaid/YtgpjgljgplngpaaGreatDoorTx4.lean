/- Texts: rows of commands, and how they are read. No conditions. -/
import Derived.Test.YtgpjgljgplngpaaGreatDoorTx3
set_option linter.unusedVariables false
set_option linter.unusedSimpArgs false
namespace Go.Proofs.YtgpjgljgplngpaaGreatDoor.AM
open Go

def codeOk (l : List Ins) : Bool := inR l.length 1 48 && l.all insOk
def codeB (l : List Ins) : Bs := (l.map fun x => insT x ++ [10]).flatten
def codeT (l : List Ins) : Bs := if codeOk l = true then codeB l else []
def allIns (l : List Ins) : Prop := ∀ x, x ∈ l → insOk x = true
theorem codeOk_iff {l : List Ins} : codeOk l = true ↔ (1 ≤ l.length ∧ l.length ≤ 48) ∧ allIns l := by
  simp only [codeOk, Bool.and_eq_true, inR_iff, List.all_eq_true]
  constructor
  · rintro ⟨a, b⟩; exact ⟨by omega, b⟩
  · rintro ⟨a, b⟩; exact ⟨by omega, b⟩
theorem codeB_cons {x : Ins} {l : List Ins} (h : insOk x = true) : codeB (x :: l) = insB x ++ 10 :: codeB l := by
  rw [codeB, List.map_cons, List.flatten_cons, insT, if_pos h, List.append_assoc]
  rfl
def codeGo : Nat → Bs → List Ins → Option (List Ins)
  | _, [], out => some out
  | 0, _ :: _, _ => none
  | n + 1, b :: rest, out => if (cutB (b :: rest) 10).2.2 = false ∨ (insRead (cutB (b :: rest) 10).1).2 = false ∨ out.length = 48 then none else codeGo n (cutB (b :: rest) 10).2.1 (out ++ [(insRead (cutB (b :: rest) 10).1).1])
def codeRead (s : Bs) : List Ins × Bool := match codeGo s.length s [] with
  | some out => (out, decide (0 < out.length))
  | none => ([], false)
def codeSG : Bs → Bs → List Ins → Option (List Ins)
  | [], _, out => some out
  | b :: r, cur, out => if b = 10 then (if (insRead cur).2 = true then codeSG r [] (out ++ [(insRead cur).1]) else none) else codeSG r (cur ++ [b]) out
theorem cut_is {l : Bs} {c : UInt8} (h : (cutB l c).2.2 = true) : c ∉ (cutB l c).1 ∧ l = (cutB l c).1 ++ c :: (cutB l c).2.1 := by
  have gen : ∀ l : Bs, ¬ Lib.indexByte l c < 0 → c ∉ l.take (Lib.indexByte l c).toNat ∧ l = l.take (Lib.indexByte l c).toNat ++ c :: l.drop ((Lib.indexByte l c).toNat + 1) := by
    intro l
    induction l with
    | nil => intro h; exact absurd (show (-1 : Int) < 0 by decide) h
    | cons b l ih =>
      intro h
      rw [Lib.indexByte] at h ⊢
      by_cases e : (b == c) = true
      · rw [if_pos e]
        have : b = c := by simpa using e
        simp [this]
      · rw [if_neg e] at h ⊢
        by_cases e2 : (Lib.indexByte l c == -1) = true
        · rw [if_pos e2] at h; exact absurd (by decide) h
        · rw [if_neg e2] at h ⊢
          have hge := Lib.indexByte_ge l c
          have h1 : ¬ Lib.indexByte l c < 0 := by
            have : Lib.indexByte l c ≠ -1 := by simpa using e2
            omega
          obtain ⟨i1, i2⟩ := ih h1
          have ht : (Lib.indexByte l c + 1).toNat = (Lib.indexByte l c).toNat + 1 := by omega
          rw [ht, List.take_succ_cons, List.drop_succ_cons]
          refine ⟨?_, ?_⟩
          · intro g
            rcases List.mem_cons.1 g with g | g
            · exact e (by simp [g])
            · exact i1 g
          · conv => lhs; rw [i2]
            rfl
  unfold cutB at h ⊢
  split at h
  · cases h
  · rename_i h1
    rw [if_neg h1]
    exact gen l h1
theorem go_back : ∀ (l : List Ins) {n : Nat} {out : List Ins}, allIns l → out.length + l.length ≤ 48 → (codeB l).length ≤ n → codeGo n (codeB l) out = some (out ++ l)
  | [], n, out, _, _, _ => by
    show codeGo n [] out = _
    rw [codeGo.eq_def]
    simp
  | x :: l, n, out, ha, hl, hn => by
    have hx := ha x (by simp)
    have hne := insB_ne hx
    rw [codeB_cons hx] at hn ⊢
    have hc : cutB (insB x ++ 10 :: codeB l) 10 = (insB x, codeB l, true) := cutB_app (insB_ten hx)
    cases hq : insB x ++ 10 :: codeB l with
    | nil => simp at hq
    | cons b rest =>
      rw [hq] at hn hc
      cases n with
      | zero => simp at hn
      | succ n =>
        have hlen : (codeB l).length ≤ n := by
          have := congrArg List.length hq
          simp at this hn
          omega
        rw [codeGo, hc]
        simp only
        rw [insRead_back hx, if_neg (by rintro (g | g | g); cases g; cases g; simp at hl; omega)]
        rw [go_back l (fun y hy => ha y (by simp [hy])) (by simp at hl ⊢; omega) hlen]
        simp
theorem go_is : ∀ (n : Nat) {r : Bs} {out o : List Ins}, codeGo n r out = some o → out.length ≤ 48 → ∃ l, o = out ++ l ∧ allIns l ∧ codeB l = r ∧ out.length + l.length ≤ 48
  | n, [], out, o, h, hl => by
    have : codeGo n [] out = some out := by cases n <;> rfl
    rw [this] at h
    obtain rfl := Option.some.inj h
    exact ⟨[], by simp, fun x hx => (by cases hx), rfl, by simpa using hl⟩
  | 0, b :: r, out, o, h, _ => by cases h
  | n + 1, b :: r, out, o, h, hl => by
    rw [codeGo] at h
    split at h
    · cases h
    · rename_i hc
      have h1 : (cutB (b :: r) 10).2.2 = true := by
        cases hq : (cutB (b :: r) 10).2.2 with
        | true => rfl
        | false => exact absurd (Or.inl hq) hc
      have h2 : (insRead (cutB (b :: r) 10).1).2 = true := by
        cases hq : (insRead (cutB (b :: r) 10).1).2 with
        | true => rfl
        | false => exact absurd (Or.inr (Or.inl hq)) hc
      have h3 : out.length ≠ 48 := fun g => hc (Or.inr (Or.inr g))
      obtain ⟨l, g1, g2, g3, g4⟩ := go_is n h (by simp; omega)
      obtain ⟨k1, k2⟩ := insRead_is h2
      obtain ⟨c1, c2⟩ := cut_is h1
      refine ⟨(insRead (cutB (b :: r) 10).1).1 :: l, by rw [g1]; simp, fun x hx => ?_, ?_, by simp at g4 ⊢; omega⟩
      · rcases List.mem_cons.1 hx with rfl | hx
        · exact k1
        · exact g2 x hx
      · rw [codeB_cons k1, k2, g3, ← c2]
theorem codeRead_back {l : List Ins} (h : codeOk l = true) : codeRead (codeB l) = (l, true) := by
  have hk := codeOk_iff.1 h
  rw [codeRead, go_back l hk.2 (by simp; omega) (Nat.le_refl _)]
  simp
  omega
theorem codeRead_is {s : Bs} (h : (codeRead s).2 = true) : codeOk (codeRead s).1 = true ∧ codeB (codeRead s).1 = s := by
  unfold codeRead at h ⊢
  split at h
  · rename_i o ho
    obtain ⟨l, g1, g2, g3, g4⟩ := go_is _ ho (by simp)
    simp only [List.nil_append] at g1
    subst g1
    simp only [decide_eq_true_eq] at h
    exact ⟨codeOk_iff.2 ⟨⟨h, by simpa using g4⟩, g2⟩, g3⟩
  · cases h
theorem sg_line : ∀ (a : Bs) {cur r : Bs} {out : List Ins}, 10 ∉ a → codeSG (a ++ 10 :: r) cur out = if (insRead (cur ++ a)).2 = true then codeSG r [] (out ++ [(insRead (cur ++ a)).1]) else none
  | [], cur, r, out, _ => by rw [List.nil_append, codeSG, if_pos rfl, List.append_nil]
  | b :: a, cur, r, out, h => by
    simp at h
    rw [List.cons_append, codeSG, if_neg (fun e => h.1 e.symm), sg_line a h.2, List.append_assoc]
    rfl
theorem sg_back : ∀ (l : List Ins) {out : List Ins}, allIns l → codeSG (codeB l) [] out = some (out ++ l)
  | [], out, _ => by rw [show codeB [] = [] from rfl, codeSG, List.append_nil]
  | x :: l, out, h => by
    have hx := h x (by simp)
    rw [codeB_cons hx, sg_line _ (insB_ten hx), List.nil_append, insRead_back hx, if_pos rfl, sg_back l fun y hy => h y (by simp [hy])]
    simp
def codeReadS (s : Bs) : List Ins × Bool := match codeSG s [] [] with
  | some out => if s = [] ∨ codeT out ≠ s then ([], false) else (out, true)
  | none => ([], false)
theorem codeRead_fail {s : Bs} (h : (codeRead s).2 = false) : codeRead s = ([], false) := by
  unfold codeRead at h ⊢
  split
  · rename_i o ho
    rw [ho] at h
    simp only [decide_eq_false_iff_not] at h
    have : o = [] := List.eq_nil_of_length_eq_zero (by omega)
    rw [this]
    rfl
  · rfl
theorem codeRead_eq {s : Bs} : codeReadS s = codeRead s := by
  cases h : (codeRead s).2 with
  | true =>
    obtain ⟨h1, h2⟩ := codeRead_is h
    have h3 : s ≠ [] := by
      intro e
      rw [e] at h
      cases h
    have hs := sg_back (codeRead s).1 (out := []) (codeOk_iff.1 h1).2
    rw [h2, List.nil_append] at hs
    unfold codeReadS
    rw [hs]
    simp only
    rw [if_neg]
    · exact Prod.ext rfl h.symm
    · rintro (g | g)
      · exact h3 g
      · exact g (by rw [codeT, if_pos h1, h2])
  | false =>
    rw [codeRead_fail h]
    unfold codeReadS
    split
    · rename_i o ho
      split
      · rfl
      · rename_i hc
        exfalso
        have hne : s ≠ [] := fun g => hc (Or.inl g)
        have ht : codeT o = s := Decidable.not_not.1 fun g => hc (Or.inr g)
        unfold codeT at ht
        split at ht
        · rename_i hk
          have := codeRead_back hk
          rw [ht] at this
          rw [this] at h
          cases h
        · exact hne ht.symm
    · rfl
end Go.Proofs.YtgpjgljgplngpaaGreatDoor.AM
