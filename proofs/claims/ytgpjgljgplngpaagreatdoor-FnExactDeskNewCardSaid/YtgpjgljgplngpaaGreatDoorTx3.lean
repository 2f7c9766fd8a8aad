/- Texts: commands and rows of them, and how they are read. No conditions. -/
import Derived.Test.YtgpjgljgplngpaaGreatDoorTx2
set_option linter.unusedVariables false
set_option linter.unusedSimpArgs false
namespace Go.Proofs.YtgpjgljgplngpaaGreatDoor.AM
open Go

def namesT : List Bs := [[], [115, 101, 116], [97, 100, 100], [109, 111, 118, 101], [119, 101, 97, 107], [98, 111, 117, 110, 100], [112, 111, 105, 110, 116], [115, 101, 97, 108], [111, 112, 101, 110], [105, 115], [108, 111, 97, 100], [115, 116, 111, 114, 101], [106, 117, 109, 112], [122, 101, 114, 111], [103, 111, 110, 101], [104, 97, 108, 116]]
def nameT (op : Int) : Bs := namesT.getD op.toNat []
/-- A part as it is written, without the blank ahead. -/
def partT (x : Ins) (p : UInt8) : Bs := if p = 78 then itoa (partI x (p.toNat : Int)) else 114 :: itoa (partI x (p.toNat : Int))
def partsT (x : Ins) (l : List UInt8) : Bs := (l.map fun p => 32 :: partT x p).flatten
def insB (x : Ins) : Bs := nameT x.op ++ partsT x (formL x.op)
def insT (x : Ins) : Bs := if insOk x = true then insB x else []
/-! ### a text in pieces -/
def splitB (c : UInt8) : Bs → List Bs
  | [] => [[]]
  | b :: l => if b = c then [] :: splitB c l else match splitB c l with
    | [] => [[b]]
    | w :: ws => (b :: w) :: ws
theorem splitB_ne {c : UInt8} : ∀ {l : Bs}, splitB c l ≠ []
  | [] => by simp [splitB]
  | b :: l => by
    rw [splitB]
    split
    · simp
    · split <;> simp
theorem splitB_one {c : UInt8} : ∀ {a : Bs}, c ∉ a → splitB c a = [a]
  | [], _ => rfl
  | b :: a, h => by
    simp at h
    rw [splitB, if_neg (fun e => h.1 e.symm), splitB_one h.2]
theorem splitB_app {c : UInt8} {r : Bs} : ∀ {a : Bs}, c ∉ a → splitB c (a ++ c :: r) = a :: splitB c r
  | [], _ => by rw [List.nil_append, splitB, if_pos rfl]
  | b :: a, h => by
    simp at h
    rw [List.cons_append, splitB, if_neg (fun e => h.1 e.symm), splitB_app h.2]
theorem splitB_parts {c : UInt8} : ∀ (ws : List Bs) {a : Bs}, c ∉ a → (∀ w, w ∈ ws → c ∉ w) → splitB c (a ++ (ws.map fun w => c :: w).flatten) = a :: ws
  | [], a, h, _ => by simp [splitB_one h]
  | w :: ws, a, h, hw => by
    rw [List.map_cons, List.flatten_cons, List.cons_append, splitB_app h, splitB_parts ws (hw w (by simp)) fun v hv => hw v (by simp [hv])]

/-! ### a command is read -/
/-- Where the first is that is so much, or -1. -/
def idxT (ws : List Bs) (w : Bs) (i : Nat) : Int := match ws with
  | [] => -1
  | v :: vs => if v = w then (i : Int) else idxT vs w (i + 1)
def withP (x : Ins) (p : UInt8) (n : Int) : Ins :=
  if p = 82 then ⟨x.op, n, x.a, x.b, x.n⟩ else if p = 65 then ⟨x.op, x.r, n, x.b, x.n⟩ else if p = 66 then ⟨x.op, x.r, x.a, n, x.n⟩ else if p = 78 then ⟨x.op, x.r, x.a, x.b, n⟩ else x
/-- The parts one behind the other; none: some part is no number. -/
def fillI : List UInt8 → List Bs → Ins → Option Ins
  | p :: ps, w :: ws, x => if (atoV (Lib.trimPrefix w [114])).2 = true then fillI ps ws (withP x p (atoV (Lib.trimPrefix w [114])).1) else none
  | _, _, x => some x
def wordsI (l : Bs) : List Bs := splitB 32 l
def opI (l : Bs) : Int := idxT namesT ((wordsI l).getD 0 []) 0
def insRead (l : Bs) : Ins × Bool :=
  if inR (opI l) 1 15 = true ∧ (wordsI l).length = (formL (opI l)).length + 1 then match fillI (formL (opI l)) ((wordsI l).drop 1) ⟨opI l, 0, 0, 0, 0⟩ with
    | some x => if insT x = l then (x, true) else (noIns, false)
    | none => (noIns, false)
  else (noIns, false)
theorem itoa_chars {n : Int} {c : UInt8} (hc : ¬ digit c) (h45 : c ≠ 45) : c ∉ itoa n := by
  unfold itoa Lib.itoa
  split
  · intro h
    rcases List.mem_cons.1 h with h | h
    · exact h45 h
    · exact hc (dec_all _ c h)
  · exact fun h => hc (dec_all _ c h)
theorem trim_part {x : Ins} {p : UInt8} : Lib.trimPrefix (partT x p) [114] = itoa (partI x (p.toNat : Int)) := by
  unfold partT
  split
  · rw [Lib.trimPrefix, if_neg]
    intro h
    rw [Lib.hasPrefix, List.isPrefixOf_iff_prefix] at h
    obtain ⟨t, ht⟩ := h
    exact itoa_chars (n := partI x (p.toNat : Int)) (c := 114) (by decide) (by decide) (by rw [← ht]; simp)
  · rw [Lib.trimPrefix, if_pos (by simp [Lib.hasPrefix])]
    rfl
theorem part_rng {x : Ins} (h : insOk x = true) (p : Int) : -128 ≤ partI x p ∧ partI x p ≤ 127 := by
  simp only [insOk, fieldOk, Bool.and_eq_true, inR_iff] at h
  unfold partI
  split
  · omega
  · split
    · omega
    · split <;> omega
theorem name_find {op : Int} (h : inR op 1 15 = true) : idxT namesT (nameT op) 0 = op ∧ 32 ∉ nameT op ∧ 10 ∉ nameT op ∧ nameT op ≠ [] := by
  rcases op_cases h with rfl | rfl | rfl | rfl | rfl | rfl | rfl | rfl | rfl | rfl | rfl | rfl | rfl | rfl | rfl <;> decide
theorem part_chars {x : Ins} {p c : UInt8} (hc : ¬ digit c) (h45 : c ≠ 45) (h114 : c ≠ 114) : c ∉ partT x p := by
  unfold partT
  split
  · exact itoa_chars hc h45
  · intro h
    rcases List.mem_cons.1 h with h | h
    · exact h114 h
    · exact itoa_chars hc h45 h
theorem insB_words {x : Ins} (h : insOk x = true) : wordsI (insB x) = nameT x.op :: (formL x.op).map (partT x) := by
  have ho : inR x.op 1 15 = true := by simp only [insOk, Bool.and_eq_true] at h; exact h.1.1.1.1.1
  have := splitB_parts (c := 32) ((formL x.op).map (partT x)) (name_find ho).2.1 (fun w hw => by
    obtain ⟨p, _, rfl⟩ := List.mem_map.1 hw
    exact part_chars (by decide) (by decide) (by decide))
  rw [List.map_map] at this
  exact this
/-- What is told by its parts is filled with them. -/
theorem fill_parts {x : Ins} (h : insOk x = true) : ∀ (ps : List UInt8) {y : Ins}, fillI ps (ps.map (partT x)) y = some (ps.foldl (fun y p => withP y p (partI x (p.toNat : Int))) y)
  | [], _ => rfl
  | p :: ps, y => by
    have hr := part_rng h (p.toNat : Int)
    have hv := atoV_itoa (n := partI x (p.toNat : Int)) (by omega)
    rw [List.map_cons, fillI, trim_part, hv, if_pos rfl, fill_parts h ps]
    rfl
theorem fold_parts {x : Ins} (h : insOk x = true) : (formL x.op).foldl (fun y p => withP y p (partI x (p.toNat : Int))) ⟨x.op, 0, 0, 0, 0⟩ = x := by
  have ho : inR x.op 1 15 = true := by simp only [insOk, Bool.and_eq_true] at h; exact h.1.1.1.1.1
  simp only [insOk, fieldOk, Bool.and_eq_true, Bool.or_eq_true, decide_eq_true_eq] at h
  obtain ⟨⟨⟨⟨⟨_, _, hr⟩, _, ha⟩, _, hb⟩, _⟩, hn⟩ := h
  obtain ⟨op, r, a, b, n⟩ := x
  simp only at ho hr ha hb hn ⊢
  rcases op_cases ho with rfl | rfl | rfl | rfl | rfl | rfl | rfl | rfl | rfl | rfl | rfl | rfl | rfl | rfl | rfl <;>
  · (simp (decide := true) only [formL, List.foldl_cons, List.foldl_nil, withP, partI, if_true, if_false]) <;> first
      | rfl
      | (simp (decide := true) at hr ha hb hn <;> simp [*])
theorem insT_ok {x : Ins} {l : Bs} (h : insT x = l) (hl : l ≠ []) : insOk x = true ∧ insB x = l := by
  unfold insT at h
  split at h
  · exact ⟨by assumption, h⟩
  · exact absurd h.symm hl
theorem insB_ne {x : Ins} (h : insOk x = true) : insB x ≠ [] := by
  have ho : inR x.op 1 15 = true := by simp only [insOk, Bool.and_eq_true] at h; exact h.1.1.1.1.1
  intro g
  exact (name_find ho).2.2.2 (List.append_eq_nil_iff.1 g).1
theorem insB_ten {x : Ins} (h : insOk x = true) : 10 ∉ insB x := by
  have ho : inR x.op 1 15 = true := by simp only [insOk, Bool.and_eq_true] at h; exact h.1.1.1.1.1
  intro g
  rcases List.mem_append.1 g with g | g
  · exact (name_find ho).2.2.1 g
  · obtain ⟨v, hv, hw⟩ := List.mem_flatten.1 g
    obtain ⟨p, _, rfl⟩ := List.mem_map.1 hv
    rcases List.mem_cons.1 hw with hw | hw
    · cases hw
    · exact part_chars (by decide) (by decide) (by decide) hw
theorem insRead_back {x : Ins} (h : insOk x = true) : insRead (insB x) = (x, true) := by
  have ho : inR x.op 1 15 = true := by simp only [insOk, Bool.and_eq_true] at h; exact h.1.1.1.1.1
  have hw := insB_words h
  have hop : opI (insB x) = x.op := by
    unfold opI
    rw [hw]
    exact (name_find ho).1
  unfold insRead
  rw [hop, hw]
  rw [if_pos ⟨ho, by simp⟩]
  show (match fillI (formL x.op) ((formL x.op).map (partT x)) ⟨x.op, 0, 0, 0, 0⟩ with
    | some y => if insT y = insB x then (y, true) else (noIns, false)
    | none => (noIns, false)) = _
  rw [fill_parts h, fold_parts h]
  simp only [insT, h, if_true]
theorem insRead_is {l : Bs} (h : (insRead l).2 = true) : insOk (insRead l).1 = true ∧ insB (insRead l).1 = l := by
  unfold insRead at h ⊢
  split at h
  · rename_i hc
    rw [if_pos hc]
    split at h
    · rename_i x hx
      split at h
      · rename_i e
        rw [if_pos e]
        by_cases hl : l = []
        · exfalso
          subst hl
          have : opI [] = 0 := by decide
          rw [this] at hc
          exact absurd hc.1 (by decide)
        · exact insT_ok e hl
      · cases h
    · cases h
  · cases h
/-! ### and as it is read elsewhere -/
def scan0 : Nat → Bs → Nat → Option Nat
  | k + 1, b :: l, x => if digit b then scan0 k l (10 * x + (b.toNat - 48)) else none
  | _, _, x => some x
def numL (s : Bs) : Int := match s with
  | [] => 0
  | b :: r => if b = 45 then (match scan0 3 r 0 with | some x => -(x : Int) | none => 0) else if b = 114 then (match scan0 3 r 0 with | some x => (x : Int) | none => 0) else (match scan0 3 (b :: r) 0 with | some x => (x : Int) | none => 0)
theorem scan0_digits : ∀ (ds : Bs) (k x : Nat), (∀ b, b ∈ ds → digit b) → ds.length ≤ k → scan0 k ds x = some (valD x ds)
  | [], k, x, _, _ => by cases k <;> rfl
  | d :: ds, k, x, hd, hk => by
    cases k with
    | zero => simp at hk
    | succ k =>
      rw [scan0, if_pos (hd d (by simp)), scan0_digits ds k _ (fun b hb => hd b (by simp [hb])) (by simpa using hk)]
      rfl
theorem dec_len3 {u : Nat} (h : u < 1000) : (Lib.decDigits u).length ≤ 3 := by
  rw [Lib.decDigits_length]
  by_cases a : u < 10
  · rw [Lib.nDigits_small a]; omega
  · by_cases b : u < 100
    · rw [Lib.nDigits_unique 1 u (by omega) (by omega)]; omega
    · rw [Lib.nDigits_unique 2 u (by omega) (by omega)]; omega
theorem numL_part {x : Ins} {p : UInt8} (h : insOk x = true) (hp : p = 82 ∨ p = 65 ∨ p = 66 ∨ p = 78) : numL (partT x p) = partI x (p.toNat : Int) := by
  have hr := part_rng h (p.toNat : Int)
  by_cases e : p = 78
  · unfold partT
    rw [if_pos e]
    generalize partI x (p.toNat : Int) = n at hr
    unfold itoa Lib.itoa
    split
    · rename_i hn
      rw [numL, if_pos rfl, scan0_digits _ 3 0 (dec_all _) (dec_len3 (by omega)), valD_dec]
      simp only
      omega
    · rename_i hn
      have hne := dec_ne n.toNat
      have hall := dec_all n.toNat
      have hs := scan0_digits _ 3 0 hall (dec_len3 (by omega))
      rw [valD_dec] at hs
      generalize Lib.decDigits n.toNat = l at hne hall hs
      cases l with
      | nil => exact absurd rfl hne
      | cons c r =>
        have hc := hall c (by simp)
        rw [numL, if_neg (fun g => by rw [g] at hc; exact absurd hc (by decide)), if_neg (fun g => by rw [g] at hc; exact absurd hc (by decide)), hs]
        simp only
        omega
  · have h8 : 0 ≤ partI x (p.toNat : Int) := by
      simp only [insOk, fieldOk, Bool.and_eq_true, inR_iff] at h
      rcases hp with rfl | rfl | rfl | rfl
      · show 0 ≤ x.r; omega
      · show 0 ≤ x.a; omega
      · show 0 ≤ x.b; omega
      · exact absurd rfl e
    unfold partT
    rw [if_neg e, numL, if_neg (by decide), if_pos rfl, itoa_nat h8, scan0_digits _ 3 0 (dec_all _) (dec_len3 (by omega)), valD_dec]
    simp only
    omega
def opN (w : Bs) : Nat → Int
  | 0 => 0
  | k + 1 => if namesT.getD (k + 1) [] = w then ((k + 1 : Nat) : Int) else opN w k
def numsS (h : Int) (ws : List Bs) : Nat → List Int × Nat
  | 0 => ([0, 0, 0, 0], 1)
  | k + 1 => if bitB h k = true ∧ (numsS h ws k).2 < ws.length then ((numsS h ws k).1.set k (numL (ws.getD (numsS h ws k).2 [])), (numsS h ws k).2 + 1) else numsS h ws k
def insS (l : Bs) : Ins :=
  ⟨opN ((wordsI l).getD 0 []) 15, (numsS (has (opN ((wordsI l).getD 0 []) 15)) (wordsI l) 4).1.getD 0 0, (numsS (has (opN ((wordsI l).getD 0 []) 15)) (wordsI l) 4).1.getD 1 0, (numsS (has (opN ((wordsI l).getD 0 []) 15)) (wordsI l) 4).1.getD 2 0, (numsS (has (opN ((wordsI l).getD 0 []) 15)) (wordsI l) 4).1.getD 3 0⟩
theorem name_opN {op : Int} (h : inR op 1 15 = true) : opN (nameT op) 15 = op := by
  rcases op_cases h with rfl | rfl | rfl | rfl | rfl | rfl | rfl | rfl | rfl | rfl | rfl | rfl | rfl | rfl | rfl <;> decide
theorem bit_form {op : Int} (h : inR op 1 15 = true) : bitB (has op) 0 = decide (82 ∈ formL op) ∧ bitB (has op) 1 = decide (65 ∈ formL op) ∧ bitB (has op) 2 = decide (66 ∈ formL op) ∧ bitB (has op) 3 = decide (78 ∈ formL op) := by
  rcases op_cases h with rfl | rfl | rfl | rfl | rfl | rfl | rfl | rfl | rfl | rfl | rfl | rfl | rfl | rfl | rfl <;> decide
theorem nums_of {x : Ins} (h : insOk x = true) : (numsS (has x.op) (nameT x.op :: (formL x.op).map (partT x)) 4).1 = [x.r, x.a, x.b, x.n] := by
  have ho : inR x.op 1 15 = true := by simp only [insOk, Bool.and_eq_true] at h; exact h.1.1.1.1.1
  have p1 : numL (partT x 82) = x.r := numL_part h (p := 82) (by simp)
  have p2 : numL (partT x 65) = x.a := numL_part h (p := 65) (by simp)
  have p3 : numL (partT x 66) = x.b := numL_part h (p := 66) (by simp)
  have p4 : numL (partT x 78) = x.n := numL_part h (p := 78) (by simp)
  have hbf := bit_form ho
  simp only [insOk, fieldOk, Bool.and_eq_true, Bool.or_eq_true, decide_eq_true_eq] at h
  obtain ⟨⟨⟨⟨⟨_, _, hr⟩, _, ha⟩, _, hb⟩, _⟩, hn⟩ := h
  generalize partT x = pt at *
  obtain ⟨op, r, a, b, n⟩ := x
  simp only at ho hr ha hb hn p1 p2 p3 p4 hbf ⊢
  generalize nameT op = nm
  obtain ⟨b0, b1, b2, b3⟩ := hbf
  simp only [numsS, b0, b1, b2, b3]
  clear b0 b1 b2 b3
  rcases op_cases ho with rfl | rfl | rfl | rfl | rfl | rfl | rfl | rfl | rfl | rfl | rfl | rfl | rfl | rfl | rfl <;>
  · simp (decide := true) at hr ha hb hn
    simp (decide := true) [formL, p1, p2, p3, p4, *]
theorem insS_back {x : Ins} (h : insOk x = true) : insS (insB x) = x := by
  have ho : inR x.op 1 15 = true := by simp only [insOk, Bool.and_eq_true] at h; exact h.1.1.1.1.1
  unfold insS
  rw [insB_words h]
  show (⟨opN (nameT x.op) 15, _, _, _, _⟩ : Ins) = x
  simp only [List.getD_cons_zero]
  rw [name_opN ho, nums_of h]
  rfl
theorem insRead_eq {l : Bs} : insRead l = if l ≠ [] ∧ insT (insS l) = l then (insS l, true) else (noIns, false) := by
  by_cases h : (insRead l).2 = true
  · obtain ⟨h1, h2⟩ := insRead_is h
    have hb := insS_back h1
    rw [h2] at hb
    have hne : l ≠ [] := by rw [← h2]; exact insB_ne h1
    have ht : insT (insS l) = l := by rw [hb, insT, if_pos h1, h2]
    rw [if_pos ⟨hne, ht⟩, hb]
    exact Prod.ext rfl h
  · have hf : insRead l = (noIns, false) := by
      unfold insRead at h ⊢
      split
      · rename_i hc
        rw [if_pos hc] at h
        split
        · rename_i x hx
          try rw [hx] at h
          try simp only at h
          split at h
          · exact absurd rfl h
          · rename_i e
            rw [if_neg e]
        · rfl
      · rfl
    by_cases h2 : l ≠ [] ∧ insT (insS l) = l
    · exfalso
      obtain ⟨hk, hB⟩ := insT_ok h2.2 h2.1
      have := insRead_back hk
      rw [hB] at this
      rw [this] at h
      exact h rfl
    · rw [if_neg h2]; exact hf
end Go.Proofs.YtgpjgljgplngpaaGreatDoor.AM
