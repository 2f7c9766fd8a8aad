/- The abstract machine, part 13: a call is sound. No conditions. -/
import Derived.Test.YtgddflnhibhacaaAm12
set_option linter.unusedVariables false
set_option linter.unusedSimpArgs false
namespace Go.Proofs.Ytgddflnhibhacaa.AM
open Go

section
variable {P : Program} {F : Nat → Prop} {ι ι' : Inj} {w0 w w' : World} {M D : Nat → Prop} {H H' : Heap}

theorem setAll_length (mm : Nat → Nat) : ∀ (m : List Nat) (hs H : Heap), (setAll mm H m hs).length = H.length
  | [], hs, H => by cases hs <;> rfl
  | id :: m, [], H => rfl
  | id :: m, b :: hs, H => by simp [setAll, setAll_length mm m hs]
theorem setAll_other (mm : Nat → Nat) : ∀ (m : List Nat) (hs H : Heap) (k : Nat), k ∉ m → (setAll mm H m hs)[k]? = H[k]?
  | [], hs, H, k, _ => by cases hs <;> rfl
  | id :: m, [], H, k, _ => rfl
  | id :: m, b :: hs, H, k, hk => by
    simp at hk
    simp only [setAll]
    rw [setAll_other mm m hs _ k hk.2, List.getElem?_set_ne (fun e => hk.1 e.symm)]
theorem setAll_at (mm : Nat → Nat) : ∀ (m : List Nat) (hs H : Heap) (j id : Nat) (b : Blk), m.Nodup → m[j]? = some id → hs[j]? = some b → id < H.length → (setAll mm H m hs)[id]? = some (shB mm b)
  | [], hs, H, j, id, b, _, h, _, _ => by simp at h
  | id' :: m, [], H, j, id, b, _, _, h, _ => by simp at h
  | id' :: m, b' :: hs, H, 0, id, b, hn, h1, h2, hl => by
    simp at h1 h2
    subst h1 h2
    simp only [setAll]
    rw [setAll_other mm m hs _ id' (by simpa using (List.nodup_cons.1 hn).1)]
    simp [hl]
  | id' :: m, b' :: hs, H, j + 1, id, b, hn, h1, h2, hl => by
    simp only [setAll]
    exact setAll_at mm m hs _ j id b (List.nodup_cons.1 hn).2 (by simpa using h1) (by simpa using h2) (by simpa using hl)

theorem idx_some {m : List Nat} (hn : m.Nodup) {id j : Nat} (h : idx m id = some j) : m[j]? = some id := by
  unfold idx at h
  have := List.idxOf?_eq_some_iff.1 h
  obtain ⟨h1, h2, _⟩ := this
  rw [List.getElem?_eq_getElem h1]
  simpa using h2
theorem idx_of {m : List Nat} (hn : m.Nodup) {id j : Nat} (h : m[j]? = some id) : idx m id = some j := by
  obtain ⟨hj, he⟩ := List.getElem?_eq_some_iff.1 h
  subst he
  unfold idx
  rw [List.idxOf?_eq_some_iff]
  refine ⟨hj, by simp, fun i hi => ?_⟩
  have := List.pairwise_iff_getElem.1 hn i j (by omega) hj hi
  simpa using this
theorem idx_none {m : List Nat} {id : Nat} (h : idx m id = none) : id ∉ m := by
  unfold idx at h
  simpa using h

theorem mmap_lt {m : List Nat} {base j id : Nat} (h : m[j]? = some id) : mmap m base j = id := by
  obtain ⟨hj, he⟩ := List.getElem?_eq_some_iff.1 h
  unfold mmap
  rw [if_pos hj, List.getD_eq_getElem?_getD, h]
  rfl
theorem mmap_ge {m : List Nat} {base j : Nat} (h : m.length ≤ j) : mmap m base j = base + (j - m.length) := by
  unfold mmap
  rw [if_neg (by omega)]

theorem BR_bor {Fc : Nat → Prop} {ιc : Inj} {wc : World} {Hb : Heap} {inv : Nat → Option Nat} {b : Blk} {c : Emb} {n : Nat} (hf : ∀ x v, VR F ι w0 x v → VR Fc ιc wc (bor Hb inv n x) v) (h : BR F ι w0 b c w) : BR Fc ιc wc (borB Hb inv n b) c w := by
  obtain ⟨arr, t, fz, h1, h2, h4, vs, rest, h5, h6, h7⟩ := h
  exact ⟨arr, t, fz, h1, h2, h4, vs, rest, h5, VRL_map' hf h6, h7⟩
theorem BRo_bor {Fc : Nat → Prop} {ιc : Inj} {wc : World} {Hb : Heap} {inv : Nat → Option Nat} {b : Blk} {e : Option Emb} {n : Nat} (hf : ∀ x v, VR F ι w0 x v → VR Fc ιc wc (bor Hb inv n x) v) (h : BRo F ι w0 b e w) : BRo Fc ιc wc (borB Hb inv n b) e w := by
  cases e with
  | none =>
    have h' : b.cells = [] := h
    show (borB Hb inv n b).cells = []
    simp [borB, h']
  | some c => exact BR_bor hf h
theorem BRo_sh {Fc : Nat → Prop} {ιc : Inj} {wc : World} {b : Blk} {e : Option Emb} {mm : Nat → Nat} (hf : ∀ vs, VRL Fc ιc wc b.cells vs → VRL F ι w0 (shL mm b.cells) vs) (h : BRo Fc ιc wc b e w) : BRo F ι w0 (shB mm b) e w := by
  cases e with
  | none =>
    have h' : b.cells = [] := h
    show shL mm b.cells = []
    rw [h']
    rfl
  | some c =>
    obtain ⟨arr, t, fz, h1, h2, h4, vs, rest, h5, h6, h7⟩ := h
    exact ⟨arr, t, fz, h1, h2, h4, vs, rest, h5, hf vs h6, h7⟩

/-- THE LAW OF A CALL. -/
theorem call_sound {f : FuncId} {args : List AV} {m : List Nat} {v : AV} {h' Hb : Heap} {cargs : Array Value} (hC : CallOk P f args H m v h' Hb) (hFS : FS F w0 M) (hWS : WS w0 M w) (hS : HS F w0 ι M D H w)
    (hDl : ∀ id, D id → id < H.length) (hDc : ∀ id, D id → ι id ≠ none) (hDm : ∀ id, id ∈ m → D id) (hDb : ∀ (id : Nat) b, Hb[id]? = some b → b.live = true → D id)
    (hnew : ∀ id, H.length ≤ id → id < (back H m h').length → ι id = none) (hargs : VRL F ι w0 args cargs.toList) :
    Calls P f cargs w (fun e w' => ∃ cv ι', e = .returned cv ∧ VR F ι' w0 (sh (mmap m H.length) v) cv ∧ Eff F w0 ι ι' H (back H m h') m w w') := by
  obtain ⟨hnd, hlive, hsat, hclean⟩ := hC
  -- what the callee only reads
  obtain ⟨Fc, hFc, hFcb⟩ : ∃ Fc : Nat → Prop, (∀ c, F c → Fc c) ∧ ((∀ c, Fc c → F c) ∧ Hb = [] ∨ ((∀ c, Fc c ↔ F c ∨ ∃ id b e, D id ∧ H[id]? = some b ∧ b.live = true ∧ id ∉ m ∧ ι id = some (some e) ∧ e.blk = c) ∧ (∀ (id : Nat) b, Hb[id]? = some b → b.live = true → H[id]? = some b) ∧ noS v = true ∧ ∀ b, b ∈ h' → noSL b.cells = true)) := by
    rcases hclean with hc | hc
    · exact ⟨fun c => F c ∨ ∃ id b e, D id ∧ H[id]? = some b ∧ b.live = true ∧ id ∉ m ∧ ι id = some (some e) ∧ e.blk = c, fun c h => Or.inl h, Or.inr ⟨fun c => Iff.rfl, hc⟩⟩
    · exact ⟨F, fun _ h => h, Or.inl ⟨fun _ h => h, hc⟩⟩
  let ιc : Inj := fun j => match m[j]? with
    | some id => ι id
    | none => none
  have hιc : ∀ j id, m[j]? = some id → ιc j = ι id := by
    intro j id hj
    show (match m[j]? with | some id => ι id | none => none) = ι id
    rw [hj]
  have hιn : ∀ j, m.length ≤ j → ιc j = none := by
    intro j hj
    show (match m[j]? with | some id => ι id | none => none) = none
    rw [List.getElem?_eq_none hj]
  have hag : ∀ c, F c → w.heap[c]? = w0.heap[c]? := fun c hc => hWS.agree c (hFS c hc).1 (hFS c hc).2
  have hbor : ∀ n x u, VR F ι w0 x u → VR Fc ιc w (bor Hb (idx m) n x) u := by
    intro n x u hx
    refine bor_sound hFc hag (fun id j e hi he => ?_) (fun id b e hi hb hl he => ?_) n x u hx
    · rw [hιc j id (idx_some hnd hi)]; exact he
    · have hd := hDb id b hb hl
      rcases hFcb with ⟨_, rfl⟩ | ⟨hiff, hsub, _⟩
      · simp at hb
      · have hbH := hsub id b hb hl
        refine ⟨(hiff e.blk).2 (Or.inr ⟨id, b, e, hd, hbH, hl, idx_none hi, he, rfl⟩), ?_⟩
        exact BR.cellsAt (hS.br id b (some e) hd hbH hl he)
  -- the callee's blocks
  have hget : ∀ (j : Nat) b, (m.map fun id => borB Hb (idx m) fuel (H.getD id deadBlk))[j]? = some b → ∃ id b0, m[j]? = some id ∧ H[id]? = some b0 ∧ b0.live = true ∧ b = borB Hb (idx m) fuel b0 := by
    intro j b hj
    rw [List.getElem?_map] at hj
    obtain ⟨id, h1, h2⟩ := Option.map_eq_some_iff.1 hj
    obtain ⟨b0, h3, h4⟩ := hlive id (List.mem_of_getElem? h1)
    refine ⟨id, b0, h1, h3, h4, ?_⟩
    rw [← h2, List.getD_eq_getElem?_getD, h3]
    rfl
  have hlen : (m.map fun id => borB Hb (idx m) fuel (H.getD id deadBlk)).length = m.length := by simp
  have hcalls := hsat.2 Fc ιc w cargs ?_ ?_ ?_ ?_ (VRL_map' (hbor fuel) hargs)
  · refine hcalls.mono ?_
    rintro e w' ⟨cv, ιc', rfl, hv, hE⟩
    rw [hlen] at hE
    have hk : m.length ≤ h'.length := by have := hE.len; rwa [hlen] at this
    have hbl : (back H m h').length = H.length + (h'.length - m.length) := by
      unfold back
      rw [List.length_append, setAll_length, List.length_map, List.length_drop]
    let ι' : Inj := fun id => if id < H.length then ι id else if id < H.length + (h'.length - m.length) then ιc' (id - H.length + m.length) else ι id
    have hι'o : ∀ id, id < H.length → ι' id = ι id := fun id h => by show (if _ then _ else _) = _; rw [if_pos h]
    have hι'n : ∀ id, H.length ≤ id → id < H.length + (h'.length - m.length) → ι' id = ιc' (id - H.length + m.length) := fun id h1 h2 => by
      show (if _ then _ else _) = _
      rw [if_neg (by omega), if_pos h2]
    have hle : Inj.le ι ι' := by
      intro id e he
      by_cases h1 : id < H.length
      · rw [hι'o id h1]; exact he
      · by_cases h2 : id < H.length + (h'.length - m.length)
        · rw [hnew id (by omega) (by rw [hbl]; exact h2)] at he
          cases he
        · show (if _ then _ else _) = _
          rw [if_neg h1, if_neg h2]
          exact he
    have hmm : ∀ j e, ιc' j = some e → ι' (mmap m H.length j) = some e := by
      intro j e he
      by_cases hj : j < m.length
      · have h1 : m[j]? = some m[j] := List.getElem?_eq_getElem hj
        rw [mmap_lt h1]
        have h2 : ιc' j = ιc j := hE.old j (Or.inl (by rw [hlen]; exact hj))
        rw [hι'o _ (hDl _ (hDm _ (List.getElem_mem hj))), ← hιc j _ h1, ← h2]
        exact he
      · rw [mmap_ge (by omega)]
        by_cases hj2 : j < h'.length
        · rw [hι'n _ (by omega) (by omega)]
          rw [show H.length + (j - m.length) - H.length + m.length = j by omega]
          exact he
        · have h2 : ιc' j = ιc j := hE.old j (Or.inr (by omega))
          rw [h2, hιn j (by omega)] at he
          cases he
    -- what comes back
    have hshv : VR F ι' w0 (sh (mmap m H.length) v) cv := by
      rcases hFcb with ⟨hF2, _⟩ | ⟨_, _, hns, _⟩
      · exact sh_sound hmm (fun c hc => ⟨hF2 c hc, (hag c (hF2 c hc)).symm⟩) v cv hv
      · exact sh_sound (Fc := F) (wc := w0) hmm (fun c hc => ⟨hc, rfl⟩) v cv (noS_any v cv hns hv)
    have hshb : ∀ (j : Nat) b, h'[j]? = some b → ∀ vs, VRL Fc ιc' w b.cells vs → VRL F ι' w0 (shL (mmap m H.length) b.cells) vs := by
      intro j b hb vs hvs
      rcases hFcb with ⟨hF2, _⟩ | ⟨_, _, _, hns⟩
      · exact shL_sound hmm (fun c hc => ⟨hF2 c hc, (hag c (hF2 c hc)).symm⟩) b.cells vs hvs
      · exact shL_sound (Fc := F) (wc := w0) hmm (fun c hc => ⟨hc, rfl⟩) b.cells vs (noSL_any b.cells vs (hns b (List.mem_of_getElem? hb)) hvs)
    have hbn : ∀ id, H.length ≤ id → (back H m h')[id]? = (h'[id - H.length + m.length]?).map (shB (mmap m H.length)) := by
      intro id h1
      unfold back
      rw [List.getElem?_append_right (by rw [setAll_length]; exact h1), setAll_length, List.getElem?_map, List.getElem?_drop]
      congr 2
      omega
    have hbo : ∀ id, id < H.length → (back H m h')[id]? = (setAll (mmap m H.length) H m h')[id]? := by
      intro id h1
      unfold back
      rw [List.getElem?_append_left (by rw [setAll_length]; exact h1)]
    refine ⟨cv, ι', rfl, hshv, ?_⟩
    refine ⟨by rw [hbl]; omega, hle, ?_, ?_, ?_, ?_, ?_, ?_, ?_, hE.os, hE.tape, hE.out, hE.size⟩
    · intro id h
      rw [hbl] at h
      rcases h with h | h
      · exact hι'o id h
      · show (if _ then _ else _) = _
        rw [if_neg (by omega), if_neg (by omega)]
    · intro id h1 h2
      rw [hbl] at h2
      obtain ⟨e, h3, h4⟩ := hE.new (id - H.length + m.length) (by rw [hlen]; omega) (by omega)
      refine ⟨e, by rw [hι'n id h1 h2]; exact h3, fun b hb hl => ?_⟩
      rw [hbn id h1] at hb
      obtain ⟨b0, h5, h6⟩ := Option.map_eq_some_iff.1 hb
      subst h6
      exact BRo_sh (hshb _ b0 h5) (h4 b0 h5 hl)
    · intro id c h1 h2 h3
      rw [hbl] at h2
      rw [hι'n id h1 h2] at h3
      rcases hE.newAt (id - H.length + m.length) c (by rw [hlen]; omega) (by omega) h3 with h4 | ⟨k, c', hk, hkc, hkb, hdead⟩
      · exact Or.inl h4
      · rw [List.mem_range] at hk
        have hmk : m[k]? = some m[k] := List.getElem?_eq_getElem hk
        refine Or.inr ⟨m[k], c', List.getElem_mem hk, by rw [← hιc k _ hmk]; exact hkc, hkb, fun b hb => ?_⟩
        have hlk := hDl _ (hDm _ (List.getElem_mem hk))
        have hk' : k < h'.length := by omega
        rw [hbo _ hlk, setAll_at _ m h' H k m[k] h'[k] hnd hmk (List.getElem?_eq_getElem hk') hlk] at hb
        obtain rfl := Option.some.inj hb
        exact hdead h'[k] (List.getElem?_eq_getElem hk')
    · intro id id' c c' h1 h2 h3 h4 h5 h6 h7
      rw [hbl] at h2 h4
      rw [hι'n id h1 h2] at h5
      rw [hι'n id' h3 h4] at h6
      have := hE.newInj _ _ c c' (by rw [hlen]; omega) (by omega) (by rw [hlen]; omega) (by omega) h5 h6 h7
      omega
    · intro id b e hid hb hl he
      obtain ⟨k, hk⟩ := List.getElem?_of_mem hid
      have hkl : k < m.length := (List.getElem?_eq_some_iff.1 hk).1
      have hk' : k < h'.length := by omega
      have hlk := hDl _ (hDm _ hid)
      rw [hbo _ hlk, setAll_at _ m h' H k id h'[k] hnd hk (List.getElem?_eq_getElem hk') hlk] at hb
      obtain rfl := Option.some.inj hb
      exact BRo_sh (hshb k _ (List.getElem?_eq_getElem hk')) (hE.wr k h'[k] e (by simpa using hkl) (List.getElem?_eq_getElem hk') hl (by rw [hιc k id hk]; exact he))
    · intro id h1 h2
      rw [hbo id h1, setAll_other _ m h' H id h2]
    · intro c hc hno
      refine hE.frame c hc fun k e hk hke => ?_
      rw [List.mem_range] at hk
      have hmk : m[k]? = some m[k] := List.getElem?_eq_getElem hk
      rw [hιc k _ hmk] at hke
      exact hno m[k] e (List.getElem_mem hk) hke
  · intro c hc
    rcases hFcb with ⟨hF2, _⟩ | ⟨hiff, _⟩
    · exact Nat.lt_of_lt_of_le (hFS c (hF2 c hc)).1 hWS.size
    · rcases (hiff c).1 hc with h1 | ⟨id, b, e, hd, hb, hl, _, he, rfl⟩
      · exact Nat.lt_of_lt_of_le (hFS c h1).1 hWS.size
      · exact BR.lt (hS.br id b (some e) hd hb hl he)
  · intro j hj
    rw [hlen] at hj
    have hmj : m[j]? = some m[j] := List.getElem?_eq_getElem hj
    rw [hιc j _ hmj]
    exact hDc _ (hDm _ (List.getElem_mem hj))
  · intro j hj
    rw [hlen] at hj
    exact hιn j hj
  · refine ⟨?_, ?_, ?_⟩
    · intro j b e _ hb hl he
      obtain ⟨id, b0, h1, h2, h3, rfl⟩ := hget j b hb
      rw [hιc j id h1] at he
      exact BRo_bor (hbor fuel) (hS.br id b0 e (hDm id (List.mem_of_getElem? h1)) h2 h3 he)
    · intro j j' b b' c c' _ _ hb hb' _ _ hc hc' heq
      obtain ⟨id, b0, h1, h2, h3, rfl⟩ := hget j b hb
      obtain ⟨id', b0', h1', h2', h3', rfl⟩ := hget j' b' hb'
      rw [hιc j id h1] at hc
      rw [hιc j' id' h1'] at hc'
      have := hS.inj id id' b0 b0' c c' (hDm id (List.mem_of_getElem? h1)) (hDm id' (List.mem_of_getElem? h1')) h2 h2' h3 h3' hc hc' heq
      subst this
      have h4 := idx_of hnd h1
      rw [idx_of hnd h1'] at h4
      exact (Option.some.inj h4).symm
    · intro j b c _ hb hl hc
      obtain ⟨id, b0, h1, h2, h3, rfl⟩ := hget j b hb
      have hc0 := hc
      rw [hιc j id h1] at hc
      have hd := hDm id (List.mem_of_getElem? h1)
      refine ⟨fun hf => ?_, Or.inl ⟨j, _, c, hb, h3, hc0, rfl⟩⟩
      have hnf := (hS.own id b0 c hd h2 h3 hc).1
      rcases hFcb with ⟨hF2, _⟩ | ⟨hiff, _⟩
      · exact hnf (hF2 _ hf)
      · rcases (hiff _).1 hf with h4 | ⟨id2, b2, e2, hd2, hb2, hl2, hm2, he2, heq⟩
        · exact hnf h4
        · have := hS.inj id2 id b2 b0 e2 c hd2 hd hb2 h2 hl2 h3 he2 hc heq
          subst this
          exact hm2 (List.mem_of_getElem? h1)
end
end Go.Proofs.Ytgddflnhibhacaa.AM
