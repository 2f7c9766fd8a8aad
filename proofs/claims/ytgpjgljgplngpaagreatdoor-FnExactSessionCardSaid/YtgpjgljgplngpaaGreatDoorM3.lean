/- The abstract machine, third part: how its code is stepped through. No conditions. -/
import Derived.Test.YtgpjgljgplngpaaGreatDoorM2
import Derived.Attr
import Derived.Below
import Derived.ProofKit
import Derived.OpenShut
import Derived.KernelRfl
set_option linter.unusedVariables false
set_option linter.unusedSimpArgs false
namespace Go.Proofs.YtgpjgljgplngpaaGreatDoor.AM
open Go
section
variable {P : Program} {F : Nat → Prop} {ι ι' ι0 : Inj} {w0 w w' : World} {M D : Nat → Prop} {H H' : Heap} {k n : Nat} {ρ : Env} {a : Act}
def gcI (m : List Nat) (ι : Inj) : Inj := fun j => match m[j]? with
 | some id => ι id
 | none => none
theorem gc_bor {m : List Nat} (hn : m.Nodup) (hag : ∀ c, F c → w.heap[c]? = w0.heap[c]?) (x : AV) (v : Value) (h : VR F ι w0 x v) : VR F (gcI m ι) w0 (bor [] (idx m) fuel x) v := by
 refine bor_sound (fun _ h => h) (fun _ _ => rfl) (fun id j e hi he => ?_) (fun id b e _ hb => ?_) fuel x v h
 ·have := idx_some hn hi
  show (match m[j]? with | some id => ι id | none => none) = _
  rw [this]
  exact he
 ·simp at hb
theorem St.gc {m : List Nat} (hFS : FS F w0 M) (h : St F w0 M k ι0 n ι ρ H a w) (hm : GcOk k m H) : St F w0 M k ι0 n (gcI m ι) (gcE m ρ) (gcH m H) a w := by
 obtain ⟨hn, hk, hlt⟩ := hm
 have hag : ∀ c, F c → w.heap[c]? = w0.heap[c]? := fun c hc => h.ws.agree c (hFS.1 c hc).1 (hFS.1 c hc).2
 have hI : ∀ j id, m[j]? = some id → gcI m ι j = ι id := by
  intro j id hj
  show (match m[j]? with | some id => ι id | none => none) = _
  rw [hj]
 have hget : ∀ (j : Nat) b, (gcH m H)[j]? = some b → ∃ id b0, m[j]? = some id ∧ H[id]? = some b0 ∧ b = borB [] (idx m) fuel b0 := by
  intro j b hj
  unfold gcH at hj
  rw [List.getElem?_map] at hj
  obtain ⟨id, h1, h2⟩ := Option.map_eq_some_iff.1 hj
  have h3 := hlt id (List.mem_of_getElem? h1)
  refine ⟨id, H[id], h1, List.getElem?_eq_getElem h3, ?_⟩
  rw [← h2, List.getD_eq_getElem?_getD, List.getElem?_eq_getElem h3]
  rfl
 have hlen : (gcH m H).length = m.length := by simp [gcH]
 refine ⟨h.defers, h.size, fun t => gc_bor hn hag _ _ (h.env t), ⟨?_, ?_, ?_⟩, ?_, ?_, h.ws, ?_, ?_⟩
 ·intro j b e _ hb hl he
  obtain ⟨id, b0, h1, h2, rfl⟩ := hget j b hb
  rw [hI j id h1] at he
  exact BRo_bor (gc_bor hn hag) (h.hs.br id b0 e (hlt id (List.mem_of_getElem? h1)) h2 hl he)
 ·intro j j' b b' c c' _ _ hb hb' hl hl' hc hc' heq
  obtain ⟨id, b0, h1, h2, rfl⟩ := hget j b hb
  obtain ⟨id', b0', h1', h2', rfl⟩ := hget j' b' hb'
  rw [hI j id h1] at hc
  rw [hI j' id' h1'] at hc'
  have := h.hs.inj id id' b0 b0' c c' (hlt id (List.mem_of_getElem? h1)) (hlt id' (List.mem_of_getElem? h1')) h2 h2' hl hl' hc hc' heq
  subst this
  have h4 := idx_of hn h1
  rw [idx_of hn h1'] at h4
  exact (Option.some.inj h4).symm
 ·intro j b c _ hb hl hc
  obtain ⟨id, b0, h1, h2, rfl⟩ := hget j b hb
  rw [hI j id h1] at hc
  exact h.hs.own id b0 c (hlt id (List.mem_of_getElem? h1)) h2 hl hc
 ·intro j hj
  rw [hlen] at hj
  rw [hI j _ (List.getElem?_eq_getElem hj)]
  exact h.cr _ (hlt _ (List.getElem_mem hj))
 ·intro j hj
  rw [hlen] at hj
  show (match m[j]? with | some id => ι id | none => none) = _
  rw [List.getElem?_eq_none hj]
 ·intro j hj
  rw [hI j j (hk j hj)]
  exact h.par j hj
 ·rw [hlen]
  by_cases h0 : k = 0
  ·omega
  ·have := (List.getElem?_eq_some_iff.1 (hk (k - 1) (by omega))).1
   omega
theorem awpOps_sound {ops : Array Oper} {K : Env → Heap → Prop} {Q : Exit → Act → World → Prop} (hFS : FS F w0 M) (hQ : ∀ ρ' H' ι' a' w', K ρ' H' → St F w0 M k ι0 n ι' ρ' H' a' w' → Q .normal a' w') :
 ∀ (l : List Oper) (j : Nat) (ρ : Env) (H : Heap) (ι : Inj) (a : Act) (w : World), (∀ i, l[i]? = ops[j + i]?) → (∀ o, o ∈ l → ∀ d, o.dst = some d → d < n) → St F w0 M k ι0 n ι ρ H a w → awpOps P ops K l ρ H → wpOps P ops Q (List.range' j l.length) a w := by
 intro l
 induction l with
 | nil =>
  intro j ρ H ι a w _ _ hS hK
  simpa [wpOps] using hQ ρ H ι a w hK hS
 | cons o rest ih =>
  intro j ρ H ι a w hl hd hS hK
  have h0 : ops[j]? = some o := by simpa using (hl 0).symm
  have hrest : ∀ i, rest[i]? = ops[j + 1 + i]? := fun i => by
   have := hl (i + 1)
   simpa [Nat.add_assoc, Nat.add_comm 1 i] using this
  have hd' : ∀ o, o ∈ rest → ∀ d, o.dst = some d → d < n := fun o ho => hd o (List.mem_cons_of_mem _ ho)
  simp only [List.length_cons, List.range'_succ]
  rw [wpOps_cons]
  unfold wpOp
  rw [h0]
  simp only [awpOps] at hK ⊢
  split at hK
  case h_2 => exact hK.elim
  rename_i b hg
  rw [wanted_of hg hS.env]
  split at hK
  ·rename_i hb
   rw [if_pos hb]
   refine Or.inl (opK_sound hFS hS (hd o (by simp)) hK ?_)
   intro ρ' H' ι' a' w' hk' hs'
   exact ih (j + 1) ρ' H' ι' a' w' hrest hd' hs' hk'
  ·rename_i hb
   rw [if_neg hb]
   exact ih (j + 1) _ H ι _ w hrest hd' (hS.putUndef (hd o (by simp))) hK
def Lift (F : Nat → Prop) (w0 : World) (M : Nat → Prop) (k : Nat) (ι0 : Inj) (n : Nat) (Q : Exit → Env → Heap → Prop) (e : Exit) (a : Act) (w : World) : Prop :=
 ∃ ρ H ι, Q e ρ H ∧ St F w0 M k ι0 n ι ρ H a w
theorem awp_sound (hFS : FS F w0 M) (c : Code) : ∀ {Q : Exit → Env → Heap → Prop} {ρ : Env} {H : Heap} {ι : Inj} {a : Act} {w : World}, dstsOk n c = true → awp P k c Q ρ H → St F w0 M k ι0 n ι ρ H a w → c.wp P (Lift F w0 M k ι0 n Q) a w := by
 induction c with
 | skip => intro Q ρ H ι a w _ h hS; exact wp_skip ⟨ρ, H, ι, h, hS⟩
 | region id ops draw =>
  intro Q ρ H ι a w hd h hS
  simp only [awp] at h
  split at h
  ·rename_i hdr
   subst hdr
   refine wp_region_any h.1 (awpD_sound (Q := Lift F w0 M k ι0 n Q) hFS (fun ρ' H' ι' a' w' hk hs => ⟨ρ', H', ι', hk, hs⟩) ?_ (hS.drawn rfl rfl rfl rfl) h.2)
   intro o ho d hod
   simp only [dstsOk, List.all_eq_true] at hd
   have := hd o (by simpa using ho)
   rw [hod] at this
   simpa using this
  rename_i hdr
  obtain rfl : draw = false := by simpa using hdr
  refine wp_region ?_
  have := awpOps_sound (Q := Lift F w0 M k ι0 n Q) hFS (fun ρ' H' ι' a' w' hk hs => ⟨ρ', H', ι', hk, hs⟩) ops.toList 0 ρ H ι a w (by simp) ?_ hS h
  ·simpa [List.range_eq_range'] using this
  ·intro o ho d hod
   simp only [dstsOk, List.all_eq_true] at hd
   have := hd o ho
   rw [hod] at this
   simpa using this
 | seq x y ihx ihy =>
  intro Q ρ H ι a w hd h hS
  simp only [dstsOk, Bool.and_eq_true] at hd
  refine wp_seq (wp_mono (ihx hd.1 h hS) ?_)
  rintro e a' w' ⟨ρ', H', ι', hk, hs⟩
  cases e with
  | normal =>
   obtain ⟨ρw, Hw, hw, hk⟩ := hk
   obtain ⟨ιw, hs⟩ := hw F w0 M ι0 n ι' a' w' hFS hs
   exact ihy hd.2 hk hs
  | _ => exact ⟨ρ', H', ι', hk, hs⟩
 | cond c x y ihx ihy =>
  intro Q ρ H ι a w hd h hS
  simp only [dstsOk, Bool.and_eq_true] at hd
  simp only [awp] at h
  split at h
  case h_2 => exact h.elim
  rename_i t ht
  have hv := hS.aeval hFS c
  rw [ht] at hv
  have hv := VR_bool hv
  split at h
  ·rename_i h1
   subst h1
   exact wp_cond_true hv (ihx hd.1 h hS)
  ·rename_i h1
   obtain rfl : t = false := by simpa using h1
   exact wp_cond_false hv (ihy hd.2 h hS)
 | block id c ih =>
  intro Q ρ H ι a w hd h hS
  refine wp_block (wp_mono (ih hd h hS) ?_)
  rintro e a' w' ⟨ρ', H', ι', hk, hs⟩
  cases e with
  | exit i =>
   simp only [Exit.inBlock]
   simp only at hk
   split
   ·rename_i hi; rw [if_pos hi] at hk; exact ⟨ρ', H', ι', hk, hs⟩
   ·rename_i hi; rw [if_neg hi] at hk; exact ⟨ρ', H', ι', hk, hs⟩
  | _ => exact ⟨ρ', H', ι', hk, hs⟩
 | loop c ih =>
  intro Q ρ H ι a w hd h hS
  intro b K cs
  have key := h (fun ρ H => ∀ ι a w, St F w0 M k ι0 n ι ρ H a w → ∃ e a' w', Lift F w0 M k ι0 n Q e a' w' ∧ Arrives P (lone (b.at a (.code c :: .inLoop c :: K)) cs w) b K cs e a' w') ?_
  ·obtain ⟨e, a', w', hq, harr⟩ := key ι a w hS
   exact ⟨e, a', w', hq, .of_steps (.one step_loop) harr⟩
  ·intro ρ H hb ι a w hS
   obtain ⟨e, a1, w1, ⟨ρ1, H1, ι1, hk, hs⟩, harr⟩ := ih hd hb hS b (.inLoop c :: K) cs
   cases e with
   | normal =>
    obtain ⟨ρw, Hw, hw, hk⟩ := hk
    obtain ⟨ιw, hs⟩ := hw F w0 M ι0 n ι1 a1 w1 hFS hs
    obtain ⟨e2, a2, w2, hq2, harr2⟩ := hk ιw a1 w1 hs
    exact ⟨e2, a2, w2, hq2, .of_steps (Steps.trans harr (.one step_inLoop)) harr2⟩
   | _ => exact ⟨_, a1, w1, ⟨ρ1, H1, ι1, hk, hs⟩, .pass (x := .inLoop c) rfl (fun _ _ => .inl (by simp)) harr⟩
 | exit i => intro Q ρ H ι a w _ h hS; exact wp_exit ⟨ρ, H, ι, h, hS⟩
 | ret => intro Q ρ H ι a w _ h hS; exact wp_ret ⟨ρ, H, ι, h, hS⟩
 | _ => intro Q ρ H ι a w _ h; exact h.elim
theorem aLoad_sound {t : TypeId} {x y : AV} {v : Value} (hx : aLoad P H t x = some y) (hS : St F w0 M k ι0 n ι ρ H a w) (hFS : FS F w0 M) (hv : VR F ι w0 x v) :
 ∃ u, (do loadVar t (← asAddr v) : Sem Value).run P w = .ok u w ∧ VR F ι w0 y u := by
 unfold aLoad at hx
 split at hx
 ·rename_i id off
  split at hx
  ·rename_i b hb
   split at hx
   ·rename_i hl
    simp only [VR] at hv
    obtain ⟨c, h1, h2⟩ := hv
    obtain ⟨vs, h3, h4⟩ := BR.cellsAt (hS.hs.br id b (some c) (List.getElem?_eq_some_iff.1 hb).1 hb hl h1)
    obtain ⟨u, h5, h6⟩ := load_sound (P := P) hx (h3.drop off) (h4.drop off)
    refine ⟨u, ?_, h6⟩
    rw [h2]
    simpa [asAddr] using h5
   ·cases hx
  ·cases hx
 ·rename_i cs
  simp only [VR] at hv
  obtain ⟨c, off, vs, h1, h2, h3, h4⟩ := hv
  obtain ⟨u, h5, h6⟩ := load_sound (P := P) hx h4 (h3.world (hS.ws.agree c (hFS.1 c h2).1 (hFS.1 c h2).2))
  refine ⟨u, ?_, h6⟩
  rw [h1]
  simpa [asAddr] using h5
 ·cases hx
theorem aRes_run (f : ResultVar → Sem Value) (hf : ∀ u, f (.tmp u) = pure (a.tmps.getD u undef)) (hc : ∀ x t, f (.cell x t) = (do loadVar t (← asAddr (a.tmps.getD x undef)))) (hS : St F w0 M k ι0 n ι ρ H a w) (hFS : FS F w0 M) :
 ∀ (rs : List ResultVar) (vs : List AV), aRes P H ρ rs = some vs → ∃ us, (rs.mapM f).run P w = .ok us w ∧ VRL F ι w0 vs us
 | [], vs, h => by
  simp only [aRes, Option.some.injEq] at h
  subst h
  exact ⟨[], by simp, by simp [VRL]⟩
 | .tmp t :: rs, vs, h => by
  simp only [aRes] at h
  split at h
  ·rename_i vs' h'
   obtain rfl := Option.some.inj h
   obtain ⟨us, h1, h2⟩ := aRes_run f hf hc hS hFS rs vs' h'
   exact ⟨a.tmps.getD t undef :: us, by rw [List.mapM_cons, hf]; simp [h1], VRL_cons.2 ⟨_, us, rfl, hS.env t, h2⟩⟩
  ·cases h
 | .cell x t :: rs, vs, h => by
  simp only [aRes] at h
  split at h
  ·rename_i y vs' hy h'
   obtain rfl := Option.some.inj h
   obtain ⟨us, h1, h2⟩ := aRes_run f hf hc hS hFS rs vs' h'
   obtain ⟨u, h3, h4⟩ := aLoad_sound hy hS hFS (hS.env x)
   refine ⟨u :: us, ?_, VRL_cons.2 ⟨u, us, rfl, h4, h2⟩⟩
   rw [List.mapM_cons, hc]
   rw [Sem.run_bind, h3]
   simp [h1]
  ·cases h
theorem results_sound {fn : Func} {vs : List AV} (hr : aRes P H ρ fn.results.toList = some vs) (hS : St F w0 M k ι0 n ι ρ H a w) (hFS : FS F w0 M) : ∃ v, (results fn a.tmps).run P w = .ok v w ∧ VR F ι w0 (aResult vs) v := by
 have gen : ∀ f : ResultVar → Sem Value, (∀ u, f (.tmp u) = pure (a.tmps.getD u undef)) → (∀ x t, f (.cell x t) = (do loadVar t (← asAddr (a.tmps.getD x undef)))) →
  ∃ v, (((Sem.run P (fn.results.toList.mapM f) w).andThen fun a w' => Result.ok a.toArray w').andThen fun a w' => Sem.run P (pure (if h : a.size = 1 then a[0] else Value.tuple a)) w') = .ok v w ∧ VR F ι w0 (aResult vs) v := by
  intro f hf hc
  obtain ⟨us, h1, h2⟩ := aRes_run f hf hc hS hFS fn.results.toList vs hr
  rw [h1]
  have hl := h2.length
  match vs, us, h2, hl with
  | [], [], h2, _ => exact ⟨.tuple #[], by simp, by simp [aResult, VR, VRL]⟩
  | [x], [u], h2, _ =>
   obtain ⟨v, rest, h3, h4, _⟩ := VRL_cons.1 h2
   obtain ⟨rfl, rfl⟩ := List.cons.inj h3
   exact ⟨u, by simp, h4⟩
  | x :: x' :: xs, u :: u' :: us, h2, _ => exact ⟨.tuple (u :: u' :: us).toArray, by simp, by simpa [aResult, VR] using h2⟩
 unfold results
 rw [show fn.results = fn.results.toList.toArray by simp, List.mapM_toArray]
 simp only [Sem.run_bind, Sem.run_map]
 exact gen _ (fun _ => rfl) (fun _ _ => rfl)
theorem sat_of {f : FuncId} {fn : Func} {c : Code} {args : List AV} {h : Heap} {Q : AV → Heap → Prop} (hent : ∀ (as : Array Value) (w : World), (callFunc f as).run P w = .ok (.enter f as) w)
 (hf : P.funcs[f]? = some fn) (hb : fn.body = some c) (hd : dstsOk fn.ntmps c = true) (hlen : args.length ≤ fn.ntmps)
 (hw : awp P h.length c (retQ P fn.results.toList h.length Q) (argEnv args) h) : ∃ v h', Q v h' ∧ Sat P f args h v h' := by
 obtain ⟨e, ρ1, H1, hQ, hw1⟩ := awp_det c hw
 have hfin : e = .normal ∨ e = .ret := by
  cases e <;> first | exact Or.inl rfl | exact Or.inr rfl | exact hQ.elim
 have hQ' : wkQ h.length (fun ρ H => ∃ vs, aRes P H ρ fn.results.toList = some vs ∧ ∃ (szs : List Nat) (v : AV), Ref H.length (H.length + szs.length) (aResult vs) v ∧ endQ h.length Q v (H ++ szs.map fun s => ⟨s, [], true, false⟩)) ρ1 H1 := by
  rcases hfin with rfl | rfl <;> exact hQ
 obtain ⟨ρr, Hq, hwk, vs, hres, szs, vr, href, keep, hgc, hkl, hq⟩ := hQ'
 obtain ⟨Hr, hHr⟩ : ∃ Hr, Hr = Hq ++ szs.map fun s => (⟨s, [], true, false⟩ : Blk) := ⟨_, rfl⟩
 rw [← hHr] at hgc hkl hq
 refine ⟨_, _, hq, hent, ?_⟩
 intro F ι w cargs hF hG hcr hnw hS hargs
 let M : Nat → Prop := fun c => ∃ id b e, h[id]? = some b ∧ b.live = true ∧ ι id = some (some e) ∧ e.blk = c
 have hFS : FS F w M := by
  refine ⟨?_, hG⟩
  intro c hc
  refine ⟨hF c hc, ?_⟩
  rintro ⟨id, b, e, h1, h2, h3, h4⟩
  subst h4
  exact (hS.own id b e (List.getElem?_eq_some_iff.1 h1).1 h1 h2 h3).1 hc
 have hal : cargs.size = args.length := by
  have := hargs.length
  simpa using this.symm
 have hst : St F w M h.length ι fn.ntmps ι (argEnv args) h { tmps := cargs ++ Array.replicate (fn.ntmps - cargs.size) undef, defers := [] } w := by
  refine ⟨rfl, by simp; omega, ?_, hS, hcr, hnw, ⟨fun _ _ _ => rfl, rfl, rfl, rfl, Nat.le_refl _⟩, fun _ _ => rfl, Nat.le_refl _⟩
  intro t
  unfold argEnv
  by_cases ht : t < args.length
  ·obtain ⟨v, h1, h2⟩ := hargs.get t args[t] (List.getElem?_eq_getElem ht)
   have h3 : cargs[t]? = some v := by simpa using h1
   have h4 : (cargs ++ Array.replicate (fn.ntmps - cargs.size) undef).getD t undef = v := by
    rw [Array.getD_eq_getD_getElem?, Array.getElem?_append_left (by omega), h3]
    rfl
   simp only [h4]
   rw [List.getD_eq_getElem?_getD, List.getElem?_eq_getElem ht]
   exact h2
  ·rw [List.getD_eq_getElem?_getD, List.getElem?_eq_none (by omega)]
   simp [VR]
 refine calls_of_wp hf hb (wp_mono (awp_sound hFS c hd hw1 hst) ?_)
 rintro e' a' w' ⟨ρ0, H0, ι2, ⟨rfl, rfl, rfl⟩, hs⟩
 obtain ⟨ι3, hs⟩ := hwk F w M ι fn.ntmps ι2 a' w' hFS hs
 obtain ⟨v, hrv, hvv0⟩ := results_sound hres hs hFS
 obtain ⟨ι1, hle1, hnew1, hs⟩ := hs.norm szs RefE.refl
 have hvv : VR F ι1 w vr v := Ref.sound hnew1 href (VR.mono (fun _ h => h) hle1 (fun _ _ => rfl) _ hvv0)
 rw [← hHr] at hs
 have hs2 := hs.gc hFS hgc
 have hag : ∀ c, F c → w'.heap[c]? = w.heap[c]? := fun c hc => hs.ws.agree c (hFS.1 c hc).1 (hFS.1 c hc).2
 have hlive : ∀ j, h.length ≤ j → j < (gcH (List.range h.length ++ keep) Hr).length → ∃ b, (gcH (List.range h.length ++ keep) Hr)[j]? = some b ∧ b.live = true := by
  intro j h1 h2
  have h3 : j - h.length < keep.length := by
   simp [gcH] at h2
   omega
  obtain ⟨b, h4, h5⟩ := hkl keep[j - h.length] (List.getElem_mem h3)
  refine ⟨borB [] (idx (List.range h.length ++ keep)) fuel b, ?_, h5⟩
  unfold gcH
  rw [List.getElem?_map, List.getElem?_append_right (by simpa using h1)]
  simp [h3, h4]
 have hR : bodyPost P fn (fun e w' => ∃ cv ι', e = .returned cv ∧ VR F ι' w (bor [] (idx (List.range h.length ++ keep)) fuel vr) cv ∧
  Eff F w ι ι' h (gcH (List.range h.length ++ keep) Hr) (List.range h.length) w w') .ret a' w' := by
  refine ⟨hs.defers, v, hrv, v, gcI (List.range h.length ++ keep) ι1, rfl, gc_bor hgc.1 hag _ _ hvv, ?_⟩
  refine ⟨hs2.kle, ?_, ?_, ?_, ?_, ?_, ?_, ?_, ?_, hs2.ws.os, hs2.ws.tape, hs2.ws.out, hs2.ws.size⟩
  ·intro id e he
   by_cases hid : id < h.length
   ·rw [hs2.par id hid]; exact he
   ·rw [hnw id (by omega)] at he; cases he
  ·intro id hid
   rcases hid with hid | hid
   ·exact hs2.par id hid
   ·rw [hs2.nw id hid, hnw id (Nat.le_trans hs2.kle hid)]
  ·intro id h1 h2
   obtain ⟨e, he⟩ := Option.ne_none_iff_exists'.1 (hs2.cr id h2)
   exact ⟨e, he, fun b hb hl => hs2.hs.br id b e h2 hb hl he⟩
  ·intro id c h1 h2 h3
   obtain ⟨b, hb, hl⟩ := hlive id h1 h2
   rcases (hs2.hs.own id b c h2 hb hl h3).2 with h4 | h4
   ·obtain ⟨id0, b0, e0, g1, g2, g3, g4⟩ := h4
    have g5 : id0 < h.length := (List.getElem?_eq_some_iff.1 g1).1
    refine Or.inr ⟨id0, e0, List.mem_range.2 g5, g3, g4, fun b' hb' => ?_⟩
    cases hb'l : b'.live with
    | false => rfl
    | true =>
     have := hs2.hs.inj id0 id b' b e0 c (Nat.lt_of_lt_of_le g5 hs2.kle) h2 hb' hb hb'l hl (by rw [hs2.par id0 g5]; exact g3) h3 g4
     omega
   ·exact Or.inl h4
  ·intro id id' c c' h1 h2 h3 h4 h5 h6 h7
   obtain ⟨b, hb, hl⟩ := hlive id h1 h2
   obtain ⟨b', hb', hl'⟩ := hlive id' h3 h4
   exact hs2.hs.inj id id' b b' c c' h2 h4 hb hb' hl hl' h5 h6 h7
  ·intro id b e hid hb hl he
   rw [List.mem_range] at hid
   exact hs2.hs.br id b e (Nat.lt_of_lt_of_le hid hs2.kle) hb hl (by rw [hs2.par id hid]; exact he)
  ·intro id h1 h2
   exact absurd (List.mem_range.2 h1) h2
  ·intro c hc hno
   refine hs2.ws.agree c hc ?_
   rintro ⟨id, b, e, g1, g2, g3, g4⟩
   exact hno id e (List.mem_range.2 (List.getElem?_eq_some_iff.1 g1).1) g3 g4
 rcases hfin with rfl | rfl <;> exact hR
end
def awpL (P : Program) (k : Nat) : List Code → (Exit → Env → Heap → Prop) → Env → Heap → Prop
 | [], Q => Q .normal
 | c :: cs, Q => awp P k c fun e ρ H => match e with
  | .normal => wkQ k (awpL P k cs Q) ρ H
  | e => Q e ρ H
def blkQ (id : Nat) (R : Env → Heap → Prop) (Q : Exit → Env → Heap → Prop) (e : Exit) (ρ : Env) (H : Heap) : Prop :=
 match e with
 | .normal => R ρ H
 | .exit i => if i = id then R ρ H else Q (.exit i) ρ H
 | e => Q e ρ H
def loopQ (k id : Nat) (n : Nat) (I : Nat → Env → Heap → Prop) (J : Env → Heap → Prop) (Q : Exit → Env → Heap → Prop) (e : Exit) (ρ : Env) (H : Heap) : Prop :=
 match e with
 | .normal => wkQ k (fun ρ H => ∃ m, m < n ∧ I m ρ H) ρ H
 | .exit i => if i = id then wkQ k J ρ H else Q (.exit i) ρ H
 | e => Q e ρ H
section
variable {P : Program} {k : Nat} {Q : Exit → Env → Heap → Prop} {ρ : Env} {H : Heap} {cs : List Code}
def wkOk (k : Nat) (Q : Exit → Env → Heap → Prop) : Prop := ∀ ρ H, wkQ k (Q .normal) ρ H → Q .normal ρ H
theorem awl_of {c : Code} (hQ : wkOk k Q) (h : awpL P k [c] Q ρ H) : awp P k c Q ρ H := by
 refine awp_mono c h fun e ρ H he => ?_
 cases e <;> first | exact hQ _ _ he | exact he
theorem awl_seq {a b : Code} (h : awpL P k (a :: b :: cs) Q ρ H) : awpL P k (.seq a b :: cs) Q ρ H := by
 refine awp_mono (k := k) a h fun e ρ H he => ?_
 cases e <;> exact he
theorem wkQ.join {Q : Env → Heap → Prop} (h : wkQ k (wkQ k Q) ρ H) : wkQ k Q ρ H := by
 obtain ⟨ρ1, H1, h1, ρ2, H2, h2, h3⟩ := h
 exact ⟨ρ2, H2, h1.trans h2, h3⟩
theorem awl_skip (h : awpL P k cs Q ρ H) : awpL P k (.skip :: cs) Q ρ H := .mk h
theorem awl_exit {i : Nat} (h : Q (.exit i) ρ H) : awpL P k (.exit i :: cs) Q ρ H := h
theorem awl_ret (h : Q .ret ρ H) : awpL P k (.ret :: cs) Q ρ H := h
theorem awl_nil (h : Q .normal ρ H) : awpL P k [] Q ρ H := h
theorem awl_cond {c : Operand} {a b : Code} {t : Bool} (hc : aeval ρ c = .bool t) (ht : t = true → awpL P k (a :: cs) Q ρ H) (hf : t = false → awpL P k (b :: cs) Q ρ H) : awpL P k (.cond c a b :: cs) Q ρ H := by
 show awp P k (.cond c a b) _ ρ H
 simp only [awp]
 rw [hc]
 cases t with
 | true =>
  simp only [if_true]
  exact ht rfl
 | false =>
  simp only [Bool.false_eq_true, if_false]
  exact hf rfl
theorem awl_reg {id : Nat} {ops : Array Oper} (h : ∀ K : Env → Heap → Prop, (∀ ρ H, wkQ k (awpL P k cs Q) ρ H → K ρ H) → awpOps P ops K ops.toList ρ H) : awpL P k (.region id ops false :: cs) Q ρ H := by
 show awp P k (.region id ops false) _ ρ H
 simp only [awp, Bool.false_eq_true, if_false]
 exact h _ fun _ _ h => h
theorem awl_regDraw {id : Nat} {ops : Array Oper} (hm : P.follows .mixedOrders = true) (h : ∀ K : Env → Heap → Prop, (∀ ρ H, wkQ k (awpL P k cs Q) ρ H → K ρ H) → awpD P ops K ops.toList [] ρ H) : awpL P k (.region id ops true :: cs) Q ρ H := by
 show awp P k (.region id ops true) _ ρ H
 simp only [awp, if_true]
 exact ⟨hm, h _ fun _ _ h => h⟩
theorem blkQ_ok {id : Nat} {R : Env → Heap → Prop} (hR : ∀ ρ H, wkQ k R ρ H → R ρ H) : wkOk k (blkQ id R Q) := fun ρ H h => hR ρ H h
theorem awl_block {id : Nat} {c : Code} (h : ∀ R : Env → Heap → Prop, (∀ ρ H, wkQ k R ρ H → R ρ H) → (∀ ρ H, wkQ k (awpL P k cs Q) ρ H → R ρ H) → awpL P k [c] (blkQ id R Q) ρ H) : awpL P k (.block id c :: cs) Q ρ H := by
 refine awp_mono c (awl_of (blkQ_ok fun ρ H h => h.join) (h (wkQ k (awpL P k cs Q)) (fun ρ H h => h.join) fun _ _ h => h)) fun e ρ H he => ?_
 cases e with
 | exit i =>
  simp only [blkQ] at he ⊢
  split
  ·rename_i hi; rw [if_pos hi] at he; exact he
  ·rename_i hi; rw [if_neg hi] at he; exact he
 | _ => exact he
theorem awl_loop {id : Nat} {c : Code} (I : Nat → Env → Heap → Prop) (J : Env → Heap → Prop) (n : Nat) (h0 : I n ρ H) (round : ∀ n ρ H, I n ρ H → awpL P k [c] (loopQ k id n I J Q) ρ H)
 (after : ∀ ρ H, J ρ H → awpL P k cs Q ρ H) : awpL P k (.block id (.loop c) :: cs) Q ρ H := by
 have key : ∀ n ρ H, I n ρ H → awp P k (.loop c) (fun e ρ H => match e with
  | .exit i => if i = id then wkQ k J ρ H else Q (.exit i) ρ H
  | .normal => False
  | e => Q e ρ H) ρ H := by
  intro n
  induction n using Nat.strongRecOn with
  | _ n ih =>
   intro ρ H hI X hX
   refine hX ρ H (awp_mono c (awl_of (fun ρ H h => wkQ.join h) (round n ρ H hI)) fun e ρ H he => ?_)
   cases e with
   | normal =>
    refine wkQ.mono he fun ρ H h => ?_
    obtain ⟨m, hm, h1⟩ := h
    exact ih m hm _ _ h1 X hX
   | _ => exact he
 refine awp_mono (.loop c) (key n ρ H h0) fun e ρ H he => ?_
 cases e with
 | exit i =>
  simp only at he ⊢
  split
  ·rename_i hi; rw [if_pos hi] at he; exact wkQ.mono he after
  ·rename_i hi; rw [if_neg hi] at he; exact he
 | normal => exact he.elim
 | _ => exact he
theorem awl_join {c : Code} (J : Env → Heap → Prop) (h : awpL P k [c] (fun e ρ H => match e with | .normal => wkQ k J ρ H | e => Q e ρ H) ρ H) (after : ∀ ρ H, J ρ H → awpL P k cs Q ρ H) : awpL P k (c :: cs) Q ρ H := by
 refine awp_mono c h fun e ρ H he => ?_
 cases e with
 | normal => exact wkQ.mono he.join after
 | _ => exact he
theorem awl_loopH {id : Nat} {c : Code} (I : Heap → Nat → Env → Heap → Prop) (J : Heap → Env → Heap → Prop) (n : Nat) (h0 : I H n ρ H) (round : ∀ n ρ G, I H n ρ G → awpL P k [c] (loopQ k id n (I H) (J H) Q) ρ G)
 (after : ∀ ρ G, J H ρ G → awpL P k cs Q ρ G) : awpL P k (.block id (.loop c) :: cs) Q ρ H := awl_loop (I H) (J H) n h0 round after
theorem blk_normal {id : Nat} {R : Env → Heap → Prop} (h : R ρ H) : blkQ id R Q .normal ρ H := h
theorem blk_ret {id : Nat} {R : Env → Heap → Prop} (h : Q .ret ρ H) : blkQ id R Q .ret ρ H := h
theorem loop_again {id n : Nat} {I : Nat → Env → Heap → Prop} {J : Env → Heap → Prop} (m : Nat) (hm : m < n) (h : I m ρ H) : loopQ k id n I J Q .normal ρ H := .mk ⟨m, hm, h⟩
theorem loop_againW {id n : Nat} {I : Nat → Env → Heap → Prop} {J : Env → Heap → Prop} {ρ' : Env} {H' : Heap} (hw : Wk k ρ H ρ' H') (m : Nat) (hm : m < n) (h : I m ρ' H') : loopQ k id n I J Q .normal ρ H := ⟨ρ', H', hw, m, hm, h⟩
theorem loop_break {id n : Nat} {I : Nat → Env → Heap → Prop} {J : Env → Heap → Prop} (h : J ρ H) : loopQ k id n I J Q (.exit id) ρ H := by
 simp only [loopQ, if_true]
 exact .mk h
theorem loop_ret {id n : Nat} {I : Nat → Env → Heap → Prop} {J : Env → Heap → Prop} (h : Q .ret ρ H) : loopQ k id n I J Q .ret ρ H := h
theorem retQ_ok {rs : List ResultVar} {Qv : AV → Heap → Prop} : wkOk k (retQ P rs k Qv) := fun _ _ h => h.join
theorem sat_mk {f : FuncId} {fn : Func} {c : Code} {args : List AV} {h h' : Heap} {v : AV} (rs : List ResultVar) (k n : Nat) (hent : ∀ (xs : Array Value) (w : World), (callFunc f xs).run P w = .ok (.enter f xs) w)
 (hf : P.funcs[f]? = some fn) (hn : fn.ntmps = n) (hr : fn.results.toList = rs) (hk : h.length = k) (hb : fn.body = some c) (hd : dstsOk n c = true) (hlen : args.length.ble n = true)
 (hw : awpL P k [c] (retQ P rs k (fun v' h'' => v' = v ∧ h'' = h')) (argEnv args) h) : Sat P f args h v h' := by
 subst hn hr hk
 obtain ⟨v', h'', ⟨rfl, rfl⟩, h⟩ := sat_of hent hf hb hd (Nat.le_of_ble_eq_true hlen) (awl_of (retQ_ok) hw)
 exact h
theorem ret_mk {rs : List ResultVar} {Qv : AV → Heap → Prop} (keep : List Nat) (vs : List AV) (h1 : aRes P H ρ rs = some vs) (h2 : (List.range k ++ keep).Nodup) (h3 : k ≤ H.length) (h4 : ∀ id, id ∈ keep → ∃ b, H[id]? = some b ∧ b.live = true)
 (hq : Qv (bor [] (idx (List.range k ++ keep)) fuel (aResult vs)) (gcH (List.range k ++ keep) H)) : retQ P rs k Qv .ret ρ H := by
 refine .mk ⟨vs, h1, [], _, .refl _, keep, ?_⟩
 simp only [List.map_nil, List.append_nil]
 refine ⟨⟨h2, fun j hj => ?_, fun id hid => ?_⟩, h4, hq⟩
 ·rw [List.getElem?_append_left (by simpa using hj)]
  simp [hj]
 ·rcases List.mem_append.1 hid with h | h
  ·exact Nat.lt_of_lt_of_le (List.mem_range.1 h) h3
  ·obtain ⟨b, hb, _⟩ := h4 id h
   exact (List.getElem?_eq_some_iff.1 hb).1
theorem ret_norm {rs : List ResultVar} {Qv : AV → Heap → Prop} (szs keep : List Nat) (vs : List AV) (v : AV) (h1 : aRes P H ρ rs = some vs) (hr : Ref H.length (H.length + szs.length) (aResult vs) v) {H' : Heap} (hH : H ++ szs.map (fun s => (⟨s, [], true, false⟩ : Blk)) = H') (h2 : (List.range k ++ keep).Nodup) (h3 : k ≤ H'.length) (h4 : ∀ id, id ∈ keep → ∃ b, H'[id]? = some b ∧ b.live = true)
 (hq : Qv (bor [] (idx (List.range k ++ keep)) fuel v) (gcH (List.range k ++ keep) H')) : retQ P rs k Qv .ret ρ H := by
 subst hH
 refine .mk ⟨vs, h1, szs, v, hr, keep, ⟨h2, fun j hj => ?_, fun id hid => ?_⟩, h4, hq⟩
 ·rw [List.getElem?_append_left (by simpa using hj)]
  simp [hj]
 ·rcases List.mem_append.1 hid with h | h
  ·exact Nat.lt_of_lt_of_le (List.mem_range.1 h) h3
  ·obtain ⟨b, hb, _⟩ := h4 id h
   exact (List.getElem?_eq_some_iff.1 hb).1
theorem ret_wk {rs : List ResultVar} {Qv : AV → Heap → Prop} {ρ' : Env} {H' : Heap} (hw : Wk k ρ H ρ' H') (h : retQ P rs k Qv .ret ρ' H') : retQ P rs k Qv .ret ρ H := by
 obtain ⟨ρ2, H2, h1, h2⟩ := h
 exact ⟨ρ2, H2, hw.trans h1, h2⟩
theorem end_mk {rs : List ResultVar} {Qv : AV → Heap → Prop} (h : retQ P rs k Qv .ret ρ H) : retQ P rs k Qv .normal ρ H := h
end
abbrev SOp := Option Tmp × Op × Option (Tmp × Bool)
def stripG (ops : Array Oper) : Option (Nat × Bool) → Option (Option (Tmp × Bool))
 | none => some none
 | some (j, want) => match (ops[j]?).bind (·.dst) with
  | some t => some (some (t, want))
  | none => none
def stripL (ops : Array Oper) : List Oper → Option (List SOp)
 | [] => some []
 | o :: rest => match stripG ops o.guard, stripL ops rest with
  | some g, some l => some ((o.dst, o.op, g) :: l)
  | _, _ => none
def gTest (ρ : Env) : Option (Tmp × Bool) → Option Bool
 | none => some true
 | some (t, want) => match ρ t with
  | .bool b => some (b == want)
  | .tuple xs => match xs with
   | [] => some false
   | _ => none
  | _ => none
def oV {α : Type} (r : Option α) (K : α → Prop) : Prop := match r with
 | some v => K v
 | none => False
def opS (P : Program) (ρ : Env) (H : Heap) (d : Option Tmp) (op : Op) (C : Env → Heap → Prop) : Prop :=
 match goCall op with
 | some (f, args) => callK P (aeval ρ f) (args.map (aeval ρ)) H fun v H' => C (updO ρ d v) H'
 | none => match aop P (aeval ρ) H op with
  | some (x, e) => C (updO ρ d x) (e.app H)
  | none => False
def awpS (P : Program) (K : Env → Heap → Prop) : List SOp → Env → Heap → Prop
 | [], ρ, H => K ρ H
 | (d, op, g) :: rest, ρ, H => match gTest ρ g with
  | some b => if b = true then opS P ρ H d op (awpS P K rest) else awpS P K rest (updO ρ d (.tuple [])) H
  | none => False
section
variable {P : Program} {k : Nat} {Q : Exit → Env → Heap → Prop} {ρ : Env} {H : Heap} {cs : List Code} {K : Env → Heap → Prop} {C : Env → Heap → Prop} {d : Option Tmp}
theorem gTest_of {ops : Array Oper} {o : Oper} {g : Option (Tmp × Bool)} (h : stripG ops o.guard = some g) : aguard ops ρ o = gTest ρ g := by
 unfold stripG at h
 unfold aguard gTest
 split at h
 ·rename_i hg
  obtain rfl := Option.some.inj h
  rw [hg]
 ·rename_i j want hg
  rw [hg]
  simp only
  split at h
  ·rename_i t ht
   obtain rfl := Option.some.inj h
   rw [ht]
   rfl
  ·cases h
theorem opS_mono {op : Op} {C' : Env → Heap → Prop} (hC : ∀ ρ H, C ρ H → C' ρ H) (h : opS P ρ H d op C) : opS P ρ H d op C' := by
 unfold opS at h ⊢
 split at h
 ·exact callK_mono h fun v H hk => hC _ _ hk
 ·split at h
  ·exact hC _ _ h
  ·exact h
theorem awpS_of {ops : Array Oper} : ∀ (os : List Oper) (l : List SOp) (ρ : Env) (H : Heap), stripL ops os = some l → awpS P K l ρ H → awpOps P ops K os ρ H
 | [], l, ρ, H, hl, h => by
  obtain rfl := Option.some.inj hl
  exact h
 | o :: os, l, ρ, H, hl, h => by
  simp only [stripL] at hl
  split at hl
  ·rename_i g l' hg hl'
   obtain rfl := Option.some.inj hl
   simp only [awpS] at h
   simp only [awpOps]
   rw [gTest_of hg]
   split at h
   ·rename_i b hb
    rw [hb]
    split at h
    ·rename_i h1
     simp only [if_pos h1]
     exact opS_mono (fun ρ H hk => awpS_of os l' ρ H hl' hk) h
    ·rename_i h1
     simp only [if_neg h1]
     exact awpS_of os l' _ _ hl' h
   ·exact h.elim
  ·cases hl
theorem awpS_mono {K' : Env → Heap → Prop} (hK : ∀ ρ H, K ρ H → K' ρ H) : ∀ (l : List SOp) (ρ : Env) (H : Heap), awpS P K l ρ H → awpS P K' l ρ H
 | [], ρ, H, h => hK ρ H h
 | (d, op, g) :: rest, ρ, H, h => by
  simp only [awpS] at h ⊢
  split at h
  ·split at h
   ·rename_i hb
    rw [if_pos hb]
    exact opS_mono (fun ρ H hk => awpS_mono hK rest ρ H hk) h
   ·rename_i hb
    rw [if_neg hb]
    exact awpS_mono hK rest _ _ h
  ·exact h
theorem awpS_append {l' : List SOp} : ∀ (l : List SOp) (ρ : Env) (H : Heap), awpS P (awpS P K l') l ρ H → awpS P K (l ++ l') ρ H
 | [], ρ, H, h => h
 | (d, op, g) :: rest, ρ, H, h => by
  simp only [awpS, List.cons_append] at h ⊢
  split at h
  ·split at h
   ·rename_i hb
    rw [if_pos hb]
    exact opS_mono (fun ρ H hk => awpS_append rest ρ H hk) h
   ·rename_i hb
    rw [if_neg hb]
    exact awpS_append rest _ _ h
  ·exact h
theorem awl_regS {id : Nat} {ops : Array Oper} (l : List SOp) (hl : stripL ops ops.toList = some l) (h : ∀ K : Env → Heap → Prop, (∀ ρ H, wkQ k (awpL P k cs Q) ρ H → K ρ H) → awpS P K l ρ H) : awpL P k (.region id ops false :: cs) Q ρ H :=
 awl_reg fun K hK => awpS_of _ l ρ H hl (h K hK)
theorem oV_some {α : Type} {v : α} {K : α → Prop} : oV (some v) K = K v := (rfl)
theorem oV_none {α : Type} {K : α → Prop} : oV none K = False := (rfl)
theorem oV_ite {α : Type} {c : Prop} [Decidable c] {r : Option α} {K : α → Prop} : oV (if c then r else none) K = (c ∧ oV r K) := by
 by_cases h : c <;> simp [h, oV]
theorem oV_map {α β : Type} {f : α → β} {r : Option α} {K : β → Prop} : oV (r.map f) K = oV r fun x => K (f x) := by cases r <;> rfl
theorem oV_bind {α β : Type} {f : α → Option β} {r : Option α} {K : β → Prop} : oV (r.bind f) K = oV r fun x => oV (f x) K := by cases r <;> rfl
theorem awpS_nil : awpS P K [] ρ H = K ρ H := (rfl)
theorem awpS_op {op : Op} {rest : List SOp} : awpS P K ((d, op, none) :: rest) ρ H = opS P ρ H d op (awpS P K rest) := by simp [awpS, gTest]
theorem awpS_on {op : Op} {rest : List SOp} {t : Tmp} {want b : Bool} (h : ρ t = .bool b) (hb : (b == want) = true) : awpS P K ((d, op, some (t, want)) :: rest) ρ H = opS P ρ H d op (awpS P K rest) := by simp [awpS, gTest, h, hb]
theorem opS_move {x : Operand} : opS P ρ H d (.move x) C = C (updO ρ d (aeval ρ x)) H := (rfl)
theorem opS_assign {x : Operand} : opS P ρ H d (.assign x) C = C (updO ρ d (aeval ρ x)) H := (rfl)
theorem opS_val {op : Op} {r : Option AV} (hc : goCall op = none) (h : aop P (aeval ρ) H op = r.map fun v => (v, .nil)) : opS P ρ H d op C = oV r fun v => C (updO ρ d v) H := by
 unfold opS oV
 rw [hc]
 simp only
 rw [h]
 cases r <;> rfl
theorem opS_pick {c a b : Operand} : opS P ρ H d (.pick c a b) C = match aeval ρ c with
 | .bool t => C (updO ρ d (if t = true then aeval ρ a else aeval ρ b)) H
 | _ => False := by
 unfold opS
 simp only [goCall, aop]
 cases aeval ρ c <;> rfl
theorem opS_load {t : TypeId} {a : Operand} : opS P ρ H d (.load t a) C = oV (aLoad P H t (aeval ρ a)) fun v => C (updO ρ d v) H := opS_val rfl rfl
theorem opS_store {t : TypeId} {a x : Operand} : opS P ρ H d (.store t a x) C = oV (aStore P H t (aeval ρ a) (aeval ρ x)) fun e => C (updO ρ d .any) (e.app H) := by
 unfold opS oV
 simp only [goCall, aop]
 cases aStore P H t (aeval ρ a) (aeval ρ x) <;> rfl
theorem opS_un {o : UnOp} {t : TypeId} {x : Operand} : opS P ρ H d (.unOp o t x) C = oV (aUn o (aeval ρ x)) fun v => C (updO ρ d v) H := opS_val rfl rfl
theorem opS_bin {o : BinOp} {t t' : TypeId} {x y : Operand} : opS P ρ H d (.binOp o t x y t') C = (gOk x y (aeval ρ x) (aeval ρ y) = true ∧ oV (aBin P o t (aeval ρ x) (aeval ρ y)) fun v => C (updO ρ d v) H) := by
 unfold opS oV
 simp only [goCall, aop]
 split
 ·rename_i x y h
  split at h
  ·rename_i hg
   obtain ⟨v, h1, h2⟩ := Option.map_eq_some_iff.1 h
   obtain ⟨rfl, rfl⟩ := Prod.mk.inj h2
   rw [h1]
   simp [hg, AEff.app]
  ·cases h
 ·rename_i h
  split at h
  ·rename_i hg
   rw [Option.map_eq_none_iff.1 h]
   simp
  ·rename_i hg
   simp [hg]
theorem opS_fieldAddr {s f : Nat} {x : Operand} : opS P ρ H d (.fieldAddr s x f) C = oV (aFieldAddr P s f (aeval ρ x)) fun v => C (updO ρ d v) H := opS_val rfl rfl
theorem opS_field {s f : Nat} {x : Operand} : opS P ρ H d (.field s x f) C = oV (aField P s f (aeval ρ x)) fun v => C (updO ρ d v) H := opS_val rfl rfl
theorem opS_indexAddr {t : TypeId} {x i : Operand} : opS P ρ H d (.indexAddr t x i) C = oV (aIndexAddr P t (aeval ρ x) (aeval ρ i)) fun v => C (updO ρ d v) H := opS_val rfl rfl
theorem opS_index {t : TypeId} {x i : Operand} : opS P ρ H d (.index t x i) C = oV (aIndex P t (aeval ρ x) (aeval ρ i)) fun v => C (updO ρ d v) H := opS_val rfl rfl
theorem opS_slice {t : TypeId} {x : Operand} {lo hi mx : Option Operand} : opS P ρ H d (.slice t x lo hi mx) C = oV (aSlice P t (aeval ρ x) (lo.map (aeval ρ)) (hi.map (aeval ρ)) (mx.map (aeval ρ))) fun v => C (updO ρ d v) H := opS_val rfl rfl
theorem opS_extract {x : Operand} {i : Nat} : opS P ρ H d (.extract x i) C = match aeval ρ x with
 | .tuple vs => oV vs[i]? fun v => C (updO ρ d v) H
 | _ => False := by
 unfold opS oV
 simp only [goCall, aop]
 cases aeval ρ x <;> try rfl
 rename_i vs
 simp only
 cases vs[i]? <;> rfl
theorem opS_nilCheck {x : Operand} : opS P ρ H d (.nilCheck x) C = match aeval ρ x with
 | .ptr id off => C (updO ρ d (.ptr id off)) H
 | .sptr cs => C (updO ρ d (.sptr cs)) H
 | _ => False := by
 unfold opS
 simp only [goCall, aop]
 cases aeval ρ x <;> rfl
theorem opS_alloc {t : TypeId} : opS P ρ H d (.alloc t) C = oV (tZero P t) fun z => oV (tSize P t) fun n => z.length = n ∧ C (updO ρ d (.ptr H.length 0)) (H ++ [⟨n, z, true, false⟩]) := by
 unfold opS oV
 simp only [goCall, aop]
 cases tZero P t with
 | none => rfl
 | some z =>
  cases tSize P t with
  | none => rfl
  | some n =>
   simp only
   by_cases hz : z.length = n
   ·simp [hz, AEff.app]
   ·simp [hz]
theorem opS_box {t : TypeId} {x : Operand} : opS P ρ H d (.box t x) C = oV (aeval ρ x).cells? fun cs => C (updO ρ d (.ptr H.length 0)) (H ++ [⟨cs.length, cs, true, false⟩]) := by
 unfold opS oV
 simp only [goCall, aop]
 cases (aeval ρ x).cells? <;> rfl
theorem opS_build {t : TypeId} {ps : Array (Nat × Operand)} : opS P ρ H d (.build t ps) C = (tSct P t = true ∧ oV (tZero P t) fun z => oV (aFill P t z (ps.toList.map fun p => (p.1, aeval ρ p.2))) fun cs => C (updO ρ d (.agg cs)) H) := by
 unfold opS oV
 simp only [goCall, aop]
 cases tSct P t with
 | false => simp
 | true =>
  cases tZero P t with
  | none => simp
  | some z =>
   simp only
   cases aFill P t z (ps.toList.map fun p => (p.1, aeval ρ p.2)) <;> simp [AEff.app]
theorem opS_eff {op : Op} (hc : goCall op = none) : opS P ρ H d op C = oV (aop P (aeval ρ) H op) fun x => C (updO ρ d x.1) (x.2.app H) := by
 unfold opS oV
 rw [hc]
 cases aop P (aeval ρ) H op <;> rfl
theorem opS_buildSlice {t : TypeId} {n : Nat} {ps : Array (Nat × Operand)} : opS P ρ H d (.buildSlice t n ps) C = oV ((tElem P t).bind (tSize P)) fun sz => oV ((tElem P t).bind (tZero P)) fun z =>
 if n = 0 ∧ ps = #[] then C (updO ρ d .esl) H else (ps.size = n ∧ n * sz ≤ 16777216 ∧ z.length = sz ∧ 0 < sz) ∧ oV (aRow sz 0 (ps.toList.map fun p => (p.1, aeval ρ p.2))) fun cs => C (updO ρ d (.slice H.length 0 n n)) (H ++ [⟨sz, cs, true, false⟩]) := by
 rw [opS_eff rfl]
 simp only [aop]
 cases (tElem P t).bind (tSize P) with
 | none => rfl
 | some sz =>
  cases (tElem P t).bind (tZero P) with
  | none => rfl
  | some z =>
   simp only [oV_some]
   by_cases h0 : n = 0 ∧ ps = #[]
   ·rw [if_pos h0, if_pos h0]
    rfl
   ·rw [if_neg h0, if_neg h0, oV_ite]
    by_cases h1 : ps.size = n ∧ n * sz ≤ 16777216 ∧ z.length = sz ∧ 0 < sz
    ·simp only [h1]
     cases aRow sz 0 (ps.toList.map fun p => (p.1, aeval ρ p.2)) <;> simp [oV, AEff.app]
    ·simp only [h1, false_and]
theorem opS_convert {s t : TypeId} {x : Operand} : opS P ρ H d (.convert s t x) C = oV (aop P (aeval ρ) H (.convert s t x)) fun x => C (updO ρ d x.1) (x.2.app H) := opS_eff rfl
theorem opS_makeSlice {t : TypeId} {l c : Operand} : opS P ρ H d (.makeSlice t l c) C = oV (aMake P H t (aeval ρ l) (aeval ρ c)) fun x => C (updO ρ d x.1) (x.2.app H) := opS_eff rfl
theorem opS_makeFunc {f : FuncId} {first captured : Array Operand} : opS P ρ H d (.makeFunc (.func f) first captured) C = C (updO ρ d (.func f (first.toList.map (aeval ρ)) (captured.toList.map (aeval ρ)))) H := (rfl)
theorem opS_builtin {b : Builtin} {xs : Array Operand} {ts : Array TypeId} : opS P ρ H d (.call ⟨.builtin b, xs, ts⟩) C = oV (aBuiltin P H b (xs.toList.map (aeval ρ)) ts.toList) fun x => C (updO ρ d x.1) (x.2.app H) := opS_eff rfl
theorem opS_call {f : Operand} {xs : Array Operand} {ts : Array TypeId} {g : FuncId} {first cap args : List AV} (hf : aeval ρ f = .func g first cap) (ha : first ++ xs.toList.map (aeval ρ) ++ cap = args)
 (m : List Nat) {v : AV} {h' Hb : Heap} (hC : CallOk P g args H m v h' Hb) (hK : C (updO ρ d (sh (mmap m H.length) v)) (back H m h')) : opS P ρ H d (.call ⟨.value f, xs, ts⟩) C := by
 subst ha
 unfold opS
 simp only [goCall, callK, hf]
 exact ⟨m, v, h', Hb, hC, hK⟩
theorem opS_call_ro {f : Operand} {xs : Array Operand} {ts : Array TypeId} {g : FuncId} {first cap args' : List AV} {v : AV} {h' : Heap} (hf : aeval ρ f = .func g first cap) (hS : Sat P g args' [] v h')
 (ha : (first ++ xs.toList.map (aeval ρ) ++ cap).map (bor H (idx []) fuel) = args') (hv : noS v = true) (hh : (h'.all fun b => noSL b.cells) = true)
 (hK : C (updO ρ d (sh (mmap [] H.length) v)) (H ++ h'.map (shB (mmap [] H.length)))) : opS P ρ H d (.call ⟨.value f, xs, ts⟩) C := by
 subst ha
 refine opS_call hf rfl [] (h' := h') (Hb := H) ⟨List.nodup_nil, by simp, hS, Or.inl ⟨fun _ _ h _ => h, hv, ?_⟩⟩ ?_
 ·simpa [List.all_eq_true] using hh
 ·unfold back
  rw [show (setAll (mmap [] H.length) H [] h') = H by cases h' <;> rfl]
  simpa using hK
def liveE : List Tmp → Env → Env → Prop
 | [], _, _ => True
 | t :: L, ρ', ρ => ρ' t = ρ t ∧ liveE L ρ' ρ
theorem liveE_nil {ρ' : Env} : liveE [] ρ' ρ = True := (rfl)
theorem liveE_one {ρ' : Env} {t : Tmp} : liveE [t] ρ' ρ = (ρ' t = ρ t) := by simp [liveE]
theorem liveE_cons {ρ' : Env} {t u : Tmp} {L : List Tmp} : liveE (t :: u :: L) ρ' ρ = (ρ' t = ρ t ∧ liveE (u :: L) ρ' ρ) := (rfl)
theorem liveE_refl : ∀ (L : List Tmp) (ρ : Env), liveE L ρ ρ
 | [], _ => trivial
 | _ :: L, ρ => ⟨rfl, liveE_refl L ρ⟩
theorem liveE_iff {ρ' : Env} : ∀ {L : List Tmp}, (∀ u, u ∈ L → ρ' u = ρ u) ↔ liveE L ρ' ρ
 | [] => by simp [liveE]
 | t :: L => by simp [liveE, liveE_iff (L := L)]
theorem awl_live' (L : List Tmp) (h : ∀ ρ' : Env, liveE L ρ' ρ → awpL P k cs Q ρ' H) : awpL P k cs Q ρ H := h ρ (liveE_refl L ρ)
theorem awpS_live (L : List Tmp) {l : List SOp} (h : ∀ ρ' : Env, liveE L ρ' ρ → awpS P K l ρ' H) : awpS P K l ρ H := h ρ (liveE_refl L ρ)
theorem grp_and {l rest : List SOp} {tc tv td : Tmp} {b v : Bool} (L : List Tmp) (hc : ρ tc = .bool b) (hd : L.contains td = false)
 (hrun : b = true → ∀ K1 : Env → Heap → Prop, (∀ ρ' : Env, ρ' tc = .bool true → ρ' tv = .bool v → liveE L ρ' ρ → K1 ρ' H) → awpS P K1 l ρ H)
 (hskip : b = false → awpS P (fun ρ' H' => H' = H ∧ ∀ u, u ∈ tc :: L → ρ' u = ρ u) l ρ H)
 (hK : ∀ ρ' : Env, ρ' td = .bool (b && v) → liveE L ρ' ρ → awpS P K rest ρ' H) :
 awpS P K (l ++ (some td, .pick (.tmp tc) (.tmp tv) (.const (.bool false)), none) :: rest) ρ H := by
 have hput : ∀ (ρ' : Env) (x : AV), liveE L ρ' ρ → liveE L (upd ρ' td x) ρ := by
  intro ρ' x h
  refine liveE_iff.1 fun u hu => ?_
  unfold upd
  rw [if_neg]
  ·exact liveE_iff.2 h u hu
  ·rintro rfl
   rw [List.contains_iff_mem.2 hu] at hd
   cases hd
 refine awpS_append l ρ H ?_
 cases b with
 | true =>
  refine hrun rfl _ fun ρ' h1 h2 h3 => ?_
  rw [awpS_op, opS_pick]
  simp only [aeval, h1, if_true, h2]
  exact hK _ (by simp [updO, upd]) (hput _ _ h3)
 | false =>
  refine awpS_mono ?_ l ρ H (hskip rfl)
  rintro ρ' H' ⟨rfl, h2⟩
  rw [awpS_op, opS_pick]
  simp only [aeval]
  rw [h2 tc (by simp), hc]
  exact hK _ (by simp [updO, upd, ofV]) (hput _ _ (liveE_iff.1 fun u hu => h2 u (by simp [hu])))
theorem grp_or {l rest : List SOp} {tc tv td : Tmp} {b v : Bool} (L : List Tmp) (hc : ρ tc = .bool b) (hd : L.contains td = false)
 (hrun : b = false → ∀ K1 : Env → Heap → Prop, (∀ ρ' : Env, ρ' tc = .bool false → ρ' tv = .bool v → liveE L ρ' ρ → K1 ρ' H) → awpS P K1 l ρ H)
 (hskip : b = true → awpS P (fun ρ' H' => H' = H ∧ ∀ u, u ∈ tc :: L → ρ' u = ρ u) l ρ H)
 (hK : ∀ ρ' : Env, ρ' td = .bool (b || v) → liveE L ρ' ρ → awpS P K rest ρ' H) :
 awpS P K (l ++ (some td, .pick (.tmp tc) (.const (.bool true)) (.tmp tv), none) :: rest) ρ H := by
 have hput : ∀ (ρ' : Env) (x : AV), liveE L ρ' ρ → liveE L (upd ρ' td x) ρ := by
  intro ρ' x h
  refine liveE_iff.1 fun u hu => ?_
  unfold upd
  rw [if_neg]
  ·exact liveE_iff.2 h u hu
  ·rintro rfl
   rw [List.contains_iff_mem.2 hu] at hd
   cases hd
 refine awpS_append l ρ H ?_
 cases b with
 | false =>
  refine hrun rfl _ fun ρ' h1 h2 h3 => ?_
  rw [awpS_op, opS_pick]
  simp only [aeval, h1, Bool.false_eq_true, if_false, h2]
  exact hK _ (by simp [updO, upd]) (hput _ _ h3)
 | true =>
  refine awpS_mono ?_ l ρ H (hskip rfl)
  rintro ρ' H' ⟨rfl, h2⟩
  rw [awpS_op, opS_pick]
  simp only [aeval]
  rw [h2 tc (by simp), hc]
  exact hK _ (by simp [updO, upd, ofV]) (hput _ _ (liveE_iff.1 fun u hu => h2 u (by simp [hu])))
theorem grp_andG {l rest : List SOp} {tc tv td : Tmp} {b v : Bool} (to : Tmp) (wo : Bool) (ho : ρ to = .bool wo) (L : List Tmp) (hto : L.contains to = true) (hc : ρ tc = .bool b) (hd : L.contains td = false)
 (hrun : b = true → ∀ K1 : Env → Heap → Prop, (∀ ρ' : Env, ρ' tc = .bool true → ρ' tv = .bool v → liveE L ρ' ρ → K1 ρ' H) → awpS P K1 l ρ H)
 (hskip : b = false → awpS P (fun ρ' H' => H' = H ∧ ∀ u, u ∈ tc :: L → ρ' u = ρ u) l ρ H)
 (hK : ∀ ρ' : Env, ρ' td = .bool (b && v) → liveE L ρ' ρ → awpS P K rest ρ' H) :
 awpS P K (l ++ (some td, .pick (.tmp tc) (.tmp tv) (.const (.bool false)), some (to, wo)) :: rest) ρ H := by
 have hput : ∀ (ρ' : Env) (x : AV), liveE L ρ' ρ → liveE L (upd ρ' td x) ρ := by
  intro ρ' x h
  refine liveE_iff.1 fun u hu => ?_
  unfold upd
  rw [if_neg]
  ·exact liveE_iff.2 h u hu
  ·rintro rfl
   rw [List.contains_iff_mem.2 hu] at hd
   cases hd
 have hto' := List.contains_iff_mem.1 hto
 refine awpS_append l ρ H ?_
 cases b with
 | true =>
  refine hrun rfl _ fun ρ' h1 h2 h3 => ?_
  rw [awpS_on ((liveE_iff.2 h3 to hto').trans ho) (beq_self_eq_true _), opS_pick]
  simp only [aeval, h1, if_true, h2]
  exact hK _ (by simp [updO, upd]) (hput _ _ h3)
 | false =>
  refine awpS_mono ?_ l ρ H (hskip rfl)
  rintro ρ' H' ⟨rfl, h2⟩
  rw [awpS_on ((h2 to (by simp [hto'])).trans ho) (beq_self_eq_true _), opS_pick]
  simp only [aeval]
  rw [h2 tc (by simp), hc]
  exact hK _ (by simp [updO, upd, ofV]) (hput _ _ (liveE_iff.1 fun u hu => h2 u (by simp [hu])))
theorem grp_orG {l rest : List SOp} {tc tv td : Tmp} {b v : Bool} (to : Tmp) (wo : Bool) (ho : ρ to = .bool wo) (L : List Tmp) (hto : L.contains to = true) (hc : ρ tc = .bool b) (hd : L.contains td = false)
 (hrun : b = false → ∀ K1 : Env → Heap → Prop, (∀ ρ' : Env, ρ' tc = .bool false → ρ' tv = .bool v → liveE L ρ' ρ → K1 ρ' H) → awpS P K1 l ρ H)
 (hskip : b = true → awpS P (fun ρ' H' => H' = H ∧ ∀ u, u ∈ tc :: L → ρ' u = ρ u) l ρ H)
 (hK : ∀ ρ' : Env, ρ' td = .bool (b || v) → liveE L ρ' ρ → awpS P K rest ρ' H) :
 awpS P K (l ++ (some td, .pick (.tmp tc) (.const (.bool true)) (.tmp tv), some (to, wo)) :: rest) ρ H := by
 have hput : ∀ (ρ' : Env) (x : AV), liveE L ρ' ρ → liveE L (upd ρ' td x) ρ := by
  intro ρ' x h
  refine liveE_iff.1 fun u hu => ?_
  unfold upd
  rw [if_neg]
  ·exact liveE_iff.2 h u hu
  ·rintro rfl
   rw [List.contains_iff_mem.2 hu] at hd
   cases hd
 have hto' := List.contains_iff_mem.1 hto
 refine awpS_append l ρ H ?_
 cases b with
 | false =>
  refine hrun rfl _ fun ρ' h1 h2 h3 => ?_
  rw [awpS_on ((liveE_iff.2 h3 to hto').trans ho) (beq_self_eq_true _), opS_pick]
  simp only [aeval, h1, Bool.false_eq_true, if_false, h2]
  exact hK _ (by simp [updO, upd]) (hput _ _ h3)
 | true =>
  refine awpS_mono ?_ l ρ H (hskip rfl)
  rintro ρ' H' ⟨rfl, h2⟩
  rw [awpS_on ((h2 to (by simp [hto'])).trans ho) (beq_self_eq_true _), opS_pick]
  simp only [aeval]
  rw [h2 tc (by simp), hc]
  exact hK _ (by simp [updO, upd, ofV]) (hput _ _ (liveE_iff.1 fun u hu => h2 u (by simp [hu])))
def skipOk (t : Tmp) (want : Bool) (L : List Tmp) : List Tmp → List SOp → Bool
 | _, [] => true
 | seen, (d, _, g) :: rest => (match g with
  | some (t', w) => (t' == t && w == want) || seen.contains t'
  | none => false) && (match d with
  | some d => !(t :: L).contains d && skipOk t want L (d :: seen) rest
  | none => skipOk t want L seen rest)
theorem awpS_skip {t : Tmp} {want b : Bool} {L : List Tmp} {ρ0 : Env} (hb : (b == want) = false) : ∀ (l : List SOp) (seen : List Tmp) (ρ : Env), ρ t = .bool b → (∀ u, u ∈ L → ρ u = ρ0 u) → (∀ u, u ∈ seen → ρ u = .tuple []) →
 skipOk t want L seen l = true → awpS P (fun ρ' H' => H' = H ∧ ∀ u, u ∈ L → ρ' u = ρ0 u) l ρ H
 | [], seen, ρ, _, h2, _, _ => ⟨rfl, h2⟩
 | (d, op, g) :: rest, seen, ρ, h1, h2, h3, h4 => by
  simp only [skipOk, Bool.and_eq_true] at h4
  obtain ⟨h5, h6⟩ := h4
  have hg : gTest ρ g = some false := by
   unfold gTest
   cases g with
   | none => cases h5
   | some x =>
    obtain ⟨t', w⟩ := x
    simp only [Bool.or_eq_true, Bool.and_eq_true, beq_iff_eq] at h5
    rcases h5 with ⟨rfl, rfl⟩ | h5
    ·simp only [h1, hb]
    ·rw [List.contains_iff_mem] at h5
     simp only [h3 t' h5]
  simp only [awpS, hg]
  cases d with
  | none => exact awpS_skip hb rest seen ρ h1 h2 h3 h6
  | some d =>
   simp only [Bool.and_eq_true, Bool.not_eq_true', List.contains_eq_mem, decide_eq_false_iff_not, List.mem_cons, not_or] at h6
   obtain ⟨⟨h7, h8⟩, h9⟩ := h6
   refine awpS_skip hb rest (d :: seen) _ ?_ ?_ ?_ h9
   ·simp only [updO, upd]
    rw [if_neg (fun e => h7 e.symm)]
    exact h1
   ·intro u hu
    simp only [updO, upd]
    rw [if_neg (by rintro rfl; exact h8 hu)]
    exact h2 u hu
   ·intro u hu
    simp only [updO, upd]
    split
    ·rfl
    ·rename_i hne
     rcases List.mem_cons.1 hu with h | h
     ·exact absurd h hne
     ·exact h3 u h
end
section
variable {P : Program} {ρ : Env} {H : Heap}
theorem upd_app {t u : Tmp} {v : AV} : upd ρ t v u = if u = t then v else ρ u := (rfl)
theorem updO_some {t : Tmp} {v : AV} : updO ρ (some t) v = upd ρ t v := (rfl)
theorem updO_none {v : AV} : updO ρ none v = ρ := (rfl)
theorem aeval_tmp {t : Tmp} : aeval ρ (.tmp t) = ρ t := (rfl)
theorem aeval_const {v : Value} : aeval ρ (.const v) = ofV v := (rfl)
theorem aeval_func {f : FuncId} : aeval ρ (.func f) = .func f [] [] := (rfl)
theorem ofV_bool {b : Bool} : ofV (.bool b) = .bool b := (rfl)
theorem ofV_int {k : IntKind} {n : Int} : ofV (.int k n) = .int k n := (rfl)
theorem ofV_str {s : ByteArray} : ofV (.string s) = .str s := (rfl)
theorem ofV_nil : ofV (.slice none 0 0) = .nilsl := (rfl)
theorem ofV_nilif : ofV .nilIface = .nilif := (rfl)
theorem app_nil : AEff.app H .nil = H := (rfl)
theorem app_new {b : Blk} : AEff.app H (.new b) = H ++ [b] := (rfl)
theorem app_set {id : Nat} {b : Blk} : AEff.app H (.set id b) = H.set id b := (rfl)
theorem app_move {id : Nat} {b : Blk} : AEff.app H (.move id b) = H.set id deadBlk ++ [b] := (rfl)
theorem gT_none : gTest ρ none = some true := (rfl)
theorem argEnv_zero {x : AV} {xs : List AV} : argEnv (x :: xs) 0 = x := (rfl)
theorem argEnv_succ {x : AV} {xs : List AV} {n : Nat} : argEnv (x :: xs) (n + 1) = argEnv xs n := (rfl)
theorem awpS_onT {K : Env → Heap → Prop} {d : Option Tmp} {op : Op} {t : Tmp} {rest : List SOp} (h : ρ t = .bool true) : awpS P K ((d, op, some (t, true)) :: rest) ρ H = opS P ρ H d op (awpS P K rest) := awpS_on h rfl
theorem awpS_onF {K : Env → Heap → Prop} {d : Option Tmp} {op : Op} {t : Tmp} {rest : List SOp} (h : ρ t = .bool false) : awpS P K ((d, op, some (t, false)) :: rest) ρ H = opS P ρ H d op (awpS P K rest) := awpS_on h rfl
theorem bor_bool {Hb : Heap} {inv : Nat → Option Nat} {n : Nat} {b : Bool} : bor Hb inv (n + 1) (.bool b) = .bool b := (rfl)
theorem bor_int {Hb : Heap} {inv : Nat → Option Nat} {n : Nat} {k : IntKind} {i : Int} : bor Hb inv (n + 1) (.int k i) = .int k i := (rfl)
theorem bor_str {Hb : Heap} {inv : Nat → Option Nat} {n : Nat} {s : ByteArray} : bor Hb inv (n + 1) (.str s) = .str s := (rfl)
theorem bor_agg {Hb : Heap} {inv : Nat → Option Nat} {n : Nat} {cs : List AV} : bor Hb inv (n + 1) (.agg cs) = .agg (cs.map (bor Hb inv n)) := (rfl)
theorem bor_tuple {Hb : Heap} {inv : Nat → Option Nat} {n : Nat} {cs : List AV} : bor Hb inv (n + 1) (.tuple cs) = .tuple (cs.map (bor Hb inv n)) := (rfl)
theorem bor_sl {Hb : Heap} {inv : Nat → Option Nat} {n l c : Nat} {cs : List AV} : bor Hb inv (n + 1) (.sl l c cs) = .sl l c (cs.map (bor Hb inv n)) := (rfl)
theorem bor_nnsl {Hb : Heap} {inv : Nat → Option Nat} {n l c : Nat} {cs : List AV} : bor Hb inv (n + 1) (.nnsl l c cs) = .nnsl l c (cs.map (bor Hb inv n)) := (rfl)
theorem bor_sptr {Hb : Heap} {inv : Nat → Option Nat} {n : Nat} {cs : List AV} : bor Hb inv (n + 1) (.sptr cs) = .sptr (cs.map (bor Hb inv n)) := (rfl)
theorem bor_nilsl {Hb : Heap} {inv : Nat → Option Nat} {n : Nat} : bor Hb inv (n + 1) .nilsl = .nilsl := (rfl)
theorem bor_esl {Hb : Heap} {inv : Nat → Option Nat} {n : Nat} : bor Hb inv (n + 1) .esl = .esl := (rfl)
theorem bor_nilif {Hb : Heap} {inv : Nat → Option Nat} {n : Nat} : bor Hb inv (n + 1) .nilif = .nilif := (rfl)
theorem bor_someif {Hb : Heap} {inv : Nat → Option Nat} {n : Nat} : bor Hb inv (n + 1) .someif = .someif := (rfl)
theorem bor_func {Hb : Heap} {inv : Nat → Option Nat} {n : Nat} {f : FuncId} {a b : List AV} : bor Hb inv (n + 1) (.func f a b) = .func f (a.map (bor Hb inv n)) (b.map (bor Hb inv n)) := (rfl)
theorem bor_slice {Hb : Heap} {inv : Nat → Option Nat} {n id off len cap : Nat} : bor Hb inv (n + 1) (.slice id off len cap) = match inv id with
 | some j => .slice j off len cap
 | none => match Hb[id]? with
  | some b => if b.live = true then .sl len len (((b.cells.drop off).take (len * b.sz)).map (bor Hb inv n)) else .any
  | none => .any := rfl
theorem bor_ptr {Hb : Heap} {inv : Nat → Option Nat} {n id off : Nat} : bor Hb inv (n + 1) (.ptr id off) = match inv id with
 | some j => .ptr j off
 | none => match Hb[id]? with
  | some b => if b.live = true then .sptr ((b.cells.drop off).map (bor Hb inv n)) else .any
  | none => .any := rfl
theorem fuel_eq : fuel = 5 + 1 := (rfl)
theorem idx_nil {id : Nat} : idx [] id = none := (rfl)
theorem idx_cons {x id : Nat} {m : List Nat} : idx (x :: m) id = if x = id then some 0 else (idx m id).map (· + 1) := by
 unfold idx
 rw [List.idxOf?_cons]
 by_cases h : x = id <;> simp [h]
theorem aResult_one {v : AV} : aResult [v] = v := (rfl)
theorem cnd : (∀ (p : Prop) [Decidable p], (decide p = true) = p) ∧ (∀ (p : Prop) [Decidable p], (decide p = false) = ¬ p) ∧ (∀ b : Bool, ((!b) = true) = (b = false)) ∧ (∀ b : Bool, ((!b) = false) = (b = true)) ∧
 (∀ a b : Bool, ((a && b) = true) = (a = true ∧ b = true)) ∧ (∀ a b : Bool, ((a || b) = true) = (a = true ∨ b = true)) ∧ (∀ a b : Bool, ((a && b) = false) = (a = false ∨ b = false)) ∧ (∀ a b : Bool, ((a || b) = false) = (a = false ∧ b = false)) := by
 refine ⟨fun p _ => by simp, fun p _ => by simp, by decide, by decide, by decide, by decide, by decide, by decide⟩
theorem ret0 {rs : List ResultVar} {vs : List AV} {v : AV} (h1 : aRes P H ρ rs = some vs) (hv : bor [] (idx []) fuel (aResult vs) = v) : retQ P rs 0 (fun v' h'' => v' = v ∧ h'' = []) .ret ρ H :=
 ret_mk [] vs h1 (by simp) (Nat.zero_le _) (by simp) ⟨hv, rfl⟩
theorem gcH_nil : gcH [] H = [] := (rfl)
end
attribute [go_sem] argEnv_zero argEnv_succ upd_app updO_some updO_none aeval_tmp aeval_const aeval_func ofV_bool ofV_int ofV_str ofV_nil ofV_nilif app_nil app_new app_set app_move awpS_onT awpS_onF
 bor_bool bor_int bor_str bor_agg bor_tuple bor_sl bor_nnsl bor_sptr bor_nilsl bor_esl bor_nilif bor_someif bor_func bor_slice bor_ptr fuel_eq idx_nil idx_cons aResult_one gcH_nil
 awpS_nil awpS_op opS_move opS_assign opS_pick opS_load opS_store opS_un opS_bin opS_fieldAddr opS_field opS_indexAddr opS_index opS_slice opS_extract opS_nilCheck opS_alloc opS_box opS_build opS_buildSlice opS_makeSlice opS_makeFunc opS_builtin
 oV_some oV_none oV_ite oV_map oV_bind
 aMake aAppend aAppMake aCopy aClear aload aLoad aStore aFieldAddr aField aIndexAddr aIndex aBound aSlice aInt aBin aUn aCells aLen aCap aBuiltin aEq gOk isC aRes AV.cells?
 sh shL mmap noS noSL shB aRow aFill
 List.map_nil List.map_cons List.append_nil List.nil_append List.cons_append List.length_nil List.length_cons List.getElem?_cons_zero List.getElem?_cons_succ List.drop_zero List.drop_succ_cons List.take_zero List.take_succ_cons
 List.head?_cons List.getElem?_nil Option.map_some Option.map_none Option.bind_some Option.bind_none List.all_cons List.all_nil List.set_cons_zero List.set_cons_succ List.getD_cons_zero List.getD_cons_succ
 Bool.and_true Bool.true_and Bool.and_false Bool.false_and Bool.or_true Bool.true_or Bool.or_false Bool.false_or Bool.not_true Bool.not_false and_true true_and beq_self_eq_true Bool.false_eq_true
 ne_eq not_true_eq_false or_false false_or Nat.le_refl
 Int.toNat_natCast Nat.zero_add Nat.add_zero Nat.mul_one Nat.one_mul Nat.zero_mul
 liveE_nil liveE_one liveE_cons
def opW (f : Operand → AV) : Op → List Nat
 | .store _ a _ => (f a).ids
 | .convert s d x => if s = d ∧ (f x).isSl = true then (f x).ids else []
 | .call c => match c.callee, c.args.toList with
  | .builtin .append, x :: _ => (f x).ids
  | .builtin .copy, x :: _ => (f x).ids
  | .builtin .clear, x :: _ => (f x).ids
  | _, _ => []
 | _ => []
section
variable {P : Program} {k : Nat} {Q : Exit → Env → Heap → Prop} {ρ : Env} {H : Heap} {cs : List Code} {K : Env → Heap → Prop} {C : Env → Heap → Prop} {d : Option Tmp}
theorem opW_of {f : Operand → AV} {op : Op} {x : AV} {e : AEff} (h : aop P f H op = some (x, e)) : e.wr = opW f op := by
 have map : ∀ {o : Option AV}, (o.map fun v => (v, AEff.nil)) = some (x, e) → e.wr = [] := by
  intro o h
  obtain ⟨_, _, h2⟩ := Option.map_eq_some_iff.1 h
  obtain ⟨_, rfl⟩ := Prod.mk.inj h2
  rfl
 cases op with
 | store t y z =>
  simp only [aop] at h
  obtain ⟨e', h1, h2⟩ := Option.map_eq_some_iff.1 h
  obtain ⟨_, rfl⟩ := Prod.mk.inj h2
  unfold aStore at h1
  split at h1
  case h_2 => cases h1
  rename_i id off hy
  split at h1
  case h_2 => cases h1
  split at h1
  case isFalse => cases h1
  obtain rfl := Option.some.inj h1
  simp only [opW, hy, AV.ids, AEff.wr]
 | makeSlice t l c => simpa [opW] using aMake_wr h
 | call c =>
  obtain ⟨callee, xs, ts⟩ := c
  simp only [aop] at h
  split at h
  ·unfold aBuiltin at h
   split at h
   ·split at h
    ·simpa [opW] using map h
    ·cases h
   ·split at h
    ·simpa [opW] using map h
    ·cases h
   ·split at h
    ·rename_i s x' t t' hxs hts
     have hs : ∃ y rest, xs.toList = y :: rest ∧ f y = s := by
      cases hx : xs.toList with
      | nil => simp [hx] at hxs
      | cons y rest => simp [hx] at hxs; exact ⟨y, rest, rfl, hxs.1⟩
     obtain ⟨y, rest, h1, h2⟩ := hs
     simp only [opW, h1, h2]
     split at h
     case isFalse =>
      unfold aAppMake at h
      split at h
      case h_2 => cases h
      split at h
      case h_2 => cases h
      split at h
      case h_2 => cases h
      split at h
      case isFalse => cases h
      obtain ⟨_, rfl⟩ := Prod.mk.inj (Option.some.inj h)
      rfl
     unfold aAppend at h
     split at h
     ·cases h
     split at h
     case h_2 => cases h
     split at h
     ·cases h
     split at h
     ·cases h
     split at h
     ·split at h
      ·obtain ⟨_, rfl⟩ := Prod.mk.inj (Option.some.inj h)
       rfl
      ·cases h
     ·split at h
      ·obtain ⟨_, rfl⟩ := Prod.mk.inj (Option.some.inj h)
       rfl
      ·cases h
     ·split at h
      ·cases h
      split at h
      case isFalse => cases h
      split at h
      ·obtain ⟨_, rfl⟩ := Prod.mk.inj (Option.some.inj h)
       rfl
      ·obtain ⟨_, rfl⟩ := Prod.mk.inj (Option.some.inj h)
       rfl
     ·cases h
    ·cases h
   ·split at h
    ·rename_i s x' t t' hxs hts
     have hs : ∃ y rest, xs.toList = y :: rest ∧ f y = s := by
      cases hx : xs.toList with
      | nil => simp [hx] at hxs
      | cons y rest => simp [hx] at hxs; exact ⟨y, rest, rfl, hxs.1⟩
     obtain ⟨y, rest, h1, h2⟩ := hs
     simp only [opW, h1, h2]
     unfold aCopy at h
     split at h
     ·cases h
     split at h
     case h_2 => cases h
     split at h
     ·cases h
     split at h
     ·cases h
     split at h
     case h_2 => cases h
     try simp only at h
     split at h
     ·cases h
     split at h
     case isFalse => cases h
     obtain ⟨_, rfl⟩ := Prod.mk.inj (Option.some.inj h)
     rfl
    ·cases h
   ·split at h
    ·rename_i s t hxs hts
     have hs : ∃ y rest, xs.toList = y :: rest ∧ f y = s := by
      cases hx : xs.toList with
      | nil => simp [hx] at hxs
      | cons y rest => simp [hx] at hxs; exact ⟨y, rest, rfl, hxs.1⟩
     obtain ⟨y, rest, h1, h2⟩ := hs
     simp only [opW, h1, h2]
     obtain ⟨e', h3, h4⟩ := Option.map_eq_some_iff.1 h
     obtain ⟨_, rfl⟩ := Prod.mk.inj h4
     unfold aClear at h3
     split at h3
     ·cases h3
     split at h3
     case h_2 => cases h3
     split at h3
     ·cases h3
     split at h3
     case h_2 => cases h3
     try simp only at h3
     split at h3
     ·cases h3
     split at h3
     case isFalse => cases h3
     obtain rfl := Option.some.inj h3
     rfl
    ·cases h
   ·split at h
    ·split at h
     ·obtain ⟨_, rfl⟩ := Prod.mk.inj (Option.some.inj h)
      rfl
     ·cases h
    ·cases h
   ·split at h
    ·split at h
     ·obtain ⟨_, rfl⟩ := Prod.mk.inj (Option.some.inj h)
      rfl
     ·cases h
    ·cases h
   ·cases h
  ·cases h
 | makeFunc g first cap =>
  cases g <;> simp only [aop, Option.some.injEq, Prod.mk.injEq, reduceCtorEq] at h
  obtain ⟨_, rfl⟩ := h
  rfl
 | load t y => exact map h
 | unOp o t y => exact map h
 | slice t y lo hi mx => exact map h
 | fieldAddr s y f => exact map h
 | field s y f => exact map h
 | indexAddr t y i => exact map h
 | index t y i => exact map h
 | binOp o t y z t' =>
  simp only [aop] at h
  split at h
  ·exact map h
  ·cases h
 | extract y i =>
  simp only [aop] at h
  split at h
  ·exact map h
  ·cases h
 | move y =>
  simp only [aop, Option.some.injEq, Prod.mk.injEq] at h
  obtain ⟨_, rfl⟩ := h
  rfl
 | assign y =>
  simp only [aop, Option.some.injEq, Prod.mk.injEq] at h
  obtain ⟨_, rfl⟩ := h
  rfl
 | pick c y z =>
  simp only [aop] at h
  split at h
  ·obtain ⟨_, rfl⟩ := Prod.mk.inj (Option.some.inj h)
   rfl
  ·cases h
 | nilCheck y =>
  simp only [aop] at h
  split at h
  ·obtain ⟨_, rfl⟩ := Prod.mk.inj (Option.some.inj h)
   rfl
  ·obtain ⟨_, rfl⟩ := Prod.mk.inj (Option.some.inj h)
   rfl
  ·cases h
 | alloc t =>
  simp only [aop] at h
  split at h
  ·split at h
   ·obtain ⟨_, rfl⟩ := Prod.mk.inj (Option.some.inj h)
    rfl
   ·cases h
  ·cases h
 | box t y =>
  simp only [aop] at h
  split at h
  ·obtain ⟨_, rfl⟩ := Prod.mk.inj (Option.some.inj h)
   rfl
  ·cases h
 | build t ps =>
  simp only [aop] at h
  split at h
  ·split at h
   ·obtain ⟨_, rfl⟩ := Prod.mk.inj (Option.some.inj h)
    rfl
   ·cases h
  ·cases h
 | buildSlice t m ps =>
  simp only [aop] at h
  split at h
  ·split at h
   ·obtain ⟨_, rfl⟩ := Prod.mk.inj (Option.some.inj h)
    rfl
   ·split at h
    ·split at h
     ·obtain ⟨_, rfl⟩ := Prod.mk.inj (Option.some.inj h)
      rfl
     ·cases h
    ·cases h
  ·cases h
 | convert s d y =>
  simp only [aop] at h
  split at h
  ·rename_i hsd
   simp only [opW]
   rw [if_pos hsd]
   unfold aSelf at h
   split at h
   case h_2 => cases h
   rename_i hy
   split at h
   case h_2 => cases h
   split at h
   case isFalse => cases h
   obtain ⟨_, rfl⟩ := Prod.mk.inj (Option.some.inj h)
   rw [hy]
   rfl
  rename_i hsd
  simp only [opW]
  rw [if_neg hsd]
  split at h
  ·split at h
   ·obtain ⟨_, rfl⟩ := Prod.mk.inj (Option.some.inj h)
    rfl
   ·cases h
  ·split at h
   ·split at h
    ·obtain ⟨_, rfl⟩ := Prod.mk.inj (Option.some.inj h)
     rfl
    ·cases h
   ·cases h
  ·split at h
   ·split at h
    ·obtain ⟨_, rfl⟩ := Prod.mk.inj (Option.some.inj h)
     rfl
    ·cases h
   ·cases h
 | _ => simp [aop] at h
def awpDS (P : Program) (ops : Array Oper) (K : Env → Heap → Prop) : List SOp → List Foot → Env → Heap → Prop
 | [], acc, ρ, H => (∃ A, dOk ops acc.reverse A = true) ∧ K ρ H
 | (d, op, g) :: rest, acc, ρ, H => match gTest ρ g with
  | none => False
  | some false => awpDS P ops K rest (⟨H.length, H.length, [], []⟩ :: acc) (updO ρ d (.tuple [])) H
  | some true => match goCall op with
   | some (f, args) => match aeval ρ f with
    | .func g first cap => ∃ m v h' Hb, CallOk P g (first ++ args.map (aeval ρ) ++ cap) H m v h' Hb ∧ awpDS P ops K rest (⟨H.length, (back H m h').length, m, m ++ liveIds Hb⟩ :: acc) (updO ρ d (sh (mmap m H.length) v)) (back H m h')
    | _ => False
   | none => opS P ρ H d op fun ρ' H' => awpDS P ops K rest (⟨H.length, H'.length, opW (aeval ρ) op, (afoot (aeval ρ) op ++ opW (aeval ρ) op).filter (· < H.length)⟩ :: acc) ρ' H'
def dK (P : Program) (ops : Array Oper) (K : Env → Heap → Prop) (rest : List SOp) (n0 : Nat) (W R : List Nat) (acc : List Foot) (ρ : Env) (H : Heap) : Prop :=
 awpDS P ops K rest (⟨n0, H.length, W, R⟩ :: acc) ρ H
def withV {α : Type} (x : α) (K : α → Prop) : Prop := K x
theorem withV_eq {α : Type} {x : α} {K : α → Prop} : withV x K = K x := (rfl)
theorem withV_congr {α : Type} {x y : α} {K : α → Prop} (h : x = y) : withV x K = withV y K := by rw [h]
theorem awpDS_of {ops : Array Oper} : ∀ (os : List Oper) (l : List SOp) (acc : List Foot) (ρ : Env) (H : Heap), stripL ops os = some l → awpDS P ops K l acc ρ H → awpD P ops K os acc ρ H
 | [], l, acc, ρ, H, hl, h => by
  obtain rfl := Option.some.inj hl
  exact h
 | o :: os, l, acc, ρ, H, hl, h => by
  simp only [stripL] at hl
  split at hl
  ·rename_i g l' hg hl'
   obtain rfl := Option.some.inj hl
   simp only [awpDS] at h
   simp only [awpD]
   rw [gTest_of hg]
   split at h
   ·exact h.elim
   ·rename_i hb
    rw [hb]
    exact awpDS_of os l' _ _ _ hl' h
   ·rename_i hb
    rw [hb]
    simp only
    split at h
    ·rename_i f args hc
     rw [hc]
     simp only
     split at h
     ·rename_i hf
      rw [hf]
      obtain ⟨m, v, h', Hb, hC, hk⟩ := h
      exact ⟨m, v, h', Hb, hC, awpDS_of os l' _ _ _ hl' hk⟩
     ·exact h.elim
    ·rename_i hc
     unfold opS at h
     rw [hc] at h ⊢
     simp only at h ⊢
     split at h
     ·rename_i x e hx
      rw [hx]
      simp only
      rw [opW_of hx]
      exact awpDS_of os l' _ _ _ hl' h
     ·exact h.elim
  ·cases hl
theorem awl_regD {id : Nat} {ops : Array Oper} (hm : P.follows .mixedOrders = true) (l : List SOp) (hl : stripL ops ops.toList = some l) (h : ∀ K : Env → Heap → Prop, (∀ ρ H, wkQ k (awpL P k cs Q) ρ H → K ρ H) → awpDS P ops K l [] ρ H) : awpL P k (.region id ops true :: cs) Q ρ H :=
 awl_regDraw hm fun K hK => awpDS_of _ l [] ρ H hl (h K hK)
theorem awpDS_op {ops : Array Oper} {op : Op} {rest : List SOp} {acc : List Foot} (hc : goCall op = none) : awpDS P ops K ((d, op, none) :: rest) acc ρ H = withV H.length fun n0 => withV (opW (aeval ρ) op) fun W => withV ((afoot (aeval ρ) op ++ opW (aeval ρ) op).filter (· < H.length)) fun R => opS P ρ H d op (dK P ops K rest n0 W R acc) := by
 simp only [awpDS, gT_none, hc]
 rfl
theorem dK_app {ops : Array Oper} {rest : List SOp} {n0 : Nat} {W R : List Nat} {acc : List Foot} : dK P ops K rest n0 W R acc ρ H = awpDS P ops K rest (⟨n0, H.length, W, R⟩ :: acc) ρ H := (rfl)
theorem dS_call_ro {ops : Array Oper} {rest : List SOp} {acc : List Foot} {f : Operand} {xs : Array Operand} {ts : Array TypeId} {g : FuncId} {first cap args' : List AV} {v : AV} {h' : Heap} (hf : aeval ρ f = .func g first cap) (hS : Sat P g args' [] v h')
 (ha : (first ++ xs.toList.map (aeval ρ) ++ cap).map (bor H (idx []) fuel) = args') (hv : noS v = true) (hh : (h'.all fun b => noSL b.cells) = true)
 (hK : awpDS P ops K rest (⟨H.length, H.length + h'.length, [], liveIds H⟩ :: acc) (updO ρ d (sh (mmap [] H.length) v)) (H ++ h'.map (shB (mmap [] H.length)))) : awpDS P ops K ((d, .call ⟨.value f, xs, ts⟩, none) :: rest) acc ρ H := by
 subst ha
 simp only [awpDS, gT_none, goCall, hf]
 have hb : back H [] h' = H ++ h'.map (shB (mmap [] H.length)) := by
  unfold back
  rw [show (setAll (mmap [] H.length) H [] h') = H by cases h' <;> rfl]
  simp
 refine ⟨[], v, h', H, ⟨List.nodup_nil, by simp, hS, Or.inl ⟨fun _ _ h _ => h, hv, ?_⟩⟩, ?_⟩
 ·simpa [List.all_eq_true] using hh
 ·rw [hb]
  simpa using hK
theorem awpDS_move {ops : Array Oper} {rest : List SOp} {acc : List Foot} {x : Operand} : awpDS P ops K ((d, (.move x), none) :: rest) acc ρ H = withV H.length fun n0 => withV (opW (aeval ρ) (.move x)) fun W => withV ((afoot (aeval ρ) (.move x) ++ opW (aeval ρ) (.move x)).filter (· < H.length)) fun R => opS P ρ H d (.move x) (dK P ops K rest n0 W R acc) := awpDS_op rfl
theorem awpDS_assign {ops : Array Oper} {rest : List SOp} {acc : List Foot} {x : Operand} : awpDS P ops K ((d, (.assign x), none) :: rest) acc ρ H = withV H.length fun n0 => withV (opW (aeval ρ) (.assign x)) fun W => withV ((afoot (aeval ρ) (.assign x) ++ opW (aeval ρ) (.assign x)).filter (· < H.length)) fun R => opS P ρ H d (.assign x) (dK P ops K rest n0 W R acc) := awpDS_op rfl
theorem awpDS_pick {ops : Array Oper} {rest : List SOp} {acc : List Foot} {c x y : Operand} : awpDS P ops K ((d, (.pick c x y), none) :: rest) acc ρ H = withV H.length fun n0 => withV (opW (aeval ρ) (.pick c x y)) fun W => withV ((afoot (aeval ρ) (.pick c x y) ++ opW (aeval ρ) (.pick c x y)).filter (· < H.length)) fun R => opS P ρ H d (.pick c x y) (dK P ops K rest n0 W R acc) := awpDS_op rfl
theorem awpDS_load {ops : Array Oper} {rest : List SOp} {acc : List Foot} {t : TypeId} {x : Operand} : awpDS P ops K ((d, (.load t x), none) :: rest) acc ρ H = withV H.length fun n0 => withV (opW (aeval ρ) (.load t x)) fun W => withV ((afoot (aeval ρ) (.load t x) ++ opW (aeval ρ) (.load t x)).filter (· < H.length)) fun R => opS P ρ H d (.load t x) (dK P ops K rest n0 W R acc) := awpDS_op rfl
theorem awpDS_store {ops : Array Oper} {rest : List SOp} {acc : List Foot} {t : TypeId} {x y : Operand} : awpDS P ops K ((d, (.store t x y), none) :: rest) acc ρ H = withV H.length fun n0 => withV (opW (aeval ρ) (.store t x y)) fun W => withV ((afoot (aeval ρ) (.store t x y) ++ opW (aeval ρ) (.store t x y)).filter (· < H.length)) fun R => opS P ρ H d (.store t x y) (dK P ops K rest n0 W R acc) := awpDS_op rfl
theorem awpDS_un {ops : Array Oper} {rest : List SOp} {acc : List Foot} {o : UnOp} {t : TypeId} {x : Operand} : awpDS P ops K ((d, (.unOp o t x), none) :: rest) acc ρ H = withV H.length fun n0 => withV (opW (aeval ρ) (.unOp o t x)) fun W => withV ((afoot (aeval ρ) (.unOp o t x) ++ opW (aeval ρ) (.unOp o t x)).filter (· < H.length)) fun R => opS P ρ H d (.unOp o t x) (dK P ops K rest n0 W R acc) := awpDS_op rfl
theorem awpDS_bin {ops : Array Oper} {rest : List SOp} {acc : List Foot} {o : BinOp} {t t2 : TypeId} {x y : Operand} : awpDS P ops K ((d, (.binOp o t x y t2), none) :: rest) acc ρ H = withV H.length fun n0 => withV (opW (aeval ρ) (.binOp o t x y t2)) fun W => withV ((afoot (aeval ρ) (.binOp o t x y t2) ++ opW (aeval ρ) (.binOp o t x y t2)).filter (· < H.length)) fun R => opS P ρ H d (.binOp o t x y t2) (dK P ops K rest n0 W R acc) := awpDS_op rfl
theorem awpDS_fieldAddr {ops : Array Oper} {rest : List SOp} {acc : List Foot} {s f : Nat} {x : Operand} : awpDS P ops K ((d, (.fieldAddr s x f), none) :: rest) acc ρ H = withV H.length fun n0 => withV (opW (aeval ρ) (.fieldAddr s x f)) fun W => withV ((afoot (aeval ρ) (.fieldAddr s x f) ++ opW (aeval ρ) (.fieldAddr s x f)).filter (· < H.length)) fun R => opS P ρ H d (.fieldAddr s x f) (dK P ops K rest n0 W R acc) := awpDS_op rfl
theorem awpDS_field {ops : Array Oper} {rest : List SOp} {acc : List Foot} {s f : Nat} {x : Operand} : awpDS P ops K ((d, (.field s x f), none) :: rest) acc ρ H = withV H.length fun n0 => withV (opW (aeval ρ) (.field s x f)) fun W => withV ((afoot (aeval ρ) (.field s x f) ++ opW (aeval ρ) (.field s x f)).filter (· < H.length)) fun R => opS P ρ H d (.field s x f) (dK P ops K rest n0 W R acc) := awpDS_op rfl
theorem awpDS_indexAddr {ops : Array Oper} {rest : List SOp} {acc : List Foot} {t : TypeId} {x y : Operand} : awpDS P ops K ((d, (.indexAddr t x y), none) :: rest) acc ρ H = withV H.length fun n0 => withV (opW (aeval ρ) (.indexAddr t x y)) fun W => withV ((afoot (aeval ρ) (.indexAddr t x y) ++ opW (aeval ρ) (.indexAddr t x y)).filter (· < H.length)) fun R => opS P ρ H d (.indexAddr t x y) (dK P ops K rest n0 W R acc) := awpDS_op rfl
theorem awpDS_index {ops : Array Oper} {rest : List SOp} {acc : List Foot} {t : TypeId} {x y : Operand} : awpDS P ops K ((d, (.index t x y), none) :: rest) acc ρ H = withV H.length fun n0 => withV (opW (aeval ρ) (.index t x y)) fun W => withV ((afoot (aeval ρ) (.index t x y) ++ opW (aeval ρ) (.index t x y)).filter (· < H.length)) fun R => opS P ρ H d (.index t x y) (dK P ops K rest n0 W R acc) := awpDS_op rfl
theorem awpDS_slice {ops : Array Oper} {rest : List SOp} {acc : List Foot} {t : TypeId} {x : Operand} {l h m : Option Operand} : awpDS P ops K ((d, (.slice t x l h m), none) :: rest) acc ρ H = withV H.length fun n0 => withV (opW (aeval ρ) (.slice t x l h m)) fun W => withV ((afoot (aeval ρ) (.slice t x l h m) ++ opW (aeval ρ) (.slice t x l h m)).filter (· < H.length)) fun R => opS P ρ H d (.slice t x l h m) (dK P ops K rest n0 W R acc) := awpDS_op rfl
theorem awpDS_extract {ops : Array Oper} {rest : List SOp} {acc : List Foot} {x : Operand} {i : Nat} : awpDS P ops K ((d, (.extract x i), none) :: rest) acc ρ H = withV H.length fun n0 => withV (opW (aeval ρ) (.extract x i)) fun W => withV ((afoot (aeval ρ) (.extract x i) ++ opW (aeval ρ) (.extract x i)).filter (· < H.length)) fun R => opS P ρ H d (.extract x i) (dK P ops K rest n0 W R acc) := awpDS_op rfl
theorem awpDS_nilCheck {ops : Array Oper} {rest : List SOp} {acc : List Foot} {x : Operand} : awpDS P ops K ((d, (.nilCheck x), none) :: rest) acc ρ H = withV H.length fun n0 => withV (opW (aeval ρ) (.nilCheck x)) fun W => withV ((afoot (aeval ρ) (.nilCheck x) ++ opW (aeval ρ) (.nilCheck x)).filter (· < H.length)) fun R => opS P ρ H d (.nilCheck x) (dK P ops K rest n0 W R acc) := awpDS_op rfl
theorem awpDS_alloc {ops : Array Oper} {rest : List SOp} {acc : List Foot} {t : TypeId} : awpDS P ops K ((d, (.alloc t), none) :: rest) acc ρ H = withV H.length fun n0 => withV (opW (aeval ρ) (.alloc t)) fun W => withV ((afoot (aeval ρ) (.alloc t) ++ opW (aeval ρ) (.alloc t)).filter (· < H.length)) fun R => opS P ρ H d (.alloc t) (dK P ops K rest n0 W R acc) := awpDS_op rfl
theorem awpDS_box {ops : Array Oper} {rest : List SOp} {acc : List Foot} {t : TypeId} {x : Operand} : awpDS P ops K ((d, (.box t x), none) :: rest) acc ρ H = withV H.length fun n0 => withV (opW (aeval ρ) (.box t x)) fun W => withV ((afoot (aeval ρ) (.box t x) ++ opW (aeval ρ) (.box t x)).filter (· < H.length)) fun R => opS P ρ H d (.box t x) (dK P ops K rest n0 W R acc) := awpDS_op rfl
theorem awpDS_build {ops : Array Oper} {rest : List SOp} {acc : List Foot} {t : TypeId} {ps : Array (Nat × Operand)} : awpDS P ops K ((d, (.build t ps), none) :: rest) acc ρ H = withV H.length fun n0 => withV (opW (aeval ρ) (.build t ps)) fun W => withV ((afoot (aeval ρ) (.build t ps) ++ opW (aeval ρ) (.build t ps)).filter (· < H.length)) fun R => opS P ρ H d (.build t ps) (dK P ops K rest n0 W R acc) := awpDS_op rfl
theorem awpDS_buildSlice {ops : Array Oper} {rest : List SOp} {acc : List Foot} {t : TypeId} {n : Nat} {ps : Array (Nat × Operand)} : awpDS P ops K ((d, (.buildSlice t n ps), none) :: rest) acc ρ H = withV H.length fun n0 => withV (opW (aeval ρ) (.buildSlice t n ps)) fun W => withV ((afoot (aeval ρ) (.buildSlice t n ps) ++ opW (aeval ρ) (.buildSlice t n ps)).filter (· < H.length)) fun R => opS P ρ H d (.buildSlice t n ps) (dK P ops K rest n0 W R acc) := awpDS_op rfl
theorem awpDS_convert {ops : Array Oper} {rest : List SOp} {acc : List Foot} {s t : TypeId} {x : Operand} : awpDS P ops K ((d, (.convert s t x), none) :: rest) acc ρ H = withV H.length fun n0 => withV (opW (aeval ρ) (.convert s t x)) fun W => withV ((afoot (aeval ρ) (.convert s t x) ++ opW (aeval ρ) (.convert s t x)).filter (· < H.length)) fun R => opS P ρ H d (.convert s t x) (dK P ops K rest n0 W R acc) := awpDS_op rfl
theorem awpDS_makeSlice {ops : Array Oper} {rest : List SOp} {acc : List Foot} {t : TypeId} {x y : Operand} : awpDS P ops K ((d, (.makeSlice t x y), none) :: rest) acc ρ H = withV H.length fun n0 => withV (opW (aeval ρ) (.makeSlice t x y)) fun W => withV ((afoot (aeval ρ) (.makeSlice t x y) ++ opW (aeval ρ) (.makeSlice t x y)).filter (· < H.length)) fun R => opS P ρ H d (.makeSlice t x y) (dK P ops K rest n0 W R acc) := awpDS_op rfl
theorem awpDS_builtin {ops : Array Oper} {rest : List SOp} {acc : List Foot} {b : Builtin} {xs : Array Operand} {ts : Array TypeId} : awpDS P ops K ((d, (.call ⟨.builtin b, xs, ts⟩), none) :: rest) acc ρ H = withV H.length fun n0 => withV (opW (aeval ρ) (.call ⟨.builtin b, xs, ts⟩)) fun W => withV ((afoot (aeval ρ) (.call ⟨.builtin b, xs, ts⟩) ++ opW (aeval ρ) (.call ⟨.builtin b, xs, ts⟩)).filter (· < H.length)) fun R => opS P ρ H d (.call ⟨.builtin b, xs, ts⟩) (dK P ops K rest n0 W R acc) := awpDS_op rfl
theorem awpDS_nil {ops : Array Oper} {acc : List Foot} : awpDS P ops K [] acc ρ H = ((∃ A, dOk ops acc.reverse A = true) ∧ K ρ H) := (rfl)
theorem putAt_succ {x : AV} {l cs : List AV} {i : Nat} : putAt (x :: l) (i + 1) cs = x :: putAt l i cs := by
 unfold putAt
 rw [Nat.add_right_comm]
 rfl
theorem putAt_zero {x y : AV} {l cs : List AV} : putAt (x :: l) 0 (y :: cs) = y :: putAt l 0 cs := by
 simp [putAt]
theorem putAt_done {l : List AV} : putAt l 0 [] = l := by simp [putAt]
theorem setAll_cons {mm : Nat → Nat} {id : Nat} {m : List Nat} {b : Blk} {hs : Heap} : setAll mm H (id :: m) (b :: hs) = setAll mm (H.set id (shB mm b)) m hs := (rfl)
theorem setAll_nil {mm : Nat → Nat} {hs : Heap} : setAll mm H [] hs = H := by cases hs <;> rfl
theorem back_eq {m : List Nat} {h' : Heap} : back H m h' = setAll (mmap m H.length) H m h' ++ (h'.drop m.length).map (shB (mmap m H.length)) := (rfl)
theorem opS_call_in {f : Operand} {xs : Array Operand} {ts : Array TypeId} {g : FuncId} {first cap args' : List AV} {hs : Heap} {v : AV} {h' : Heap} (m : List Nat) (hf : aeval ρ f = .func g first cap) (hS : Sat P g args' hs v h')
 (ha : (first ++ xs.toList.map (aeval ρ) ++ cap).map (bor H (idx m) fuel) = args') (hb : (m.map fun id => borB H (idx m) fuel (H.getD id deadBlk)) = hs) (hv : noS v = true) (hh : (h'.all fun b => noSL b.cells) = true)
 (hm : m.Nodup) (hl : (m.all fun id => match H[id]? with | some b => b.live | none => false) = true)
 (hK : C (updO ρ d (sh (mmap m H.length) v)) (back H m h')) : opS P ρ H d (.call ⟨.value f, xs, ts⟩) C := by
 subst ha hb
 refine opS_call hf rfl m (h' := h') (Hb := H) ⟨hm, fun id hid => ?_, hS, Or.inl ⟨fun _ _ h _ => h, hv, ?_⟩⟩ hK
 ·have := List.all_eq_true.1 hl id hid
  split at this
  ·rename_i b hb
   exact ⟨b, hb, this⟩
  ·cases this
 ·simpa [List.all_eq_true] using hh
theorem retK {rs : List ResultVar} {vs : List AV} {v : AV} {h' : Heap} (keep m : List Nat) (hm : List.range k ++ keep = m) (h1 : aRes P H ρ rs = some vs) (h2 : m.Nodup) (h3 : Nat.ble k H.length = true) (h4 : (keep.all fun id => match H[id]? with | some b => b.live | none => false) = true)
 (hv : bor [] (idx m) fuel (aResult vs) = v) (hh : gcH m H = h') : retQ P rs k (fun v' h'' => v' = v ∧ h'' = h') .ret ρ H := by
 subst hm
 refine ret_mk keep vs h1 h2 (Nat.le_of_ble_eq_true h3) (fun id hid => ?_) ⟨hv, hh⟩
 have := List.all_eq_true.1 h4 id hid
 split at this
 ·rename_i b hb
  exact ⟨b, hb, this⟩
 ·cases this
theorem gcH_eq {m : List Nat} : gcH m H = m.map fun id => borB [] (idx m) fuel (H.getD id deadBlk) := (rfl)
theorem oV_congr {α : Type} {r r' : Option α} {K : α → Prop} (h : r = r') : oV r K = oV r' K := by rw [h]
theorem opS_congr {ρ' : Env} {H' : Heap} {op : Op} (h1 : ρ = ρ') (h2 : H = H') : opS P ρ H d op C = opS P ρ' H' d op C := by rw [h1, h2]
theorem awpS_congr {ρ' : Env} {H' : Heap} {l : List SOp} (h1 : ρ = ρ') (h2 : H = H') : awpS P K l ρ H = awpS P K l ρ' H' := by rw [h1, h2]
theorem awpDS_congr {ops : Array Oper} {ρ' : Env} {H' : Heap} {l : List SOp} {acc acc' : List Foot} (h0 : acc = acc') (h1 : ρ = ρ') (h2 : H = H') : awpDS P ops K l acc ρ H = awpDS P ops K l acc' ρ' H' := by rw [h0, h1, h2]
end
attribute [congr] withV_congr oV_congr opS_congr awpS_congr awpDS_congr
attribute [go_sem] withV_eq putAt_succ putAt_zero putAt_done setAll_cons setAll_nil back_eq gcH_eq borB dK_app awpDS_nil awpDS_move awpDS_assign awpDS_pick awpDS_load awpDS_store awpDS_un awpDS_bin awpDS_fieldAddr awpDS_field awpDS_indexAddr awpDS_index awpDS_slice awpDS_extract awpDS_nilCheck awpDS_alloc awpDS_box awpDS_build awpDS_buildSlice awpDS_convert awpDS_makeSlice awpDS_builtin opW afoot AV.ids
theorem eqV_int {P : Program} {d : Nat} {t : TypeId} {a b : Int} (h : (tInt P t).isSome = true) : eqV P (d + 1) t (.int .i64 a) (.int .i64 b) = some (decide (a = b)) := by simp [eqV, h]
theorem eqV_bool {P : Program} {d : Nat} {t : TypeId} {a b : Bool} (h : tBoo P t = true) : eqV P (d + 1) t (.bool a) (.bool b) = some (a == b) := by simp [eqV, h]
theorem eqFs_cons {P : Program} {eqv : TypeId → AV → AV → Option Bool} {xs ys : List AV} {f : Field} {fs : List Field} {a b : AV} {c : Bool} (hn : f.name ≠ "_") (ha : aload P f.type (xs.drop f.offset) = some a) (hb : aload P f.type (ys.drop f.offset) = some b) (hc : eqv f.type a b = some c) {r : Bool} (hr : eqFs P eqv xs ys fs = some r) : eqFs P eqv xs ys (f :: fs) = some (c && r) := by
 simp only [eqFs, hn, ne_eq, not_false_eq_true, if_true, ha, hb, hc, hr]
 cases c <;> rfl
theorem eqFs_nil {P : Program} {eqv : TypeId → AV → AV → Option Bool} {xs ys : List AV} : eqFs P eqv xs ys [] = some true := rfl
theorem eqV_struct {P : Program} {d : Nat} {t : TypeId} {xs ys : List AV} {fs : Array Field} {c : Bool} (h : P.underlying t = some (.struct fs)) (hs : P.stoodInHeld t = false) (hc : eqFs P (eqV P d) xs ys fs.toList = some c) : eqV P (d + 1) t (.agg xs) (.agg ys) = some c := by
 simp only [eqV, h, hs, if_true, hc]
theorem law_calls {P : Program} {f : FuncId} {args : List AV} (h : Sat P f args [] (.bool true) []) {w : World} {cargs : Array Value} (hG : GR (fun c => c < w.heap.size) w) (ha : VRL (fun c => c < w.heap.size) (fun _ => none) w args cargs.toList) :
 Calls P f cargs w fun e w' => e = .returned (.bool true) ∧ Go.RowKit.Below w.heap.size w w' := by
 have := h.2 (fun c => c < w.heap.size) (fun _ => none) w cargs (fun _ h => h) hG (fun id h => by simp at h) (fun _ _ => rfl) ⟨fun id b e h => by simp at h, fun id id' b b' c c' h => by simp at h, fun id b c h => by simp at h⟩ ha
 refine this.mono ?_
 rintro e w' ⟨cv, ι', rfl, hv, hE⟩
 obtain rfl := VR_bool hv
 refine ⟨rfl, hE.os, hE.tape, hE.out, hE.size, fun k hk => hE.frame k hk fun id e hid => ?_⟩
 simp at hid
structure Opens (P : Program) (t : TypeId) {α : Type} (enc : α → List AV) (ok : α → Prop) : Prop where
 run : ∀ {H : Type} {encH : TypeId × Value → H} {w : World} {held : Bool} {fuel : Nat} {cs : List Value} {x : DataW H × List MemPlace}, DataW.trod encH P w 0 (fun _ => true) held fuel t cs = some x →
  ∃ a, ok a ∧ VRL (fun c => c < w.heap.size) (fun _ => none) w (enc a) cs ∧ ∀ u ∈ cs, u.oneCell' = true
structure OpensF (P : Program) (fs : List Field) (o total : Nat) {α : Type} (enc : α → List AV) (ok : α → Prop) : Prop where
 run : ∀ {H : Type} {encH : TypeId × Value → H} {w : World} {held : Bool} {n : Nat} {cs : List Value}, (∀ (i : Nat) f, fs[i]? = some f → ∃ y, DataW.trod encH P w 0 (fun _ => true) held n f.type ((cs.drop f.offset).take (P.cellsOf f.type)) = some y) → cs.length = total →
  ∃ a, ok a ∧ VRL (fun c => c < w.heap.size) (fun _ => none) w (enc a) (cs.drop o) ∧ ∀ u ∈ cs.drop o, u.oneCell' = true
section
variable {P : Program} {t : TypeId}
theorem opens_int {k : IntKind} (ht : P.underlying t = some (.int k)) : Opens P t (fun n => [.int k n]) (fun n => (Lit.int k n).wf = true) := by
 constructor
 intro H encH w held fuel cs x h
 obtain ⟨n, rfl, rfl, hw⟩ := DataW.trod_int ht h
 exact ⟨n, hw, by simp [VRL, VR], by simp [Value.oneCell']⟩
theorem Opens.map {α β : Type} {enc : α → List AV} {ok : α → Prop} {enc' : β → List AV} {ok' : β → Prop} (g : α → β) (h : Opens P t enc ok) (he : ∀ a, enc a = enc' (g a)) (hk : ∀ a, ok a → ok' (g a)) : Opens P t enc' ok' := by
 constructor
 intro H encH w held fuel cs x hx
 obtain ⟨a, h1, h2, h3⟩ := h.run hx
 exact ⟨g a, hk a h1, by rw [← he]; exact h2, h3⟩
theorem addr_add_add (a : Addr) (x y : Nat) : (a.add x).add y = a.add (x + y) := by
 obtain ⟨b, o, sp⟩ := a
 by_cases hx : x = 0
 ·subst hx
  simp [Addr.add]
 ·by_cases hy : y = 0
  ·subst hy
   simp [Addr.add]
  ·simp [Addr.add, hx, hy, Nat.add_assoc]
theorem addr_add_none (b o i : Nat) : (⟨b, o, none⟩ : Addr).add i = ⟨b, o + i, none⟩ := by
 by_cases hi : i = 0
 ·subst hi
  rfl
 ·simp [Addr.add, hi]
theorem addr_add_zero (a : Addr) : a.add 0 = a := rfl
theorem cells_at {w : World} {a : Addr} : ∀ {n : Nat} {vs : List Value}, w.cells? 0 a n = some vs → vs.length = n ∧ ∀ i, i < n → w.cell? (a.add i) = vs[i]? := by
 intro n vs h
 unfold World.cells? at h
 rw [if_pos (Nat.zero_le _)] at h
 have h1 := mapM_some_length h
 refine ⟨by simpa using h1, fun i hi => mapM_some_get h i i (by simp [hi])⟩
theorem opens_slice {e : TypeId} {s : Nat} {α : Type} {enc : α → List AV} {ok : α → Prop} (ht : P.underlying t = some (.slice e)) (hs : P.cellsOf e = s) (hpos : 0 < s) (hlen : ∀ a, (enc a).length = s) (h : Opens P e enc ok) :
 Opens P t (fun xs : List α => [.sl xs.length xs.length (xs.map enc).flatten]) (fun xs => (∀ a, a ∈ xs → ok a) ∧ xs.length ≤ maxLen) := by
 constructor
 intro H encH w held fuel cs x hx
 rcases DataW.trod_slice ht hx with ⟨rfl, _⟩ | ⟨a, len, cap, elems, rest, n, _, rfl, _, _, hlc, hcm, hel, hget, _, _⟩
 ·exact ⟨[], ⟨by simp, by simp⟩, VRL_cons.2 ⟨_, [], rfl, by simp only [VR]; exact ⟨none, 0, rfl, Nat.le_refl _, Nat.le_refl _, fun _ => rfl, Or.inl ⟨rfl, rfl⟩⟩, by simp [VRL]⟩, by simp [Value.oneCell']⟩
 ·rw [hs] at hget
  -- element by element
  have key : ∀ m, m ≤ len → ∃ (xs : List α) (vs : List Value), xs.length = m ∧ (∀ a, a ∈ xs → ok a) ∧ VRL (fun c => c < w.heap.size) (fun _ => none) w (xs.map enc).flatten vs ∧ (∀ u ∈ vs, u.oneCell' = true) ∧ vs.length = m * s ∧ ∀ i, i < m * s → w.cell? (a.add i) = vs[i]? := by
   intro m
   induction m with
   | zero => exact fun _ => ⟨[], [], rfl, by simp, by simp [VRL], by simp, by simp, fun i hi => by omega⟩
   | succ m ih =>
    intro hm
    obtain ⟨xs, vs, h1, h2, h3, h4, h5, h6⟩ := ih (by omega)
    have hg := hget m (by omega)
    rw [List.getElem?_eq_getElem (by omega)] at hg
    obtain ⟨us, g1, g2⟩ := Option.bind_eq_some_iff.1 hg
    obtain ⟨b, b1, b2, b3⟩ := h.run g2
    obtain ⟨c1, c2⟩ := cells_at g1
    refine ⟨xs ++ [b], vs ++ us, by simp [h1], ?_, ?_, ?_, ?_, ?_⟩
    ·intro a ha
     rcases List.mem_append.1 ha with h | h
     ·exact h2 a h
     ·rw [List.mem_singleton.1 h]; exact b1
    ·rw [List.map_append, List.flatten_append]
     exact h3.append (by simpa using b2)
    ·intro u hu
     rcases List.mem_append.1 hu with h | h
     ·exact h4 u h
     ·exact b3 u h
    ·rw [List.length_append, h5, c1, Nat.add_mul, Nat.one_mul]
    ·intro i hi
     by_cases hlt : i < m * s
     ·rw [List.getElem?_append_left (by omega)]
      exact h6 i hlt
     ·rw [List.getElem?_append_right (by omega), h5]
      have := c2 (i - m * s) (by rw [Nat.add_mul] at hi; omega)
      rw [← this, addr_add_add, show m * s + (i - m * s) = i by omega]
  obtain ⟨xs, vs, h1, h2, h3, h4, h5, h6⟩ := key len (Nat.le_refl _)
  refine ⟨xs, ⟨h2, by omega⟩, ?_, by simp [Value.oneCell']⟩
  refine VRL_cons.2 ⟨_, [], rfl, ?_, by simp [VRL]⟩
  simp only [VR]
  refine ⟨some a, cap, by rw [h1], by omega, by omega, fun h => by simp at h, ?_⟩
  by_cases h0 : len = 0
  ·left
   have : xs = [] := List.eq_nil_of_length_eq_zero (by omega)
   subst this
   exact ⟨rfl, rfl⟩
  ·right
   have hfirst := h6 0 (Nat.mul_pos (by omega) hpos)
   have h0s : 0 < vs.length := by rw [h5]; exact Nat.mul_pos (by omega) hpos
   rw [List.getElem?_eq_getElem h0s] at hfirst
   unfold World.cell? at hfirst
   split at hfirst
   ·rename_i arr ty fz hb
    have hb' : w.heap[a.block]? = some (.cells arr ty fz) := hb
    split at hfirst
    ·cases hfirst
    ·rename_i hspot
     have hsp : a.spot = none := by
      rw [addr_add_zero] at hspot
      simpa using hspot
     obtain ⟨blk, off, spot⟩ := a
     simp only at hsp hb'
     subst hsp
     refine ⟨blk, off, vs, rfl, (Array.getElem?_eq_some_iff.1 hb').1, ⟨arr, ty, fz, hb', fun i v hv => ⟨?_, h4 v (List.mem_of_getElem? hv)⟩⟩, h3⟩
     have := h6 i (by rw [← h5]; exact (List.getElem?_eq_some_iff.1 hv).1)
     rw [hv] at this
     rw [addr_add_none] at this
     unfold World.cell? at this
     simp only [hb'] at this
     simpa using this
   ·cases hfirst
theorem arg_slice {e : TypeId} {α : Type} {enc : α → AV} {ok : α → Prop} {H : Type} {encH : TypeId × Value → H} {W : World} {r : Reach} {base : Nat} {v : Value} {d : DataW H} {p : List MemPlace} (ht : P.underlying t = some (.slice e)) (hv : Value.okWide P W r base t v)
 (h : DataW.Trod encH P W 0 (fun _ => true) true t v d p) (op : Opens P t (fun a => [enc a]) ok) : ∃ a, ok a ∧ VR (fun c => c < W.heap.size) (fun _ => none) W (enc a) v := by
 obtain ⟨b, l, c, rfl⟩ := Go.WideShapes.okWide_slice ht hv
 obtain ⟨fuel, hf⟩ := h
 obtain ⟨a, h1, h2, _⟩ := op.run hf
 obtain ⟨u, rest, h3, h4, _⟩ := VRL_cons.1 h2
 simp [Value.cells] at h3
 rw [← h3.1] at h4
 exact ⟨a, h1, h4⟩
theorem trodAll_stays {H : Type} {enc : TypeId × Value → H} {W W' : World} (hl : laidOutB P = true) (hb : Go.RowKit.Below W.heap.size W W') : ∀ {ts : List TypeId} {vs : List Value} {ds : List (DataW H)} {ps : List MemPlace}, (ts.all fun t => P.readableRec t && decide (t < P.types.size)) = true →
 DataW.TrodAll enc P W 0 (fun _ => true) true ts vs ds ps → DataW.TrodAll enc P W' 0 (fun b => decide (b < W.heap.size)) true ts vs ds ps
 | [], vs, ds, ps, _, h => by
  obtain ⟨rfl, rfl, rfl⟩ := Go.ChangeShapes.trodAll_nil h
  exact Go.ChangeShapes.trodAll_mk0
 | t :: ts, vs, ds, ps, ht, h => by
  obtain ⟨v, vs', d, ds', p, q, rfl, rfl, rfl, h0, hr⟩ := Go.ChangeShapes.trodAll_cons h
  simp only [List.all_cons, Bool.and_eq_true, decide_eq_true_eq] at ht
  have hlt : ∀ x ∈ p, x.block < W.heap.size := by
   obtain ⟨fuel, hf⟩ := h0
   exact DataW.trod_lt fuel t _ _ hf
  exact Go.trodAll_cons_mk (Go.RowKit.Below.trod hl ht.1.1 ht.1.2 h0 hb hlt) (trodAll_stays hl hb ht.2 hr)
end
section
variable {P : Program}
theorem VR_sl_cases {F : Nat → Prop} {ι : Inj} {w : World} {len cap : Nat} {cs : List AV} {v : Value} (h : VR F ι w (.sl len cap cs) v) : (len = 0 ∧ cs = [] ∧ VR F ι w .nilsl v) ∨ VR F ι w (.nnsl len cap cs) v := by
 simp only [VR] at h ⊢
 obtain ⟨a, ccap, rfl, h2, h3, hz, h4⟩ := h
 cases a with
 | none =>
  left
  obtain rfl := hz rfl
  obtain rfl : len = 0 := by omega
  rcases h4 with ⟨rfl, _⟩ | ⟨c, off, vs, h5, _⟩
  ·exact ⟨rfl, rfl, rfl⟩
  ·simp at h5
 | some a =>
  right
  refine ⟨a, ccap, rfl, h2, h3, ?_⟩
  rcases h4 with h4 | ⟨c, off, vs, h5, h6⟩
  ·exact Or.inl h4
  ·exact Or.inr ⟨c, off, vs, by simpa using h5, h6⟩
theorem sat_sl {f : FuncId} {len cap : Nat} {cs rest : List AV} {h h' : Heap} {v : AV} (h1 : len = 0 → cs = [] → Sat P f (.nilsl :: rest) h v h') (h2 : Sat P f (.nnsl len cap cs :: rest) h v h') : Sat P f (.sl len cap cs :: rest) h v h' := by
 refine ⟨h2.1, fun F ι w cargs a1 aG a2 a3 a4 a5 => ?_⟩
 obtain ⟨u, us, hu, hv, hr⟩ := VRL_cons.1 a5
 rcases VR_sl_cases hv with ⟨g1, g2, g3⟩ | g3
 ·exact (h1 g1 g2).2 F ι w cargs a1 aG a2 a3 a4 (VRL_cons.2 ⟨u, us, hu, g3, hr⟩)
 ·exact h2.2 F ι w cargs a1 aG a2 a3 a4 (VRL_cons.2 ⟨u, us, hu, g3, hr⟩)
theorem sat_nil_back {f : FuncId} {args : List AV} {h : Heap} {sz : Nat} (hs : Sat P f args h .nilsl h) : Sat P f args h (.slice h.length 0 0 0) (h ++ [⟨sz, [], true, false⟩]) := by
 refine ⟨hs.1, fun F ι w cargs a1 aG a2 a3 a4 a5 => ?_⟩
 refine (hs.2 F ι w cargs a1 aG a2 a3 a4 a5).mono ?_
 rintro e w' ⟨cv, ι', rfl, hv, hE⟩
 have hn : ι' h.length = none := by rw [hE.old h.length (Or.inr (Nat.le_refl _))]; exact a3 _ (Nat.le_refl _)
 have hle := Inj.le_set (e := (none : Option Emb)) hn
 refine ⟨cv, ι'.set h.length none, rfl, ?_, ?_⟩
 ·simp only [VR] at hv ⊢
  subst hv
  exact Or.inr ⟨by simp [Inj.set], by simp⟩
 ·have hold : ∀ id, id ≠ h.length → (ι'.set h.length none) id = ι' id := fun id hid => by simp [Inj.set, hid]
  refine ⟨by simp, Inj.le_trans hE.le hle, ?_, ?_, ?_, ?_, ?_, ?_, hE.frame, hE.os, hE.tape, hE.out, hE.size⟩
  ·intro id hid
   have hne : id ≠ h.length := by
    rintro rfl
    simp at hid
    omega
   rw [hold id hne]
   refine hE.old id ?_
   simp at hid
   omega
  ·intro id g1 g2
   simp at g2
   obtain rfl : id = h.length := by omega
   refine ⟨none, by simp [Inj.set], fun b hb _ => ?_⟩
   simp at hb
   subst hb
   rfl
  ·intro id c g1 g2 g3
   simp at g2
   obtain rfl : id = h.length := by omega
   simp [Inj.set] at g3
  ·intro id id' c c' g1 g2 g3 g4 g5 g6
   simp at g2
   obtain rfl : id = h.length := by omega
   simp [Inj.set] at g5
  ·intro id b e g1 g2 g3 g4
   have hlt : id < h.length := by simpa using g1
   rw [List.getElem?_append_left hlt] at g2
   have := hE.wr id b e g1 g2 g3 g4
   cases e with
   | none => exact this
   | some c => exact BR.mono this hle rfl
  ·intro id g1 g2
   rw [List.getElem?_append_left g1]
end
section
variable {P : Program} {F : Nat → Prop} {ι ι' ι0 : Inj} {w0 w w' : World} {M D : Nat → Prop} {H H' : Heap} {k n lo hi : Nat} {ρ ρ' : Env} {a : Act}
theorem Wk.trunc (id m : Nat) {b : Blk} (hb : H[id]? = some b) : Wk k ρ H ρ (H.set id { b with cells := b.cells.take m }) := by
 intro F w0 M ι0 n ι a w hF h
 have hlen : (H.set id { b with cells := b.cells.take m }).length = H.length := by simp
 have hget : ∀ (i : Nat) (b' : Blk), (H.set id { b with cells := b.cells.take m })[i]? = some b' → b'.live = true → ∃ b0 : Blk, H[i]? = some b0 ∧ b0.live = true ∧ (b' = b0 ∨ b' = { b0 with cells := b0.cells.take m }) := by
  intro i b' hi hl
  rw [List.getElem?_set] at hi
  split at hi
  ·rename_i he
   subst he
   split at hi
   ·obtain rfl := Option.some.inj hi
    exact ⟨b, hb, hl, Or.inr rfl⟩
   ·cases hi
  ·exact ⟨b', hi, hl, Or.inl rfl⟩
 refine ⟨ι, h.defers, h.size, h.env, ⟨?_, ?_, ?_⟩, ?_, ?_, h.ws, h.par, ?_⟩
 ·intro i b' e hd hb' hl he
  rw [hlen] at hd
  obtain ⟨b0, h1, h2, h3⟩ := hget i b' hb' hl
  have := h.hs.br i b0 e hd h1 h2 he
  rcases h3 with rfl | rfl
  ·exact this
  ·cases e with
   | none =>
    simp only [BRo] at this ⊢
    simp [this]
   | some c =>
    obtain ⟨arr, t, fz, g1, g2, g3, vs, rest, g4, g5, g6⟩ := this
    exact ⟨arr, t, fz, g1, g2, g3, vs.take m, vs.drop m ++ rest, by rw [← List.append_assoc, List.take_append_drop]; exact g4, g5.take m, fun u hu => g6 u (List.mem_of_mem_take hu)⟩
 ·intro i i' b1 b2 c c' hd hd' hb1 hb2 hl hl' hc hc' heq
  rw [hlen] at hd hd'
  obtain ⟨b0, h1, h2, _⟩ := hget i b1 hb1 hl
  obtain ⟨b0', h1', h2', _⟩ := hget i' b2 hb2 hl'
  exact h.hs.inj i i' b0 b0' c c' hd hd' h1 h1' h2 h2' hc hc' heq
 ·intro i b1 c hd hb1 hl hc
  rw [hlen] at hd
  obtain ⟨b0, h1, h2, _⟩ := hget i b1 hb1 hl
  exact h.hs.own i b0 c hd h1 h2 hc
 ·intro i hi; rw [hlen] at hi; exact h.cr i hi
 ·intro i hi; rw [hlen] at hi; exact h.nw i hi
 ·rw [hlen]; exact h.kle
theorem awl_joinH {Q : Exit → Env → Heap → Prop} {cs : List Code} {c : Code} (J : Heap → Env → Heap → Prop) (h : awpL P k [c] (fun e ρ1 H1 => match e with | .normal => wkQ k (J H) ρ1 H1 | e => Q e ρ1 H1) ρ H) (after : ∀ ρ1 H1, J H ρ1 H1 → awpL P k cs Q ρ1 H1) : awpL P k (c :: cs) Q ρ H := awl_join (J H) h after
def aConv (P : Program) (H : Heap) (src dst : TypeId) : AV → Option (AV × AEff)
 | .int _ n => match tInt P dst, tIs P src with
  | some k, true => some (.int k (k.wrap n), .nil)
  | _, _ => none
 | .str s => match tStr P src, (tElem P dst).bind (tInt P), (tElem P dst).bind (tSize P) with
  | true, some .u8, some 1 => if s.size ≤ 9223372036854775807 then some (.slice H.length 0 s.size 0, .new ⟨1, byteCells s, true, true⟩) else none
  | _, _, _ => none
 | x => match tStr P dst, (tElem P src).bind (tInt P), aCells H 1 x with
  | true, some .u8, some (_, cs) => match bytesOf? cs with
   | some bs => some (.str ⟨bs.toArray⟩, .nil)
   | none => none
  | _, _, _ => none
theorem opS_conv {C : Env → Heap → Prop} {d : Option Tmp} {s t : TypeId} {x : Operand} : opS P ρ H d (.convert s t x) C = oV (if s = t ∧ (aeval ρ x).isSl = true then aSelf P H t (aeval ρ x) else aConv P H s t (aeval ρ x)) fun x => C (updO ρ d x.1) (x.2.app H) := by
 have e : aop P (aeval ρ) H (.convert s t x) = if s = t ∧ (aeval ρ x).isSl = true then aSelf P H t (aeval ρ x) else aConv P H s t (aeval ρ x) := by
  simp only [aop]
  cases aeval ρ x <;> rfl
 rw [opS_convert, e]
def gcB (k : Nat) (m : List Nat) (H : Heap) : Bool := decide m.Nodup && (List.range k).all (fun j => decide (m[j]? = some j)) && m.all fun id => decide (id < H.length)
theorem gcOk_of {m : List Nat} (h : gcB k m H = true) : GcOk k m H := by
 simp only [gcB, Bool.and_eq_true, decide_eq_true_eq, List.all_eq_true, List.mem_range] at h
 exact ⟨h.1.1, h.1.2, h.2⟩
theorem Wk.gc {m : List Nat} (hm : GcOk k m H) : Wk k ρ H (gcE m ρ) (gcH m H) := fun _ _ _ _ _ _ _ _ hF h => ⟨_, h.gc hF hm⟩
theorem Wk.keep (m : List Nat) (h : gcB k m H = true) : Wk k ρ H (gcE m ρ) (gcH m H) := Wk.gc (gcOk_of h)
theorem gcE_app {m : List Nat} {t : Tmp} : gcE m ρ t = bor [] (idx m) fuel (ρ t) := (rfl)
theorem sat_ex {f : FuncId} {fn : Func} {c : Code} {args : List AV} {h : Heap} {Qv : AV → Heap → Prop} (rs : List ResultVar) (k n : Nat) (hent : ∀ (xs : Array Value) (w : World), (callFunc f xs).run P w = .ok (.enter f xs) w)
 (hf : P.funcs[f]? = some fn) (hn : fn.ntmps = n) (hr : fn.results.toList = rs) (hk : h.length = k) (hb : fn.body = some c) (hd : dstsOk n c = true) (hlen : args.length.ble n = true)
 (hw : awpL P k [c] (retQ P rs k Qv) (argEnv args) h) : ∃ v h', Qv v h' ∧ Sat P f args h v h' := by
 subst hn hr hk
 exact sat_of hent hf hb hd (Nat.le_of_ble_eq_true hlen) (awl_of (retQ_ok) hw)
theorem retE {rs : List ResultVar} {Qv : AV → Heap → Prop} {vs : List AV} {v : AV} {h' : Heap} (keep m : List Nat) (hm : List.range k ++ keep = m) (h1 : aRes P H ρ rs = some vs) (h2 : m.Nodup) (h3 : Nat.ble k H.length = true) (h4 : (keep.all fun id => match H[id]? with | some b => b.live | none => false) = true)
 (hv : bor [] (idx m) fuel (aResult vs) = v) (hh : gcH m H = h') (hq : Qv v h') : retQ P rs k Qv .ret ρ H := by
 subst hm hv hh
 refine ret_mk keep vs h1 h2 (Nat.le_of_ble_eq_true h3) (fun id hid => ?_) hq
 have := List.all_eq_true.1 h4 id hid
 split at this
 ·rename_i b hb
  exact ⟨b, hb, this⟩
 ·cases this
end
section
variable {P : Program} {H : Heap} {ρ : Env} {K : Env → Heap → Prop} {ops : List SOp} {tc tv td : Tmp} {b v : Bool}
theorem split_at {n : Nat} {x : SOp} (h : ops[n]? = some x) : ops = ops.take n ++ x :: ops.drop (n + 1) := by
 obtain ⟨hn, rfl⟩ := List.getElem?_eq_some_iff.1 h
 rw [← List.drop_eq_getElem_cons hn, List.take_append_drop]
theorem grp_andN (n : Nat) (hn : ops[n]? = some (some td, .pick (.tmp tc) (.tmp tv) (.const (.bool false)), none)) (L : List Tmp) (hc : ρ tc = .bool b) (hd : L.contains td = false)
 (hrun : b = true → ∀ K1 : Env → Heap → Prop, (∀ ρ' : Env, ρ' tc = .bool true → ρ' tv = .bool v → liveE L ρ' ρ → K1 ρ' H) → awpS P K1 (ops.take n) ρ H)
 (hskip : b = false → awpS P (fun ρ' H' => H' = H ∧ ∀ u, u ∈ tc :: L → ρ' u = ρ u) (ops.take n) ρ H)
 (hK : ∀ ρ' : Env, ρ' td = .bool (b && v) → liveE L ρ' ρ → awpS P K (ops.drop (n + 1)) ρ' H) : awpS P K ops ρ H := by
 rw [split_at hn]
 exact grp_and L hc hd hrun hskip hK
theorem grp_orN (n : Nat) (hn : ops[n]? = some (some td, .pick (.tmp tc) (.const (.bool true)) (.tmp tv), none)) (L : List Tmp) (hc : ρ tc = .bool b) (hd : L.contains td = false)
 (hrun : b = false → ∀ K1 : Env → Heap → Prop, (∀ ρ' : Env, ρ' tc = .bool false → ρ' tv = .bool v → liveE L ρ' ρ → K1 ρ' H) → awpS P K1 (ops.take n) ρ H)
 (hskip : b = true → awpS P (fun ρ' H' => H' = H ∧ ∀ u, u ∈ tc :: L → ρ' u = ρ u) (ops.take n) ρ H)
 (hK : ∀ ρ' : Env, ρ' td = .bool (b || v) → liveE L ρ' ρ → awpS P K (ops.drop (n + 1)) ρ' H) : awpS P K ops ρ H := by
 rw [split_at hn]
 exact grp_or L hc hd hrun hskip hK
theorem grp_andGN (n : Nat) (to : Tmp) (wo : Bool) (hn : ops[n]? = some (some td, .pick (.tmp tc) (.tmp tv) (.const (.bool false)), some (to, wo))) (ho : ρ to = .bool wo) (L : List Tmp) (hto : L.contains to = true) (hc : ρ tc = .bool b) (hd : L.contains td = false)
 (hrun : b = true → ∀ K1 : Env → Heap → Prop, (∀ ρ' : Env, ρ' tc = .bool true → ρ' tv = .bool v → liveE L ρ' ρ → K1 ρ' H) → awpS P K1 (ops.take n) ρ H)
 (hskip : b = false → awpS P (fun ρ' H' => H' = H ∧ ∀ u, u ∈ tc :: L → ρ' u = ρ u) (ops.take n) ρ H)
 (hK : ∀ ρ' : Env, ρ' td = .bool (b && v) → liveE L ρ' ρ → awpS P K (ops.drop (n + 1)) ρ' H) : awpS P K ops ρ H := by
 rw [split_at hn]
 exact grp_andG to wo ho L hto hc hd hrun hskip hK
theorem grp_orGN (n : Nat) (to : Tmp) (wo : Bool) (hn : ops[n]? = some (some td, .pick (.tmp tc) (.const (.bool true)) (.tmp tv), some (to, wo))) (ho : ρ to = .bool wo) (L : List Tmp) (hto : L.contains to = true) (hc : ρ tc = .bool b) (hd : L.contains td = false)
 (hrun : b = false → ∀ K1 : Env → Heap → Prop, (∀ ρ' : Env, ρ' tc = .bool false → ρ' tv = .bool v → liveE L ρ' ρ → K1 ρ' H) → awpS P K1 (ops.take n) ρ H)
 (hskip : b = true → awpS P (fun ρ' H' => H' = H ∧ ∀ u, u ∈ tc :: L → ρ' u = ρ u) (ops.take n) ρ H)
 (hK : ∀ ρ' : Env, ρ' td = .bool (b || v) → liveE L ρ' ρ → awpS P K (ops.drop (n + 1)) ρ' H) : awpS P K ops ρ H := by
 rw [split_at hn]
 exact grp_orG to wo ho L hto hc hd hrun hskip hK
end
theorem aResult_two {x y : AV} : aResult [x, y] = .tuple [x, y] := (rfl)
theorem aResult_three {x y z : AV} : aResult [x, y, z] = .tuple [x, y, z] := (rfl)
attribute [go_sem] and_self false_and and_false opS_conv aConv aSelf AV.isSl gcE_app aResult_two aResult_three
section
variable {P : Program} {H : Heap} {ρ : Env} {k : Nat} {Q : Exit → Env → Heap → Prop} {cs : List Code} {K : Env → Heap → Prop}
def LV (_ : List Nat) : Prop := True
def LW (_ : List Nat) : Prop := True
theorem awl_liveV {L : List Tmp} (_ : LV L) (h : ∀ ρ' : Env, liveE L ρ' ρ → awpL P k cs Q ρ' H) : awpL P k cs Q ρ H := awl_live' L h
theorem awpS_liveV {L : List Tmp} (_ : LV L) {l : List SOp} (h : ∀ ρ' : Env, liveE L ρ' ρ → awpS P K l ρ' H) : awpS P K l ρ H := awpS_live L h
theorem anc_of {ops : Array Oper} {acc : List Foot} {A : List Nat} (_ : LW A) (h : dOk ops acc A = true) : ∃ A, dOk ops acc A = true := ⟨A, h⟩
theorem opS_call_inV {d : Option Tmp} {C : Env → Heap → Prop} {f : Operand} {xs : Array Operand} {ts : Array TypeId} {g : FuncId} {first cap args' : List AV} {hs : Heap} {v : AV} {h' : Heap} {m : List Nat} (_ : LW m) (hf : aeval ρ f = .func g first cap) (hS : Sat P g args' hs v h')
 (ha : (first ++ xs.toList.map (aeval ρ) ++ cap).map (bor H (idx m) fuel) = args') (hb : (m.map fun id => borB H (idx m) fuel (H.getD id deadBlk)) = hs) (hv : noS v = true) (hh : (h'.all fun b => noSL b.cells) = true)
 (hm : m.Nodup) (hl : (m.all fun id => match H[id]? with | some b => b.live | none => false) = true)
 (hK : C (updO ρ d (sh (mmap m H.length) v)) (back H m h')) : opS P ρ H d (.call ⟨.value f, xs, ts⟩) C := opS_call_in m hf hS ha hb hv hh hm hl hK
theorem opS_call_inFV {d : Option Tmp} {C : Env → Heap → Prop} {f : Operand} {xs : Array Operand} {ts : Array TypeId} {g : FuncId} {first cap args' : List AV} {hs : Heap} {v : AV} {h' : Heap} {m : List Nat} (_ : LW m) (hf : aeval ρ f = .func g first cap) (hS : Sat P g args' hs v h')
 (ha : (first ++ xs.toList.map (aeval ρ) ++ cap).map (bor [] (idx m) fuel) = args') (hb : (m.map fun id => borB [] (idx m) fuel (H.getD id deadBlk)) = hs)
 (hm : m.Nodup) (hl : (m.all fun id => match H[id]? with | some b => b.live | none => false) = true)
 (hK : C (updO ρ d (sh (mmap m H.length) v)) (back H m h')) : opS P ρ H d (.call ⟨.value f, xs, ts⟩) C := by
 subst ha hb
 refine opS_call hf rfl m (h' := h') (Hb := []) ⟨hm, fun id hid => ?_, hS, Or.inr rfl⟩ hK
 have := List.all_eq_true.1 hl id hid
 split at this
 ·rename_i b hb
  exact ⟨b, hb, this⟩
 ·cases this
theorem dS_call_inFV {d : Option Tmp} {ops : Array Oper} {rest : List SOp} {acc : List Foot} {f : Operand} {xs : Array Operand} {ts : Array TypeId} {g : FuncId} {first cap args' : List AV} {hs : Heap} {v : AV} {h' : Heap} {m : List Nat} (_ : LW m) (hf : aeval ρ f = .func g first cap) (hS : Sat P g args' hs v h')
 (ha : (first ++ xs.toList.map (aeval ρ) ++ cap).map (bor [] (idx m) fuel) = args') (hb : (m.map fun id => borB [] (idx m) fuel (H.getD id deadBlk)) = hs)
 (hm : m.Nodup) (hl : (m.all fun id => match H[id]? with | some b => b.live | none => false) = true)
 (hK : awpDS P ops K rest (⟨H.length, (back H m h').length, m, m ++ liveIds []⟩ :: acc) (updO ρ d (sh (mmap m H.length) v)) (back H m h')) : awpDS P ops K ((d, .call ⟨.value f, xs, ts⟩, none) :: rest) acc ρ H := by
 subst ha hb
 simp only [awpDS, gT_none, goCall, hf]
 refine ⟨m, v, h', [], ⟨hm, fun id hid => ?_, hS, Or.inr rfl⟩, hK⟩
 have := List.all_eq_true.1 hl id hid
 split at this
 ·rename_i b hb
  exact ⟨b, hb, this⟩
 ·cases this
theorem retKV {rs : List ResultVar} {vs : List AV} {v : AV} {h' : Heap} {keep m : List Nat} (_ : LV keep) (_ : LW m) (hm : List.range k ++ keep = m) (h1 : aRes P H ρ rs = some vs) (h2 : m.Nodup) (h3 : Nat.ble k H.length = true) (h4 : (keep.all fun id => match H[id]? with | some b => b.live | none => false) = true)
 (hv : bor [] (idx m) fuel (aResult vs) = v) (hh : gcH m H = h') : retQ P rs k (fun v' h'' => v' = v ∧ h'' = h') .ret ρ H := retK keep m hm h1 h2 h3 h4 hv hh
theorem retEV {rs : List ResultVar} {Qv : AV → Heap → Prop} {vs : List AV} {v : AV} {h' : Heap} {keep m : List Nat} (_ : LV keep) (_ : LW m) (hm : List.range k ++ keep = m) (h1 : aRes P H ρ rs = some vs) (h2 : m.Nodup) (h3 : Nat.ble k H.length = true) (h4 : (keep.all fun id => match H[id]? with | some b => b.live | none => false) = true)
 (hv : bor [] (idx m) fuel (aResult vs) = v) (hh : gcH m H = h') (hq : Qv v h') : retQ P rs k Qv .ret ρ H := retE keep m hm h1 h2 h3 h4 hv hh hq
theorem skA {tc t : Tmp} {want b : Bool} {L : List Tmp} {ops : List SOp} (hb : (b == want) = false) (h : ρ t = .bool b) (hs : skipOk t want (tc :: L) [] ops = true) : awpS P (fun ρ' H' => H' = H ∧ ∀ u, u ∈ tc :: L → ρ' u = ρ u) ops ρ H := awpS_skip hb ops [] ρ h (fun _ _ => rfl) (by simp) hs
end
structure Bx (B : Prop) : Prop where
 out : B
section
variable {A B B1 B2 : Prop}
theorem zL (L : List Nat) (b : B) (e : LV L → Bx B → A := by
 intro l b
 refine awpS_liveV l fun ρ hM => ?_
 try simp only [go_sem, simprocAttr, hL, hX] at hM
 revert ρ hM
 exact b.out) : A := e trivial ⟨b⟩
theorem zI (L : List Nat) (b : B) (e : LV L → Bx B → A := by
 intro l b
 refine awl_liveV l fun ρ hM => ?_
 try simp only [go_sem, simprocAttr, hX] at hM
 revert ρ hM
 exact b.out) : A := e trivial ⟨b⟩
theorem zN (L : List Nat) (b : B) (e : LV L → Bx B → A := by
 intro l b
 refine awl_liveV l fun ρ hM => ?_
 try simp only [go_sem, simprocAttr, hL, hX] at hM
 revert ρ hM
 exact b.out) : A := e trivial ⟨b⟩
theorem zS (L : List Nat) (b : B) (e : LV L → Bx B → A := by
 intro l b ρ hL
 repeat refine awl_seq ?_
 refine awl_regS _ rfl fun K hK => ?_
 try simp only [go_sem, simprocAttr, hL, hX]
 repeat' refine And.intro (by first | rfl | omega | (simp; done)) ?_
 refine hK _ _ (.mk (awl_liveV l fun ρ hM => ?_))
 try simp only [go_sem, simprocAttr, hL, hX] at hM
 clear hL hK K
 revert ρ hM
 exact b.out) : A := e trivial ⟨b⟩
theorem zD (a L : List Nat) (b : B) (e : LW a → LV L → Bx B → A := by
 intro a l b ρ hL
 repeat refine awl_seq ?_
 refine awl_regD mixed _ rfl fun K hK => ?_
 try simp only [go_sem, simprocAttr, hL, hX]
 repeat' refine And.intro (by first | omega | (refine anc_of a ?_; kernel_rfl) | kernel_rfl) ?_
 refine hK _ _ (.mk (awl_liveV l fun ρ hM => ?_))
 try simp only [go_sem, simprocAttr, hL, hX] at hM
 clear hL hK K
 revert ρ hM
 exact b.out) : A := e trivial trivial ⟨b⟩
theorem zA (b : B) (e : Bx B → A := by
 intro b
 repeat refine awl_seq ?_
 refine awl_regS _ rfl fun K hK => ?_
 try simp only [go_sem, simprocAttr, hL, hX]
 repeat' refine And.intro (by first | rfl | omega | (simp; done)) ?_
 revert K hK
 exact b.out) : A := e ⟨b⟩
theorem zAD (a : List Nat) (b : B) (e : LW a → Bx B → A := by
 intro a b
 repeat refine awl_seq ?_
 refine awl_regD mixed _ rfl fun K hK => ?_
 try simp only [go_sem, simprocAttr, hL, hX]
 repeat' refine And.intro (by first | omega | (refine anc_of a ?_; kernel_rfl) | kernel_rfl) ?_
 revert K hK
 exact b.out) : A := e trivial ⟨b⟩
theorem zE (L : List Nat) (b : B) (e : LV L → Bx B → A := by
 intro l b
 refine hK _ _ (.mk (awl_liveV l fun ρ hM => ?_))
 try simp only [go_sem, simprocAttr, hL, hX] at hM
 revert ρ hM
 exact b.out) : A := e trivial ⟨b⟩
theorem zF {P : Program} {f : FuncId} {args : List AV} {h h' : Heap} {v : AV} (s : Sat P f args h v h') (b : B) (e : Sat P f args h v h' → Bx B → A := by
 intro s b
 refine opS_call_ro rfl s (by simp only [go_sem, simprocAttr, hL, hX]; first | done | rfl) (by first | rfl | (simp only [go_sem]; done)) (by first | rfl | (simp only [go_sem]; done)) ?_
 try simp only [go_sem, simprocAttr, hL, hX]
 repeat' refine And.intro (by first | rfl | omega | (simp; done)) ?_
 exact b.out) : A := e s ⟨b⟩
theorem zFD (a : List Nat) {P : Program} {f : FuncId} {args : List AV} {h h' : Heap} {v : AV} (s : Sat P f args h v h') (b : B) (e : LW a → Sat P f args h v h' → Bx B → A := by
 intro a s b
 refine dS_call_ro rfl s (by simp only [go_sem, simprocAttr, hL, hX]; first | done | rfl) (by first | rfl | (simp only [go_sem]; done)) (by first | rfl | (simp only [go_sem]; done)) ?_
 try simp only [go_sem, simprocAttr, hL, hX]
 repeat' refine And.intro (by first | omega | (refine anc_of a ?_; kernel_rfl) | kernel_rfl) ?_
 exact b.out) : A := e trivial s ⟨b⟩
theorem zFI (m : List Nat) {P : Program} {f : FuncId} {args : List AV} {h h' : Heap} {v : AV} (s : Sat P f args h v h') (b : B) (e : LW m → Sat P f args h v h' → Bx B → A := by
 intro m s b
 refine opS_call_inV m rfl s (by simp only [go_sem, simprocAttr, hL, hX]; first | done | rfl) (by simp only [go_sem, simprocAttr, hL, hX]; first | done | rfl) (by first | rfl | (simp only [go_sem]; done)) (by first | rfl | (simp only [go_sem]; done)) (by decide) rfl ?_
 try simp only [go_sem, simprocAttr, hL, hX]
 repeat' refine And.intro (by first | rfl | omega | (simp; done)) ?_
 exact b.out) : A := e trivial s ⟨b⟩
theorem zFJ (m : List Nat) {P : Program} {f : FuncId} {args : List AV} {h h' : Heap} {v : AV} (s : Sat P f args h v h') (b : B) (e : LW m → Sat P f args h v h' → Bx B → A := by
 intro m s b
 refine opS_call_inFV m rfl s (by simp only [go_sem, simprocAttr, hL, hX]; first | done | rfl) (by simp only [go_sem, simprocAttr, hL, hX]; first | done | rfl) (by decide) rfl ?_
 try simp only [go_sem, simprocAttr, hL, hX]
 repeat' refine And.intro (by first | rfl | omega | (simp; done)) ?_
 exact b.out) : A := e trivial s ⟨b⟩
theorem zFDJ (a m : List Nat) {P : Program} {f : FuncId} {args : List AV} {h h' : Heap} {v : AV} (s : Sat P f args h v h') (b : B) (e : LW a → LW m → Sat P f args h v h' → Bx B → A := by
 intro a m s b
 refine dS_call_inFV m rfl s (by simp only [go_sem, simprocAttr, hL, hX]; first | done | rfl) (by simp only [go_sem, simprocAttr, hL, hX]; first | done | rfl) (by decide) rfl ?_
 try simp only [go_sem, simprocAttr, hL, hX]
 repeat' refine And.intro (by first | omega | (refine anc_of a ?_; kernel_rfl) | kernel_rfl) ?_
 exact b.out) : A := e trivial trivial s ⟨b⟩
theorem zSF (L : List Nat) {P : Program} {f : FuncId} {args : List AV} {h h' : Heap} {v : AV} (s : Sat P f args h v h') (b : B) (e : LV L → Sat P f args h v h' → Bx B → A := by
 intro l s b ρ hL
 repeat refine awl_seq ?_
 refine awl_regS _ rfl fun K hK => ?_
 try simp only [go_sem, simprocAttr, hL, hX]
 repeat' refine And.intro (by first | rfl | omega | (simp; done)) ?_
 refine opS_call_ro rfl s (by simp only [go_sem, simprocAttr, hL, hX]; first | done | rfl) (by first | rfl | (simp only [go_sem]; done)) (by first | rfl | (simp only [go_sem]; done)) ?_
 try simp only [go_sem, simprocAttr, hL, hX]
 repeat' refine And.intro (by first | rfl | omega | (simp; done)) ?_
 refine hK _ _ (.mk (awl_liveV l fun ρ hM => ?_))
 try simp only [go_sem, simprocAttr, hL, hX] at hM
 clear hL hK K
 revert ρ hM
 exact b.out) : A := e trivial s ⟨b⟩
theorem zC (b1 : B1) (b2 : B2) (e : Bx B1 → Bx B2 → A := by
 intro b1 b2 ρ hL
 repeat (first | refine awl_seq ?_ | refine awl_skip ?_)
 refine awl_cond (by simp only [go_sem, hL]; exact rfl) (fun c => ?_) (fun c => ?_)
 ·try simp only [cnd] at c
  revert ρ hL
  revert c
  exact b1.out
 ·try simp only [cnd] at c
  revert ρ hL
  revert c
  exact b2.out) : A := e ⟨b1⟩ ⟨b2⟩
theorem zQ (b1 : B1) (b2 : B2) (e : Bx B1 → Bx B2 → A := by
 intro b1 b2 ρ hL
 repeat (first | refine awl_seq ?_ | refine awl_skip ?_)
 refine awl_cond (by simp only [go_sem, hL]; exact rfl) (fun c => ?_) (fun c => ?_)
 ·revert ρ hL
  revert c
  exact b1.out
 ·revert ρ hL
  revert c
  exact b2.out) : A := e ⟨b1⟩ ⟨b2⟩
theorem zR (b : B) (e : Bx B → A := by
 intro b ρ hL
 repeat refine awl_seq ?_
 refine awl_ret ?_
 repeat (first | refine blk_ret ?_ | refine loop_ret ?_)
 refine ret0 (by simp only [go_sem, simprocAttr, hL, hX]; exact rfl) ?_
 exact b.out) : A := e ⟨b⟩
theorem zK (kp m : List Nat) (b1 : B1) (b2 : B2) (e : LV kp → LW m → Bx B1 → Bx B2 → A := by
 intro l m b1 b2 ρ hL
 repeat refine awl_seq ?_
 refine awl_ret ?_
 repeat (first | refine blk_ret ?_ | refine loop_ret ?_)
 refine retKV l m rfl (by simp only [go_sem, simprocAttr, hL, hX]; exact rfl) (by decide) (by first | rfl | (simp only [go_sem, simprocAttr, hL, hX]; first | done | rfl)) (by first | rfl | (simp only [go_sem, simprocAttr, hL, hX]; first | done | rfl)) ?_ ?_
 ·exact b1.out
 ·exact b2.out) : A := e trivial trivial ⟨b1⟩ ⟨b2⟩
theorem zX (kp m : List Nat) (b : B) (e : LV kp → LW m → Bx B → A := by
 intro l m b ρ hL
 repeat refine awl_seq ?_
 refine awl_ret ?_
 repeat (first | refine blk_ret ?_ | refine loop_ret ?_)
 refine retEV l m rfl (by simp only [go_sem, simprocAttr, hL, hX]; exact rfl) (by decide) (by first | rfl | (simp only [go_sem, simprocAttr, hL, hX]; first | done | rfl)) (by first | rfl | (simp only [go_sem, simprocAttr, hL, hX]; first | done | rfl)) rfl rfl ?_
 exact b.out) : A := e trivial trivial ⟨b⟩
theorem zSX (L : List Nat) {X : Prop} (x : X) (b : B) (e : LV L → X → Bx B → A := by
 intro l hX b ρ hL
 repeat refine awl_seq ?_
 refine awl_regS _ rfl fun K hK => ?_
 try simp only [go_sem, simprocAttr, hL, hX]
 repeat' refine And.intro (by first | rfl | omega | (simp; done)) ?_
 refine hK _ _ (.mk (awl_liveV l fun ρ hM => ?_))
 try simp only [go_sem, simprocAttr, hL, hX] at hM
 clear hL hK K
 revert ρ hM
 exact b.out) : A := e trivial x ⟨b⟩
theorem zDX (a L : List Nat) {X : Prop} (x : X) (b : B) (e : LW a → LV L → X → Bx B → A := by
 intro a l hX b ρ hL
 repeat refine awl_seq ?_
 refine awl_regD mixed _ rfl fun K hK => ?_
 try simp only [go_sem, simprocAttr, hL, hX]
 repeat' refine And.intro (by first | omega | (refine anc_of a ?_; kernel_rfl) | kernel_rfl) ?_
 refine hK _ _ (.mk (awl_liveV l fun ρ hM => ?_))
 try simp only [go_sem, simprocAttr, hL, hX] at hM
 clear hL hK K
 revert ρ hM
 exact b.out) : A := e trivial trivial x ⟨b⟩
theorem zSFX (L : List Nat) {P : Program} {f : FuncId} {args : List AV} {h h' : Heap} {v : AV} (s : Sat P f args h v h') {X : Prop} (x : X) (b : B) (e : LV L → Sat P f args h v h' → X → Bx B → A := by
 intro l s hX b ρ hL
 repeat refine awl_seq ?_
 refine awl_regS _ rfl fun K hK => ?_
 try simp only [go_sem, simprocAttr, hL, hX]
 repeat' refine And.intro (by first | rfl | omega | (simp; done)) ?_
 refine opS_call_ro rfl s (by simp only [go_sem, simprocAttr, hL, hX]; first | done | rfl) (by first | rfl | (simp only [go_sem]; done)) (by first | rfl | (simp only [go_sem]; done)) ?_
 try simp only [go_sem, simprocAttr, hL, hX]
 repeat' refine And.intro (by first | rfl | omega | (simp; done)) ?_
 refine hK _ _ (.mk (awl_liveV l fun ρ hM => ?_))
 try simp only [go_sem, simprocAttr, hL, hX] at hM
 clear hL hK K
 revert ρ hM
 exact b.out) : A := e trivial s x ⟨b⟩
theorem zRn (b : B) (e : Bx B → A := by
 intro b
 simp only [List.take_succ_cons, List.take_zero]
 rw [hb] at hL
 try simp only [go_sem, simprocAttr, hL, hX]
 repeat' refine And.intro (by first | rfl | omega | (simp; done)) ?_
 revert hL
 exact b.out) : A := e ⟨b⟩
theorem zK1 (e : A := by refine hK1 _ ?_ ?_ ?_ <;> simp only [go_sem, simprocAttr, hL, hX] <;> exact rfl) : A := e
theorem zR1 (e : A := by
 simp only [List.take_succ_cons, List.take_zero]
 rw [hb] at hL
 try simp only [go_sem, simprocAttr, hL, hX]
 repeat' refine And.intro (by first | rfl | omega | (simp; done)) ?_
 refine hK1 _ ?_ ?_ ?_ <;> simp only [go_sem, simprocAttr, hL, hX] <;> exact rfl) : A := e
theorem zPp (b : B) (e : Bx B → A := by
 intro b
 simp only [List.drop_succ_cons, List.drop_zero]
 try simp only [go_sem, simprocAttr, hL, hX] at hM
 have hL := And.intro hP hM
 try simp only [go_sem, simprocAttr, hL, hX]
 repeat' refine And.intro (by first | rfl | omega | (simp; done)) ?_
 revert hL
 exact b.out) : A := e ⟨b⟩
end
section
variable {P : Program} {F : Nat → Prop} {ι ι' ι0 : Inj} {w0 w w' : World} {M D : Nat → Prop} {H H' : Heap} {k n lo hi : Nat} {ρ ρ' : Env} {a : Act}
def mvM (i n j : Nat) : Nat := if j = i then n else j
def mvE (i n : Nat) (ρ : Env) : Env := fun t => sh (mvM i n) (ρ t)
def mvH (i : Nat) (H : Heap) : Heap := (H.map (shB (mvM i H.length))).set i deadBlk ++ [shB (mvM i H.length) (H.getD i deadBlk)]
theorem St.mv {i : Nat} (hi : i < H.length) (hFS : FS F w0 M) (h : St F w0 M k ι0 n ι ρ H a w) : ∃ ι', St F w0 M k ι0 n ι' (mvE i H.length ρ) (mvH i H) a w := by
 let ι' : Inj := fun j => if j = H.length then ι i else ι j
 have hmm : ∀ j e, ι j = some e → ι' (mvM i H.length j) = some e := by
  intro j e he
  show (if mvM i H.length j = H.length then ι i else ι (mvM i H.length j)) = some e
  unfold mvM
  by_cases hj : j = i
  ·rw [if_pos hj, if_pos rfl, ← hj]; exact he
  ·rw [if_neg hj, if_neg]
   ·exact he
   ·intro e2
    rw [e2, h.nw _ (Nat.le_refl _)] at he
    cases he
 have hlen : (mvH i H).length = H.length + 1 := by simp [mvH]
 have hget : ∀ (j : Nat) b, (mvH i H)[j]? = some b → b.live = true → ∃ j0 b0, j0 < H.length ∧ H[j0]? = some b0 ∧ b0.live = true ∧ b = shB (mvM i H.length) b0 ∧ ι' j = ι j0 ∧ ((j = j0 ∧ j ≠ i) ∨ (j = H.length ∧ j0 = i)) := by
  intro j b hj hl
  have hjl := (List.getElem?_eq_some_iff.1 hj).1
  rw [hlen] at hjl
  unfold mvH at hj
  by_cases hlt : j < H.length
  ·rw [List.getElem?_append_left (by simpa using hlt), List.getElem?_set] at hj
   by_cases hji : i = j
   ·rw [if_pos hji] at hj
    split at hj
    ·obtain rfl := Option.some.inj hj
     cases hl
    ·cases hj
   ·rw [if_neg hji, List.getElem?_map] at hj
    obtain ⟨b0, h1, rfl⟩ := Option.map_eq_some_iff.1 hj
    refine ⟨j, b0, hlt, h1, hl, rfl, ?_, Or.inl ⟨rfl, fun e => hji e.symm⟩⟩
    show (if j = H.length then ι i else ι j) = ι j
    rw [if_neg (by omega)]
  ·have hje : j = H.length := by omega
   subst hje
   rw [List.getElem?_append_right (by simp)] at hj
   simp only [List.length_set, List.length_map, Nat.sub_self, List.getElem?_cons_zero, Option.some.injEq] at hj
   rw [List.getD_eq_getElem?_getD, List.getElem?_eq_getElem hi] at hj
   simp only [Option.getD_some] at hj
   subst hj
   refine ⟨i, H[i], hi, List.getElem?_eq_getElem hi, hl, rfl, ?_, Or.inr ⟨rfl, rfl⟩⟩
   show (if H.length = H.length then ι i else ι H.length) = ι i
   rw [if_pos rfl]
 have hsh : ∀ (x : AV) (v : Value), VR F ι w0 x v → VR F ι' w0 (sh (mvM i H.length) x) v := sh_sound hmm fun c hc => ⟨hc, rfl⟩
 have hshL : ∀ (xs : List AV) (vs : List Value), VRL F ι w0 xs vs → VRL F ι' w0 (shL (mvM i H.length) xs) vs := shL_sound hmm fun c hc => ⟨hc, rfl⟩
 refine ⟨ι', h.defers, h.size, fun t => hsh _ _ (h.env t), ⟨?_, ?_, ?_⟩, ?_, ?_, h.ws, ?_, ?_⟩
 ·intro j b e _ hb hl he
  obtain ⟨j0, b0, h1, h2, h3, rfl, h5, _⟩ := hget j b hb hl
  rw [h5] at he
  exact BRo_sh (fun vs hv => hshL _ vs hv) (h.hs.br j0 b0 e h1 h2 h3 he)
 ·intro j j' b b' c c' _ _ hb hb' hl hl' hc hc' heq
  obtain ⟨j0, b0, h1, h2, h3, _, h5, h6⟩ := hget j b hb hl
  obtain ⟨j0', b0', h1', h2', h3', _, h5', h6'⟩ := hget j' b' hb' hl'
  rw [h5] at hc
  rw [h5'] at hc'
  have := h.hs.inj j0 j0' b0 b0' c c' h1 h1' h2 h2' h3 h3' hc hc' heq
  omega
 ·intro j b c _ hb hl hc
  obtain ⟨j0, b0, h1, h2, h3, _, h5, _⟩ := hget j b hb hl
  rw [h5] at hc
  exact h.hs.own j0 b0 c h1 h2 h3 hc
 ·intro j hj
  rw [hlen] at hj
  show (if j = H.length then ι i else ι j) ≠ none
  split
  ·exact h.cr i hi
  ·exact h.cr j (by omega)
 ·intro j hj
  rw [hlen] at hj
  show (if j = H.length then ι i else ι j) = none
  rw [if_neg (by omega)]
  exact h.nw j (by omega)
 ·intro j hj
  have := h.kle
  show (if j = H.length then ι i else ι j) = _
  rw [if_neg (by omega)]
  exact h.par j hj
 ·have := h.kle
  rw [hlen]
  omega
def mvsE : List Nat → Nat → Env → Env
 | [], _, ρ => ρ
 | i :: l, n, ρ => mvsE l (n + 1) (mvE i n ρ)
def mvsH : List Nat → Heap → Heap
 | [], H => H
 | i :: l, H => mvsH l (mvH i H)
theorem Wk.mv {i : Nat} (hi : i < H.length) : Wk k ρ H (mvE i H.length ρ) (mvH i H) := fun _ _ _ _ _ _ _ _ hF h => h.mv hi hF
theorem Wk.mvs : ∀ (l : List Nat) {ρ : Env} {H : Heap}, (∀ i, i ∈ l → i < H.length) → Wk k ρ H (mvsE l H.length ρ) (mvsH l H)
 | [], _, _, _ => .refl
 | i :: l, ρ, H, h => by
  have hl : (mvH i H).length = H.length + 1 := by simp [mvH]
  have h1 := Wk.mvs l (ρ := mvE i H.length ρ) (H := mvH i H) fun j hj => by rw [hl]; exact Nat.lt_succ_of_lt (h j (by simp [hj]))
  rw [hl] at h1
  exact Wk.trans (Wk.mv (h i (by simp))) h1
theorem Wk.mvB (l : List Nat) (h : (l.all fun i => i.blt H.length) = true) : Wk k ρ H (mvsE l H.length ρ) (mvsH l H) := Wk.mvs l fun i hi => Nat.le_of_ble_eq_true (List.all_eq_true.1 h i hi)
theorem mvsE_nil {n : Nat} : mvsE [] n ρ = ρ := (rfl)
theorem mvsE_cons {n i : Nat} {l : List Nat} : mvsE (i :: l) n ρ = mvsE l (n + 1) (mvE i n ρ) := (rfl)
theorem mvsH_nil : mvsH [] H = H := (rfl)
theorem mvsH_cons {i : Nat} {l : List Nat} : mvsH (i :: l) H = mvsH l (mvH i H) := (rfl)
theorem mvE_app {i n : Nat} {t : Tmp} : mvE i n ρ t = sh (mvM i n) (ρ t) := (rfl)
theorem mvH_eq {i : Nat} : mvH i H = (H.map (shB (mvM i H.length))).set i deadBlk ++ [shB (mvM i H.length) (H.getD i deadBlk)] := (rfl)
theorem mvM_eq {i n j : Nat} : mvM i n j = if j = i then n else j := (rfl)
end
attribute [go_sem] mvsE_nil mvsE_cons mvsH_nil mvsH_cons mvE_app mvH_eq mvM_eq
end Go.Proofs.YtgpjgljgplngpaaGreatDoor.AM
