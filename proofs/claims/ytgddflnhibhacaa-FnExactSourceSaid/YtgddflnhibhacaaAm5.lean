/- The abstract machine, part 5: its operations are sound: those that touch no memory. No conditions. -/
import Derived.Test.YtgddflnhibhacaaAm4
set_option linter.unusedVariables false
set_option linter.unusedSimpArgs false
namespace Go.Proofs.Ytgddflnhibhacaa.AM
open Go

def AV.ids : AV → List Nat
  | .ptr id _ => [id]
  | .slice id _ _ _ => [id]
  | _ => []
/-- The blocks whose cells an operation looks at or writes. -/
def afoot (ρ : Operand → AV) : Op → List Nat
  | .load _ a => (ρ a).ids
  | .store _ a _ => (ρ a).ids
  | .convert _ _ x => (ρ x).ids
  | .call c => c.args.toList.flatMap fun x => (ρ x).ids
  | _ => []

def OpRun (P : Program) (a : Act) (o : Oper) (w : World) (v : Value) (w' : World) : Prop :=
  (execOp a.eval o).run P w = .ok (.value v) w' ∨ ((execOp a.eval o).run P w = .ok .skip w' ∧ v = undef)

section
variable {P : Program} {F : Nat → Prop} {ι ι' : Inj} {w0 w : World} {a : Act} {ρ : Operand → AV} {H : Heap}

theorem VR_int {k : IntKind} {n : Int} {v : Value} (h : VR F ι w0 (.int k n) v) : v = .int k n := by simpa [VR] using h
theorem VR_bool {b : Bool} {v : Value} (h : VR F ι w0 (.bool b) v) : v = .bool b := by simpa [VR] using h
theorem VR_str {s : ByteArray} {v : Value} (h : VR F ι w0 (.str s) v) : v = .string s := by simpa [VR] using h

theorem VRL_map {ys : List Operand} (hρ : ∀ y, VR F ι w0 (ρ y) (a.eval y)) : VRL F ι w0 (ys.map ρ) (ys.map a.eval) := by
  induction ys with
  | nil => simp [VRL_nil]
  | cons y ys ih => exact VRL_cons.2 ⟨_, _, rfl, hρ y, ih⟩

/-! ### what touches no memory -/
theorem fieldAddr_sound {s f : Nat} {x y : AV} {v : Value} (h : aFieldAddr P s f x = some y) (hx : VR F ι w0 x v) : ∃ u, (Instr.fieldAt s v f).run P w = .ok u w ∧ VR F ι w0 y u := by
  unfold aFieldAddr at h
  split at h
  · rename_i id off
    simp only [VR] at hx
    obtain ⟨c, h1, rfl⟩ := hx
    split at h
    · rename_i o t hf
      split at h
      · rename_i n hs
        obtain ⟨fs, fd, h2, h3, h4, h5⟩ := tField_eq hf
        obtain rfl := Option.some.inj h
        refine ⟨.pointer (some ⟨c.blk, off + o, none⟩), ?_, by simp only [VR]; exact ⟨c, h1, rfl⟩⟩
        subst h4 h5
        simp [Instr.fieldAt, run_underlying h2, h3, Instr.sureAddr, fieldPlace, tSize_run hs, addr_add]
      · cases h
    · cases h
  · rename_i cs
    simp only [VR] at hx
    obtain ⟨c, off, vs, rfl, hF, hc, hv⟩ := hx
    split at h
    · rename_i o t hf
      split at h
      · rename_i n hs
        obtain ⟨fs, fd, h2, h3, h4, h5⟩ := tField_eq hf
        obtain rfl := Option.some.inj h
        refine ⟨.pointer (some ⟨c, off + o, none⟩), ?_, by simp only [VR]; exact ⟨c, off + o, vs.drop o, rfl, hF, hc.drop o, hv.drop o⟩⟩
        subst h4 h5
        simp [Instr.fieldAt, run_underlying h2, h3, Instr.sureAddr, fieldPlace, tSize_run hs, addr_add]
      · cases h
    · cases h
  · cases h

theorem field_sound {s f : Nat} {x y : AV} {v : Value} (h : aField P s f x = some y) (hx : VR F ι w0 x v) : ∃ u, (Instr.field s v f).run P w = .ok u w ∧ VR F ι w0 y u := by
  unfold aField at h
  split at h
  · rename_i cs
    simp only [VR] at hx
    obtain ⟨vs, rfl, hv, h1⟩ := hx
    split at h
    · rename_i o t hf
      obtain ⟨fs, fd, h2, h3, h4, h5⟩ := tField_eq hf
      obtain ⟨u, hu, hr⟩ := part_sound h hv h1 w
      refine ⟨u, ?_, hr⟩
      subst h4 h5
      simp [Instr.field, run_underlying h2, h3, asAgg]
      simpa using hu
    · cases h
  · cases h

theorem indexAddr_sound {t : Nat} {x i y : AV} {v u : Value} (h : aIndexAddr P t x i = some y) (hx : VR F ι w0 x v) (hi : VR F ι w0 i u) : ∃ z, (Instr.indexAt t v u).run P w = .ok z w ∧ VR F ι w0 y z := by
  unfold aIndexAddr at h
  split at h
  all_goals try (cases h; done)
  all_goals
    rename_i k n
    obtain rfl := VR_int hi
    split at h
    all_goals try (cases h; done)
    rename_i sz hsz
    obtain ⟨e, he, hs⟩ := Option.bind_eq_some_iff.1 hsz
    split at h
    all_goals try (cases h; done)
    rename_i hn
    obtain rfl := Option.some.inj h
    obtain ⟨hn0, hn1⟩ := hn
    have ht := tElem_eq he
  · rename_i id off len cap
    simp only [VR] at hx
    rcases hx with ⟨c, ccap, off', h1, rfl, h2, h3, h4, h5⟩ | ⟨h1, h2, _⟩
    · rcases h4 with h4 | rfl
      · omega
      · refine ⟨.pointer (some ⟨c.blk, off' + n.toNat * sz, none⟩), ?_, by simp only [VR]; exact ⟨c, h1, rfl⟩⟩
        simp [Instr.indexAt, asIntOf, run_underlying ht, hn0, hn1, tSize_run hs, addr_add]
    · omega
  · rename_i len cap cs
    simp only [VR] at hx
    obtain ⟨b, ccap, rfl, h2, h3, hz, h4⟩ := hx
    rcases h4 with ⟨_, h4⟩ | ⟨c, off, vs, rfl, hF, hc, hv⟩
    · omega
    · refine ⟨.pointer (some ⟨c, off + n.toNat * sz, none⟩), ?_, by simp only [VR]; exact ⟨c, _, _, rfl, hF, hc.drop _, hv.drop _⟩⟩
      simp [Instr.indexAt, asIntOf, run_underlying ht, hn0, hn1, tSize_run hs, addr_add]
  · rename_i len cap cs
    simp only [VR] at hx
    obtain ⟨b, ccap, rfl, h2, h3, h4⟩ := hx
    rcases h4 with ⟨_, h4⟩ | ⟨c, off, vs, rfl, hF, hc, hv⟩
    · omega
    · refine ⟨.pointer (some ⟨c, off + n.toNat * sz, none⟩), ?_, by simp only [VR]; exact ⟨c, _, _, rfl, hF, hc.drop _, hv.drop _⟩⟩
      simp [Instr.indexAt, asIntOf, run_underlying ht, hn0, hn1, tSize_run hs, addr_add]

theorem index_sound {t : Nat} {x i y : AV} {v u : Value} (h : aIndex P t x i = some y) (hx : VR F ι w0 x v) (hi : VR F ι w0 i u) : ∃ z, (Instr.index t v u).run P w = .ok z w ∧ VR F ι w0 y z := by
  unfold aIndex at h
  split at h
  · rename_i s k n
    obtain rfl := VR_int hi
    obtain rfl := VR_str hx
    split at h
    · rename_i ht
      split at h
      · rename_i hn
        obtain rfl := Option.some.inj h
        have ht' := tStr_eq ht
        have hlt : n.toNat < s.size := by omega
        have hb : s[n.toNat]? = some (s[n.toNat]'hlt) := getElem?_pos s n.toNat hlt
        refine ⟨.int .u8 (s[n.toNat]'hlt).toNat, ?_, ?_⟩
        · simp [Instr.index, asIntOf, run_underlying ht', hn.1, hb]
        · simp only [VR, bat]
          congr 2
          have hl : n.toNat < s.data.toList.length := by simpa using hlt
          simp [List.getD_eq_getElem?_getD, List.getElem?_eq_getElem hl]
          rfl
      · cases h
    · cases h
  · cases h

theorem un_sound {op : UnOp} {x y : AV} {v : Value} (h : aUn op x = some y) (hx : VR F ι w0 x v) : ∃ u, (Op.unary op v).run P w = .ok u w ∧ VR F ι w0 y u := by
  unfold aUn at h
  split at h
  · rename_i b
    obtain rfl := VR_bool hx
    split at h
    · obtain rfl := Option.some.inj h
      exact ⟨.bool (!b), by simp [Op.unary], by simp [VR]⟩
    · cases h
  · rename_i k n
    obtain rfl := VR_int hx
    split at h
    · obtain rfl := Option.some.inj h
      exact ⟨.int k (k.wrap (0 - n)), by simp [Op.unary, Op.intArith], by simp [VR]⟩
    · cases h
  · cases h

theorem int_sound {op : BinOp} {k : IntKind} {p q : Int} {y : AV} {t : TypeId} (h : aInt op k p q = some y) : ∃ u, (binOp op t (.int k p) (.int k q)).run P w = .ok u w ∧ VR F ι w0 y u := by
  unfold aInt at h
  cases op <;> simp only at h
  all_goals try (cases h; done)
  case quo =>
    split at h
    · cases h
    · rename_i hq
      obtain rfl := Option.some.inj h
      exact ⟨.int k (k.wrap (p.tdiv q)), by simp [binOp, Op.intDiv, hq], by simp [VR]⟩
  case rem =>
    split at h
    · cases h
    · rename_i hq
      obtain rfl := Option.some.inj h
      exact ⟨.int k (p.tmod q), by simp [binOp, Op.intDiv, hq], by simp [VR]⟩
  all_goals obtain rfl := Option.some.inj h
  case add => exact ⟨.int k (k.wrap (p + q)), by simp [binOp, Op.intArith], by simp [VR]⟩
  case sub => exact ⟨.int k (k.wrap (p - q)), by simp [binOp, Op.intArith], by simp [VR]⟩
  case mul => exact ⟨.int k (k.wrap (p * q)), by simp [binOp, Op.intArith], by simp [VR]⟩
  case and => exact ⟨.int k (bitop .and k p q), by simp [binOp, Op.intBits, bitop], by simp [VR]⟩
  case or => exact ⟨.int k (bitop .or k p q), by simp [binOp, Op.intBits, bitop], by simp [VR]⟩
  case xor => exact ⟨.int k (bitop .xor k p q), by simp [binOp, Op.intBits, bitop], by simp [VR]⟩
  case andNot => exact ⟨.int k (bitop .andNot k p q), by simp [binOp, Op.intBits, bitop], by simp [VR]⟩
  case eql => exact ⟨.bool (p == q), by simp [binOp, Op.intCmp], by simp [VR]; rfl⟩
  case neq => exact ⟨.bool (p != q), by simp [binOp, Op.intCmp], by simp [VR]; rfl⟩
  case lss => exact ⟨.bool (p < q), by simp [binOp, Op.intCmp], by simp [VR]⟩
  case leq => exact ⟨.bool (p ≤ q), by simp [binOp, Op.intCmp], by simp [VR]⟩
  case gtr => exact ⟨.bool (p > q), by simp [binOp, Op.intCmp], by simp [VR]⟩
  case geq => exact ⟨.bool (p ≥ q), by simp [binOp, Op.intCmp], by simp [VR]⟩

theorem beq_bytes (p q : ByteArray) : (p == q) = decide (p = q) := by
  rw [beq_toListBytes, Bool.eq_iff_iff]
  simp only [beq_iff_eq, decide_eq_true_eq]
  constructor
  · intro h
    rw [ByteArray.toList_eq, ByteArray.toList_eq] at h
    cases p
    cases q
    congr 1
    exact Array.ext' h
  · rintro rfl
    rfl

theorem eqFs_sound {d : Nat} (ih : ∀ (t : TypeId) (x y : AV) (r : Bool) (v u : Value), eqV P d t x y = some r → VR F ι w0 x v → VR F ι w0 y u → (Op.equalIn d t v u).run P w = .ok r w)
    (xs ys : List AV) (vs us : Array Value) (h1 : VRL F ι w0 xs vs.toList) (h2 : ∀ u ∈ vs.toList, u.oneCell' = true) (h3 : VRL F ι w0 ys us.toList) (h4 : ∀ u ∈ us.toList, u.oneCell' = true) :
    ∀ (fs : List Field) (r : Bool), eqFs P (eqV P d) xs ys fs = some r → (Op.eqFields d vs us fs).run P w = .ok r w
  | [], r, h => by
    simp [eqFs] at h
    subst h
    simp [Op.eqFields]
  | f :: fs, r, h => by
    unfold eqFs at h
    simp only [Op.eqFields]
    split at h
    · rename_i hn
      rw [if_pos hn]
      split at h
      · rename_i a b ha hb
        obtain ⟨p, hp, hpr⟩ := part_sound ha h1 h2 w
        obtain ⟨q, hq, hqr⟩ := part_sound hb h3 h4 w
        simp only [Array.toArray_toList] at hp hq
        cases he : eqV P d f.type a b with
        | none => rw [he] at h; cases h
        | some s =>
          have := ih f.type a b s p q he hpr hqr
          simp only [Sem.run_bind, hp, Result.andThen_ok, hq, this]
          rw [he] at h
          cases s with
          | true => simpa using eqFs_sound ih xs ys vs us h1 h2 h3 h4 fs r h
          | false => simp at h; subst h; simp
      · cases h
    · rename_i hn
      rw [if_neg hn]
      exact eqFs_sound ih xs ys vs us h1 h2 h3 h4 fs r h

theorem eqV_sound (d : Nat) : ∀ (t : TypeId) (x y : AV) (r : Bool) (v u : Value), eqV P d t x y = some r → VR F ι w0 x v → VR F ι w0 y u → (Op.equalIn d t v u).run P w = .ok r w := by
  induction d with
  | zero => intro t x y r v u h; simp [eqV] at h
  | succ d ih =>
    intro t x y r v u h hx hy
    unfold eqV at h
    cases x with
    | int k p =>
      cases y with
      | int k' q =>
        simp only at h
        obtain rfl := VR_int hx
        obtain rfl := VR_int hy
        split at h
        · rename_i hc
          obtain ⟨k2, hk⟩ := Option.isSome_iff_exists.1 hc.1
          obtain rfl := hc.2
          obtain rfl := Option.some.inj h
          rw [run_equalIn_int w d t _ _ _ _ (tInt_eq hk)]
          rfl
        · cases h
      | _ => simp at h
    | bool p =>
      cases y with
      | bool q =>
        simp only at h
        obtain rfl := VR_bool hx
        obtain rfl := VR_bool hy
        split at h
        · rename_i hc
          obtain rfl := Option.some.inj h
          exact run_equalIn_bool' w d t _ _ (tBoo_eq hc)
        · cases h
      | _ => simp at h
    | str p =>
      cases y with
      | str q =>
        simp only at h
        obtain rfl := VR_str hx
        obtain rfl := VR_str hy
        split at h
        · rename_i hc
          obtain rfl := Option.some.inj h
          rw [run_equalIn_string w d t _ _ (tStr_eq hc), ← beq_toListBytes, beq_bytes]
        · cases h
      | _ => simp at h
    | agg xs =>
      cases y with
      | agg ys =>
        simp only at h
        simp only [VR] at hx hy
        obtain ⟨vs, rfl, h1, h2⟩ := hx
        obtain ⟨us, rfl, h3, h4⟩ := hy
        split at h
        · rename_i fs hfs
          split at h
          · rename_i hst
            have hf : P.fieldsOf t = fs := by unfold Program.fieldsOf; rw [hfs]
            rw [run_equalIn_struct w d t vs us (by rw [hf]; exact hfs) hst, hf]
            exact eqFs_sound ih xs ys vs us h1 h2 h3 h4 fs.toList r h
          · cases h
        · cases h
      | _ => simp at h
    | _ => simp at h

theorem eqIn_nils {t e : TypeId} (he : P.underlying t = some (.slice e)) (d : Nat) (b : Option Addr) (n c : Nat) : (Op.equalIn (d + 1) t (.slice b n c) (.slice none 0 0)).run P w = .ok b.isNone w := by
  cases b <;> simp [Op.equalIn, run_underlying he]
theorem eqIn_nilf {t : TypeId} {ms : Array (String × TypeId)} (he : P.underlying t = some (.interface ms)) (d : Nat) : (Op.equalIn (d + 1) t .nilIface .nilIface).run P w = .ok true w := by
  simp [Op.equalIn, run_underlying he]
theorem eqIn_somef {t : TypeId} {ms : Array (String × TypeId)} (he : P.underlying t = some (.interface ms)) (d : Nat) (q : TypeId) (b : Value) : (Op.equalIn (d + 1) t (.iface q b) .nilIface).run P w = .ok false w := by
  simp [Op.equalIn, run_underlying he]

theorem eq_sound' (d : Nat) (hd : d + 1 = Op.maxDepth) {t : TypeId} {x y : AV} {v u : Value} {r : Bool} (h : aEq P t x y = some r) (hx : VR F ι w0 x v) (hy : VR F ι w0 y u) : (Op.equalIn (d + 1) t v u).run P w = .ok r w := by
  unfold aEq at h
  rw [← hd] at h
  split at h
  all_goals try (cases h; done)
  all_goals split at h
  all_goals try (cases h; done)
  · rename_i hc
    obtain rfl := VR_bool hx
    obtain rfl := VR_bool hy
    obtain rfl := Option.some.inj h
    exact run_equalIn_bool' w _ t _ _ (tBoo_eq hc)
  · exact eqV_sound _ t _ _ r v u h hx hy
  · rename_i hc
    obtain ⟨e, he⟩ := tSli_eq hc
    simp only [VR] at hx hy
    subst hx hy
    obtain rfl := Option.some.inj h
    exact eqIn_nils he d _ _ _
  · rename_i hc
    obtain ⟨e, he⟩ := tSli_eq hc
    simp only [VR] at hx hy
    obtain ⟨a, ccap, rfl, _⟩ := hx
    subst hy
    obtain rfl := Option.some.inj h
    exact eqIn_nils he d _ _ _
  · rename_i hc
    obtain ⟨e, he⟩ := tIfc_eq hc
    simp only [VR] at hx hy
    subst hx hy
    obtain rfl := Option.some.inj h
    exact eqIn_nilf he d
  · rename_i hc
    obtain ⟨e, he⟩ := tIfc_eq hc
    simp only [VR] at hx hy
    obtain ⟨a, b, rfl⟩ := hx
    subst hy
    obtain rfl := Option.some.inj h
    exact eqIn_somef he d _ _
theorem eq_sound {t : TypeId} {x y : AV} {v u : Value} {r : Bool} (h : aEq P t x y = some r) (hx : VR F ι w0 x v) (hy : VR F ι w0 y u) : (Op.equal t v u).run P w = .ok r w :=
  eq_sound' 9999 rfl h hx hy
end
end Go.Proofs.Ytgddflnhibhacaa.AM
