/- The abstract machine, part 19: what a walk rewrites by. No conditions. -/
import Derived.Test.YtgddflnhibhacaaAm18
import Derived.Attr
set_option linter.unusedVariables false
set_option linter.unusedSimpArgs false
namespace Go.Proofs.Ytgddflnhibhacaa.AM
open Go

section
variable {P : Program} {ρ : Env} {H : Heap}
theorem upd_app {t u : Tmp} {v : AV} : upd ρ t v u = if u = t then v else ρ u := (rfl)
theorem updO_some {t : Tmp} {v : AV} : updO ρ (some t) v = upd ρ t v := (rfl)
theorem updO_none {v : AV} : updO ρ none v = ρ := (rfl)
theorem aeval_tmp {t : Tmp} : aeval ρ (.tmp t) = ρ t := (rfl)
theorem aeval_const {v : Value} : aeval ρ (.const v) = ofV v := (rfl)
theorem aeval_func {f : FuncId} : aeval ρ (.func f) = .func f [] [] := (rfl)
theorem ofV_bool {b : Bool} : ofV (.bool b) = .bool b := (rfl)
theorem ofV_int {k : IntKind} {n : Int} : ofV (.int k n) = .int k n := (rfl)
theorem ofV_str {s : ByteArray} : ofV (.string s) = .str s := (rfl)
theorem ofV_nil : ofV (.slice none 0 0) = .nilsl := (rfl)
theorem ofV_nilif : ofV .nilIface = .nilif := (rfl)
theorem app_nil : AEff.app H .nil = H := (rfl)
theorem app_new {b : Blk} : AEff.app H (.new b) = H ++ [b] := (rfl)
theorem app_set {id : Nat} {b : Blk} : AEff.app H (.set id b) = H.set id b := (rfl)
theorem app_move {id : Nat} {b : Blk} : AEff.app H (.move id b) = H.set id deadBlk ++ [b] := (rfl)
theorem gT_none : gTest ρ none = some true := (rfl)
theorem gT_tmp {t : Tmp} {want : Bool} : gTest ρ (some (t, want)) = match ρ t with
    | .bool b => some (b == want)
    | .tuple xs => match xs with
      | [] => some false
      | _ => none
    | _ => none := rfl
theorem awpS_cons {K : Env → Heap → Prop} {d : Option Tmp} {op : Op} {t : Tmp} {want : Bool} {rest : List SOp} : awpS P K ((d, op, some (t, want)) :: rest) ρ H = match gTest ρ (some (t, want)) with
    | some b => if b = true then opS P ρ H d op (awpS P K rest) else awpS P K rest (updO ρ d (.tuple [])) H
    | none => False := rfl
theorem argEnv_zero {x : AV} {xs : List AV} : argEnv (x :: xs) 0 = x := (rfl)
theorem argEnv_succ {x : AV} {xs : List AV} {n : Nat} : argEnv (x :: xs) (n + 1) = argEnv xs n := (rfl)
theorem awpS_onT {K : Env → Heap → Prop} {d : Option Tmp} {op : Op} {t : Tmp} {rest : List SOp} (h : ρ t = .bool true) : awpS P K ((d, op, some (t, true)) :: rest) ρ H = opS P ρ H d op (awpS P K rest) := awpS_on h rfl
theorem awpS_onF {K : Env → Heap → Prop} {d : Option Tmp} {op : Op} {t : Tmp} {rest : List SOp} (h : ρ t = .bool false) : awpS P K ((d, op, some (t, false)) :: rest) ρ H = opS P ρ H d op (awpS P K rest) := awpS_on h rfl
theorem arr_toList {α : Type} {l : List α} : l.toArray.toList = l := (rfl)
theorem bor_bool {Hb : Heap} {inv : Nat → Option Nat} {n : Nat} {b : Bool} : bor Hb inv (n + 1) (.bool b) = .bool b := (rfl)
theorem bor_int {Hb : Heap} {inv : Nat → Option Nat} {n : Nat} {k : IntKind} {i : Int} : bor Hb inv (n + 1) (.int k i) = .int k i := (rfl)
theorem bor_str {Hb : Heap} {inv : Nat → Option Nat} {n : Nat} {s : ByteArray} : bor Hb inv (n + 1) (.str s) = .str s := (rfl)
theorem bor_agg {Hb : Heap} {inv : Nat → Option Nat} {n : Nat} {cs : List AV} : bor Hb inv (n + 1) (.agg cs) = .agg (cs.map (bor Hb inv n)) := (rfl)
theorem bor_tuple {Hb : Heap} {inv : Nat → Option Nat} {n : Nat} {cs : List AV} : bor Hb inv (n + 1) (.tuple cs) = .tuple (cs.map (bor Hb inv n)) := (rfl)
theorem bor_sl {Hb : Heap} {inv : Nat → Option Nat} {n l c : Nat} {cs : List AV} : bor Hb inv (n + 1) (.sl l c cs) = .sl l c (cs.map (bor Hb inv n)) := (rfl)
theorem bor_nnsl {Hb : Heap} {inv : Nat → Option Nat} {n l c : Nat} {cs : List AV} : bor Hb inv (n + 1) (.nnsl l c cs) = .nnsl l c (cs.map (bor Hb inv n)) := (rfl)
theorem bor_sptr {Hb : Heap} {inv : Nat → Option Nat} {n : Nat} {cs : List AV} : bor Hb inv (n + 1) (.sptr cs) = .sptr (cs.map (bor Hb inv n)) := (rfl)
theorem bor_nilsl {Hb : Heap} {inv : Nat → Option Nat} {n : Nat} : bor Hb inv (n + 1) .nilsl = .nilsl := (rfl)
theorem bor_esl {Hb : Heap} {inv : Nat → Option Nat} {n : Nat} : bor Hb inv (n + 1) .esl = .esl := (rfl)
theorem bor_nilif {Hb : Heap} {inv : Nat → Option Nat} {n : Nat} : bor Hb inv (n + 1) .nilif = .nilif := (rfl)
theorem bor_someif {Hb : Heap} {inv : Nat → Option Nat} {n : Nat} : bor Hb inv (n + 1) .someif = .someif := (rfl)
theorem bor_func {Hb : Heap} {inv : Nat → Option Nat} {n : Nat} {f : FuncId} {a b : List AV} : bor Hb inv (n + 1) (.func f a b) = .func f (a.map (bor Hb inv n)) (b.map (bor Hb inv n)) := (rfl)
theorem bor_slice {Hb : Heap} {inv : Nat → Option Nat} {n id off len cap : Nat} : bor Hb inv (n + 1) (.slice id off len cap) = match inv id with
      | some j => .slice j off len cap
      | none => match Hb[id]? with
        | some b => if b.live = true then .sl len len (((b.cells.drop off).take (len * b.sz)).map (bor Hb inv n)) else .any
        | none => .any := rfl
theorem bor_ptr {Hb : Heap} {inv : Nat → Option Nat} {n id off : Nat} : bor Hb inv (n + 1) (.ptr id off) = match inv id with
      | some j => .ptr j off
      | none => match Hb[id]? with
        | some b => if b.live = true then .sptr ((b.cells.drop off).map (bor Hb inv n)) else .any
        | none => .any := rfl
theorem fuel_eq : fuel = 5 + 1 := (rfl)
theorem idx_nil {id : Nat} : idx [] id = none := (rfl)
theorem idx_cons {x id : Nat} {m : List Nat} : idx (x :: m) id = if x = id then some 0 else (idx m id).map (· + 1) := by
  unfold idx
  rw [List.idxOf?_cons]
  by_cases h : x = id <;> simp [h]
theorem aResult_one {v : AV} : aResult [v] = v := (rfl)
/-- Conditions, said plainly. -/
theorem cnd : (∀ (p : Prop) [Decidable p], (decide p = true) = p) ∧ (∀ (p : Prop) [Decidable p], (decide p = false) = ¬ p) ∧ (∀ b : Bool, ((!b) = true) = (b = false)) ∧ (∀ b : Bool, ((!b) = false) = (b = true)) ∧
    (∀ a b : Bool, ((a && b) = true) = (a = true ∧ b = true)) ∧ (∀ a b : Bool, ((a || b) = true) = (a = true ∨ b = true)) ∧ (∀ a b : Bool, ((a && b) = false) = (a = false ∨ b = false)) ∧ (∀ a b : Bool, ((a || b) = false) = (a = false ∧ b = false)) := by
  refine ⟨fun p _ => by simp, fun p _ => by simp, by decide, by decide, by decide, by decide, by decide, by decide⟩
theorem stripG_none {ops : Array Oper} : stripG ops none = some none := (rfl)
theorem stripG_some {ops : Array Oper} {j : Nat} {want : Bool} : stripG ops (some (j, want)) = match (ops[j]?).bind (·.dst) with
    | some t => some (some (t, want))
    | none => none := rfl
theorem map_arr {α β : Type} {f : α → β} {l : List α} : l.toArray.toList.map f = l.map f := (rfl)
/-- A function's end, where no block is handed over and none comes back. -/
theorem ret0 {rs : List ResultVar} {vs : List AV} {v : AV} (h1 : aRes P H ρ rs = some vs) (hv : bor [] (idx []) fuel (aResult vs) = v) : retQ P rs 0 (fun v' h'' => v' = v ∧ h'' = []) .ret ρ H :=
  ret_mk [] vs h1 (by simp) (Nat.zero_le _) (by simp) ⟨hv, rfl⟩
theorem gcH_nil : gcH [] H = [] := (rfl)
end
attribute [go_sem] argEnv_zero argEnv_succ upd_app updO_some updO_none aeval_tmp aeval_const aeval_func ofV_bool ofV_int ofV_str ofV_nil ofV_nilif app_nil app_new app_set app_move awpS_onT awpS_onF
  bor_bool bor_int bor_str bor_agg bor_tuple bor_sl bor_nnsl bor_sptr bor_nilsl bor_esl bor_nilif bor_someif bor_func bor_slice bor_ptr fuel_eq idx_nil idx_cons aResult_one gcH_nil
  awpS_nil awpS_op opS_move opS_assign opS_pick opS_load opS_store opS_un opS_bin opS_fieldAddr opS_field opS_indexAddr opS_index opS_slice opS_extract opS_nilCheck opS_alloc opS_box opS_build opS_buildSlice opS_makeSlice opS_makeFunc opS_builtin
  oV_some oV_none oV_ite oV_map oV_bind
  aMake aAppend aCopy aClear aload aLoad aStore aFieldAddr aField aIndexAddr aIndex aBound aSlice aInt aBin aUn aCells aLen aCap aBuiltin aEq gOk isC aRes AV.cells?
  sh shL mmap noS noSL shB aRow aFill
  List.map_nil List.map_cons List.append_nil List.nil_append List.cons_append List.length_nil List.length_cons List.getElem?_cons_zero List.getElem?_cons_succ List.drop_zero List.drop_succ_cons List.take_zero List.take_succ_cons
  List.head?_cons List.getElem?_nil Option.map_some Option.map_none Option.bind_some Option.bind_none List.all_cons List.all_nil List.set_cons_zero List.set_cons_succ List.getD_cons_zero List.getD_cons_succ
  Bool.and_true Bool.true_and Bool.and_false Bool.false_and Bool.or_true Bool.true_or Bool.or_false Bool.false_or Bool.not_true Bool.not_false and_true true_and beq_self_eq_true Bool.false_eq_true
  ne_eq not_true_eq_false or_false false_or Nat.le_refl
  Int.toNat_natCast Nat.zero_add Nat.add_zero Nat.mul_one Nat.one_mul Nat.zero_mul
  liveE_nil liveE_one liveE_cons
end Go.Proofs.Ytgddflnhibhacaa.AM
