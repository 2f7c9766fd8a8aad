/- A law's arguments: keys and words. No conditions. -/
import Derived.Test.YtcjjopfmeipidaaOp1
import Derived.Test.YtcjjopfmeipidaaSp2
namespace Go.Proofs.Ytcjjopfmeipidaa.AM
open Go
def i64ok (n : Int) : Prop := (Lit.int .i64 n).wf = true
def Key.ok (k : Key) : Prop := i64ok k.base ∧ i64ok k.top ∧ i64ok k.perms ∧ i64ok k.lock
def Word.ok (w : Word) : Prop := i64ok w.n ∧ w.key.ok
theorem opens_key {P : Program} {t e : TypeId} {f0 f1 f2 f3 : Field} (ht : P.underlying t = some (.struct #[f0, f1, f2, f3])) (hc : P.cellsOf t = 4) (he : P.underlying e = some (.int .i64)) (hs : P.cellsOf e = 1)
    (t0 : f0.type = e) (t1 : f1.type = e) (t2 : f2.type = e) (t3 : f3.type = e) (o0 : f0.offset = 0) (o1 : f1.offset = 1) (o2 : f2.offset = 2) (o3 : f3.offset = 3) : Opens P t Key.cells Key.ok := by
  have oi : Opens P e (fun n : Int => [AV.int .i64 n]) i64ok := opens_int he
  have h := opens_struct (total := 4) ht hc (opensF_cons (f := f0) (o := 0) (s := 1) (by rw [t0]; exact hs) (by rw [t0]; exact oi) (opensF_cons (f := f1) (o := 1) (s := 1) (by rw [t1]; exact hs) (by rw [t1]; exact oi)
    (opensF_cons (f := f2) (o := 2) (s := 1) (by rw [t2]; exact hs) (by rw [t2]; exact oi) (opensF_cons (f := f3) (o := 3) (s := 1) (by rw [t3]; exact hs) (by rw [t3]; exact oi) opensF_nil o3 (by decide)) o2 (by decide)) o1 (by decide)) o0 (by decide))
  exact h.map (fun p => ⟨p.1, p.2.1, p.2.2.1, p.2.2.2.1⟩) (fun p => rfl) (fun p hp => ⟨hp.1, hp.2.1, hp.2.2.1, hp.2.2.2.1⟩)
theorem opens_word {P : Program} {t e b k : TypeId} {f0 f1 f2 : Field} (ht : P.underlying t = some (.struct #[f0, f1, f2])) (hc : P.cellsOf t = 6) (he : P.underlying e = some (.int .i64)) (hs : P.cellsOf e = 1) (hb : P.underlying b = some .bool) (hbs : P.cellsOf b = 1)
    (hk : Opens P k Key.cells Key.ok) (hks : P.cellsOf k = 4) (t0 : f0.type = e) (t1 : f1.type = b) (t2 : f2.type = k) (o0 : f0.offset = 0) (o1 : f1.offset = 1) (o2 : f2.offset = 2) : Opens P t Word.cells Word.ok := by
  have oi : Opens P e (fun n : Int => [AV.int .i64 n]) i64ok := opens_int he
  have ob := opens_bool hb
  have h := opens_struct (total := 6) ht hc (opensF_cons (f := f0) (o := 0) (s := 1) (by rw [t0]; exact hs) (by rw [t0]; exact oi) (opensF_cons (f := f1) (o := 1) (s := 1) (by rw [t1]; exact hbs) (by rw [t1]; exact ob)
    (opensF_cons (f := f2) (o := 2) (s := 4) (by rw [t2]; exact hks) (by rw [t2]; exact hk) opensF_nil o2 (by decide)) o1 (by decide)) o0 (by decide))
  exact h.map (fun p => ⟨p.1, p.2.1, p.2.2.1⟩) (fun p => by simp [Word.cells, Key.cells]) (fun p hp => ⟨hp.1, hp.2.2.1⟩)
end Go.Proofs.Ytcjjopfmeipidaa.AM
