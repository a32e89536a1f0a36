/-
  A reply among the arguments: opened and shut again.
-/
import Derived.Test.YtojkoedkecnccaaDoorProg
import Derived.WalkKit
import Derived.ProofKit
import Derived.OpenShut
import Derived.ShutString
import Derived.SizedLaws
import Derived.Lib.SmallJoins
namespace Go.Proofs.YtojkoedkecnccaaDoor.ReplyOpen
open Go.ChangeShapes Go.WideShapes Go.ChangeAt Go.RowKit Go.Joins
set_option linter.unusedVariables false

theorem cellsR : Tryd.prog.cellsOf 33 = 3 := by kernel_rfl

theorem wf_u64 {n : Int} (h : (Lit.int .u64 n).wf = true) : ∃ m : Nat, n = (m : Int) ∧ m < 18446744073709551616 := by
  have e1 : IntKind.u64.min = 0 := by decide +kernel
  have e2 : IntKind.u64.max = 18446744073709551615 := by decide +kernel
  simp [Lit.wf, e1, e2] at h
  exact ⟨n.toNat, by omega, by omega⟩

def Fit (id : Nat) (st : Int) (s : ByteArray) : Prop := s.size ≤ maxLen ∧ id < 18446744073709551616 ∧ (Lit.int .u64 (id : Int)).wf = true ∧ (Lit.int .i64 st).wf = true

set_option maxRecDepth 100000 in
theorem open_reply {H : Type} {enc : TypeId × Value → H} {w : World} {base : Nat} {sp : Nat → Bool} {held : Bool} {r : Reach} {b0 : Nat} {v : Value} {d : DataW H} {ps : List MemPlace} (hval : Value.okWide Tryd.prog w r b0 33 v)
    (hd : DataW.Trod enc Tryd.prog w base sp held 33 v d ps) :
    ∃ (id : Nat) (st : Int) (s : ByteArray), v = .agg #[.int .u64 id, .int .i64 st, .string s] ∧ d = .agg [.lit (.int .u64 id), .lit (.int .i64 st), .lit (.string s.data.toList)] ∧ ps = [] ∧ Fit id st s := by
  obtain ⟨c0, c1, c2, y0, y1, y2, m, rfl, rfl, rfl, hy0, hy1, hy2⟩ := open_agg3 Tryd.underlying33 (by kernel_rfl) cellsR hval hd
  obtain ⟨x, e0, rfl, wx⟩ := DataW.trod_int Tryd.underlying31 hy0
  obtain ⟨y, e1, rfl, wy⟩ := DataW.trod_int Tryd.underlying26 hy1
  obtain ⟨s, e2, rfl, ws⟩ := DataW.trod_string Tryd.underlying9 hy2
  simp at e0 e1 e2
  subst e0 e1 e2
  obtain ⟨n, rfl, hn⟩ := wf_u64 wx
  exact ⟨n, y, s, rfl, rfl, rfl, ws, hn, wx, wy⟩

set_option maxRecDepth 100000 in
theorem shut_reply {H : Type} {enc : TypeId × Value → H} {w : World} {base : Nat} {sp : Nat → Bool} {held : Bool} {id : Nat} {st : Int} {s : ByteArray} (h : Fit id st s) :
    DataW.Trod enc Tryd.prog w base sp held 33 (.agg #[.int .u64 id, .int .i64 st, .string s]) (.agg [.lit (.int .u64 id), .lit (.int .i64 st), .lit (.string s.data.toList)]) [] := by
  simpa using shut_agg3 (enc := enc) (w := w) (base := base) (spare := sp) (held := held) (y0 := (.lit (.int .u64 id), [])) (y1 := (.lit (.int .i64 st), [])) (y2 := (.lit (.string s.data.toList), [])) Tryd.underlying33 (by kernel_rfl) cellsR
    ⟨1, by simp [DataW.trod, Tryd.underlying31, h.2.2.1]⟩ ⟨1, by simp [DataW.trod, Tryd.underlying26, h.2.2.2]⟩ ⟨1, by simp [DataW.trod, Tryd.underlying9, h.1]⟩

theorem sized_reply {H : Type} {ts : List TypeId} {ds : List (DataW H)} (h : (DataW.weightsEach Tryd.prog ts ds).all (· ≤ reachBytes) = true) {j : Nat} {a b : Lit} {bytes : List UInt8} (ht : ts[j]? = some 33)
    (hd : ds[j]? = some (.agg [.lit a, .lit b, .lit (.string bytes)])) : bytes.length ≤ reachBytes := by
  have := List.all_eq_true.1 h _ (DataW.weights_mem_each ht hd bytes.length (by simp [DataW.weights, DataW.weightsEach, Tryd.underlying33]))
  simpa using this
end Go.Proofs.YtojkoedkecnccaaDoor.ReplyOpen
