/-
  A row, and an output, among the arguments: opened and shut again.
-/
import Derived.Test.YteejogoiikmlgaaGreatDoorProg
import Derived.WalkKit
import Derived.ProofKit
import Derived.OpenShut
import Derived.ShutString
import Derived.SizedLaws
import Derived.Lib.SmallJoins
namespace Go.Proofs.YteejogoiikmlgaaGreatDoor.RowOpen
open Go.ChangeShapes Go.WideShapes Go.ChangeAt Go.RowKit Go.Joins
set_option linter.unusedVariables false
set_option linter.unnecessarySimpa false
set_option linter.unusedSimpArgs false

theorem cellsRow : Tryz.prog.cellsOf 36 = 8 := by kernel_rfl
theorem cellsNote : Tryz.prog.cellsOf 34 = 6 := by kernel_rfl
theorem cellsOut : Tryz.prog.cellsOf 39 = 4 := by kernel_rfl
theorem cellsInt : Tryz.prog.cellsOf 3 = 1 := by kernel_rfl
theorem cellsStr : Tryz.prog.cellsOf 9 = 1 := by kernel_rfl
theorem cellsErr : Tryz.prog.cellsOf 28 = 1 := by kernel_rfl
theorem array8 {α : Type} {cs : Array α} (h : cs.size = 8) : ∃ c0 c1 c2 c3 c4 c5 c6 c7, cs = #[c0, c1, c2, c3, c4, c5, c6, c7] := by
  obtain ⟨l⟩ := cs
  match l, h with
  | [c0, c1, c2, c3, c4, c5, c6, c7], _ => exact ⟨c0, c1, c2, c3, c4, c5, c6, c7, rfl⟩

def W (n : Int) : Prop := (Lit.int .i64 n).wf = true
def Fit (a act cn ow kd er : Int) (bd rp : ByteArray) : Prop := W a ∧ W act ∧ W cn ∧ W ow ∧ W kd ∧ W er ∧ bd.size ≤ maxLen ∧ rp.size ≤ maxLen

set_option maxRecDepth 100000 in
set_option maxHeartbeats 1000000 in
theorem open_row {H : Type} {enc : TypeId × Value → H} {w : World} {base : Nat} {sp : Nat → Bool} {held : Bool} {r : Reach} {b0 : Nat} {v : Value} {d : DataW H} {ps : List MemPlace} (hval : Value.okWide Tryz.prog w r b0 36 v)
    (hd : DataW.Trod enc Tryz.prog w base sp held 36 v d ps) :
    ∃ (a act cn ow kd er : Int) (bd rp : ByteArray), v = .agg #[.int .i64 a, .int .i64 act, .int .i64 cn, .int .i64 ow, .int .i64 kd, .string bd, .int .i64 er, .string rp] ∧
      d = .agg [.lit (.int .i64 a), .lit (.int .i64 act), .agg [.lit (.int .i64 cn), .lit (.int .i64 ow), .lit (.int .i64 kd), .lit (.string bd.data.toList), .lit (.int .i64 er), .lit (.string rp.data.toList)]] ∧ ps = [] ∧ Fit a act cn ow kd er bd rp := by
  obtain ⟨cs, rfl, hsz⟩ := okWide_struct Tryz.underlying36 hval
  obtain ⟨c0, c1, c2, c3, c4, c5, c6, c7, rfl⟩ := array8 (hsz.trans cellsRow)
  obtain ⟨fuel, hf⟩ := hd
  obtain ⟨xs, n, _, hx, _, hlen, hat⟩ := DataW.trod_struct Tryz.underlying36 hf
  match xs, hlen with
  | [y0, y1, y2], _ =>
    have h0 := hat 0 _ rfl
    have h1 := hat 1 _ rfl
    have h2 := hat 2 _ rfl
    simp [Value.cells, cellsInt, cellsNote] at h0 h1 h2
    obtain ⟨ns, n', _, hy, _, hlen', hat'⟩ := DataW.trod_struct Tryz.underlying34 h2
    match ns, hlen' with
    | [z0, z1, z2, z3, z4, z5], _ =>
      have k0 := hat' 0 _ rfl
      have k1 := hat' 1 _ rfl
      have k2 := hat' 2 _ rfl
      have k3 := hat' 3 _ rfl
      have k4 := hat' 4 _ rfl
      have k5 := hat' 5 _ rfl
      simp [cellsInt, cellsStr, cellsErr] at k0 k1 k2 k3 k4 k5
      obtain ⟨a, e0, rfl, w0⟩ := DataW.trod_int Tryz.underlying3 h0
      obtain ⟨act, e1, rfl, w1⟩ := DataW.trod_int Tryz.underlying3 h1
      obtain ⟨cn, e2, rfl, w2⟩ := DataW.trod_int Tryz.underlying3 k0
      obtain ⟨ow, e3, rfl, w3⟩ := DataW.trod_int Tryz.underlying3 k1
      obtain ⟨kd, e4, rfl, w4⟩ := DataW.trod_int Tryz.underlying3 k2
      obtain ⟨bd, e5, rfl, w5⟩ := DataW.trod_string Tryz.underlying9 k3
      obtain ⟨er, e6, rfl, w6⟩ := DataW.trod_int Tryz.underlying28 k4
      obtain ⟨rp, e7, rfl, w7⟩ := DataW.trod_string Tryz.underlying9 k5
      simp at e0 e1 e2 e3 e4 e5 e6 e7
      subst e0 e1 e2 e3 e4 e5 e6 e7
      subst hy
      simp at hx
      obtain ⟨rfl, rfl⟩ := hx
      exact ⟨a, act, cn, ow, kd, er, bd, rp, rfl, rfl, rfl, w0, w1, w2, w3, w4, w6, w5, w7⟩

set_option maxRecDepth 100000 in
set_option maxHeartbeats 1000000 in
theorem shut_row {H : Type} {enc : TypeId × Value → H} {w : World} {base : Nat} {sp : Nat → Bool} {held : Bool} {a act cn ow kd er : Int} {bd rp : ByteArray} (h : Fit a act cn ow kd er bd rp) :
    DataW.Trod enc Tryz.prog w base sp held 36 (.agg #[.int .i64 a, .int .i64 act, .int .i64 cn, .int .i64 ow, .int .i64 kd, .string bd, .int .i64 er, .string rp])
      (.agg [.lit (.int .i64 a), .lit (.int .i64 act), .agg [.lit (.int .i64 cn), .lit (.int .i64 ow), .lit (.int .i64 kd), .lit (.string bd.data.toList), .lit (.int .i64 er), .lit (.string rp.data.toList)]]) [] := by
  obtain ⟨w0, w1, w2, w3, w4, w6, w5, w7⟩ := h
  unfold W at w0 w1 w2 w3 w4 w6
  exact ⟨3, by simp [DataW.trod, Value.cells, Tryz.underlying36, Tryz.underlying34, Tryz.underlying3, Tryz.underlying9, Tryz.underlying28, cellsRow, cellsNote, cellsInt, cellsStr, cellsErr, w0, w1, w2, w3, w4, w5, w6, w7]⟩

def FitO (a c : Int) (b : ByteArray) : Prop := W a ∧ W c ∧ b.size ≤ maxLen
set_option maxRecDepth 100000 in
theorem open_out {H : Type} {enc : TypeId × Value → H} {w : World} {base : Nat} {sp : Nat → Bool} {held : Bool} {r : Reach} {b0 : Nat} {v : Value} {d : DataW H} {ps : List MemPlace} (hval : Value.okWide Tryz.prog w r b0 39 v)
    (hd : DataW.Trod enc Tryz.prog w base sp held 39 v d ps) :
    ∃ (a c : Int) (b : ByteArray) (cl : Bool), v = .agg #[.int .i64 a, .int .i64 c, .string b, .bool cl] ∧ d = .agg [.lit (.int .i64 a), .lit (.int .i64 c), .lit (.string b.data.toList), .lit (.bool cl)] ∧ ps = [] ∧ FitO a c b := by
  obtain ⟨c0, c1, c2, c3, y0, y1, y2, y3, m, rfl, rfl, rfl, hy0, hy1, hy2, hy3⟩ := open_agg4 Tryz.underlying39 (by kernel_rfl) cellsOut hval hd
  obtain ⟨a, e0, rfl, wa⟩ := DataW.trod_int Tryz.underlying3 hy0
  obtain ⟨c, e1, rfl, wc⟩ := DataW.trod_int Tryz.underlying3 hy1
  obtain ⟨b, e2, rfl, wb⟩ := DataW.trod_string Tryz.underlying9 hy2
  obtain ⟨cl, e3, rfl⟩ := DataW.trod_bool Tryz.underlying4 hy3
  simp at e0 e1 e2 e3
  subst e0 e1 e2 e3
  exact ⟨a, c, b, cl, rfl, rfl, rfl, wa, wc, wb⟩
set_option maxRecDepth 100000 in
theorem shut_out {H : Type} {enc : TypeId × Value → H} {w : World} {base : Nat} {sp : Nat → Bool} {held : Bool} {a c : Int} {b : ByteArray} {cl : Bool} (h : FitO a c b) :
    DataW.Trod enc Tryz.prog w base sp held 39 (.agg #[.int .i64 a, .int .i64 c, .string b, .bool cl]) (.agg [.lit (.int .i64 a), .lit (.int .i64 c), .lit (.string b.data.toList), .lit (.bool cl)]) [] := by
  obtain ⟨w0, w1, w2⟩ := h
  unfold W at w0 w1
  simpa using shut_agg4 (enc := enc) (w := w) (base := base) (spare := sp) (held := held) (y0 := (.lit (.int .i64 a), [])) (y1 := (.lit (.int .i64 c), [])) (y2 := (.lit (.string b.data.toList), [])) (y3 := (.lit (.bool cl), [])) Tryz.underlying39 (by kernel_rfl) cellsOut
    ⟨1, by simp [DataW.trod, Tryz.underlying3, w0]⟩ ⟨1, by simp [DataW.trod, Tryz.underlying3, w1]⟩ ⟨1, by simp [DataW.trod, Tryz.underlying9, w2]⟩ ⟨1, by simp [DataW.trod, Tryz.underlying4]⟩
end Go.Proofs.YteejogoiikmlgaaGreatDoor.RowOpen
