/-
  A map of pointers that the call has made: what is put in is looked up.
-/
import Derived.Test.YteejogoiikmlgaaGreatDoorTServ
import Derived.Maps.Own
import Derived.Maps.OwnSet
namespace Go.Proofs.YteejogoiikmlgaaGreatDoor.Serv
open Go.RowKit Go.Maps
set_option linter.unusedVariables false
set_option linter.unusedSimpArgs false

/-- how a pointer reads -/
def ptrR (v : Value) : Option (DataW Unit × List MemPlace) :=
  match v with
  | .pointer none => some (.lit (.bool false), [])
  | .pointer (some ⟨b, 0, none⟩) => some (.lit (.int .i64 b), [])
  | _ => none
theorem ptrR_none : ptrR (.pointer none) = some (.lit (.bool false), []) := rfl
theorem ptrR_some (b : Nat) : ptrR (.pointer (some ⟨b, 0, none⟩)) = some (.lit (.int .i64 b), []) := rfl
theorem ptrR_inv_none {v : Value} {ps : List MemPlace} (h : ptrR v = some (.lit (.bool false), ps)) : v = .pointer none := by
  unfold ptrR at h
  split at h <;> simp_all
theorem ptrR_inv_some {v : Value} {ps : List MemPlace} {b : Nat} (h : ptrR v = some (.lit (.int .i64 b), ps)) : v = .pointer (some ⟨b, 0, none⟩) := by
  unfold ptrR at h
  split at h <;> simp_all
  have := h.1
  omega
theorem lawT : Keyed Tryz.prog 3 := int_keyed Tryz.underlying3
theorem zeroT (w : World) : (zeroValue 106).run Tryz.prog w = .ok (.pointer none) w := by kernel_rfl

/-- the server's map of tenants: the admin's alone -/
def TMap (M T : Nat) (W : World) : Prop := W.ownsMap Tryz.prog 3 ptrR M 1 ((DataW.map []).put (.int .i64 0) (.lit (.int .i64 T)))
theorem keyT (k : Nat) (hk : k ≤ 8) : keyOf Tryz.prog 3 (.int .i64 k) = some (.int .i64 k) := keyOf_int_mk Tryz.underlying3 (WalkArith.wf_i64 (by omega))
theorem TMap.look0 {M T : Nat} {W : World} (h : TMap M T W) : (Instr.lookup 115 (.map (some M)) (.int .i64 0) false).run Tryz.prog W = .ok (.pointer (some ⟨T, 0, none⟩)) W := by
  obtain ⟨v, ps, hrun, hR⟩ := World.ownsMap.lookup h lawT Tryz.underlying115 (zeroT W) ptrR_none (keyT 0 (by decide))
  have hv : ptrR v = some (.lit (.int .i64 T), ps) := hR
  rw [ptrR_inv_some hv] at hrun
  exact hrun
theorem TMap.lookk {M T : Nat} {W : World} (h : TMap M T W) (k : Nat) (h1 : 1 ≤ k) (h8 : k ≤ 8) : (Instr.lookup 115 (.map (some M)) (.int .i64 k) false).run Tryz.prog W = .ok (.pointer none) W := by
  obtain ⟨v, ps, hrun, hR⟩ := World.ownsMap.lookup h lawT Tryz.underlying115 (zeroT W) ptrR_none (keyT k h8)
  have hv : ptrR v = some (.lit (.bool false), ps) := by
    have : k = 1 ∨ k = 2 ∨ k = 3 ∨ k = 4 ∨ k = 5 ∨ k = 6 ∨ k = 7 ∨ k = 8 := by omega
    rcases this with rfl | rfl | rfl | rfl | rfl | rfl | rfl | rfl <;> exact hR
  rw [ptrR_inv_none hv] at hrun
  exact hrun
theorem TMap.only {M T : Nat} {W W' : World} {bs : List Nat} (h : TMap M T W) (hg : Only bs W W') (hr : M ∉ bs) : TMap M T W' := by
  obtain ⟨es, clock, hb, r⟩ := h
  refine ⟨es, clock, (hg.block M ?_ hr).trans hb, r⟩
  exact lt_of_block hb
theorem TMap.make (w0 w : World) (M T : Nat) (h : w.ownsMap Tryz.prog 3 ptrR M 0 (.map [])) :
    ∃ w', (Instr.mapUpdate 115 (.map (some M)) (.int .i64 0) (.pointer (some ⟨T, 0, none⟩))).run Tryz.prog w = .ok () w' ∧ TMap M T w' ∧ Only [M] w w' := by
  obtain ⟨w', h1, h2, h3⟩ := World.ownsMap.update h lawT Tryz.underlying115 (by decide) (keyT 0 (by decide)) (ptrR_some T)
  exact ⟨w', h1, h2, Only.of_grown h3⟩
end Go.Proofs.YteejogoiikmlgaaGreatDoor.Serv
