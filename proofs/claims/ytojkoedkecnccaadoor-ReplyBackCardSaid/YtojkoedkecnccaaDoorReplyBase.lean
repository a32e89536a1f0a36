/-
  What the statements of layer 35 share: awake, ours.
-/
import Derived.Test.YtojkoedkecnccaaDoorReply
import Derived.Laws.ResultCell
import Derived.WalkSpells
namespace Go.Proofs.YtojkoedkecnccaaDoor.Reply
open Go.RowKit Go.Proofs.YtojkoedkecnccaaDoor.Pad
set_option linter.unusedVariables false
set_option linter.unusedSimpArgs false

/-- a reply, as a value -/
def rpV (id : Nat) (st : Int) (d : ByteArray) : Value := .agg #[.int .u64 id, .int .i64 st, .string d]

theorem aw_reply : rp 1 (fst' 0) ⟨#[]⟩ = (⟨#[9, 0, 0, 32, 0, 2, 0, 1, 0, 0, 0, 0, 0, 0, 0, 0, 0, 0, 0, 0, 0, 0, 0, 0, 0, 0, 0, 0, 0, 0, 0, 0, 0, 0, 0, 0]⟩, 0) := by decide +kernel

set_option maxRecDepth 100000 in
set_option maxHeartbeats 400000 in
theorem awake_any (w : World) : Calls Tryd.prog 26 #[] w fun e w' => e = .returned (.bool true) ∧ Below w.heap.size w w' := by
  have c1 := fun x => fail_any 1 0 x (by decide)
  rw [aw_reply] at c1
  have hx : ((⟨#[9, 0, 0, 32, 0, 2, 0, 1, 0, 0, 0, 0, 0, 0, 0, 0, 0, 0, 0, 0, 0, 0, 0, 0, 0, 0, 0, 0, 0, 0, 0, 0, 0, 0, 0, 0]⟩ : ByteArray).extract 0 8).toList = [9, 0, 0, 32, 0, 2, 0, 1] := by decide +kernel
  go_enter Tryd.func26, Tryd.ntmps26
  go_wp2_with (go_at_call 30; refine (c1 _).mono ?_; rintro e w1 ⟨rfl, hb1⟩)
  go_ret
  exact ⟨rfl, hb1⟩

set_option maxRecDepth 100000 in
set_option maxHeartbeats 1000000 in
theorem ours_any (id : Nat) (st : Int) (d : ByteArray) (w : World) :
    Calls Tryd.prog 25 #[.agg #[.int .u64 id, .int .i64 st, .string d]] w fun e w' => e = .returned (.agg #[.int .u64 id, .int .i64 st, .string d]) ∧ Below w.heap.size w w' := by
  go_enter Tryd.func25, Tryd.ntmps25
  go_wp2
  refine bodyPost_ret (v := .agg #[.int .u64 id, .int .i64 st, .string d]) (by simp [results, Tryd.results25, go_sem]) rfl ⟨rfl, ?_⟩
  repeat (first | exact Below.refl _ _ | apply below_drewN | apply Below.drew | refine Below.setCell ?_ (by simp) _ | refine Below.alloc ?_ (by simp) _)
end Go.Proofs.YtojkoedkecnccaaDoor.Reply
