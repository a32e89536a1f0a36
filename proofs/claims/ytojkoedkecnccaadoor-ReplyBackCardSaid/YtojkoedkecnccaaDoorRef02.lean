/-
  The document's answer of layer 2 (Int): the walk.
-/
import Derived.Test.YtojkoedkecnccaaDoorRef01
import Derived.WalkSpells
namespace Go.Proofs.YtojkoedkecnccaaDoor.Ref02
open Go.RowKit Go.Proofs.YtojkoedkecnccaaDoor.Pad Go.Proofs.YtojkoedkecnccaaDoor.Varint
set_option linter.unusedVariables false
set_option linter.unusedSimpArgs false

/-- a number that is not too great, as the document has it -/
def intR (b : ByteArray) (most : Nat) : Nat × Nat × Nat := if (takeV b).2.2 ≠ 0 then (0, 0, (takeV b).2.2) else if most < (takeV b).1 then (0, 0, 3) else ((takeV b).1, (takeV b).2.1, 0)

def Ret3 (V : Nat × Nat × Nat) (w : World) (e : Ending) (w' : World) : Prop := e = .returned (.tuple #[.int .i64 V.1, .int .i64 V.2.1, .int .i64 V.2.2]) ∧ w = w'

set_option maxRecDepth 100000 in
theorem int_any (b : ByteArray) (most : Nat) (w : World) (hb : b.size ≤ 140737488351232) (hm : most ≤ 1048576) :
    Calls Tryd.prog 49 #[.string b, .int .i64 most] w (Ret3 (intR b most) w) := by
  have ht := fun x => takeR_any b x hb
  have hV : Hid (intR b most = if (takeV b).2.2 ≠ 0 then (0, 0, (takeV b).2.2) else if most < (takeV b).1 then (0, 0, 3) else ((takeV b).1, (takeV b).2.1, 0)) := rfl
  generalize takeV b = T at ht hV
  obtain ⟨n, k, e⟩ := T
  replace hV : Hid (intR b most = if e ≠ 0 then (0, 0, e) else if most < n then (0, 0, 3) else (n, k, 0)) := hV
  generalize intR b most = V at hV
  have m2 : IntKind.u64.wrap (most : Int) = (most : Int) := by rw [IntKind.wrap_u64]; omega
  have m3 : ¬ (most : Int) < 0 := by omega
  by_cases he : e = 0
  · subst he
    by_cases hn : most < n
    · have hz : Hid (V = (0, 0, 3)) := by show _ = _; rw [hV.out, if_neg (by simp), if_pos hn]
      have hn' : (most : Int) < (n : Int) := by omega
      clear hV
      go_enter Tryd.func49, Tryd.ntmps49
      go_wp2_with (go_at_call 50; refine (ht _).mono ?_; rintro e w1 ⟨rfl, rfl⟩)
      refine bodyPost_ret (v := .tuple #[.int .i64 0, .int .i64 0, .int .i64 3]) (by simp [results, Tryd.results49, go_sem]) rfl ⟨by rw [hz.out]; try rfl, rfl⟩
    · have hz : Hid (V = (n, k, 0)) := by show _ = _; rw [hV.out, if_neg (by simp), if_neg hn]
      have hn' : ¬ (most : Int) < (n : Int) := by omega
      have hw : IntKind.i64.wrap (n : Int) = (n : Int) := IntWalk.i64_in _ (by omega)
      clear hV
      go_enter Tryd.func49, Tryd.ntmps49
      go_wp2_with (go_at_call 50; refine (ht _).mono ?_; rintro e w1 ⟨rfl, rfl⟩)
      refine bodyPost_ret (v := .tuple #[.int .i64 n, .int .i64 k, .int .i64 0]) (by simp [results, Tryd.results49, go_sem]) rfl ⟨by rw [hz.out]; try rfl, rfl⟩
  · have hz : Hid (V = (0, 0, e)) := by show _ = _; rw [hV.out, if_pos he]
    have he' : ((e : Int) != 0) = true := bne_iff_ne.2 (by omega)
    clear hV he
    go_enter Tryd.func49, Tryd.ntmps49
    go_wp2_with (go_at_call 50; refine (ht _).mono ?_; rintro e w1 ⟨rfl, rfl⟩)
    refine bodyPost_ret (v := .tuple #[.int .i64 0, .int .i64 0, .int .i64 e]) (by simp [results, Tryd.results49, go_sem]) rfl ⟨by rw [hz.out]; try rfl, rfl⟩
end Go.Proofs.YtojkoedkecnccaaDoor.Ref02
