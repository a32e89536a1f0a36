/-
  tally.Text: the walk: of a tally that is there, or not.
-/
import Derived.Test.YteejogoiikmlgaaGreatDoorTWords
namespace Go.Proofs.YteejogoiikmlgaaGreatDoor.Serv
open Go.RowKit Go.Proofs.YteejogoiikmlgaaGreatDoor.Tally
set_option linter.unusedVariables false
set_option linter.unusedSimpArgs false
set_option linter.unnecessarySimpa false

theorem builder_below {T e B b : Nat} {bs : List Value} {W W' : World} (h : Lib.IsBuilder T e B b bs W) (hb : Below W.heap.size W W') : Lib.IsBuilder T e B b bs W' := by
  rcases h with ⟨h1, v, h2, h3, h4⟩ | ⟨h1, v, h2, h3, h4⟩
  · exact Or.inl ⟨h1, v, (hb.block _ (lt_of_block h2)).trans h2, own_below h3 hb, h4⟩
  · exact Or.inr ⟨h1, v, (hb.block _ (lt_of_block h2)).trans h2, own_below h3 hb, h4⟩

/-- lines, one behind the other -/
def preOf (g : Nat → ByteArray) (k : Nat) : List UInt8 := ((List.range k).map fun i => (g i).data.toList).flatten
theorem preOf_succ (g : Nat → ByteArray) (k : Nat) : preOf g (k + 1) = preOf g k ++ (g k).data.toList := by
  unfold preOf
  rw [List.range_succ]
  simp
theorem preOf_le (g : Nat → ByteArray) (hg : ∀ i, (g i).size ≤ 100) : ∀ k, (preOf g k).length ≤ 100 * k
  | 0 => Nat.zero_le _
  | k + 1 => by
    rw [preOf_succ, List.length_append]
    have := preOf_le g hg k
    have e : (g k).data.toList.length = (g k).size := by rw [Array.length_toList]; rfl
    have := hg k
    omega

theorem lineT_le (n : Int) (ws : List ByteArray) (hl : (Lib.join (ws.map (·.data.toList)) [32]).length ≤ 50) (hi : (itoaB n).size ≤ 30) : (lineT n ws).size ≤ 100 := by
  unfold lineT
  split
  · exact Nat.zero_le _
  · rw [ByteArray.size_append, ByteArray.size_append, ByteArray.size_append]
    have e : (⟨(Lib.join (ws.map (·.data.toList)) [32]).toArray⟩ : ByteArray).size = (Lib.join (ws.map (·.data.toList)) [32]).length := List.size_toArray
    have e1 : (⟨#[32]⟩ : ByteArray).size = 1 := rfl
    have e2 : (⟨#[10]⟩ : ByteArray).size = 1 := rfl
    omega

theorem line_gen (n : Int) (ws : List ByteArray) (bk : Nat) (w : World) (hc : ∀ (j : Nat) x, ws[j]? = some x → w.cell? ⟨bk, 0 + j, none⟩ = some (.string x)) (hbk : bk < w.heap.size) (hN : ws.length ≤ 10)
    (hl : (Lib.join (ws.map (·.data.toList)) [32]).length ≤ 50) (hi : (itoaB n).size ≤ 30)
    (hf : n ≠ 0 → ∀ W, Below w.heap.size w W → Calls Tryz.prog 49 #[.int .i64 n, .int .i64 10] W fun e w' => e = .returned (.string (itoaB n)) ∧ Below W.heap.size W w') :
    Calls Tryz.prog 34 #[.int .i64 n, .slice (some ⟨bk, 0, none⟩) ws.length ws.length] w fun e w' => e = .returned (.string (lineT n ws)) ∧ Below w.heap.size w w' := by
  by_cases hn : n = 0
  · subst hn
    exact (line_zero _ w).mono fun _ _ ⟨he, hw⟩ => ⟨he, hw ▸ Below.refl _ _⟩
  · exact line_some n hn ws bk w hc hbk hN (by omega) hi (hf hn)

theorem join1 (a : ByteArray) : (Lib.join ([a].map (·.data.toList)) [32]).length = a.size := by
  simp [Lib.join, List.intercalate, List.intersperse]
theorem join2 (a b : ByteArray) : (Lib.join ([a, b].map (·.data.toList)) [32]).length = a.size + 1 + b.size := by
  simp [Lib.join, List.intercalate, List.intersperse]
  omega
end Go.Proofs.YteejogoiikmlgaaGreatDoor.Serv
