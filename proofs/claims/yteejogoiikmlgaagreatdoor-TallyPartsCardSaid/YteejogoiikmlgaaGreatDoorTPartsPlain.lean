/-
  What is counted, number by number: parts added are the whole.
-/
import Derived.Test.YteejogoiikmlgaaGreatDoorTRow
import Derived.Test.YteejogoiikmlgaaGreatDoorTAdd
import Derived.Test.YteejogoiikmlgaaGreatDoorTRows
import Derived.Test.YteejogoiikmlgaaGreatDoorTFmt
namespace Go.Proofs.YteejogoiikmlgaaGreatDoor.Rows49
open Go.RowKit Go.Proofs.YteejogoiikmlgaaGreatDoor.Tally Go.Proofs.YteejogoiikmlgaaGreatDoor.Serv
set_option linter.unusedVariables false
set_option linter.unusedSimpArgs false
set_option linter.unnecessarySimpa false

def RowV.on (r : RowV) (f : Nat → Int) : Nat → Int := rowF f r.act r.ow r.kd r.er
def OutV.on (r : OutV) (f : Nat → Int) : Nat → Int := outF f r.b.size r.cl
/-- what is counted of the first k rows that are asked for -/
def rowsF (L : Nat → RowV) (p : Nat → Bool) (f : Nat → Int) : Nat → Nat → Int
  | 0 => f
  | k + 1 => if p k then RowV.on (L k) (rowsF L p f k) else rowsF L p f k
def outsF (L : Nat → OutV) (p : Nat → Bool) (f : Nat → Int) : Nat → Nat → Int
  | 0 => f
  | k + 1 => if p k then OutV.on (L k) (outsF L p f k) else outsF L p f k

/-- a number of 64 bits, as it is kept -/
def wr (n : Int) : Int := (n + 9223372036854775808) % 18446744073709551616 - 9223372036854775808
theorem wrap_is (n : Int) : IntKind.i64.wrap n = wr n := IntKind.wrap_i64 n
theorem wr_in (n : Int) : In64 (wr n) := by unfold In64 wr; omega
theorem wr_id {n : Int} (h : In64 n) : wr n = n := by unfold In64 at h; unfold wr; omega
theorem wr_add (a b : Int) : wr (wr a + b) = wr (a + b) := by unfold wr; omega
theorem wr_add' (a b : Int) : wr (a + wr b) = wr (a + b) := by unfold wr; omega

/-- what is added at place j -/
def bumpD (base : Nat) (lo hi k : Int) (j : Nat) : Int := if withinB k lo hi ∧ j = base + k.toNat then 1 else 0
theorem bump_is (f : Nat → Int) (base : Nat) (lo hi k : Int) (hf : ∀ j, In64 (f j)) (j : Nat) : bump f base lo hi k j = wr (f j + bumpD base lo hi k j) := by
  unfold bump bumpD
  by_cases h : withinB k lo hi = true
  · rw [if_pos h]
    unfold Tally.put
    by_cases hj : j = base + k.toNat
    · rw [if_pos hj, if_pos ⟨h, hj⟩, wrap_is, hj]
    · rw [if_neg hj, if_neg (fun x => hj x.2), Int.add_zero, wr_id (hf j)]
  · rw [if_neg h, if_neg (fun x => h x.1), Int.add_zero, wr_id (hf j)]
theorem put_is (f : Nat → Int) (i : Nat) (y : Int) (hf : ∀ j, In64 (f j)) (j : Nat) : Tally.put f i (IntKind.i64.wrap (f i + y)) j = wr (f j + if j = i then y else 0) := by
  unfold Tally.put
  by_cases hj : j = i
  · rw [if_pos hj, if_pos hj, wrap_is, hj]
  · rw [if_neg hj, if_neg hj, Int.add_zero, wr_id (hf j)]
def rowD (act ow kd er : Int) (j : Nat) : Int :=
  if act = 1 then bumpD 0 1 9 kd j + bumpD 10 1 20 er j else if act = 2 then bumpD 31 0 8 ow j else if act = 3 then (if j = 40 then 1 else 0) else if act = 4 then (if j = 41 then 1 else 0) else 0
def outD (n : Nat) (cl : Bool) (j : Nat) : Int := if cl then (if j = 43 then 1 else 0) else (if j = 42 then (n : Int) else 0)
theorem rowF_is (f : Nat → Int) (act ow kd er : Int) (hf : ∀ j, In64 (f j)) (j : Nat) : rowF f act ow kd er j = wr (f j + rowD act ow kd er j) := by
  unfold rowF rowD
  split
  · rw [bump_is _ _ _ _ _ (fun i => by rw [bump_is _ _ _ _ _ hf]; exact wr_in _), bump_is _ _ _ _ _ hf, wr_add, Int.add_assoc]
  · split
    · exact bump_is _ _ _ _ _ hf j
    · split
      · exact put_is _ _ _ hf j
      · split
        · exact put_is _ _ _ hf j
        · rw [Int.add_zero, wr_id (hf j)]
theorem outF_is (f : Nat → Int) (n : Nat) (cl : Bool) (hf : ∀ j, In64 (f j)) (j : Nat) : outF f n cl j = wr (f j + outD n cl j) := by
  unfold outF outD
  split
  · exact put_is _ _ _ hf j
  · exact put_is _ _ _ hf j
theorem rowD_far (act ow kd er : Int) (j : Nat) (hj : 44 ≤ j) : rowD act ow kd er j = 0 := by
  have hb : ∀ (base : Nat) (lo hi k : Int), base + hi.toNat < 44 → bumpD base lo hi k j = 0 := fun base lo hi k h => by
    unfold bumpD withinB
    rw [if_neg]
    rintro ⟨h1, h2⟩
    simp at h1
    omega
  unfold rowD
  rw [hb 0 1 9 kd (by decide), hb 10 1 20 er (by decide), hb 31 0 8 ow (by decide), if_neg (show ¬ j = 40 by omega), if_neg (show ¬ j = 41 by omega)]
  simp
theorem outD_far (n : Nat) (cl : Bool) (j : Nat) (hj : 44 ≤ j) : outD n cl j = 0 := by
  unfold outD
  rw [if_neg (show ¬ j = 43 by omega), if_neg (show ¬ j = 42 by omega)]
  simp

/-- h and g together are f -/
structure Adds (f g h : Nat → Int) : Prop where
  pf : ∀ j, In64 (f j)
  pg : ∀ j, In64 (g j)
  ph : ∀ j, In64 (h j)
  sum : ∀ j, f j = wr (h j + g j)
  far : ∀ j, 44 ≤ j → g j = 0 ∧ h j = 0
theorem Adds.addG {f g h f' g' : Nat → Int} {d : Nat → Int} (s : Adds f g h) (hd : ∀ j, 44 ≤ j → d j = 0) (h1 : ∀ j, f' j = wr (f j + d j)) (h2 : ∀ j, g' j = wr (g j + d j)) : Adds f' g' h where
  pf := fun j => by rw [h1]; exact wr_in _
  pg := fun j => by rw [h2]; exact wr_in _
  ph := s.ph
  sum := fun j => by rw [h1, h2, s.sum, wr_add, wr_add', Int.add_assoc]
  far := fun j hj => ⟨by rw [h2, hd j hj, Int.add_zero, (s.far j hj).1]; rfl, (s.far j hj).2⟩
theorem Adds.addH {f g h f' h' : Nat → Int} {d : Nat → Int} (s : Adds f g h) (hd : ∀ j, 44 ≤ j → d j = 0) (h1 : ∀ j, f' j = wr (f j + d j)) (h2 : ∀ j, h' j = wr (h j + d j)) : Adds f' g h' where
  pf := fun j => by rw [h1]; exact wr_in _
  pg := s.pg
  ph := fun j => by rw [h2]; exact wr_in _
  sum := fun j => by rw [h1, h2, s.sum, wr_add, wr_add]; congr 1; omega
  far := fun j hj => ⟨(s.far j hj).1, by rw [h2, hd j hj, Int.add_zero, (s.far j hj).2]; rfl⟩
theorem Adds.rows {f g h : Nat → Int} (s : Adds f g h) (L : Nat → RowV) (p : Nat → Bool) : ∀ k, Adds (rowsF L (fun _ => true) f k) (rowsF L p g k) (rowsF L (fun i => !p i) h k)
  | 0 => s
  | k + 1 => by
    have t := Adds.rows s L p k
    unfold rowsF
    rw [if_pos rfl]
    cases hp : p k with
    | true =>
      rw [if_pos rfl, if_neg (by simp)]
      exact t.addG (rowD_far _ _ _ _) (fun j => rowF_is _ _ _ _ _ t.pf j) (fun j => rowF_is _ _ _ _ _ t.pg j)
    | false =>
      rw [if_neg (by simp), if_pos (by simp)]
      exact t.addH (rowD_far _ _ _ _) (fun j => rowF_is _ _ _ _ _ t.pf j) (fun j => rowF_is _ _ _ _ _ t.ph j)
theorem Adds.outs {f g h : Nat → Int} (s : Adds f g h) (L : Nat → OutV) (p : Nat → Bool) : ∀ k, Adds (outsF L (fun _ => true) f k) (outsF L (fun i => !p i) g k) (outsF L p h k)
  | 0 => s
  | k + 1 => by
    have t := Adds.outs s L p k
    unfold outsF
    rw [if_pos rfl]
    cases hp : p k with
    | true =>
      rw [if_neg (by simp), if_pos rfl]
      exact t.addH (outD_far _ _) (fun j => outF_is _ _ _ t.pf j) (fun j => outF_is _ _ _ t.ph j)
    | false =>
      rw [if_pos (by simp), if_neg (by simp)]
      exact t.addG (outD_far _ _) (fun j => outF_is _ _ _ t.pf j) (fun j => outF_is _ _ _ t.pg j)
theorem zero_in : ∀ j, In64 (Tally.zero j) := fun j => show In64 0 from ⟨by decide, by decide⟩
theorem Adds.zero : Adds Tally.zero Tally.zero Tally.zero := ⟨zero_in, zero_in, zero_in, fun j => show (0 : Int) = wr (0 + 0) by decide, fun _ _ => ⟨rfl, rfl⟩⟩
theorem Adds.mix {f g h : Nat → Int} (s : Adds f g h) : Serv.mix h g 44 = f := by
  funext j
  unfold Serv.mix
  split
  · rw [wrap_is, s.sum]
  · rw [s.sum, (s.far j (by omega)).1, (s.far j (by omega)).2]; rfl
theorem parts (L : Nat → RowV) (M : Nat → OutV) (p : Nat → Bool) (a b : Nat) :
    Adds (outsF M (fun _ => true) (rowsF L (fun _ => true) Tally.zero a) b) (outsF M (fun i => !p i) (rowsF L p Tally.zero a) b) (outsF M p (rowsF L (fun i => !p i) Tally.zero a) b) := (Adds.zero.rows L p a).outs M p b
theorem twice {f : Nat → Int} (hf : ∀ j, In64 (f j)) (j : Nat) (hj : j < 44) : Serv.mix f f 44 j = IntKind.i64.wrap (2 * f j) := by
  unfold Serv.mix
  rw [if_pos hj, Int.two_mul]
end Go.Proofs.YteejogoiikmlgaaGreatDoor.Rows49
