/-
  server.New: the walk.
-/
import Derived.Test.YteejogoiikmlgaaGreatDoorTGateNew
import Derived.RegionTactic
import Derived.ChangeAlike
import Derived.Carry
namespace Go.Proofs.YteejogoiikmlgaaGreatDoor.Serv
open Go.RowKit
set_option linter.unusedVariables false
set_option linter.unusedSimpArgs false
set_option linter.unnecessarySimpa false

/-- some blocks alone are written, others made -/
structure Only (bs : List Nat) (w w' : World) : Prop where
  os : w'.os = w.os
  tape : w'.tape = w.tape
  output : w'.output = w.output
  size : w.heap.size ≤ w'.heap.size
  block : ∀ k, k < w.heap.size → k ∉ bs → w'.heap[k]? = w.heap[k]?
theorem Only.refl (bs : List Nat) (w : World) : Only bs w w := ⟨rfl, rfl, rfl, Nat.le_refl _, fun _ _ _ => rfl⟩
theorem Only.trans {bs : List Nat} {a b c : World} (h : Only bs a b) (k : Only bs b c) : Only bs a c :=
  ⟨k.os.trans h.os, k.tape.trans h.tape, k.output.trans h.output, Nat.le_trans h.size k.size, fun i hi hn => (k.block i (Nat.lt_of_lt_of_le hi h.size) hn).trans (h.block i hi hn)⟩
theorem Only.mono {bs cs : List Nat} {a b : World} (h : Only bs a b) (hs : ∀ x ∈ bs, x ∈ cs) : Only cs a b := ⟨h.os, h.tape, h.output, h.size, fun i hi hn => h.block i hi (fun q => hn (hs _ q))⟩
theorem Only.of_grown {a b : World} {B : Nat} (h : a.grownBy b (some B)) : Only [B] a b := ⟨h.os, h.tape, h.output, h.size, fun i hi hn => h.block i hi (fun e => hn (by cases e; simp))⟩
theorem Only.of_below {a b : World} (h : Below a.heap.size a b) : Only [] a b := ⟨h.os, h.tape, h.output, h.size, fun i hi _ => h.block i hi⟩
theorem Only.below {bs : List Nat} {w0 a b : World} (h : Only bs a b) (h0 : Below w0.heap.size w0 a) (hb : ∀ x ∈ bs, w0.heap.size ≤ x) : Below w0.heap.size w0 b :=
  ⟨h.os.trans h0.os, h.tape.trans h0.tape, h.output.trans h0.output, Nat.le_trans h0.size h.size, fun k hk => (h.block k (Nat.lt_of_lt_of_le hk h0.size) (fun q => by have := hb k q; omega)).trans (h0.block k hk)⟩
theorem Only.set (w : World) (b i : Nat) (v : Value) : Only [b] w (w.setCell ⟨b, i, none⟩ v) := Only.of_grown (Tally.grow_set _ _ _ _)
theorem Only.drew (bs : List Nat) (w : World) : Only bs w w.drew := ⟨rfl, rfl, rfl, Nat.le_refl _, fun _ _ _ => rfl⟩
theorem Only.drewN (bs : List Nat) (w : World) (n : Nat) : Only bs w (w.drewN n) := ⟨rfl, rfl, rfl, Nat.le_refl _, fun _ _ _ => rfl⟩
theorem Only.alloc (bs : List Nat) (w : World) (o : Obj) : Only bs w (w.alloc o) := (Only.of_below ((Below.refl _ _).alloc (Nat.le_refl _) _)).mono (by simp)
theorem Blk.only {B : Nat} {cs : Array Value} {t : TypeId} {W W' : World} {bs : List Nat} (h : Blk B cs t W) (hg : Only bs W W') (hr : B ∉ bs) : Blk B cs t W' := (hg.block B h.lt hr).trans h
theorem Tal.only {B : Nat} {f : Nat → Int} {W W' : World} {bs : List Nat} (h : Tally.Tal B f W) (hg : Only bs W W') (hr : B ∉ bs) : Tally.Tal B f W' := (hg.block B h.lt hr).trans h

/-- a row of cells by a function -/
def Arr (n : Nat) (f : Nat → Value) : Array Value := ((List.range n).map f).toArray
theorem Arr.get {n : Nat} {f : Nat → Value} {i : Nat} (h : i < n) : (Arr n f)[i]? = some (f i) := by unfold Arr; simp [h]
def putV (f : Nat → Value) (i : Nat) (v : Value) : Nat → Value := fun j => if j = i then v else f j
theorem Arr.put (n : Nat) (f : Nat → Value) (i : Nat) (v : Value) : (Arr n f).setIfInBounds i v = Arr n (putV f i v) := by
  apply Array.ext_getElem?
  intro j
  rw [Array.getElem?_setIfInBounds]
  unfold Arr putV
  by_cases hj : j < n
  · by_cases e : i = j
    · subst e
      simp [hj]
    · have e' : ¬ j = i := fun h => e h.symm
      simp [hj, e, e']
  · by_cases e : i = j
    · subst e
      simp [hj]
    · simp [hj, e]
theorem Blk.setF {B n : Nat} {f : Nat → Value} {t : TypeId} {W : World} (h : Blk B (Arr n f) t W) (i : Nat) (v : Value) : Blk B (Arr n (putV f i v)) t (W.setCell ⟨B, i, none⟩ v) := by
  have := h.set i v
  rwa [Arr.put] at this
theorem Blk.cellF {B n : Nat} {f : Nat → Value} {t : TypeId} {W : World} (h : Blk B (Arr n f) t W) (i : Nat) (hi : i < n) : W.cell? ⟨B, i, none⟩ = some (f i) := h.cell (Arr.get hi)

def macF : Nat → Value := fun i => if i < 9 then .int .i64 0 else if i % 2 = 1 then .int .i64 0 else .int .u64 0
def diceF : Nat → Value := fun i => if i < 64 then .int .u64 0 else .int .i64 0
theorem macNew (w : World) : Calls Tryz.prog 53 #[] w fun e w' => e = .returned (.pointer (some ⟨w.heap.size, 0, none⟩)) ∧ Blk w.heap.size (Arr 27 macF) 159 w' ∧ Below w.heap.size w w' := by
  go_enter Tryz.func53, Tryz.ntmps53
  go_wp2
  go_ret
  exact ⟨rfl, Blk.new _ _ _, (Below.refl _ _).alloc (Nat.le_refl _) _⟩
theorem diceNew (w : World) : Calls Tryz.prog 56 #[] w fun e w' => e = .returned (.pointer (some ⟨w.heap.size, 0, none⟩)) ∧ Blk w.heap.size (Arr 66 diceF) 118 w' ∧ Below w.heap.size w w' := by
  go_enter Tryz.func56, Tryz.ntmps56
  go_wp2
  go_ret
  exact ⟨rfl, Blk.new _ _ _, (Below.refl _ _).alloc (Nat.le_refl _) _⟩

theorem owns0 (w : World) : Calls Tryz.prog 72 #[.int .i64 0] w fun e w' => e = .returned (.bool true) ∧ w = w' := by
  go_enter Tryz.func72, Tryz.ntmps72
  go_wp2
  go_ret
  exact ⟨rfl, rfl⟩
theorem mix_any (a b : Int) (w : World) : Calls Tryz.prog 74 #[.int .u64 a, .int .u64 b] w fun e w' => (∃ n : Int, e = .returned (.int .u64 n)) ∧ w = w' := by
  go_enter Tryz.func74, Tryz.ntmps74
  go_wp2
  go_ret
  exact ⟨⟨_, rfl⟩, rfl⟩

set_option maxHeartbeats 1000000 in
theorem diceTake (B : Nat) (f : Nat → Value) (x : Int) (w : World) (h : Blk B (Arr 66 f) 118 w) (h0 : f 0 = .int .u64 x) (h64 : f 64 = .int .i64 0) (h65 : f 65 = .int .i64 1) :
    Calls Tryz.prog 73 #[.pointer (some ⟨B, 0, none⟩)] w fun e w' => e = .returned (.tuple #[.int .u64 x, .bool true]) ∧ Only [B] w w' := by
  have c0 : w.cell? ⟨B, 0, none⟩ = some (.int .u64 x) := by rw [← h0]; exact h.cellF 0 (by decide)
  have c64 : w.cell? ⟨B, 64, none⟩ = some (.int .i64 0) := by rw [← h64]; exact h.cellF 64 (by decide)
  have c65 : w.cell? ⟨B, 65, none⟩ = some (.int .i64 1) := by rw [← h65]; exact h.cellF 65 (by decide)
  have f64 := h.free 64
  have f65 := h.free 65
  clear h h0 h64 h65
  go_enter Tryz.func73, Tryz.ntmps73
  go_wp2
  go_region
  all_goals go_wp2
  all_goals go_ret2
  all_goals refine ⟨rfl, ?_⟩
  all_goals repeat (first | exact Only.refl _ _ | refine Only.trans ?_ (Only.set _ _ _ _) | refine Only.trans ?_ (Only.drew _ _))

set_option maxHeartbeats 1000000 in
theorem dicePut (B : Nat) (x : Int) (w : World) (h : Blk B (Arr 66 diceF) 118 w) :
    Calls Tryz.prog 57 #[.pointer (some ⟨B, 0, none⟩), .int .u64 x] w fun e w' => e = .returned (.bool true) ∧ (∃ f, Blk B (Arr 66 f) 118 w' ∧ f 0 = .int .u64 x ∧ f 64 = .int .i64 0 ∧ f 65 = .int .i64 1) ∧ Only [B] w w' := by
  have c0 : w.cell? ⟨B, 0, none⟩ = some (.int .u64 0) := h.cellF 0 (by decide)
  have c64 : w.cell? ⟨B, 64, none⟩ = some (.int .i64 0) := h.cellF 64 (by decide)
  have c65 : w.cell? ⟨B, 65, none⟩ = some (.int .i64 0) := h.cellF 65 (by decide)
  have f0 := h.free 0
  have f65 := h.free 65
  have hs : Hid (Blk B (Arr 66 (putV (putV diceF 0 (.int .u64 x)) 65 (.int .i64 1))) 118 _) := ((h.setF 0 (.int .u64 x)).below (Below.refl _ _).drew).setF 65 (.int .i64 1)
  clear h
  go_enter Tryz.func57, Tryz.ntmps57
  go_wp2
  go_region
  all_goals go_wp2
  all_goals go_ret
  all_goals refine ⟨rfl, ⟨_, hs.out, rfl, rfl, rfl⟩, ?_⟩
  all_goals repeat (first | exact Only.refl _ _ | refine Only.trans ?_ (Only.set _ _ _ _) | refine Only.trans ?_ (Only.drew _ _))

set_option maxHeartbeats 1000000 in
theorem issue0 (B D : Nat) (x : Int) (f : Nat → Value) (w : World) (h : Blk B (Arr 27 macF) 159 w) (hd : Blk D (Arr 66 f) 118 w) (h0 : f 0 = .int .u64 x) (h64 : f 64 = .int .i64 0) (h65 : f 65 = .int .i64 1) (hne : B ≠ D) :
    Calls Tryz.prog 58 #[.pointer (some ⟨B, 0, none⟩), .int .i64 0, .pointer (some ⟨D, 0, none⟩)] w fun e w' => (∃ a b c : Value, e = .returned (.tuple #[a, b, c])) ∧ Only [B, D] w w' := by
  have ht := diceTake D f x w hd h0 h64 h65
  have hm := fun a b x => mix_any a b x
  go_enter Tryz.func58, Tryz.ntmps58
  go_wp2_with (go_at_call 72; refine (owns0 _).mono ?_; rintro e w' ⟨rfl, rfl⟩)
  refine ht.mono ?_
  rintro e w1 ⟨rfl, g1⟩
  have hb := h.only g1 (by simpa using hne)
  have c0 : w1.cell? ⟨B, 0, none⟩ = some (.int .i64 0) := hb.cellF 0 (by decide)
  have c9 : w1.cell? ⟨B, 9, none⟩ = some (.int .i64 0) := hb.cellF 9 (by decide)
  have c10 : w1.cell? ⟨B, 10, none⟩ = some (.int .u64 0) := hb.cellF 10 (by decide)
  have f0 := hb.free 0
  have f9 := hb.free 9
  have f10 := hb.free 10
  replace g1 := Lib.hid (g1.mono (cs := [B, D]) (by simp))
  clear h hd h0 h64 h65 hb hne ht
  go_wp2_with fail
  go_region
  all_goals go_wp2_with fail
  all_goals refine (hm _ _ _).mono ?_
  all_goals rintro e w2 ⟨⟨n, rfl⟩, rfl⟩
  all_goals go_wp2
  all_goals first
    | (have hlt : n < 1 := by assumption
       refine bodyPost_ret (v := .tuple #[.int .i64 1, .int .u64 1, .int .i64 0]) (by simp [results, Tryz.results58, go_sem]) rfl ⟨⟨_, _, _, rfl⟩, ?_⟩)
    | refine bodyPost_ret (v := .tuple #[.int .i64 1, .int .u64 n, .int .i64 0]) (by simp [results, Tryz.results58, go_sem]) rfl ⟨⟨_, _, _, rfl⟩, ?_⟩
  all_goals refine g1.out.trans ?_
  all_goals repeat (first | exact Only.refl _ _ | refine Only.trans ?_ ((Only.set _ _ _ _).mono (by simp)) | refine Only.trans ?_ (Only.drew _ _))

end Go.Proofs.YteejogoiikmlgaaGreatDoor.Serv
