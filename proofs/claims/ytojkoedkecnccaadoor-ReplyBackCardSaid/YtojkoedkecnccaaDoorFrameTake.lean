/-
  frame.Head and Take: the walks: what each returns for all bytes shorter than 2^47.
-/
import Derived.Test.YtojkoedkecnccaaDoorFrame
import Derived.WalkSpells
namespace Go.Proofs.YtojkoedkecnccaaDoor.Frame
open Go.RowKit Go.Proofs.YtojkoedkecnccaaDoor.Pad
set_option linter.unusedVariables false
set_option linter.unusedSimpArgs false

def by' (b : ByteArray) (i : Nat) : Nat := (b.get! i).toNat
theorem by_lt (b : ByteArray) (i : Nat) : by' b i < 256 := UInt8.toNat_lt _
theorem by_at (b : ByteArray) (i : Nat) (h : i < b.size) : (b[i]'h).toNat = by' b i := by unfold by'; simp [ByteArray.get!, getElem!_pos, h]; rfl
/-- the length that a head tells -/
def len2 (b : ByteArray) : Nat := by' b 2 * 256 + by' b 3

theorem len2_or (b : ByteArray) : bits BinOp.or IntKind.i64 ((by' b 2 : Int) * 256) (by' b 3 : Int) = (len2 b : Int) := by
  have l0 := by_lt b 2
  have l1 := by_lt b 3
  rw [bits_join .i64 16 (by decide) (fun n h0 h1 => by rw [IntKind.wrap_i64]; omega) 8 _ _ (by omega) (by omega) (by omega) (by omega) (by omega) (by omega)]
  unfold len2; omega

/-- the head with which bytes begin: kind, flags, length, error -/
def headV (b : ByteArray) : Nat × Nat × Nat × Nat :=
  if b.size < 4 then (0, 0, 0, 2) else if knownB (by' b 0) = false then (0, 0, 0, 4) else if 1024 < len2 b then (0, 0, 0, 3) else (by' b 0, by' b 1, len2 b, 0)

def Ret4 (V : Nat × Nat × Nat × Nat) (w : World) (e : Ending) (w' : World) : Prop :=
  e = .returned (.tuple #[.int .i64 V.1, .int .i64 V.2.1, .int .i64 V.2.2.1, .int .i64 V.2.2.2]) ∧ Below w.heap.size w w'

set_option maxRecDepth 100000 in
set_option maxHeartbeats 1000000 in
theorem head_any (b : ByteArray) (w : World) (hl : b.size ≤ 140737488351232) :
    Calls Tryd.prog 71 #[.string b] w (Ret4 (headV b) w) := by
  by_cases hs : b.size < 4
  · have hz : Hid (headV b = (0, 0, 0, 2)) := by show _ = _; unfold headV; rw [if_pos hs]
    have hs' : (b.size : Int) < 4 := by omega
    generalize headV b = V at hz
    go_enter Tryd.func71, Tryd.ntmps71
    go_wp2
    exact bodyPost_ret (v := .tuple #[.int .i64 0, .int .i64 0, .int .i64 0, .int .i64 2]) (by simp [results, Tryd.results71, go_sem]) rfl ⟨by rw [hz.out]; rfl, by repeat (first | exact Below.refl _ _ | apply below_drewN | apply Below.drew | refine Below.setCell ?_ (by simp) _ | refine Below.alloc ?_ (by simp) _)⟩
  · have hs' : ¬ (b.size : Int) < 4 := by omega
    have i0 : (0 : Int) < (b.size : Int) := by omega
    have i1 : (1 : Int) < (b.size : Int) := by omega
    have i2 : (2 : Int) < (b.size : Int) := by omega
    have i3 : (3 : Int) < (b.size : Int) := by omega
    have g0 := by_at b 0 (by omega)
    have g1 := by_at b 1 (by omega)
    have g2 := by_at b 2 (by omega)
    have g3 := by_at b 3 (by omega)
    have l0 := by_lt b 0
    have l1 := by_lt b 1
    have l2 := by_lt b 2
    have l3 := by_lt b 3
    have hor := len2_or b
    have hn : len2 b ≤ 65535 := by unfold len2; omega
    have hk := fun x => known_any (by' b 0) x
    have hv : Hid (headV b = if knownB (by' b 0) = false then (0, 0, 0, 4) else if 1024 < len2 b then (0, 0, 0, 3) else (by' b 0, by' b 1, len2 b, 0)) := by show _ = _; unfold headV; rw [if_neg hs]
    generalize headV b = V at hv
    generalize len2 b = n at hor hn hv
    cases hkb : knownB (by' b 0) with
    | false =>
      have hz : Hid (V = (0, 0, 0, 4)) := by show _ = _; rw [hv.out, if_pos hkb]
      rw [hkb] at hk
      clear hkb hv
      go_enter Tryd.func71, Tryd.ntmps71
      go_wp2
      go_quiet (fail)
      go_wp2_with (go_at_call 70; refine (hk _).mono ?_; rintro e w1 ⟨rfl, rfl⟩)
      exact bodyPost_ret (v := .tuple #[.int .i64 0, .int .i64 0, .int .i64 0, .int .i64 4]) (by simp [results, Tryd.results71, go_sem]) rfl ⟨by rw [hz.out]; rfl, by repeat (first | exact Below.refl _ _ | apply below_drewN | apply Below.drew | refine Below.setCell ?_ (by simp) _ | refine Below.alloc ?_ (by simp) _)⟩
    | true =>
      by_cases hn1 : 1024 < n
      · have hz : Hid (V = (0, 0, 0, 3)) := by show _ = _; rw [hv.out, if_neg (by rw [hkb]; simp), if_pos hn1]
        have hn1' : (1024 : Int) < (n : Int) := by omega
        rw [hkb] at hk
        clear hkb hv
        go_enter Tryd.func71, Tryd.ntmps71
        go_wp2
        go_quiet (fail)
        go_wp2_with (go_at_call 70; refine (hk _).mono ?_; rintro e w1 ⟨rfl, rfl⟩)
        exact bodyPost_ret (v := .tuple #[.int .i64 0, .int .i64 0, .int .i64 0, .int .i64 3]) (by simp [results, Tryd.results71, go_sem]) rfl ⟨by rw [hz.out]; rfl, by repeat (first | exact Below.refl _ _ | apply below_drewN | apply Below.drew | refine Below.setCell ?_ (by simp) _ | refine Below.alloc ?_ (by simp) _)⟩
      · have hz : Hid (V = (by' b 0, by' b 1, n, 0)) := by show _ = _; rw [hv.out, if_neg (by rw [hkb]; simp), if_neg hn1]
        have hn1' : ¬ (1024 : Int) < (n : Int) := by omega
        rw [hkb] at hk
        clear hkb hv
        go_enter Tryd.func71, Tryd.ntmps71
        go_wp2
        go_quiet (fail)
        go_wp2_with (go_at_call 70; refine (hk _).mono ?_; rintro e w1 ⟨rfl, rfl⟩)
        go_quiet (fail)
        go_wp2
        exact bodyPost_ret (v := .tuple #[.int .i64 (by' b 0), .int .i64 (by' b 1), .int .i64 n, .int .i64 0]) (by simp [results, Tryd.results71, go_sem]) rfl ⟨by rw [hz.out]; rfl, by repeat (first | exact Below.refl _ _ | apply below_drewN | apply Below.drew | refine Below.setCell ?_ (by simp) _ | refine Below.alloc ?_ (by simp) _)⟩

/-- the frame with which bytes begin: kind, flags, body, how many bytes, error -/
def takeV (b : ByteArray) : Nat × Nat × ByteArray × Nat × Nat :=
  if (headV b).2.2.2 ≠ 0 then (0, 0, ⟨#[]⟩, 0, (headV b).2.2.2)
  else if b.size < (headV b).2.2.1 + 4 then (0, 0, ⟨#[]⟩, 0, 2)
  else ((headV b).1, (headV b).2.1, b.extract 4 (4 + (headV b).2.2.1), 4 + (headV b).2.2.1, 0)

def RetF (V : Nat × Nat × ByteArray × Nat × Nat) (w : World) (e : Ending) (w' : World) : Prop :=
  e = .returned (.tuple #[.agg #[.int .i64 V.1, .int .i64 V.2.1, .string V.2.2.1], .int .i64 V.2.2.2.1, .int .i64 V.2.2.2.2]) ∧ Below w.heap.size w w'

theorem headV_facts (b : ByteArray) : (headV b).2.2.1 ≤ 65535 ∧ (headV b).2.2.2 ≤ 4 ∧ ((headV b).2.2.2 = 0 → 4 ≤ b.size) := by
  unfold headV
  have l2 := by_lt b 2
  have l3 := by_lt b 3
  repeat' split
  all_goals refine ⟨?_, ?_, ?_⟩
  all_goals (try unfold len2)
  all_goals (try simp only)
  all_goals first | omega | (intro _; omega)

set_option maxRecDepth 100000 in
set_option maxHeartbeats 1000000 in
theorem take_any (b : ByteArray) (w : World) (hl : b.size ≤ 140737488351232) :
    Calls Tryd.prog 42 #[.string b] w (RetF (takeV b) w) := by
  have hh := fun x => head_any b x hl
  have hf := headV_facts b
  have hv : Hid (takeV b = if (headV b).2.2.2 ≠ 0 then (0, 0, ⟨#[]⟩, 0, (headV b).2.2.2)
    else if b.size < (headV b).2.2.1 + 4 then (0, 0, ⟨#[]⟩, 0, 2)
    else ((headV b).1, (headV b).2.1, b.extract 4 (4 + (headV b).2.2.1), 4 + (headV b).2.2.1, 0)) := rfl
  generalize takeV b = V at hv
  generalize headV b = T at hh hf hv
  obtain ⟨k, f, n, e⟩ := T
  replace hv : Hid (V = if e ≠ 0 then (0, 0, ⟨#[]⟩, 0, e)
    else if b.size < n + 4 then (0, 0, ⟨#[]⟩, 0, 2)
    else (k, f, b.extract 4 (4 + n), 4 + n, 0)) := hv
  replace hf : n ≤ 65535 ∧ e ≤ 4 ∧ (e = 0 → 4 ≤ b.size) := hf
  obtain ⟨hn, he, h4⟩ := hf
  by_cases he0 : e = 0
  · subst he0
    have h4' := h4 rfl
    have h4'' : (4 : Int) ≤ (b.size : Int) := by omega
    by_cases hs : b.size < n + 4
    · have hz : Hid (V = (0, 0, ⟨#[]⟩, 0, 2)) := by show _ = _; rw [hv.out, if_neg (by simp), if_pos hs]
      have hs' : (b.size : Int) - 4 < (n : Int) := by omega
      clear hv h4
      go_enter Tryd.func42, Tryd.ntmps42
      go_wp2_with (go_at_call 71; refine (hh _).mono ?_; rintro e w1 ⟨rfl, g1⟩; obtain ⟨hcc, hff⟩ := bcell g1)
      refine bodyPost_ret (v := .tuple #[.agg #[.int .i64 0, .int .i64 0, .string ⟨#[]⟩], .int .i64 0, .int .i64 2]) (by simp [results, Tryd.results42, go_sem, hcc, hff]) rfl ⟨by rw [hz.out]; rfl, ?_⟩
      repeat (first | exact ((Below.refl _ _).alloc (Nat.le_refl _) _).trans (g1.mono (by simp)) | exact Below.refl _ _ | apply below_drewN | apply Below.drew | refine Below.setCell ?_ (by simp) _ | refine Below.alloc ?_ (by simp) _)
    · have hz : Hid (V = (k, f, b.extract 4 (4 + n), 4 + n, 0)) := by show _ = _; rw [hv.out, if_neg (by simp), if_neg hs]
      have hs' : ¬ (b.size : Int) - 4 < (n : Int) := by omega
      have hs'' : (4 : Int) + (n : Int) ≤ (b.size : Int) := by omega
      clear hv h4
      go_enter Tryd.func42, Tryd.ntmps42
      go_wp2_with (go_at_call 71; refine (hh _).mono ?_; rintro e w1 ⟨rfl, g1⟩; obtain ⟨hcc, hff⟩ := bcell g1)
      refine bodyPost_ret (v := .tuple #[.agg #[.int .i64 k, .int .i64 f, .string (b.extract 4 (4 + n))], .int .i64 (4 + n), .int .i64 0]) (by simp [results, Tryd.results42, go_sem, hcc, hff]) rfl ⟨by rw [hz.out]; simp, ?_⟩
      repeat (first | exact ((Below.refl _ _).alloc (Nat.le_refl _) _).trans (g1.mono (by simp)) | exact Below.refl _ _ | apply below_drewN | apply Below.drew | refine Below.setCell ?_ (by simp) _ | refine Below.alloc ?_ (by simp) _)
  · have hz : Hid (V = (0, 0, ⟨#[]⟩, 0, e)) := by show _ = _; rw [hv.out, if_pos he0]
    have he1 : ((e : Int) != 0) = true := bne_iff_ne.2 (by omega)
    clear hv h4 he0
    go_enter Tryd.func42, Tryd.ntmps42
    go_wp2_with (go_at_call 71; refine (hh _).mono ?_; rintro e w1 ⟨rfl, g1⟩; obtain ⟨hcc, hff⟩ := bcell g1)
    refine bodyPost_ret (v := .tuple #[.agg #[.int .i64 0, .int .i64 0, .string ⟨#[]⟩], .int .i64 0, .int .i64 e]) (by simp [results, Tryd.results42, go_sem, hcc, hff]) rfl ⟨by rw [hz.out]; rfl, ?_⟩
    repeat (first | exact ((Below.refl _ _).alloc (Nat.le_refl _) _).trans (g1.mono (by simp)) | exact Below.refl _ _ | apply below_drewN | apply Below.drew | refine Below.setCell ?_ (by simp) _ | refine Below.alloc ?_ (by simp) _)
end Go.Proofs.YtojkoedkecnccaaDoor.Frame
