/-
  tally.Text: the walk.
-/
import Derived.Test.YteejogoiikmlgaaGreatDoorTText
namespace Go.Proofs.YteejogoiikmlgaaGreatDoor.Serv
open Go.RowKit Go.Proofs.YteejogoiikmlgaaGreatDoor.Tally
set_option linter.unusedVariables false
set_option linter.unusedSimpArgs false
set_option linter.unnecessarySimpa false

def g1 (f : Nat → Int) (i : Nat) : ByteArray := lineT (f (i + 1)) [⟨#[99, 97, 109, 101]⟩, wordB (i + 1)]
def g2 (f : Nat → Int) (i : Nat) : ByteArray := lineT (f (i + 11)) [⟨#[114, 101, 102, 117, 115, 101, 100]⟩, errB (i + 1)]
def g3 (f : Nat → Int) (i : Nat) : ByteArray := lineT (f (i + 31)) [⟨#[115, 101, 114, 118, 101, 100]⟩, ⟨(Lib.decDigits i).toArray⟩]
def lastB (f : Nat → Int) : ByteArray := lineT (f 40) [⟨#[105, 100, 108, 101]⟩] ++ lineT (f 41) [⟨#[116, 105, 99, 107, 115]⟩] ++ lineT (f 42) [⟨#[98, 121, 116, 101, 115]⟩] ++ lineT (f 43) [⟨#[115, 104, 117, 116]⟩]
def textL (f : Nat → Int) : List UInt8 := preOf (g1 f) 9 ++ preOf (g2 f) 20 ++ preOf (g3 f) 9 ++ (lastB f).data.toList

theorem word_le (i : Nat) : (wordB i).size ≤ 6 := by unfold wordB; split <;> decide
theorem err_le (i : Nat) : (errB i).size ≤ 5 := by unfold errB; split <;> decide
theorem digs_le (i : Nat) (h : i < 9) : (⟨(Lib.decDigits i).toArray⟩ : ByteArray).size ≤ 3 := by
  obtain rfl | rfl | rfl | rfl | rfl | rfl | rfl | rfl | rfl : i = 0 ∨ i = 1 ∨ i = 2 ∨ i = 3 ∨ i = 4 ∨ i = 5 ∨ i = 6 ∨ i = 7 ∨ i = 8 := by omega
  all_goals decide +kernel

/-- what a tally at p answers, as long as all below is as in w -/
structure Says (p : Value) (f : Nat → Int) (w : World) : Prop where
  came : ∀ W (k : Nat), Below w.heap.size w W → 1 ≤ k → k ≤ 9 → Calls Tryz.prog 12 #[p, .int .i64 k] W fun e w' => e = .returned (.int .i64 (f k)) ∧ W = w'
  refused : ∀ W (k : Nat), Below w.heap.size w W → 1 ≤ k → k ≤ 20 → Calls Tryz.prog 14 #[p, .int .i64 k] W fun e w' => e = .returned (.int .i64 (f (k + 10))) ∧ W = w'
  served : ∀ W (k : Nat), Below w.heap.size w W → k ≤ 8 → Calls Tryz.prog 16 #[p, .int .i64 k] W fun e w' => e = .returned (.int .i64 (f (k + 31))) ∧ W = w'
  rest : ∀ W, Below w.heap.size w W → Calls Tryz.prog 20 #[p] W fun e w' => e = .returned (.tuple #[.int .i64 (f 40), .int .i64 (f 41), .int .i64 (f 42), .int .i64 (f 43)]) ∧ Below W.heap.size W w'
  size : ∀ i, (itoaB (f i)).size ≤ 30
  fmt : ∀ W i, Below w.heap.size w W → i < 44 → f i ≠ 0 → Calls Tryz.prog 49 #[.int .i64 (f i), .int .i64 10] W fun e w' => e = .returned (.string (itoaB (f i))) ∧ Below W.heap.size W w'

theorem g1_le {p : Value} {f : Nat → Int} {w : World} (h : Says p f w) (i : Nat) : (g1 f i).size ≤ 100 := lineT_le _ _ (by rw [join2]; have := word_le (i + 1); have e : (⟨#[99, 97, 109, 101]⟩ : ByteArray).size = 4 := rfl; omega) (h.size _)
theorem g2_le {p : Value} {f : Nat → Int} {w : World} (h : Says p f w) (i : Nat) : (g2 f i).size ≤ 100 := lineT_le _ _ (by rw [join2]; have := err_le (i + 1); have e : (⟨#[114, 101, 102, 117, 115, 101, 100]⟩ : ByteArray).size = 7 := rfl; omega) (h.size _)
theorem g3_le {p : Value} {f : Nat → Int} {w : World} (h : Says p f w) (i : Nat) (hi : i < 9) : (g3 f i).size ≤ 100 := lineT_le _ _ (by rw [join2]; have := digs_le i hi; have e : (⟨#[115, 101, 114, 118, 101, 100]⟩ : ByteArray).size = 6 := rfl; omega) (h.size _)

theorem cells2 {B : Nat} {a b : ByteArray} {t : TypeId} {W : World} (h : Blk B #[.string a, .string b] t W) : ∀ (j : Nat) x, [a, b][j]? = some x → W.cell? ⟨B, 0 + j, none⟩ = some (.string x) := by
  intro j x hx
  match j, hx with
  | 0, hx => simp at hx; subst hx; exact h.cell rfl
  | 1, hx => simp at hx; subst hx; exact h.cell rfl
theorem cells1 {B : Nat} {a : ByteArray} {t : TypeId} {W : World} (h : Blk B #[.string a] t W) : ∀ (j : Nat) x, [a][j]? = some x → W.cell? ⟨B, 0 + j, none⟩ = some (.string x) := by
  intro j x hx
  match j, hx with
  | 0, hx => simp at hx; subst hx; exact h.cell rfl

/-- a line of two words, put into the builder -/
theorem round2 {p : Value} {f : Nat → Int} {w wr : World} (h : Says p f w) (i : Nat) (hi : i < 44) (a b : ByteArray) (hb : Below w.heap.size w wr) (hj : a.size + b.size ≤ 20) :
    Calls Tryz.prog 34 #[.int .i64 (f i), .slice (some ⟨wr.heap.size, 0, none⟩) 2 2] (wr.alloc (.cells #[.string a, .string b] 9)) fun e w' => e = .returned (.string (lineT (f i) [a, b])) ∧ Below (wr.alloc (.cells #[.string a, .string b] 9)).heap.size (wr.alloc (.cells #[.string a, .string b] 9)) w' :=
  line_gen (f i) [a, b] wr.heap.size _ (cells2 (Blk.new wr _ _)) (by simp) (by simp) (by rw [join2]; omega) (h.size i) (fun hn W hW => h.fmt W i ((hb.alloc hb.size _).trans (hW.mono (by have := hb.size; simp; omega))) hi hn)
theorem round1 {p : Value} {f : Nat → Int} {w wr : World} (h : Says p f w) (i : Nat) (hi : i < 44) (a : ByteArray) (hb : Below w.heap.size w wr) (hj : a.size ≤ 20) :
    Calls Tryz.prog 34 #[.int .i64 (f i), .slice (some ⟨wr.heap.size, 0, none⟩) 1 1] (wr.alloc (.cells #[.string a] 9)) fun e w' => e = .returned (.string (lineT (f i) [a])) ∧ Below (wr.alloc (.cells #[.string a] 9)).heap.size (wr.alloc (.cells #[.string a] 9)) w' :=
  line_gen (f i) [a] wr.heap.size _ (cells1 (Blk.new wr _ _)) (by simp) (by simp) (by rw [join1]; omega) (h.size i) (fun hn W hW => h.fmt W i ((hb.alloc hb.size _).trans (hW.mono (by have := hb.size; simp; omega))) hi hn)

/-- what a round keeps -/
structure Tx (w : World) (l : List UInt8) (wr : World) : Prop where
  bld : Lib.IsBuilder 80 5 w.heap.size w.heap.size (Lib.byteCells l) wr
  bel : Below w.heap.size w wr
  len : l.length ≤ 100000
theorem put {w : World} {l : List UInt8} {wr w2 : World} (h : Tx w l wr) (o : Obj) (hw : Below (wr.alloc o).heap.size (wr.alloc o) w2) (s : ByteArray) (hs : (l ++ s.data.toList).length ≤ 100000) :
    Calls Tryz.prog 33 #[.pointer (some ⟨w.heap.size, 0, none⟩), .string s] w2 fun e w' => e = .returned (.tuple #[.int .i64 s.size, .nilIface]) ∧ Tx w (l ++ s.data.toList) w' := by
  have hb2 : Below wr.heap.size wr w2 := ((Below.refl _ _).alloc (Nat.le_refl _) o).trans (hw.mono (by simp))
  have p2 : Below w.heap.size w w2 := h.bel.trans (hb2.mono h.bel.size)
  refine (Tryz.Builder_WriteString w.heap.size w.heap.size _ s w2 (builder_below h.bld hb2) ?_ p2.size).mono ?_
  · rw [Lib.byteCells_length]; rw [List.length_append] at hs; have e1 : s.data.toList.length = s.size := by rw [Array.length_toList]; rfl
    omega
  · rintro e w' ⟨rfl, hB, hq⟩
    refine ⟨rfl, Or.inr ?_, p2.trans hq, hs⟩
    rw [Lib.byteCells_append]
    exact hB

theorem Tx.below {w : World} {l : List UInt8} {wr w2 : World} (h : Tx w l wr) (hb : Below wr.heap.size wr w2) : Tx w l w2 := ⟨builder_below h.bld hb, h.bel.trans (hb.mono h.bel.size), h.len⟩
theorem putT {w : World} {l : List UInt8} {w2 : World} (h : Tx w l w2) (s : ByteArray) (hs : (l ++ s.data.toList).length ≤ 100000) :
    Calls Tryz.prog 33 #[.pointer (some ⟨w.heap.size, 0, none⟩), .string s] w2 fun e w' => e = .returned (.tuple #[.int .i64 s.size, .nilIface]) ∧ Tx w (l ++ s.data.toList) w' := by
  refine (Tryz.Builder_WriteString w.heap.size w.heap.size _ s w2 h.bld ?_ h.bel.size).mono ?_
  · rw [Lib.byteCells_length]; rw [List.length_append] at hs; have e1 : s.data.toList.length = s.size := by rw [Array.length_toList]; rfl
    omega
  · rintro e w' ⟨rfl, hB, hq⟩
    refine ⟨rfl, Or.inr ?_, h.bel.trans hq, hs⟩
    rw [Lib.byteCells_append]
    exact hB
theorem preOf_le' (g : Nat → ByteArray) : ∀ k, (∀ i, i < k → (g i).size ≤ 100) → (preOf g k).length ≤ 100 * k
  | 0, _ => Nat.zero_le _
  | k + 1, hg => by
    rw [preOf_succ, List.length_append]
    have := preOf_le' g k (fun i hi => hg i (by omega))
    have e : (g k).data.toList.length = (g k).size := by rw [Array.length_toList]; rfl
    have := hg k (by omega)
    omega
theorem preOf_pred (g : Nat → ByteArray) (k : Nat) (h : 1 ≤ k) : preOf g k = preOf g (k - 1) ++ (g (k - 1)).data.toList := by
  obtain ⟨j, rfl⟩ : ∃ j, k = j + 1 := ⟨k - 1, by omega⟩
  exact preOf_succ g j
theorem g1_at (f : Nat → Int) (k : Nat) (h : 1 ≤ k) : g1 f (k - 1) = lineT (f k) [⟨#[99, 97, 109, 101]⟩, wordB k] := by unfold g1; rw [show k - 1 + 1 = k by omega]
theorem g2_at (f : Nat → Int) (k : Nat) (h : 1 ≤ k) : g2 f (k - 1) = lineT (f (k + 10)) [⟨#[114, 101, 102, 117, 115, 101, 100]⟩, errB k] := by unfold g2; rw [show k - 1 + 1 = k by omega, show k - 1 + 11 = k + 10 by omega]

set_option maxRecDepth 100000 in
set_option maxHeartbeats 4000000 in
theorem textW (p : Value) (f : Nat → Int) (w : World) (h : Says p f w) :
    Calls Tryz.prog 19 #[p] w fun e w' => e = .returned (.string ⟨(textL f).toArray⟩) ∧ Below w.heap.size w w' := by
  have g1l := preOf_le _ (g1_le h)
  have g2l := preOf_le _ (g2_le h)
  have hs := h.size
  have t0 : Hid (Tx w [] (w.alloc (.cells #[.pointer none, .slice none 0 0] 80))) := ⟨Lib.fresh_isBuilder _ _ _, (Below.refl _ _).alloc (Nat.le_refl _) _, by simp⟩
  replace h := Lib.hid h
  replace g1l := Lib.hid g1l
  replace g2l := Lib.hid g2l
  replace hs := Lib.hid hs
  go_enter Tryz.func19, Tryz.ntmps19
  go_wp2_with fail
  go_loopw [4] (fun i wr => ∃ k : Nat, 1 ≤ k ∧ k ≤ 10 ∧ i = .int .i64 k ∧ Hid (Tx w (preOf (g1 f) (k - 1)) wr)) (fun i _ => 10 - (intOf i).toNat)
  case atStart => exact ⟨1, by omega, by omega, rfl, t0⟩
  case round =>
    obtain ⟨k, hk1, hk, rfl, hx⟩ := hrel
    by_cases hlt : k < 10
    · have hlt' : (k : Int) ≤ 9 := by omega
      have hc := h.out.came wr k hx.out.bel (by omega) (by omega)
      have hr := round2 h.out k (by omega) ⟨#[99, 97, 109, 101]⟩ (wordB k) hx.out.bel (by have := word_le k; have e : (⟨#[99, 97, 109, 101]⟩ : ByteArray).size = 4 := rfl; omega)
      have hL : (preOf (g1 f) (k - 1) ++ (lineT (f k) [⟨#[99, 97, 109, 101]⟩, wordB k]).data.toList) = preOf (g1 f) (k + 1 - 1) := by
        rw [show k + 1 - 1 = k by omega, preOf_pred (g1 f) k hk1, g1_at f k hk1]
        try rw [List.append_assoc]
      have hlen : (preOf (g1 f) (k - 1) ++ (lineT (f k) [⟨#[99, 97, 109, 101]⟩, wordB k]).data.toList).length ≤ 100000 := by
        rw [hL]
        have := preOf_le _ (g1_le h.out) (k + 1 - 1); omega
      have hp := fun w2 hw => put hx.out (.cells #[.string ⟨#[99, 97, 109, 101]⟩, .string (wordB k)] 9) (w2 := w2) hw (lineT (f k) [⟨#[99, 97, 109, 101]⟩, wordB k]) hlen
      rw [hL] at hp
      have hw := word_any k (by omega) (by omega)
      clear hL hlen
      generalize lineT (f k) [⟨#[99, 97, 109, 101]⟩, wordB k] = LN at hr hp
      generalize wordB k = WD at hr hp hw
      generalize f k = FN at hc hr
      go_wp2_with fail
      refine hc.mono ?_
      rintro e w' ⟨rfl, rfl⟩
      go_wp2_with fail
      refine (hw _).mono ?_
      rintro e w' ⟨rfl, rfl⟩
      go_wp2_with fail
      refine hr.mono ?_
      rintro e w2 ⟨rfl, p2⟩
      have hp2 := hp w2 p2
      clear hp p2 hr hc hw hx
      go_wp2_with fail
      refine hp2.mono ?_
      rintro e w3 ⟨rfl, t3⟩
      replace t3 := Lib.hid t3
      clear hp2
      go_wp2
      go_roundw
      case rel => exact ⟨k + 1, by omega, by omega, by go_num, t3⟩
      case measure => simp [intOf]; omega
    · obtain rfl : k = 10 := by omega
      clear hlt hk hk1
      rw [show ((10 : Nat) : Int) = 10 from rfl]
      have hx1 : Hid (Tx w (preOf (g1 f) 9 ++ preOf (g2 f) (1 - 1)) wr) := by
        rw [show preOf (g2 f) (1 - 1) = [] from rfl, List.append_nil]
        exact hx
      clear hx
      go_wp2_with fail
      go_loopw [5] (fun i wr => ∃ k : Nat, 1 ≤ k ∧ k ≤ 21 ∧ i = .int .i64 k ∧ Hid (Tx w (preOf (g1 f) 9 ++ preOf (g2 f) (k - 1)) wr)) (fun i _ => 21 - (intOf i).toNat)
      case atStart => exact ⟨1, by omega, by omega, rfl, hx1⟩
      case round =>
        obtain ⟨k, hk1, hk, rfl, hx⟩ := hrel
        by_cases hlt : k < 21
        · have hlt' : (k : Int) ≤ 20 := by omega
          have hc := h.out.refused wr k hx.out.bel (by omega) (by omega)
          have hr := round2 h.out (k + 10) (by omega) ⟨#[114, 101, 102, 117, 115, 101, 100]⟩ (errB k) hx.out.bel (by have := err_le k; have e : (⟨#[114, 101, 102, 117, 115, 101, 100]⟩ : ByteArray).size = 7 := rfl; omega)
          have hL : (preOf (g1 f) 9 ++ preOf (g2 f) (k - 1) ++ (lineT (f (k + 10)) [⟨#[114, 101, 102, 117, 115, 101, 100]⟩, errB k]).data.toList) = preOf (g1 f) 9 ++ preOf (g2 f) (k + 1 - 1) := by
            rw [show k + 1 - 1 = k by omega, preOf_pred (g2 f) k hk1, g2_at f k hk1]
            try rw [List.append_assoc]
          have hlen : (preOf (g1 f) 9 ++ preOf (g2 f) (k - 1) ++ (lineT (f (k + 10)) [⟨#[114, 101, 102, 117, 115, 101, 100]⟩, errB k]).data.toList).length ≤ 100000 := by
            rw [hL]
            have := preOf_le _ (g1_le h.out) 9; have := preOf_le _ (g2_le h.out) (k + 1 - 1); rw [List.length_append]; omega
          have hp := fun w2 hw => put hx.out (.cells #[.string ⟨#[114, 101, 102, 117, 115, 101, 100]⟩, .string (errB k)] 9) (w2 := w2) hw (lineT (f (k + 10)) [⟨#[114, 101, 102, 117, 115, 101, 100]⟩, errB k]) hlen
          rw [hL] at hp
          have hw := err_any k (by omega) (by omega)
          clear hL hlen
          generalize lineT (f (k + 10)) [⟨#[114, 101, 102, 117, 115, 101, 100]⟩, errB k] = LN at hr hp
          generalize errB k = WD at hr hp hw
          generalize f (k + 10) = FN at hc hr
          go_wp2_with fail
          refine hc.mono ?_
          rintro e w' ⟨rfl, rfl⟩
          go_wp2_with fail
          refine (hw _).mono ?_
          rintro e w' ⟨rfl, rfl⟩
          go_wp2_with fail
          refine hr.mono ?_
          rintro e w2 ⟨rfl, p2⟩
          have hp2 := hp w2 p2
          clear hp p2 hr hc hw hx
          go_wp2_with fail
          refine hp2.mono ?_
          rintro e w3 ⟨rfl, t3⟩
          replace t3 := Lib.hid t3
          clear hp2
          go_wp2
          go_roundw
          case rel => exact ⟨k + 1, by omega, by omega, by go_num, t3⟩
          case measure => simp [intOf]; omega
        · obtain rfl : k = 21 := by omega
          clear hlt hk hk1
          rw [show ((21 : Nat) : Int) = 21 from rfl]
          have hx2 : Hid (Tx w (preOf (g1 f) 9 ++ preOf (g2 f) 20 ++ preOf (g3 f) 0) wr) := by
            rw [show preOf (g3 f) 0 = [] from rfl, List.append_nil]
            exact hx
          clear hx
          go_wp2_with fail
          go_loopw [35] (fun i wr => ∃ k : Nat, k ≤ 9 ∧ i = .int .i64 k ∧ Hid (Tx w (preOf (g1 f) 9 ++ preOf (g2 f) 20 ++ preOf (g3 f) k) wr)) (fun i _ => 9 - (intOf i).toNat)
          case atStart => exact ⟨0, by omega, rfl, hx2⟩
          case round =>
            obtain ⟨k, hk, rfl, hx⟩ := hrel
            by_cases hlt : k < 9
            · have hlt' : (k : Int) < 9 := by omega
              have hc := h.out.served wr k hx.out.bel (by omega)
              have hr := round2 h.out (k + 31) (by omega) ⟨#[115, 101, 114, 118, 101, 100]⟩ ⟨(Lib.decDigits k).toArray⟩ hx.out.bel (by have := digs_le k hlt; have e : (⟨#[115, 101, 114, 118, 101, 100]⟩ : ByteArray).size = 6 := rfl; omega)
              have hL : (preOf (g1 f) 9 ++ preOf (g2 f) 20 ++ preOf (g3 f) k ++ (lineT (f (k + 31)) [⟨#[115, 101, 114, 118, 101, 100]⟩, ⟨(Lib.decDigits k).toArray⟩]).data.toList) = preOf (g1 f) 9 ++ preOf (g2 f) 20 ++ preOf (g3 f) (k + 1) := by
                rw [preOf_succ (g3 f) k, ← List.append_assoc]
                rfl
              have hlen : (preOf (g1 f) 9 ++ preOf (g2 f) 20 ++ preOf (g3 f) k ++ (lineT (f (k + 31)) [⟨#[115, 101, 114, 118, 101, 100]⟩, ⟨(Lib.decDigits k).toArray⟩]).data.toList).length ≤ 100000 := by
                have a1 := preOf_le _ (g1_le h.out) 9
                have a3 := preOf_le _ (g2_le h.out) 20
                have a4 := preOf_le' (g3 f) k (fun i hi => g3_le h.out i (by omega))
                have a2 := g3_le h.out k hlt
                have e1 : (g3 f k).data.toList.length = (g3 f k).size := by rw [Array.length_toList]; rfl
                have e2 : (lineT (f (k + 31)) [⟨#[115, 101, 114, 118, 101, 100]⟩, ⟨(Lib.decDigits k).toArray⟩]).data.toList.length = (g3 f k).data.toList.length := rfl
                rw [List.length_append, e2, e1, List.length_append, List.length_append]
                omega
              have hp := fun w2 hw => put hx.out (.cells #[.string ⟨#[115, 101, 114, 118, 101, 100]⟩, .string ⟨(Lib.decDigits k).toArray⟩] 9) (w2 := w2) hw (lineT (f (k + 31)) [⟨#[115, 101, 114, 118, 101, 100]⟩, ⟨(Lib.decDigits k).toArray⟩]) hlen
              rw [hL] at hp
              have hw := Tryz.strconv_Itoa_small k (by omega)
              clear hL hlen
              generalize lineT (f (k + 31)) [⟨#[115, 101, 114, 118, 101, 100]⟩, ⟨(Lib.decDigits k).toArray⟩] = LN at hr hp
              generalize (⟨(Lib.decDigits k).toArray⟩ : ByteArray) = WD at hr hp hw
              generalize f (k + 31) = FN at hc hr
              go_wp2_with fail
              refine hc.mono ?_
              rintro e w' ⟨rfl, rfl⟩
              go_wp2_with fail
              refine (hw wr).mono ?_
              rintro e w' ⟨rfl, hww⟩
              subst hww
              go_wp2_with fail
              refine hr.mono ?_
              rintro e w2 ⟨rfl, p2⟩
              have hp2 := hp w2 p2
              clear hp p2 hr hc hw hx
              go_wp2_with fail
              refine hp2.mono ?_
              rintro e w3 ⟨rfl, t3⟩
              replace t3 := Lib.hid t3
              clear hp2
              go_wp2
              go_roundw
              case rel => exact ⟨k + 1, by omega, by go_num, t3⟩
              case measure => simp [intOf]; omega
            · obtain rfl : k = 9 := by omega
              clear hlt hk
              go_wp2_with fail
              refine (h.out.rest wr hx.out.bel).mono ?_
              rintro e w1 ⟨rfl, p1⟩
              have x1 := Lib.hid (hx.out.below p1)
              clear p1 hx
              have r1 := round1 h.out 40 (by decide) ⟨#[105, 100, 108, 101]⟩ x1.out.bel (by decide)
              have z1 : (lineT (f 40) [⟨#[105, 100, 108, 101]⟩]).size ≤ 100 := lineT_le _ _ (by rw [join1]; decide) (hs.out _)
              generalize hG1 : lineT (f 40) [⟨#[105, 100, 108, 101]⟩] = L1 at r1 z1
              replace hG1 := Lib.hid hG1
              go_wp2_with fail
              refine r1.mono ?_
              rintro e w2 ⟨rfl, p2⟩
              have x2 := Lib.hid (x1.out.below (((Below.refl _ _).alloc (Nat.le_refl _) _).trans (p2.mono (by simp))))
              clear p2 x1 r1
              have r2 := round1 h.out 41 (by decide) ⟨#[116, 105, 99, 107, 115]⟩ x2.out.bel (by decide)
              have z2 : (lineT (f 41) [⟨#[116, 105, 99, 107, 115]⟩]).size ≤ 100 := lineT_le _ _ (by rw [join1]; decide) (hs.out _)
              generalize hG2 : lineT (f 41) [⟨#[116, 105, 99, 107, 115]⟩] = L2 at r2 z2
              replace hG2 := Lib.hid hG2
              go_wp2_with fail
              refine r2.mono ?_
              rintro e w3 ⟨rfl, p3⟩
              have x3 := Lib.hid (x2.out.below (((Below.refl _ _).alloc (Nat.le_refl _) _).trans (p3.mono (by simp))))
              clear p3 x2 r2
              have y2 : ¬ 9223372036854775807 < L1.size + L2.size := by omega
              have r3 := round1 h.out 42 (by decide) ⟨#[98, 121, 116, 101, 115]⟩ x3.out.bel (by decide)
              have z3 : (lineT (f 42) [⟨#[98, 121, 116, 101, 115]⟩]).size ≤ 100 := lineT_le _ _ (by rw [join1]; decide) (hs.out _)
              generalize hG3 : lineT (f 42) [⟨#[98, 121, 116, 101, 115]⟩] = L3 at r3 z3
              replace hG3 := Lib.hid hG3
              go_wp2_with fail
              refine r3.mono ?_
              rintro e w4 ⟨rfl, p4⟩
              have x4 := Lib.hid (x3.out.below (((Below.refl _ _).alloc (Nat.le_refl _) _).trans (p4.mono (by simp))))
              clear p4 x3 r3
              have y3 : ¬ 9223372036854775807 < L1.size + L2.size + L3.size := by omega
              have r4 := round1 h.out 43 (by decide) ⟨#[115, 104, 117, 116]⟩ x4.out.bel (by decide)
              have z4 : (lineT (f 43) [⟨#[115, 104, 117, 116]⟩]).size ≤ 100 := lineT_le _ _ (by rw [join1]; decide) (hs.out _)
              generalize hG4 : lineT (f 43) [⟨#[115, 104, 117, 116]⟩] = L4 at r4 z4
              replace hG4 := Lib.hid hG4
              go_wp2_with fail
              refine r4.mono ?_
              rintro e w5 ⟨rfl, p5⟩
              have x5 := Lib.hid (x4.out.below (((Below.refl _ _).alloc (Nat.le_refl _) _).trans (p5.mono (by simp))))
              clear p5 x4 r4
              have y4 : ¬ 9223372036854775807 < L1.size + L2.size + L3.size + L4.size := by omega
              have hlen : (preOf (g1 f) 9 ++ preOf (g2 f) 20 ++ preOf (g3 f) 9 ++ (L1 ++ L2 ++ L3 ++ L4).data.toList).length ≤ 100000 := by
                have a1 := preOf_le _ (g1_le h.out) 9
                have a3 := preOf_le _ (g2_le h.out) 20
                have a4 := preOf_le' (g3 f) 9 (fun i hi => g3_le h.out i (by omega))
                have e1 : (L1 ++ L2 ++ L3 ++ L4).data.toList.length = L1.size + L2.size + L3.size + L4.size := by rw [Array.length_toList]; show (L1 ++ L2 ++ L3 ++ L4).size = _; rw [ByteArray.size_append, ByteArray.size_append, ByteArray.size_append]
                rw [List.length_append, e1, List.length_append, List.length_append]
                omega
              have hp := putT x5.out (L1 ++ L2 ++ L3 ++ L4) hlen
              have hT : Hid (textL f = preOf (g1 f) 9 ++ preOf (g2 f) 20 ++ preOf (g3 f) 9 ++ (L1 ++ L2 ++ L3 ++ L4).data.toList) := by
                show _ = _
                unfold textL lastB
                rw [hG1.out, hG2.out, hG3.out, hG4.out]
              generalize hX : L1 ++ L2 ++ L3 ++ L4 = X at hp hT
              replace hX := Lib.hid hX
              clear x5 hlen hG1 hG2 hG3 hG4
              go_wp2_with fail
              rw [hX.out]
              refine hp.mono ?_
              rintro e w6 ⟨rfl, t6⟩
              have hS := Tryz.Builder_String_any w.heap.size w.heap.size _ w6 t6.bld t6.bel.size
              replace t6 := Lib.hid t6.bel
              rw [← hT.out] at hS
              generalize hQ : textL f = TL at hS hT
              replace hQ := Lib.hid hQ
              clear hp hT
              go_wp2_with fail
              refine hS.mono ?_
              rintro e w7 ⟨rfl, p7⟩
              go_wp2
              go_ret
              exact ⟨by rw [hQ.out]; rfl, t6.out.trans p7⟩
end Go.Proofs.YteejogoiikmlgaaGreatDoor.Serv
