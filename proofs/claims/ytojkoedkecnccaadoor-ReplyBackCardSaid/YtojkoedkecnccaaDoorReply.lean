/-
  reply: bounded, row, Put, Fail, Long: the walks.
-/
import Derived.Test.YtojkoedkecnccaaDoorFrame
import Derived.Test.YtojkoedkecnccaaDoorPadBase
import Derived.Test.YtojkoedkecnccaaDoorVarint
namespace Go.Proofs.YtojkoedkecnccaaDoor.Reply
open Go.RowKit Go.Proofs.YtojkoedkecnccaaDoor.Pad
set_option linter.unusedVariables false
set_option linter.unusedSimpArgs false

/-- a box of three cells at block B, below which all is as in w0 -/
def Box (B : Nat) (x y z : Value) (w0 W : World) : Prop :=
  W.cell? ⟨B, 0, none⟩ = some x ∧ W.cell? ⟨B, 1, none⟩ = some y ∧ W.cell? ⟨B, 2, none⟩ = some z ∧ Hid (Below B w0 W ∧ B < W.heap.size)

theorem Box.start {x y z : Value} {t : TypeId} {w0 : World} : Box w0.heap.size x y z w0 (w0.alloc (.cells #[x, y, z] t)) :=
  ⟨by simp [go_sem], by simp [go_sem], by simp [go_sem], (Below.refl _ _).alloc (Nat.le_refl _) _, by simp⟩
theorem Box.call {B : Nat} {x y z : Value} {w0 W w' : World} (h : Box B x y z w0 W) (hb : Below W.heap.size W w') : Box B x y z w0 w' :=
  have h1 := h.2.2.2.out.1
  have h2 := h.2.2.2.out.2
  ⟨(hb.cell (p := ⟨B, 0, none⟩) h2).trans h.1, (hb.cell (p := ⟨B, 1, none⟩) h2).trans h.2.1, (hb.cell (p := ⟨B, 2, none⟩) h2).trans h.2.2.1, h1.trans (hb.mono (Nat.le_of_lt h2)), Nat.lt_of_lt_of_le h2 hb.size⟩
theorem Box.drew {B : Nat} {x y z : Value} {w0 W : World} (h : Box B x y z w0 W) : Box B x y z w0 W.drew := h.call (Below.refl _ _).drew
theorem Box.alloc {B : Nat} {x y z : Value} {w0 W : World} (h : Box B x y z w0 W) (o : Obj) : Box B x y z w0 (W.alloc o) :=
  h.call ((Below.refl _ _).alloc (Nat.le_refl _) _)
theorem Box.below {x y z : Value} {w0 W : World} (h : Box w0.heap.size x y z w0 W) : Below w0.heap.size w0 W := h.2.2.2.out.1

theorem Box.mk {B : Nat} {x y z : Value} {w0 W : World} (h0 : W.cell? ⟨B, 0, none⟩ = some x) (h1 : W.cell? ⟨B, 1, none⟩ = some y) (h2 : W.cell? ⟨B, 2, none⟩ = some z) (h3 : Hid (Below B w0 W ∧ B < W.heap.size)) : Box B x y z w0 W := ⟨h0, h1, h2, h3⟩

theorem lib_hid {p : Prop} (h : p) : Hid p := h

theorem join3 (a b c : ByteArray) : (⟨(Lib.join ([a, b, c].map (·.data.toList)) (ByteArray.mk #[]).data.toList).toArray⟩ : ByteArray) = a ++ b ++ c := by
  apply ba_ext
  simp [Lib.join, List.intercalate, List.intersperse]

set_option maxRecDepth 100000 in
theorem row_any (bk : Nat) (a b c : ByteArray) (w : World) (h0 : w.cell? ⟨bk, 0, none⟩ = some (.string a)) (h1 : w.cell? ⟨bk, 1, none⟩ = some (.string b)) (h2 : w.cell? ⟨bk, 2, none⟩ = some (.string c)) (hbk : bk < w.heap.size)
    (hl : a.size + b.size + c.size ≤ 140737488355328) :
    Calls Tryd.prog 39 #[.slice (some ⟨bk, 0, none⟩) 3 3] w fun e w' => e = .returned (.string (a ++ b ++ c)) ∧ Below w.heap.size w w' := by
  have hj := Tryd.strings_Join bk 0 3 [a, b, c] ⟨#[]⟩ w (fun j x hx => by
    match j, hx with
    | 0, hx => simp at hx; subst hx; exact h0
    | 1, hx => simp at hx; subst hx; exact h1
    | 2, hx => simp at hx; subst hx; exact h2) hbk (by simp) (by simp) (by
      have := congrArg ByteArray.size (join3 a b c)
      rw [ByteArray.size_append, ByteArray.size_append] at this
      have e : (ByteArray.mk (Lib.join ([a, b, c].map (·.data.toList)) (ByteArray.mk #[]).data.toList).toArray).size = (Lib.join ([a, b, c].map (·.data.toList)) (ByteArray.mk #[]).data.toList).length := List.size_toArray
      rw [e] at this
      omega)
  rw [join3] at hj
  replace hj : Calls Tryd.prog 69 #[.slice (some ⟨bk, 0, none⟩) 3 3, .string ⟨#[]⟩] w fun e w' => e = .returned (.string (a ++ b ++ c)) ∧ Below w.heap.size w w' := hj
  generalize a ++ b ++ c = R at hj
  go_enter Tryd.func39, Tryd.ntmps39
  go_wp2_with (go_at_call 69; refine hj.mono ?_; rintro e w1 ⟨rfl, g1⟩)
  go_ret
  exact ⟨rfl, g1⟩

def okB (st : Int) : Bool := decide (0 ≤ st) && decide (st ≤ 1048576)

theorem bounded_any (st : Int) (w : World) : Calls Tryd.prog 38 #[.int .i64 st] w fun e w' => e = .returned (.bool (okB st)) ∧ w = w' := by
  by_cases h1 : 0 ≤ st
  · have hz : Hid (okB st = decide (st ≤ 1048576)) := by show _ = _; unfold okB; rw [decide_eq_true h1]; rfl
    generalize okB st = z at hz
    go_enter Tryd.func38, Tryd.ntmps38
    go_wp2
    go_ret
    exact ⟨by rw [hz.out]; rfl, rfl⟩
  · have hz : Hid (okB st = false) := by show _ = _; unfold okB; rw [decide_eq_false h1]; rfl
    generalize okB st = z at hz
    go_enter Tryd.func38, Tryd.ntmps38
    go_wp2
    go_ret
    exact ⟨by rw [hz.out]; rfl, rfl⟩

/-- a reply's text -/
def txt (id st : Nat) (d : ByteArray) : ByteArray := Varint.vB st ++ Varint.vB id ++ d
theorem txt_size (id st : Nat) (d : ByteArray) : d.size ≤ (txt id st d).size ∧ (txt id st d).size ≤ d.size + 20 := by
  unfold txt
  rw [ByteArray.size_append, ByteArray.size_append, Varint.vB_size, Varint.vB_size]
  have := Varint.vL_le st
  have := Varint.vL_le id
  omega

/-- a reply's bytes, or why there are none -/
def rp (id : Nat) (st : Int) (d : ByteArray) : ByteArray × Int :=
  if okB st = false then (⟨#[]⟩, 1) else if 1022 < (txt id st.toNat d).size then (⟨#[]⟩, 3) else (Frame.headS 9 0 (padF (txt id st.toNat d)).size ++ padF (txt id st.toNat d), 0)

set_option maxRecDepth 100000 in
set_option maxHeartbeats 1000000 in
theorem put_any (id : Nat) (st : Int) (d : ByteArray) (w : World) (hid : id < 18446744073709551616) (hd : d.size ≤ 140737488351232) :
    Calls Tryd.prog 24 #[.agg #[.int .u64 id, .int .i64 st, .string d]] w fun e w' => e = .returned (.tuple #[.string (rp id st d).1, .int .i64 (rp id st d).2]) ∧ Below w.heap.size w w' := by
  have ho := fun x => bounded_any st x
  cases hob : okB st with
  | false =>
    have hz : Hid (rp id st d = (⟨#[]⟩, 1)) := by show _ = _; unfold rp; rw [if_pos hob]
    rw [hob] at ho
    generalize rp id st d = z at hz
    clear hob
    go_enter Tryd.func24, Tryd.ntmps24
    go_wp2_with (go_at_call 38; refine (ho _).mono ?_; rintro e w1 ⟨rfl, rfl⟩)
    go_ret2
    exact ⟨by rw [hz.out]; rfl, (Below.refl _ _).alloc (Nat.le_refl _) _⟩
  | true =>
    have hst : 0 ≤ st ∧ st ≤ 1048576 := by unfold okB at hob; simpa using hob
    obtain ⟨s, rfl⟩ : ∃ s : Nat, st = (s : Int) := ⟨st.toNat, by omega⟩
    have e1 : IntKind.u64.wrap (s : Int) = (s : Int) := by rw [IntKind.wrap_u64]; omega
    have vv := fun n x (h : n < 18446744073709551616) => Varint.put_any n x h
    have hs64 : s < 18446744073709551616 := by omega
    have hts := txt_size id s d
    have hs1 : (Varint.vB s).size ≤ 10 := by rw [Varint.vB_size]; exact Varint.vL_le _
    have hs2 : (Varint.vB id).size ≤ 10 := by rw [Varint.vB_size]; exact Varint.vL_le _
    have hr := fun bk x h0 h1 h2 hb => row_any bk (Varint.vB s) (Varint.vB id) d x h0 h1 h2 hb (by omega)
    replace hr : ∀ bk (x : World), x.cell? ⟨bk, 0, none⟩ = some (.string (Varint.vB s)) → x.cell? ⟨bk, 1, none⟩ = some (.string (Varint.vB id)) → x.cell? ⟨bk, 2, none⟩ = some (.string d) → bk < x.heap.size →
      Calls Tryd.prog 39 #[.slice (some ⟨bk, 0, none⟩) 3 3] x fun e w' => e = .returned (.string (txt id s d)) ∧ Below x.heap.size x w' := hr
    rw [hob] at ho
    by_cases hl : 1022 < (txt id s d).size
    · have hz : Hid (rp id s d = (⟨#[]⟩, 3)) := by show _ = _; unfold rp; rw [if_neg (by rw [hob]; simp), if_pos (by simpa using hl)]
      generalize rp id s d = z at hz
      have hp := fun x => pad_long (txt id s d) x hl (by omega)
      generalize txt id s d = T at hp hr hts
      clear hob hl
      go_enter Tryd.func24, Tryd.ntmps24
      go_wp2_with (go_at_call 38; refine (ho _).mono ?_; rintro e w1 ⟨rfl, rfl⟩)
      have bx : Hid (Box w.heap.size (.int .u64 id) (.int .i64 s) (.string d) w (w.alloc (.cells #[.int .u64 id, .int .i64 s, .string d] 35))) := Box.start
      obtain ⟨c0, c1, c2, hB⟩ := bx.out
      clear bx
      go_region_held3 (fun x => x.cell? ⟨w.heap.size, 0, none⟩ = some (.int .u64 id) ∧ x.cell? ⟨w.heap.size, 1, none⟩ = some (.int .i64 s) ∧ x.cell? ⟨w.heap.size, 2, none⟩ = some (.string d) ∧ Hid (Below w.heap.size w x ∧ w.heap.size < x.heap.size))
        ((change Box _ _ _ _ _ _; repeat (first | (with_reducible assumption) | (change _ ∧ _; assumption) | (refine Box.mk ?_ ?_ ?_ ?_ <;> assumption) | (with_reducible refine Box.alloc ?_ _) | (with_reducible refine Box.drew ?_) | focus (apply Box.call; rotate_left 1; with_reducible assumption))))
        (first
        | (go_at_call 40; refine Calls.mono (vv _ _ (by first | exact hs64 | exact hid)) ?_
           rintro e w1 ⟨rfl, g1⟩)
        | (go_at_call 39; refine (hr _ _ (by simp [go_sem]) (by simp [go_sem]) (by simp [go_sem]) (by simp)).mono ?_
           rintro e w1 ⟨rfl, g1⟩)
        | (go_at_call 22; refine (hp _).mono ?_
           rintro e w1 ⟨rfl, g1⟩))
      go_wp2
      go_ret2
      refine ⟨by rw [hz.out]; rfl, ?_⟩
      exact Box.below (x := .int .u64 id) (y := .int .i64 s) (z := .string d) (by first | assumption | (refine Box.mk ?_ ?_ ?_ ?_ <;> assumption))
    · have hz : Hid (rp id s d = Frame.putV 9 0 (padF (txt id s d))) := by
        show _ = _
        have h1 : (padF (txt id s d)).size ≤ 1024 := by have := padF_size (txt id s d) (by omega); have := cls_room (txt id s d).size (by omega); omega
        unfold rp Frame.putV
        rw [if_neg (by rw [hob]; simp), if_neg (by simpa using hl), if_neg (by decide), if_neg (by omega), if_neg (by omega)]
        rfl
      generalize rp id s d = z at hz
      have hp := fun x => pad_any (txt id s d) x (by omega) (by omega)
      have hpl : (padF (txt id s d)).size ≤ 1024 := by have := padF_size (txt id s d) (by omega); have := cls_room (txt id s d).size (by omega); omega
      have hfp := fun x => Frame.put_any 9 0 (padF (txt id s d)) x (by omega)
      generalize padF (txt id s d) = P at hp hz hfp hpl
      generalize Frame.putV 9 0 P = Z at hfp hz
      generalize txt id s d = T at hp hr hts
      clear hob hl
      go_enter Tryd.func24, Tryd.ntmps24
      go_wp2_with (go_at_call 38; refine (ho _).mono ?_; rintro e w1 ⟨rfl, rfl⟩)
      have bx : Hid (Box w.heap.size (.int .u64 id) (.int .i64 s) (.string d) w (w.alloc (.cells #[.int .u64 id, .int .i64 s, .string d] 35))) := Box.start
      obtain ⟨c0, c1, c2, hB⟩ := bx.out
      clear bx
      go_region_held3 (fun x => x.cell? ⟨w.heap.size, 0, none⟩ = some (.int .u64 id) ∧ x.cell? ⟨w.heap.size, 1, none⟩ = some (.int .i64 s) ∧ x.cell? ⟨w.heap.size, 2, none⟩ = some (.string d) ∧ Hid (Below w.heap.size w x ∧ w.heap.size < x.heap.size))
        ((change Box _ _ _ _ _ _; repeat (first | (with_reducible assumption) | (change _ ∧ _; assumption) | (refine Box.mk ?_ ?_ ?_ ?_ <;> assumption) | (with_reducible refine Box.alloc ?_ _) | (with_reducible refine Box.drew ?_) | focus (apply Box.call; rotate_left 1; with_reducible assumption))))
        (first
        | (go_at_call 40; refine Calls.mono (vv _ _ (by first | exact hs64 | exact hid)) ?_
           rintro e w1 ⟨rfl, g1⟩)
        | (go_at_call 39; refine (hr _ _ (by simp [go_sem]) (by simp [go_sem]) (by simp [go_sem]) (by simp)).mono ?_
           rintro e w1 ⟨rfl, g1⟩)
        | (go_at_call 22; refine (hp _).mono ?_
           rintro e w1 ⟨rfl, g1⟩))
      go_wp2_with (go_at_call 41; refine (hfp _).mono ?_; rintro e w9 ⟨rfl, g9⟩)
      go_ret2
      refine ⟨by rw [hz.out]; rfl, ?_⟩
      exact (Box.call (x := .int .u64 id) (y := .int .i64 s) (z := .string d) (by first | assumption | (refine Box.mk ?_ ?_ ?_ ?_ <;> assumption)) g9).below

/-- the status that Fail puts -/
def fst' (st : Int) : Int := if okB st = true then st else 1

set_option maxRecDepth 100000 in
set_option maxHeartbeats 1000000 in
theorem fail_any (id : Nat) (st : Int) (w : World) (hid : id < 18446744073709551616) :
    Calls Tryd.prog 30 #[.int .u64 id, .int .i64 st] w fun e w' => e = .returned (.string (rp id (fst' st) ⟨#[]⟩).1) ∧ Below w.heap.size w w' := by
  have ho := fun x => bounded_any st x
  have hp := fun x s => put_any id s ⟨#[]⟩ x hid (by decide)
  cases hob : okB st with
  | true =>
    have hz : fst' st = st := by unfold fst'; rw [if_pos hob]
    rw [hz]
    rw [hob] at ho
    clear hob hz
    replace hp := fun x => hp x st
    generalize rp id st ⟨#[]⟩ = z at hp
    go_enter Tryd.func30, Tryd.ntmps30
    go_wp2_with (go_at_call 38; refine (ho _).mono ?_; rintro e w1 ⟨rfl, rfl⟩)
    go_wp2_with (go_at_call 24; refine (hp _).mono ?_; rintro e w9 ⟨rfl, g9⟩)
    go_ret
    exact ⟨rfl, g9⟩
  | false =>
    have hz : fst' st = 1 := by unfold fst'; rw [if_neg (by rw [hob]; simp)]
    rw [hz]
    rw [hob] at ho
    clear hob hz
    replace hp := fun x => hp x 1
    generalize rp id 1 ⟨#[]⟩ = z at hp
    go_enter Tryd.func30, Tryd.ntmps30
    go_wp2_with (go_at_call 38; refine (ho _).mono ?_; rintro e w1 ⟨rfl, rfl⟩)
    go_wp2_with (go_at_call 24; refine (hp _).mono ?_; rintro e w9 ⟨rfl, g9⟩)
    go_ret
    exact ⟨rfl, g9⟩

def longB (n : Int) : Bool := decide (1011 < n)
theorem long_any (n : Int) (w : World) : Calls Tryd.prog 29 #[.int .i64 n] w fun e w' => e = .returned (.bool (longB n)) ∧ w = w' := by
  have hm := fun x => most_any x
  go_enter Tryd.func29, Tryd.ntmps29
  go_wp2_with (go_at_call 37; refine (hm _).mono ?_; rintro e w1 ⟨rfl, rfl⟩)
  go_ret
  exact ⟨rfl, rfl⟩
end Go.Proofs.YtojkoedkecnccaaDoor.Reply
