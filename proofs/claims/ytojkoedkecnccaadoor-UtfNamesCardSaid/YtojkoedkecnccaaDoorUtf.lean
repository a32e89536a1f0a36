/-
  utf.Valid, Count, letter, Name and the statements' own 'awake': the walks: what each returns for every text. They ask that the library's two tables of utf8 are laid.
-/
import Derived.Test.YtojkoedkecnccaaDoorUtfBad
namespace Go.Proofs.YtojkoedkecnccaaDoor.Utf
open Go.RowKit Go.Proofs.YtojkoedkecnccaaDoor.Utx
set_option linter.unusedVariables false
set_option linter.unusedSimpArgs false

def validB (s : ByteArray) : Bool := decide (badZ s < 0)

set_option maxHeartbeats 400000 in
theorem valid_any (s : ByteArray) (w : World) (hs : s.size ≤ maxLen) (hT : Lib.Utf8Tabs 0 1 w) :
    Calls Tryd.prog 13 #[.string s] w fun e w' => e = .returned (.bool (validB s)) ∧ Below w.heap.size w w' := by
  have hcall := bad_any s w hs hT
  have hz : Hid (validB s = decide (badZ s < 0)) := rfl
  generalize badZ s = z at hcall hz
  generalize validB s = b at hz
  go_enter Tryd.func13, Tryd.ntmps13
  go_wp2_with (go_at_call 11; refine hcall.mono ?_; rintro e w' ⟨rfl, hb'⟩)
  go_ret
  exact ⟨by rw [hz.out]; rfl, hb'⟩

def countZ (s : ByteArray) : Int := if badZ s < 0 then countOf s else 0

set_option maxHeartbeats 400000 in
theorem count_bad (s : ByteArray) (w : World) (hs : s.size ≤ maxLen) (hT : Lib.Utf8Tabs 0 1 w) (hv : validB s = false) :
    Calls Tryd.prog 14 #[.string s] w fun e w' => e = .returned (.int .i64 0) ∧ Below w.heap.size w w' := by
  have hcall := valid_any s w hs hT
  rw [hv] at hcall
  clear hv
  go_enter Tryd.func14, Tryd.ntmps14
  go_wp2_with (go_at_call 13; refine hcall.mono ?_; rintro e w' ⟨rfl, hb'⟩)
  go_ret
  exact ⟨rfl, hb'⟩

theorem valid_none {s : ByteArray} (hv : validB s = true) : badOf s = none := by
  unfold validB badZ at hv
  cases h : badOf s with
  | none => rfl
  | some p => rw [h] at hv; simp only [decide_eq_true_eq] at hv; omega

set_option maxHeartbeats 400000 in
theorem count_good (s : ByteArray) (w : World) (hs : s.size ≤ maxLen) (hT : Lib.Utf8Tabs 0 1 w) (hv : validB s = true) :
    Calls Tryd.prog 14 #[.string s] w fun e w' => e = .returned (.int .i64 (countOf s)) ∧ Below w.heap.size w w' := by
  have hcall := valid_any s w hs hT
  have hnone := Lib.hid (valid_none hv)
  rw [hv] at hcall
  clear hv
  unfold maxLen at hs
  go_enter Tryd.func14, Tryd.ntmps14
  go_wp2_with (go_at_call 13; refine hcall.mono ?_; rintro e w1 ⟨rfl, hb1⟩)
  clear hcall
  go_loopw [3] (fun n wr => ∃ pos k : Nat, wr = w1.iter s pos ∧ n = .int .i64 k ∧ k ≤ pos ∧ pos ≤ s.size ∧ Hid (k + countF s s.size pos = countOf s) ∧ Hid (badF s s.size pos = none)) (fun _ wr => s.size - wr.iterPos w1.heap.size)
  case atStart => exact ⟨0, 0, rfl, rfl, Nat.le_refl _, Nat.zero_le _, by show 0 + _ = _; unfold countOf; omega, hnone.out⟩
  case round =>
    obtain ⟨pos, k, rfl, rfl, hk, hpos, hc, hbad⟩ := hrel
    by_cases hp : pos < s.size
    · have hnx : ∀ ty, (Instr.next (.pointer (some ⟨w1.heap.size, 0, none⟩)) true ty).run Tryd.prog (w1.iter s pos) = _ := fun ty => run_next_any w1 s pos ty hp
      have hr : 0 < runeAt s pos := by
        have h := hbad.out
        have e : s.size = (s.size - 1) + 1 := by omega
        rw [e] at h
        simp only [badF] at h
        rw [if_pos hp] at h
        by_cases h0 : runeAt s pos = 0
        · rw [if_pos h0] at h; cases h
        · omega
      have hd : (Utf8.decode s pos).2 = runeAt s pos := by
        rcases dec_rune s pos hp with ⟨h0, _⟩ | ⟨_, h, _⟩
        · omega
        · exact h
      have hle := runeAt_le s pos hp
      have hbad2 : Hid (badF s s.size (pos + runeAt s pos) = none) := by
        have h := hbad.out
        have e : s.size = (s.size - 1) + 1 := by omega
        rw [e] at h
        simp only [badF] at h
        rw [if_pos hp, if_neg (by omega)] at h
        show _ = _
        rw [badF_more s s.size (s.size - 1) _ (by omega) (by omega)]
        exact h
      have hc2 : Hid ((k + 1) + countF s s.size (pos + runeAt s pos) = countOf s) := by
        have h := hc.out
        have e : s.size = (s.size - 1) + 1 := by omega
        rw [e] at h
        simp only [countF] at h
        rw [if_pos hp, if_neg (by omega)] at h
        show _ = _
        rw [countF_more s s.size (s.size - 1) _ (by omega) (by omega)]
        omega
      rw [hd] at hnx
      clear hd hbad hc
      go_wp2
      go_roundw
      case rel => exact ⟨pos + runeAt s pos, k + 1, rfl, by go_num, by omega, hle, hc2, hbad2⟩
      case measure => simp; omega
    · have hnx : ∀ ty, (Instr.next (.pointer (some ⟨w1.heap.size, 0, none⟩)) true ty).run Tryd.prog (w1.iter s pos) = _ := fun ty => run_next_end w1 s pos ty hp
      have hkk : Hid (countOf s = k) := by
        have h := hc.out
        show _ = _
        rw [← h]
        cases hsz : s.size with
        | zero => simp [countF]
        | succ n => simp only [countF]; rw [if_neg (by omega)]; omega
      go_wp2
      go_ret
      exact ⟨by rw [hkk.out]; rfl, hb1.trans ((Below.refl _ _).alloc hb1.size _)⟩

theorem count_any (s : ByteArray) (w : World) (hs : s.size ≤ maxLen) (hT : Lib.Utf8Tabs 0 1 w) :
    Calls Tryd.prog 14 #[.string s] w fun e w' => e = .returned (.int .i64 (countZ s)) ∧ Below w.heap.size w w' := by
  by_cases h : badZ s < 0
  · have := count_good s w hs hT (by unfold validB; exact decide_eq_true h)
    unfold countZ; rw [if_pos h]; exact this
  · have := count_bad s w hs hT (by unfold validB; exact decide_eq_false h)
    unfold countZ; rw [if_neg h]; exact this

def letterB (c : Int) : Bool := (decide (97 ≤ c) && decide (c ≤ 122)) || (decide (65 ≤ c) && decide (c ≤ 90))

set_option maxHeartbeats 400000 in
theorem letter_any (c : Int) (w : World) :
    Calls Tryd.prog 33 #[.int .i32 c] w fun e w' => e = .returned (.bool (letterB c)) ∧ ∃ n, w' = w.drewN n := by
  have hz : Hid (letterB c = ((decide (97 ≤ c) && decide (c ≤ 122)) || (decide (65 ≤ c) && decide (c ≤ 90)))) := rfl
  generalize letterB c = b at hz
  by_cases h1 : 97 ≤ c <;> by_cases h2 : c ≤ 122 <;> by_cases h3 : 65 ≤ c <;> by_cases h4 : c ≤ 90
  all_goals (try (exfalso; omega))
  all_goals (simp only [h1, h2, h3, h4, decide_true, decide_false, Bool.and_true, Bool.and_false, Bool.or_true, Bool.or_false, Bool.and_self, Bool.or_self] at hz)
  all_goals (have hz' := hz.out; subst hz'; clear hz)
  all_goals (go_enter Tryd.func33, Tryd.ntmps33; go_wp2; go_ret; exact ⟨rfl, 0, rfl⟩)

def okB (i : Nat) (c : Int) : Bool := letterB c || (decide (i ≠ 0) && (decide (c = 95) || (decide (48 ≤ c) && decide (c ≤ 57))))
def nameF (s : ByteArray) : Nat → Nat → Bool
  | 0, _ => true
  | f + 1, p => if p < s.size then (if okB p (Utf8.decode s p).1 = true then nameF s f (p + (Utf8.decode s p).2) else false) else true
def nameB (s : ByteArray) : Bool := nameF s s.size 0 && (decide (0 < s.size) && decide (s.size ≤ 16))

theorem nameF_more (s : ByteArray) (f : Nat) : ∀ g p, s.size ≤ p + f → s.size ≤ p + g → nameF s f p = nameF s g p := by
  induction f with
  | zero => intro g p h1 h2; cases g with
    | zero => rfl
    | succ g => simp only [nameF]; rw [if_neg (by omega)]
  | succ f ih => intro g p h1 h2; cases g with
    | zero => simp only [nameF]; rw [if_neg (by omega)]
    | succ g =>
      simp only [nameF]
      by_cases hp : p < s.size
      · rw [if_pos hp, if_pos hp]
        have hw : 1 ≤ (Utf8.decode s p).2 := by
          rcases dec_rune s p hp with ⟨_, h⟩ | ⟨h0, h, _⟩
          · rw [h]; exact Nat.le_refl _
          · omega
        split
        · exact ih g _ (by omega) (by omega)
        · rfl
      · rw [if_neg hp, if_neg hp]

theorem nameF_step (s : ByteArray) (pos : Nat) (hp : pos < s.size) :
    nameF s s.size pos = if okB pos (Utf8.decode s pos).1 = true then nameF s s.size (pos + (Utf8.decode s pos).2) else false := by
  have hw : 1 ≤ (Utf8.decode s pos).2 := by
    rcases dec_rune s pos hp with ⟨_, h⟩ | ⟨h0, h, _⟩
    · rw [h]; exact Nat.le_refl _
    · omega
  rw [nameF_more s s.size ((s.size - 1) + 1) pos (by omega) (by omega), nameF_more s s.size (s.size - 1) (pos + (Utf8.decode s pos).2) (by omega) (by omega)]
  simp only [nameF]
  rw [if_pos hp]
theorem nameF_end (s : ByteArray) (f pos : Nat) (hp : ¬ pos < s.size) : nameF s f pos = true := by
  cases f with
  | zero => rfl
  | succ f => simp only [nameF]; rw [if_neg hp]

set_option maxHeartbeats 1600000 in
theorem name_any (s : ByteArray) (w : World) (hs : s.size ≤ maxLen) :
    Calls Tryd.prog 17 #[.string s] w fun e w' => e = .returned (.bool (nameB s)) ∧ Below w.heap.size w w' := by
  unfold maxLen at hs
  go_enter Tryd.func17, Tryd.ntmps17
  go_wp2_with fail
  go_loopw [3] (fun i wr => ∃ pos, pos ≤ s.size ∧ wr.heap[w.heap.size]? = some (.stringIter s pos) ∧ Below w.heap.size w wr ∧ Hid (nameF s s.size pos = nameF s s.size 0)) (fun _ wr => s.size - wr.iterPos w.heap.size)
  case atStart => exact ⟨0, Nat.zero_le _, World.iter_heap _ _ _, (Below.refl _ _).alloc (Nat.le_refl _) _, rfl⟩
  case round =>
    obtain ⟨pos, hpos, hit, hb, hc⟩ := hrel
    by_cases hp : pos < s.size
    · have hnx : ∀ ty, (Instr.next (.pointer (some ⟨w.heap.size, 0, none⟩)) true ty).run Tryd.prog wr = _ := fun ty => Lib.run_next_any_at wr w.heap.size s pos ty hit hp
      have hit2 : (wr.iterAt w.heap.size s (pos + (Utf8.decode s pos).2)).heap[w.heap.size]? = some (.stringIter s (pos + (Utf8.decode s pos).2)) := Lib.iterAt_heap wr _ s pos _ hit
      have hb2 : Below w.heap.size w (wr.iterAt w.heap.size s (pos + (Utf8.decode s pos).2)) := Lib.below_iterAt hb (Nat.le_refl _) s _
      have hw : 1 ≤ (Utf8.decode s pos).2 ∧ pos + (Utf8.decode s pos).2 ≤ s.size := by
        have hle := runeAt_le s pos hp
        rcases dec_rune s pos hp with ⟨_, h⟩ | ⟨h0, h, _⟩
        · rw [h]; exact ⟨Nat.le_refl _, hp⟩
        · omega
      have hstep : Hid (nameF s s.size 0 = if okB pos (Utf8.decode s pos).1 = true then nameF s s.size (pos + (Utf8.decode s pos).2) else false) := by
        show _ = _
        rw [← hc.out]
        exact nameF_step s pos hp
      clear hc
      generalize (Utf8.decode s pos).1 = c at hnx hstep
      generalize (Utf8.decode s pos).2 = k at hnx hit2 hb2 hw hstep
      obtain ⟨hw1, hw2⟩ := hw
      have hlet := fun x => letter_any (c : Int) x
      have hok : Hid (okB pos c = (letterB c || (decide (pos ≠ 0) && (decide ((c : Int) = 95) || (decide (48 ≤ (c : Int)) && decide ((c : Int) ≤ 57)))))) := rfl
      generalize letterB (c : Int) = b at hlet hok
      by_cases hokb : okB pos c = true
      · have h1 := hstep.out
        rw [if_pos hokb] at h1
        have hnext : Hid (nameF s s.size (pos + k) = nameF s s.size 0) := h1.symm
        have h2 := hok.out
        rw [hokb] at h2
        clear hok hstep hokb h1
        cases b with
        | true =>
          clear h2
          go_wp2_with (go_at_call 33; refine (hlet _).mono ?_; rintro e w' ⟨rfl, nq, rfl⟩)
          go_roundw
          case rel => exact ⟨pos + k, hw2, hit2, below_drewN hb2 _, hnext⟩
          case measure => rw [iterPos_of (show ((wr.iterAt w.heap.size s (pos + k)).drewN nq).heap[w.heap.size]? = _ from hit2), iterPos_of hit]; omega
        | false =>
          simp only [Bool.false_or] at h2
          have h3 := h2.symm
          clear h2
          simp only [Bool.and_eq_true, Bool.or_eq_true, decide_eq_true_eq] at h3
          have hp0 : ((pos : Int) == 0) = false := beq_eq_false_iff_ne.2 (by omega)
          by_cases h95 : (c : Int) = 95
          · have h95' : ((c : Int) != 95) = false := by rw [h95]; rfl
            clear h3 h95
            go_wp2_with (go_at_call 33; refine (hlet _).mono ?_; rintro e w' ⟨rfl, nq, rfl⟩)
            go_roundw
            case rel => exact ⟨pos + k, hw2, hit2, below_drewN hb2 _, hnext⟩
            case measure => rw [iterPos_of (show ((wr.iterAt w.heap.size s (pos + k)).drewN nq).heap[w.heap.size]? = _ from hit2), iterPos_of hit]; omega
          · have h95' : ((c : Int) != 95) = true := bne_iff_ne.2 h95
            have h48 : 48 ≤ (c : Int) := by omega
            have h57 : (c : Int) ≤ 57 := by omega
            clear h3 h95
            go_wp2_with (go_at_call 33; refine (hlet _).mono ?_; rintro e w' ⟨rfl, nq, rfl⟩)
            go_roundw
            case rel => exact ⟨pos + k, hw2, hit2, below_drewN hb2 _, hnext⟩
            case measure => rw [iterPos_of (show ((wr.iterAt w.heap.size s (pos + k)).drewN nq).heap[w.heap.size]? = _ from hit2), iterPos_of hit]; omega
      · have h1 := hstep.out
        rw [if_neg hokb] at h1
        have hfin : Hid (nameB s = false) := by show nameB s = false; unfold nameB; rw [h1]; rfl
        have h2 := hok.out
        rw [Bool.not_eq_true] at hokb
        rw [hokb] at h2
        clear hok hstep hokb h1
        cases b with
        | true => simp at h2
        | false =>
          simp only [Bool.false_or] at h2
          have h3 := h2.symm
          clear h2
          by_cases hz0 : pos = 0
          · have hp0 : ((pos : Int) == 0) = true := by rw [hz0]; rfl
            clear h3 hz0
            go_wp2_with (go_at_call 33; refine (hlet _).mono ?_; rintro e w' ⟨rfl, nq, rfl⟩)
            go_ret
            exact ⟨by rw [hfin.out]; rfl, below_drewN hb2 _⟩
          · have hp0 : ((pos : Int) == 0) = false := beq_eq_false_iff_ne.2 (by omega)
            have h4 : (c : Int) ≠ 95 ∧ ((c : Int) < 48 ∨ 57 < (c : Int)) := by
              simp only [ne_eq, hz0, not_false_eq_true, decide_true, Bool.true_and, Bool.or_eq_false_iff, decide_eq_false_iff_not, Bool.and_eq_false_iff] at h3
              omega
            have h95' : ((c : Int) != 95) = true := bne_iff_ne.2 h4.1
            obtain ⟨_, h4⟩ := h4
            clear h3 hz0
            by_cases h48 : (c : Int) < 48
            · clear h4
              go_wp2_with (go_at_call 33; refine (hlet _).mono ?_; rintro e w' ⟨rfl, nq, rfl⟩)
              go_ret
              exact ⟨by rw [hfin.out]; rfl, below_drewN hb2 _⟩
            · have h57 : 57 < (c : Int) := by omega
              clear h4
              go_wp2_with (go_at_call 33; refine (hlet _).mono ?_; rintro e w' ⟨rfl, nq, rfl⟩)
              go_ret
              exact ⟨by rw [hfin.out]; rfl, below_drewN hb2 _⟩
    · have hnx : ∀ ty, (Instr.next (.pointer (some ⟨w.heap.size, 0, none⟩)) true ty).run Tryd.prog wr = _ := fun ty => Lib.run_next_end_at wr w.heap.size s pos ty hit hp
      have hz : Hid (nameB s = (decide (0 < s.size) && decide (s.size ≤ 16))) := by
        show nameB s = _
        unfold nameB
        rw [← hc.out, nameF_end s _ pos hp]; rfl
      clear hc
      by_cases h0 : s.size = 0
      · have e0 : s.toList = [] := by rw [Lib.toList_data]; exact List.eq_nil_of_length_eq_zero (by rw [← Lib.size_eq]; exact h0)
        have hz2 : Hid (nameB s = false) := by show _ = _; rw [hz.out, h0]; rfl
        clear hz h0
        go_wp2
        go_ret
        exact ⟨by rw [hz2.out]; rfl, hb⟩
      · have e0 : s.toList ≠ [] := by
          rw [Lib.toList_data]
          intro h
          apply h0
          rw [Lib.size_eq, h]; rfl
        have e1 : (!s.toList.isEmpty) = true := by
          cases h : s.toList with
          | nil => exact absurd h e0
          | cons _ _ => rfl
        have hz2 : Hid (nameB s = decide (s.size ≤ 16)) := by
          show _ = _
          rw [hz.out, decide_eq_true (by omega : 0 < s.size)]; rfl
        clear hz
        go_wp2
        go_ret
        refine ⟨?_, hb⟩
        rw [hz2.out]
        simp
        omega

theorem aw1 : badZ ⟨#[97, 255]⟩ = 1 := by decide +kernel
theorem aw2 : validB ⟨#[97, 195, 169]⟩ = true := by decide +kernel
theorem aw3 : nameB ⟨#[97, 95, 49]⟩ = true := by decide +kernel

set_option maxHeartbeats 400000 in
theorem awake_any (w : World) (hT : Lib.Utf8Tabs 0 1 w) :
    Calls Tryd.prog 16 #[] w fun e w' => e = .returned (.bool true) ∧ Below w.heap.size w w' := by
  have c1 := fun x h => bad_any ⟨#[97, 255]⟩ x (by decide) h
  have c2 := fun x h => valid_any ⟨#[97, 195, 169]⟩ x (by decide) h
  have c3 := fun x => name_any ⟨#[97, 95, 49]⟩ x (by decide)
  rw [aw1] at c1
  rw [aw2] at c2
  rw [aw3] at c3
  have hT' := Lib.hid hT
  clear hT
  go_enter Tryd.func16, Tryd.ntmps16
  go_wp2_with fail
  refine (c1 _ hT'.out).mono ?_
  rintro e w1 ⟨rfl, hb1⟩
  go_wp2_with fail
  refine (c2 _ (Utf8Tabs_below hT'.out hb1)).mono ?_
  rintro e w2 ⟨rfl, hb2⟩
  go_wp2_with fail
  refine (c3 _).mono ?_
  rintro e w3 ⟨rfl, hb3⟩
  go_wp2_with fail
  go_ret
  exact ⟨rfl, (hb1.trans (hb2.mono hb1.size)).trans (hb3.mono (Nat.le_trans hb1.size hb2.size))⟩
end Go.Proofs.YtojkoedkecnccaaDoor.Utf
