/-
  Plain laws of padding, by lists of bytes: what is padded is unpadded, what was unpadded is padded so. No condition but the length of what can be padded.
-/
import Derived.Test.YtojkoedkecnccaaDoorPadBase
import Derived.Test.YtojkoedkecnccaaDoorUnpad
namespace Go.Proofs.YtojkoedkecnccaaDoor.Pad
open Go.RowKit
set_option linter.unusedVariables false
set_option linter.unusedSimpArgs false

theorem get_list (s : ByteArray) (i : Nat) : s.get! i = s.data.toList.getD i 0 := by
  show s.data[i]! = _
  simp only [getElem!_def, List.getD]
  rw [Array.getElem?_toList]
  cases s.data[i]? <;> rfl

theorem told_padF (s : ByteArray) (h : s.size ≤ 1022) : told (padF s) = s.size := by
  have e0 : b0 (padF s) = s.size / 256 := by
    unfold b0; rw [get_list, padF_list]
    simp only [List.getD_cons_zero, Nat.toUInt8_eq, UInt8.toNat_ofNat']
    omega
  have e1 : b1 (padF s) = s.size % 256 := by
    unfold b1; rw [get_list, padF_list]
    simp only [List.getD_cons_succ, List.getD_cons_zero, Nat.toUInt8_eq, UInt8.toNat_ofNat']
    omega
  unfold told; rw [e0, e1]; omega

theorem dropWhile_nil_iff {α : Type} (p : α → Bool) (l : List α) : l.dropWhile p = [] ↔ ∀ x ∈ l, p x = true := by
  induction l with
  | nil => simp
  | cons a l ih =>
    simp only [List.dropWhile_cons]
    cases h : p a with
    | true => simp [ih, h]
    | false => simp [h]

theorem trim_nil (l : List UInt8) : Lib.trimB l 0 = [] ↔ ∀ x ∈ l, x = 0 := by
  unfold Lib.trimB Lib.trimLeftB Lib.trimRightB
  rw [dropWhile_nil_iff]
  constructor
  · intro h x hx
    by_cases he : l.reverse.dropWhile (· == 0) = []
    · have := (dropWhile_nil_iff _ _).1 he x (by simpa using hx)
      simpa using this
    · -- the last of what is left is no 0
      exfalso
      obtain ⟨y, ys, hy⟩ : ∃ y ys, l.reverse.dropWhile (· == 0) = y :: ys := by
        cases hh : l.reverse.dropWhile (· == 0) with
        | nil => exact absurd hh he
        | cons y ys => exact ⟨y, ys, rfl⟩
      have h1 := h y (by rw [hy]; simp)
      have h2 := List.head?_dropWhile_not (fun x : UInt8 => x == 0) l.reverse
      rw [hy] at h2
      simp only [List.head?_cons] at h2
      rw [h1] at h2
      cases h2
  · intro h x hx
    have hm : x ∈ l := by
      have h3 := List.mem_reverse.1 hx
      have h4 := (List.dropWhile_sublist (fun x : UInt8 => x == 0) (l := l.reverse)).subset h3
      simpa using h4
    rw [h x hm]; rfl

theorem padF_padded (s : ByteArray) (h : s.size ≤ 1022) : Padded (padF s) := by
  have hr := cls_room s.size h
  have hs := padF_size s h
  refine ⟨by omega, by rw [told_padF s h]; exact h, by rw [told_padF s h, hs], ?_⟩
  rw [told_padF s h, trim_nil, padF_list]
  intro x hx
  rw [show s.size + 2 = (s.size + 1) + 1 from rfl, List.drop_succ_cons, List.drop_succ_cons, List.drop_append_of_le_length (by rw [list_size]; exact Nat.le_refl _)] at hx
  rw [List.drop_of_length_le (by rw [list_size]; exact Nat.le_refl _)] at hx
  simp only [List.nil_append] at hx
  exact List.eq_of_mem_replicate hx

theorem inner_list (s : ByteArray) : (inner s).data.toList = (s.data.toList.drop 2).take (told s) := by
  unfold inner
  rw [ByteArray.data_extract, Array.toList_extract]
  simp

theorem inner_padF (s : ByteArray) (h : s.size ≤ 1022) : inner (padF s) = s := by
  apply ba_ext
  rw [inner_list, told_padF s h, padF_list]
  simp only [List.drop_succ_cons, List.drop_zero]
  rw [← list_size s, List.take_left']
  rfl

theorem inner_size (s : ByteArray) (h : Padded s) : (inner s).size = told s := by
  have hr := cls_room (told s) h.2.1
  have h3 := h.2.2.1
  rw [← list_size, inner_list, List.length_take, List.length_drop, list_size]
  omega

theorem padF_inner (s : ByteArray) (h : Padded s) : padF (inner s) = s := by
  have hr := cls_room (told s) h.2.1
  have hsz := inner_size s h
  have h3 := h.2.2.1
  have h4 := (trim_nil _).1 h.2.2.2
  apply ba_ext
  rw [padF_list, hsz, inner_list, h3]
  have l0 : b0 s < 256 := UInt8.toNat_lt _
  have l1 : b1 s < 256 := UInt8.toNat_lt _
  obtain ⟨x, y, r, hl⟩ : ∃ x y r, s.data.toList = x :: y :: r := by
    have hlen := list_size s
    match hh : s.data.toList, hlen with
    | [], hlen => simp at hlen; omega
    | [a], hlen => simp at hlen; omega
    | x :: y :: r, _ => exact ⟨x, y, r, rfl⟩
  have e0 : b0 s = x.toNat := by unfold b0; rw [get_list, hl]; rfl
  have e1 : b1 s = y.toNat := by unfold b1; rw [get_list, hl]; rfl
  have q0 : told s / 256 = x.toNat := by unfold told; rw [e0, e1]; omega
  have q1 : told s % 256 = y.toNat := by unfold told; rw [e0, e1]; omega
  rw [q0, q1, hl]
  simp only [List.drop_succ_cons, List.drop_zero]
  rw [hl] at h4
  simp only [List.drop_succ_cons] at h4
  have hx : x.toNat.toUInt8 = x := by simp
  have hy : y.toNat.toUInt8 = y := by simp
  rw [hx, hy]
  congr 1
  congr 1
  have hlen : r.length + 2 = s.size := by rw [← list_size s, hl]; simp
  have hrest : r.drop (told s) = List.replicate (r.length - told s) 0 := by
    rw [List.eq_replicate_iff]
    exact ⟨by simp, h4⟩
  have hn : ((s.size : Int)).toNat - 2 - told s = r.length - told s := by omega
  rw [hn, ← hrest]
  exact List.take_append_drop _ _

theorem unpad_any (s : ByteArray) (w : World) (hl : s.size ≤ 140737488351232) :
    (Padded s → Calls Tryd.prog 20 #[.string s] w fun e w' => e = .returned (.tuple #[.string (inner s), .int .i64 0]) ∧ Below w.heap.size w w') ∧
    (¬ Padded s → Calls Tryd.prog 20 #[.string s] w fun e w' => e = .returned (.tuple #[.string ⟨#[]⟩, .int .i64 1]) ∧ Below w.heap.size w w') := by
  constructor
  · intro h
    have := unpad_class s w h.1 hl h.2.1 h.2.2.1
    rw [if_pos h.2.2.2] at this
    exact this
  · intro h
    by_cases h1 : 2 ≤ s.size
    · by_cases h2 : told s ≤ 1022
      · by_cases h3 : cls (told s) = s.size
        · have := unpad_class s w h1 hl h2 h3
          rw [if_neg (fun h4 => h ⟨h1, h2, h3, h4⟩)] at this
          exact this
        · exact unpad_other s w h1 hl h2 h3
      · exact unpad_far s w h1 hl (by omega)
    · exact unpad_short s w (by omega)

end Go.Proofs.YtojkoedkecnccaaDoor.Pad
