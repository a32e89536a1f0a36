/-
  Plain laws of runes: how many bytes the rune has that begins at a place of a text, by the document (3.1) and by Go's own decoding; the first place where none begins, and the count of runes, of two texts one behind the other. No condition. No program in sight.
-/
import Derived.Lib.DecodeN
namespace Go.Proofs.YtojkoedkecnccaaDoor.Utx
set_option linter.unusedVariables false
def runeN (n b0 b1 b2 b3 : Nat) : Nat :=
  if b0 < 128 then 1
  else if 192 ≤ b0 ∧ b0 < 224 then
    if 1 < n ∧ 128 ≤ b1 ∧ b1 ≤ 191 then (if (b0 - 192) * 64 + (b1 - 128) < 128 then 0 else 2) else 0
  else if 224 ≤ b0 ∧ b0 < 240 then
    if (1 < n ∧ 128 ≤ b1 ∧ b1 ≤ 191) ∧ (2 < n ∧ 128 ≤ b2 ∧ b2 ≤ 191) then
      (if (b0 - 224) * 4096 + (b1 - 128) * 64 + (b2 - 128) < 2048 ∨ (55296 ≤ (b0 - 224) * 4096 + (b1 - 128) * 64 + (b2 - 128) ∧ (b0 - 224) * 4096 + (b1 - 128) * 64 + (b2 - 128) < 57344) then 0 else 3) else 0
  else if 240 ≤ b0 ∧ b0 < 248 then
    if (1 < n ∧ 128 ≤ b1 ∧ b1 ≤ 191) ∧ (2 < n ∧ 128 ≤ b2 ∧ b2 ≤ 191) ∧ (3 < n ∧ 128 ≤ b3 ∧ b3 ≤ 191) then
      (if (b0 - 240) * 262144 + (b1 - 128) * 4096 + (b2 - 128) * 64 + (b3 - 128) < 65536 ∨ 1114112 ≤ (b0 - 240) * 262144 + (b1 - 128) * 4096 + (b2 - 128) * 64 + (b3 - 128) then 0 else 4) else 0
  else 0

def by' (s : ByteArray) (p : Nat) : Nat := (s.get! p).toNat
def runeAt (s : ByteArray) (p : Nat) : Nat := runeN (s.size - p) (by' s p) (by' s (p+1)) (by' s (p+2)) (by' s (p+3))

theorem runeN_le (n b0 b1 b2 b3 : Nat) (hn : 0 < n) : runeN n b0 b1 b2 b3 ≤ n ∧ runeN n b0 b1 b2 b3 ≤ 4 := by
  unfold runeN; repeat' split
  all_goals omega


theorem runeN_big (n m b0 b1 b2 b3 : Nat) (hn : 4 ≤ n) (hm : 4 ≤ m) : runeN m b0 b1 b2 b3 = runeN n b0 b1 b2 b3 := by
  have e1 : (1 < n) = True := eq_true (by omega)
  have e2 : (2 < n) = True := eq_true (by omega)
  have e3 : (3 < n) = True := eq_true (by omega)
  have f1 : (1 < m) = True := eq_true (by omega)
  have f2 : (2 < m) = True := eq_true (by omega)
  have f3 : (3 < m) = True := eq_true (by omega)
  unfold runeN
  simp only [e1, e2, e3, f1, f2, f3, true_and]

/-- only the bytes of the rune count -/
theorem runeN_cut (n m b0 b1 b2 b3 c1 c2 c3 : Nat) (hm : n ≤ m)
    (h1 : 1 < n → b1 = c1) (h2 : 2 < n → b2 = c2) (h3 : 3 < n → b3 = c3) (h : 0 < runeN n b0 b1 b2 b3) :
    runeN m b0 c1 c2 c3 = runeN n b0 b1 b2 b3 := by
  by_cases k0 : b0 < 128
  · simp [runeN, k0]
  by_cases k1 : 192 ≤ b0 ∧ b0 < 224
  · simp only [runeN, if_neg k0, if_pos k1] at h ⊢
    by_cases e : 1 < n ∧ 128 ≤ b1 ∧ b1 ≤ 191
    · have := h1 e.1; subst this
      rw [if_pos e, if_pos (by omega)]
    · rw [if_neg e] at h; omega
  by_cases k2 : 224 ≤ b0 ∧ b0 < 240
  · simp only [runeN, if_neg k0, if_neg k1, if_pos k2] at h ⊢
    by_cases e : (1 < n ∧ 128 ≤ b1 ∧ b1 ≤ 191) ∧ (2 < n ∧ 128 ≤ b2 ∧ b2 ≤ 191)
    · have := h1 e.1.1; subst this
      have := h2 e.2.1; subst this
      rw [if_pos e, if_pos (by omega)]
    · rw [if_neg e] at h; omega
  by_cases k3 : 240 ≤ b0 ∧ b0 < 248
  · simp only [runeN, if_neg k0, if_neg k1, if_neg k2, if_pos k3] at h ⊢
    by_cases e : (1 < n ∧ 128 ≤ b1 ∧ b1 ≤ 191) ∧ (2 < n ∧ 128 ≤ b2 ∧ b2 ≤ 191) ∧ (3 < n ∧ 128 ≤ b3 ∧ b3 ≤ 191)
    · have := h1 e.1.1; subst this
      have := h2 e.2.1.1; subst this
      have := h3 e.2.2.1; subst this
      rw [if_pos e, if_pos (by omega)]
    · rw [if_neg e] at h; omega
  · simp [runeN, k0, k1, k2, k3] at h

theorem by_append_left (a b : ByteArray) (i : Nat) (h : i < a.size) : by' (a ++ b) i = by' a i := by
  have : (a ++ b).data = a.data ++ b.data := ByteArray.data_append
  show ((a ++ b).data[i]!).toNat = (a.data[i]!).toNat
  rw [this]
  simp only [getElem!_def, Array.getElem?_append]
  rw [if_pos (show i < a.data.size from h)]

theorem by_append_right (a b : ByteArray) (i : Nat) : by' (a ++ b) (a.size + i) = by' b i := by
  have : (a ++ b).data = a.data ++ b.data := ByteArray.data_append
  show ((a ++ b).data[a.size + i]!).toNat = (b.data[i]!).toNat
  rw [this]
  simp only [getElem!_def, Array.getElem?_append]
  rw [if_neg (show ¬ a.size + i < a.data.size from fun h => by have : a.data.size = a.size := rfl; omega), show a.size + i - a.data.size = i from by have : a.data.size = a.size := rfl; omega]

theorem runeAt_left (a b : ByteArray) (p : Nat) (hp : p < a.size) (h : 0 < runeAt a p ∨ p + 4 ≤ a.size) : runeAt (a ++ b) p = runeAt a p := by
  unfold runeAt
  have hs : (a ++ b).size - p = a.size - p + b.size := by rw [ByteArray.size_append]; omega
  rw [hs]
  rcases h with h | h
  · rw [by_append_left a b p hp]
    refine runeN_cut _ _ _ _ _ _ _ _ _ (by omega) (fun h => ?_) (fun h => ?_) (fun h => ?_) h
    all_goals exact (by_append_left a b _ (by omega)).symm
  · rw [by_append_left a b p hp, by_append_left a b (p+1) (by omega), by_append_left a b (p+2) (by omega), by_append_left a b (p+3) (by omega)]
    exact runeN_big _ _ _ _ _ _ (by omega) (by omega)

theorem runeAt_right (a b : ByteArray) (p : Nat) : runeAt (a ++ b) (a.size + p) = runeAt b p := by
  unfold runeAt
  have hs : (a ++ b).size - (a.size + p) = b.size - p := by rw [ByteArray.size_append]; omega
  rw [hs, by_append_right, Nat.add_assoc, Nat.add_assoc, Nat.add_assoc, by_append_right, by_append_right, by_append_right]

/-- the first byte with which no rune begins, from a place on -/
def badF (s : ByteArray) : Nat → Nat → Option Nat
  | 0, _ => none
  | f + 1, p => if p < s.size then (if runeAt s p = 0 then some p else badF s f (p + runeAt s p)) else none
/-- how many runes there are, from a place on, if all are right -/
def countF (s : ByteArray) : Nat → Nat → Nat
  | 0, _ => 0
  | f + 1, p => if p < s.size then (if runeAt s p = 0 then 0 else countF s f (p + runeAt s p) + 1) else 0

theorem badF_more (s : ByteArray) (f : Nat) : ∀ g p, s.size ≤ p + f → s.size ≤ p + g → badF s f p = badF s g p := by
  induction f with
  | zero => intro g p h1 h2; cases g with
    | zero => rfl
    | succ g => simp only [badF]; rw [if_neg (by omega)]
  | succ f ih => intro g p h1 h2; cases g with
    | zero => simp only [badF]; rw [if_neg (by omega)]
    | succ g =>
      simp only [badF]
      by_cases hp : p < s.size
      · rw [if_pos hp, if_pos hp]
        by_cases hr : runeAt s p = 0
        · rw [if_pos hr, if_pos hr]
        · rw [if_neg hr, if_neg hr]; exact ih g _ (by omega) (by omega)
      · rw [if_neg hp, if_neg hp]
theorem countF_more (s : ByteArray) (f : Nat) : ∀ g p, s.size ≤ p + f → s.size ≤ p + g → countF s f p = countF s g p := by
  induction f with
  | zero => intro g p h1 h2; cases g with
    | zero => rfl
    | succ g => simp only [countF]; rw [if_neg (by omega)]
  | succ f ih => intro g p h1 h2; cases g with
    | zero => simp only [countF]; rw [if_neg (by omega)]
    | succ g =>
      simp only [countF]
      by_cases hp : p < s.size
      · rw [if_pos hp, if_pos hp]
        by_cases hr : runeAt s p = 0
        · rw [if_pos hr, if_pos hr]
        · rw [if_neg hr, if_neg hr]; rw [ih g _ (by omega) (by omega)]
      · rw [if_neg hp, if_neg hp]

def badOf (s : ByteArray) : Option Nat := badF s s.size 0
def countOf (s : ByteArray) : Nat := countF s s.size 0

theorem runeAt_le (s : ByteArray) (p : Nat) (h : p < s.size) : p + runeAt s p ≤ s.size := by
  have := (runeN_le (s.size - p) (by' s p) (by' s (p+1)) (by' s (p+2)) (by' s (p+3)) (by omega)).1
  unfold runeAt; omega

theorem badF_some (s : ByteArray) (f : Nat) : ∀ p x, badF s f p = some x → p ≤ x ∧ x < s.size ∧ runeAt s x = 0 := by
  induction f with
  | zero => intro p x h; simp [badF] at h
  | succ f ih => intro p x h; simp only [badF] at h; split at h
                 · split at h
                   · injection h with h; subst h; exact ⟨by omega, by omega, by assumption⟩
                   · have := ih _ _ h; exact ⟨by omega, this.2⟩
                 · cases h

/-- from a place on within the first text, which is right from there on -/
theorem bad_app (a b : ByteArray) (f : Nat) : ∀ g p, p ≤ a.size → a.size ≤ p + f → a.size + b.size ≤ p + g → badF a f p = none →
    badF (a ++ b) g p = (badF b b.size 0).map (a.size + ·) := by
  have hs : (a ++ b).size = a.size + b.size := ByteArray.size_append
  have tail : ∀ h q g, b.size ≤ q + h → b.size ≤ q + g → badF (a ++ b) g (a.size + q) = (badF b h q).map (a.size + ·) := by
    intro h
    induction h with
    | zero => intro q g h1 h2; cases g with
      | zero => rfl
      | succ g => simp only [badF]; rw [if_neg (by omega)]; rfl
    | succ h ih => intro q g h1 h2; cases g with
      | zero => simp only [badF]; rw [if_neg (by omega)]; rfl
      | succ g =>
        simp only [badF]
        by_cases hq : q < b.size
        · rw [if_pos (show a.size + q < (a ++ b).size by omega), if_pos hq, runeAt_right]
          by_cases hr : runeAt b q = 0
          · rw [if_pos hr, if_pos hr]; rfl
          · rw [if_neg hr, if_neg hr, Nat.add_assoc]; exact ih _ _ (by omega) (by omega)
        · rw [if_neg (show ¬ a.size + q < (a ++ b).size by omega), if_neg hq]; rfl
  induction f with
  | zero => intro g p h0 h1 h2 _
            have := tail b.size 0 g (by omega) (by omega)
            have e : p = a.size + 0 := by omega
            rw [e]; exact this
  | succ f ih =>
    intro g p h0 h1 h2 hb
    by_cases hp : p < a.size
    · simp only [badF, if_pos hp] at hb
      by_cases hr : runeAt a p = 0
      · rw [if_pos hr] at hb; cases hb
      · rw [if_neg hr] at hb
        cases g with
        | zero => omega
        | succ g =>
          simp only [badF]
          have hl := runeAt_left a b p hp (Or.inl (by omega))
          rw [if_pos (by omega), hl, if_neg hr]
          have := runeAt_le a p hp
          exact ih g _ (by omega) (by omega) (by omega) hb
    · have := tail b.size 0 g (by omega) (by omega)
      have e : p = a.size + 0 := by omega
      rw [e]; exact this

theorem bad_app_some (a b : ByteArray) (x : Nat) (f : Nat) : ∀ g p, p ≤ a.size → a.size ≤ p + f → a.size + b.size ≤ p + g → badF a f p = some x → x + 4 ≤ a.size →
    badF (a ++ b) g p = some x := by
  have hs : (a ++ b).size = a.size + b.size := ByteArray.size_append
  induction f with
  | zero => intro g p _ _ _ h; simp [badF] at h
  | succ f ih =>
    intro g p h0 h1 h2 hb hx
    by_cases hp : p < a.size
    · simp only [badF, if_pos hp] at hb
      cases g with
      | zero => omega
      | succ g =>
        simp only [badF]
        by_cases hr : runeAt a p = 0
        · rw [if_pos hr] at hb; injection hb with hb; subst hb
          rw [if_pos (by omega), runeAt_left a b p hp (Or.inr hx), if_pos hr]
        · rw [if_neg hr] at hb
          have := runeAt_le a p hp
          rw [if_pos (by omega), runeAt_left a b p hp (Or.inl (by omega)), if_neg hr]
          exact ih g _ (by omega) (by omega) (by omega) hb hx
    · simp only [badF, if_neg hp] at hb; cases hb

theorem count_app (a b : ByteArray) (f : Nat) : ∀ g p, p ≤ a.size → a.size ≤ p + f → a.size + b.size ≤ p + g → badF a f p = none →
    countF (a ++ b) g p = countF a f p + countF b b.size 0 := by
  have hs : (a ++ b).size = a.size + b.size := ByteArray.size_append
  have tail : ∀ h q g, b.size ≤ q + h → b.size ≤ q + g → countF (a ++ b) g (a.size + q) = countF b h q := by
    intro h
    induction h with
    | zero => intro q g h1 h2; cases g with
      | zero => rfl
      | succ g => simp only [countF]; rw [if_neg (by omega)]
    | succ h ih => intro q g h1 h2; cases g with
      | zero => simp only [countF]; rw [if_neg (by omega)]
      | succ g =>
        simp only [countF]
        by_cases hq : q < b.size
        · rw [if_pos (show a.size + q < (a ++ b).size by omega), if_pos hq, runeAt_right]
          by_cases hr : runeAt b q = 0
          · rw [if_pos hr, if_pos hr]
          · rw [if_neg hr, if_neg hr, Nat.add_assoc, ih _ _ (by omega) (by omega)]
        · rw [if_neg (show ¬ a.size + q < (a ++ b).size by omega), if_neg hq]
  induction f with
  | zero => intro g p h0 h1 h2 _
            have := tail b.size 0 g (by omega) (by omega)
            have e : p = a.size + 0 := by omega
            rw [e, this]; simp [countF]
  | succ f ih =>
    intro g p h0 h1 h2 hb
    by_cases hp : p < a.size
    · simp only [badF, if_pos hp] at hb
      by_cases hr : runeAt a p = 0
      · rw [if_pos hr] at hb; cases hb
      · rw [if_neg hr] at hb
        cases g with
        | zero => omega
        | succ g =>
          simp only [countF]
          have hl := runeAt_left a b p hp (Or.inl (by omega))
          rw [if_pos (show p < (a ++ b).size by omega), hl, if_neg hr, if_pos hp, if_neg hr]
          have := runeAt_le a p hp
          rw [ih g _ (by omega) (by omega) (by omega) hb]; omega
    · have := tail b.size 0 g (by omega) (by omega)
      have e : p = a.size + 0 := by omega
      rw [e, this]; simp [countF]
theorem rune_decode (n b0 b1 b2 b3 : Nat) (h0 : b0 < 256) (h1 : b1 < 256) (h2 : b2 < 256) (h3 : b3 < 256) :
    (runeN n b0 b1 b2 b3 = 0 ∧ Lib.decodeN n b0 b1 b2 b3 = (65533, 1)) ∨ (0 < runeN n b0 b1 b2 b3 ∧ (Lib.decodeN n b0 b1 b2 b3).2 = runeN n b0 b1 b2 b3 ∧ ((Lib.decodeN n b0 b1 b2 b3).1 = 65533 → 2 ≤ runeN n b0 b1 b2 b3)) := by
  unfold runeN Lib.decodeN
  repeat' split
  all_goals first | (exfalso; omega) | (left; exact ⟨rfl, rfl⟩) | (right; refine ⟨by omega, rfl, ?_⟩; simp only; omega)

end Go.Proofs.YtojkoedkecnccaaDoor.Utx
