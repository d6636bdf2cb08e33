/- What is said of values in plain Lean: the checks of a value by the program and by the reference agree, and so do their two orders on right values; the order is total. No conditions beyond those in each theorem. -/
import Derived.Test.YtegehjfbdmbfpaaG12
import Derived.Test.YtegehjfbdmbfpaaG7
import Derived.Test.YtegehjfbdmbfpaaG8
import Derived.Test.YtegehjfbdmbfpaaG9
namespace Go.Proofs.Ytegehjfbdmbfpaa.G
open Go.RowKit Go.Proofs.YtegehjfbdmbfpaaW.PrintWords Go.Proofs.YtegehjfbdmbfpaaW.PrintLast Go.Proofs.YtegehjfbdmbfpaaW.PrintMore

/-! ### characters -/
def cf (s : ByteArray) : Nat → Bool
  | 0 => true
  | d + 1 => decide (32 ≤ bt s ((s.size : Int) - ((d : Int) + 1)) ∧ bt s ((s.size : Int) - ((d : Int) + 1)) ≤ 126) && cf s d
/-- CheckValue. -/
def cv (k n : Int) (s : ByteArray) : Int :=
  if k = 0 then (if n = 0 ∧ s.toList = [] then 0 else 3)
  else if k = 1 ∨ k = 2 then (if s.toList = [] then (if k = 1 then (if 0 ≤ n ∧ n ≤ 1 then 0 else 1) else (if -1000000000000000 ≤ n ∧ n ≤ 1000000000000000 then 0 else 1)) else 3)
  else if k = 3 then (if n = 0 then (if (s.size : Int) > 200 then 2 else if cf s s.size = true then 0 else 3) else 3)
  else 4

theorem wrap64_bt (s : ByteArray) (i : Int) : wrap64 (bt s i) = bt s i := by
  have := bt_range s i
  unfold wrap64
  omega
theorem impl_l0 (s : ByteArray) (hs : (s.size : Int) ≤ 200) (x y : Int) (d : Nat) : ∀ k, d ≤ s.size → d < k → value_CheckValue.l0 k (s.size : Int) ((s.size : Int) - (d : Int)) x y s = some (if cf s d = true then 0 else 3) := by
  induction d with
  | zero =>
    intro k _ hk
    obtain ⟨k, rfl⟩ : ∃ m, k = m + 1 := ⟨k - 1, by omega⟩
    simp only [value_CheckValue.l0]
    rw [if_neg (by omega)]
    simp [cf]
  | succ d ih =>
    intro k hd hk
    obtain ⟨k, rfl⟩ : ∃ m, k = m + 1 := ⟨k - 1, by omega⟩
    simp only [value_CheckValue.l0]
    rw [if_pos (by omega), if_pos (by omega), if_pos (by omega), wrap64_bt]
    have e : wrap64 ((s.size : Int) - ((d + 1 : Nat) : Int) + 1) = (s.size : Int) - (d : Int) := by
      unfold wrap64
      omega
    rw [e, ih k (by omega) (by omega)]
    simp only [kit_In.f, cf, Int.natCast_add, Int.cast_ofNat_Int]
    have := bt_range s ((s.size : Int) - ((d : Int) + 1))
    by_cases h1 : 32 ≤ bt s ((s.size : Int) - ((d : Int) + 1)) <;> by_cases h2 : bt s ((s.size : Int) - ((d : Int) + 1)) ≤ 126 <;> simp [h1, h2]
theorem ref_l0 (s : ByteArray) (hs : (s.size : Int) ≤ 200) (x y : Int) (d : Nat) : ∀ k, d ≤ s.size → d < k → peristyleref1_CheckValue.l0 k ((s.size : Int) - (d : Int)) x y s = some (if cf s d = true then 0 else 3) := by
  induction d with
  | zero =>
    intro k _ hk
    obtain ⟨k, rfl⟩ : ∃ m, k = m + 1 := ⟨k - 1, by omega⟩
    simp only [peristyleref1_CheckValue.l0]
    rw [if_neg (by omega)]
    simp [cf]
  | succ d ih =>
    intro k hd hk
    obtain ⟨k, rfl⟩ : ∃ m, k = m + 1 := ⟨k - 1, by omega⟩
    simp only [peristyleref1_CheckValue.l0]
    rw [if_pos (by omega), if_pos (by omega)]
    have e : wrap64 ((s.size : Int) - ((d + 1 : Nat) : Int) + 1) = (s.size : Int) - (d : Int) := by
      unfold wrap64
      omega
    rw [e, ih k (by omega) (by omega)]
    simp only [cf, Int.natCast_add, Int.cast_ofNat_Int]
    by_cases h1 : bt s ((s.size : Int) - ((d : Int) + 1)) < 32
    · have : ¬ 32 ≤ bt s ((s.size : Int) - ((d : Int) + 1)) := by omega
      simp [h1, this]
    · have h1' : 32 ≤ bt s ((s.size : Int) - ((d : Int) + 1)) := by omega
      by_cases h2 : bt s ((s.size : Int) - ((d : Int) + 1)) ≤ 126
      · have : ¬ bt s ((s.size : Int) - ((d : Int) + 1)) > 126 := by omega
        simp [h1, h1', h2, this]
      · have : bt s ((s.size : Int) - ((d : Int) + 1)) > 126 := by omega
        simp [h1, h1', h2, this]

theorem size_nil {s : ByteArray} (h : s.toList = []) : s.size = 0 := by
  rw [ByteArray.toList_eq] at h
  have := congrArg List.length h
  simpa using this

theorem cv_impl (x y : Int) (s : ByteArray) (k : Nat) (hk : 300 ≤ k) : value_CheckValue.f k x y s = some (cv x y s) := by
  obtain ⟨k, rfl⟩ : ∃ m, k = m + 2 := ⟨k - 2, by omega⟩
  unfold value_CheckValue.f cv
  by_cases h0 : x = 0
  · rw [if_pos h0, if_pos h0]
    by_cases hy : y = 0 <;> by_cases hs : s.toList = [] <;> simp [hy, hs]
  rw [if_neg h0, if_neg h0]
  by_cases h1 : x = 1
  · subst h1
    rw [if_pos rfl]
    simp only [value_CheckValue.j0]
    by_cases hs : s.toList = []
    · simp only [hs, kit_Range.f, kit_In.f]
      by_cases ha : 0 ≤ y <;> by_cases hb : y ≤ 1 <;> simp [ha, hb]
    · simp [hs]
  rw [if_neg h1]
  by_cases h2 : x = 2
  · subst h2
    simp only [value_CheckValue.j0]
    by_cases hs : s.toList = []
    · simp only [hs, kit_Range.f, kit_In.f]
      by_cases ha : -1000000000000000 ≤ y <;> by_cases hb : y ≤ 1000000000000000 <;> simp [ha, hb]
    · simp [hs]
  have e2 : (x == 2) = false := beq_eq_false_iff_ne.2 h2
  rw [e2, if_neg (by omega)]
  simp only [value_CheckValue.j0]
  rw [if_neg (by simp)]
  by_cases h3 : x = 3
  · rw [if_pos h3, if_pos h3]
    by_cases hy : y = 0
    · rw [if_pos hy, if_pos hy]
      by_cases hl : (s.size : Int) > 200
      · rw [if_pos hl, if_pos hl]
      · rw [if_neg hl, if_neg hl]
        have := impl_l0 s (by omega) x y s.size (k + 1) (Nat.le_refl _) (by omega)
        rw [Int.sub_self] at this
        exact this
    · rw [if_neg hy, if_neg hy]
  · rw [if_neg h3, if_neg h3]

theorem cv_ref (x y : Int) (s : ByteArray) (k : Nat) (hk : 300 ≤ k) : peristyleref1_CheckValue.f k x y s = some (cv x y s) := by
  obtain ⟨k, rfl⟩ : ∃ m, k = m + 3 := ⟨k - 3, by omega⟩
  have loop0 : ∀ (a b : Int), s.toList = [] → peristyleref1_CheckValue.l0 (k + 1) 0 a b s = some 0 := by
    intro a b h
    have hz := size_nil h
    have := ref_l0 s (by omega) a b 0 (k + 1) (by omega) (by omega)
    rw [hz] at this
    simpa [cf] using this
  have loop1 : ∀ (a b : Int), (s.size : Int) ≤ 200 → peristyleref1_CheckValue.l0 (k + 1) 0 a b s = some (if cf s s.size = true then 0 else 3) := by
    intro a b h
    have := ref_l0 s h a b s.size (k + 1) (Nat.le_refl _) (by omega)
    rwa [Int.sub_self] at this
  unfold peristyleref1_CheckValue.f cv
  simp only [peristyleref1_within.f]
  by_cases hx : ¬ x ≥ 0
  · rw [if_neg hx]
    simp only [Option.bind_some]
    have h1 : ¬ x = 0 := by omega
    have h2 : ¬ (x = 1 ∨ x = 2) := by omega
    have h3 : ¬ x = 3 := by omega
    simp [h1, h2, h3]
  replace hx : x ≥ 0 := Classical.not_not.1 hx
  by_cases hx3 : ¬ x ≤ 3
  · rw [if_pos hx]
    have h1 : ¬ x = 0 := by omega
    have h2 : ¬ (x = 1 ∨ x = 2) := by omega
    have h3 : ¬ x = 3 := by omega
    simp [h1, h2, h3, hx3]
  replace hx3 : x ≤ 3 := Classical.not_not.1 hx3
  rw [if_pos hx]
  simp only [hx3, decide_true, Option.bind_some, if_true]
  have hcase : x = 0 ∨ x = 1 ∨ x = 2 ∨ x = 3 := by omega
  rcases hcase with rfl | rfl | rfl | rfl
  · by_cases hy : y = 0
    · subst hy
      by_cases hs : s.toList = []
      · simp [peristyleref1_CheckValue.j0, peristyleref1_CheckValue.j1, hs, size_nil hs, loop0 _ _ hs]
      · simp [peristyleref1_CheckValue.j0, hs]
    · simp [peristyleref1_CheckValue.j0, hy]
  · by_cases hs : s.toList = []
    · by_cases ha : 0 ≤ y <;> by_cases hb : y ≤ 1 <;> simp [peristyleref1_CheckValue.j0, peristyleref1_CheckValue.j1, peristyleref1_within.f, hs, size_nil hs, loop0 _ _ hs, ha, hb]
    · simp [peristyleref1_CheckValue.j0, hs]
  · by_cases hs : s.toList = []
    · by_cases ha : -1000000000000000 ≤ y <;> by_cases hb : y ≤ 1000000000000000 <;> simp [peristyleref1_CheckValue.j0, peristyleref1_CheckValue.j1, peristyleref1_within.f, hs, size_nil hs, loop0 _ _ hs, ha, hb]
    · simp [peristyleref1_CheckValue.j0, hs]
  · by_cases hy : y = 0
    · subst hy
      by_cases hl : (s.size : Int) > 200
      · simp [peristyleref1_CheckValue.j0, peristyleref1_CheckValue.j1, hl]
      · simp [peristyleref1_CheckValue.j0, peristyleref1_CheckValue.j1, hl, loop1 _ _ (by omega : (s.size : Int) ≤ 200)]
    · simp [peristyleref1_CheckValue.j0, hy]

/-! ### the order -/
theorem bytesLess_eq : ∀ (x y : List UInt8), Op.bytesLess x y = decide (x < y)
  | [], [] => by simp [Op.bytesLess]
  | _ :: _, [] => by simp [Op.bytesLess]
  | [], _ :: _ => by simp [Op.bytesLess]
  | a :: x, b :: y => by
    rw [Op.bytesLess, bytesLess_eq x y]
    simp only [List.cons_lt_cons_iff]
    by_cases h1 : a < b <;> by_cases h2 : a = b <;> by_cases h3 : x < y <;> simp [h1, h2, h3]
theorem cmpB (a b : List UInt8) : Lib.compareBytes a b = if a = b then 0 else if Op.bytesLess a b = true then -1 else 1 := by
  induction a generalizing b with
  | nil => cases b <;> simp [Lib.compareBytes, Op.bytesLess]
  | cons x xs ih =>
    cases b with
    | nil => simp [Lib.compareBytes, Op.bytesLess]
    | cons y ys =>
      simp only [Lib.compareBytes, Op.bytesLess]
      by_cases h1 : x < y
      · have : x ≠ y := by rintro rfl; exact absurd h1 (by simp)
        simp [h1, this]
      · by_cases h2 : y < x
        · have : x ≠ y := by rintro rfl; exact absurd h2 (by simp)
          simp [h1, h2, this]
        · have : x = y := UInt8.le_antisymm (UInt8.not_lt.1 h2) (UInt8.not_lt.1 h1)
          subst this
          simp [ih]
/-- The order of right values. -/
def ord (k n : Int) (s : ByteArray) (k' n' : Int) (s' : ByteArray) : Int :=
  if k = k' then (if n = n' then (if s.toList = s'.toList then 0 else (if Op.bytesLess s.toList s'.toList = true then -1 else 1)) else (if n < n' then -1 else 1)) else (if k < k' then -1 else 1)
theorem ord_ref (k n : Int) (s : ByteArray) (k' n' : Int) (s' : ByteArray) : peristyleref1_Order.f k n s k' n' s' = some (ord k n s k' n' s') := by
  unfold peristyleref1_Order.f ord
  repeat' split
  all_goals first | rfl | simp_all
theorem cv_text {k n : Int} {s : ByteArray} (h : cv k n s = 0) : 0 ≤ k ∧ k ≤ 3 ∧ (k ≠ 3 → s.toList = []) ∧ (k = 3 → n = 0) := by
  unfold cv at h
  repeat' split at h
  all_goals first | (simp at h; done) | (refine ⟨by omega, by omega, ?_, ?_⟩ <;> intro hh <;> first | omega | simp_all)
theorem ord_impl {k n : Int} {s : ByteArray} {k' n' : Int} {s' : ByteArray} (h : cv k n s = 0) (h' : cv k' n' s' = 0) : kit_Compare.f k n s k' n' s' = some (ord k n s k' n' s') := by
  obtain ⟨_, _, a3, a4⟩ := cv_text h
  obtain ⟨_, _, b3, b4⟩ := cv_text h'
  unfold kit_Compare.f ord
  by_cases hk : k = k'
  · subst hk
    by_cases h3 : k = 3
    · have := a4 h3
      have := b4 h3
      simp [strings_Compare.f, cmpB, ByteArray.toList_eq, *]
    · have e1 := a3 h3
      have e2 := b3 h3
      simp only [if_true, if_neg h3, kit_sign.f, e1, e2]
      by_cases hn : n = n'
      · simp [hn]
      · by_cases hl : n < n'
        · simp [hl, hn]
        · have : n > n' := by omega
          simp [hl, hn, this]
  · simp only [if_neg hk, kit_sign.f]
    by_cases hl : k < k'
    · simp [hl]
    · have : k > k' := by omega
      simp [hl, this]
theorem ord_zero {k n : Int} {s : ByteArray} {k' n' : Int} {s' : ByteArray} : ord k n s k' n' s' = 0 ↔ (k = k' ∧ n = n' ∧ s.toList = s'.toList) := by
  unfold ord
  repeat' split
  all_goals simp_all
theorem less_total {a b : List UInt8} (h : a ≠ b) : (Op.bytesLess a b = true) ↔ ¬ (Op.bytesLess b a = true) := by
  rw [bytesLess_eq, bytesLess_eq]
  simp only [decide_eq_true_eq]
  constructor
  · intro h1 h2
    exact List.lt_asymm h1 h2
  · intro h1
    exact Classical.byContradiction fun h2 => h (List.le_antisymm (List.not_lt.1 h1) (List.not_lt.1 h2))
theorem ord_neg {k n : Int} {s : ByteArray} {k' n' : Int} {s' : ByteArray} : ord k' n' s' k n s = - ord k n s k' n' s' := by
  unfold ord
  by_cases hk : k = k'
  · subst hk
    by_cases hn : n = n'
    · subst hn
      by_cases hs : s.toList = s'.toList
      · simp [hs]
      · have := less_total hs
        by_cases h1 : Op.bytesLess s.toList s'.toList = true
        · have h2 := this.1 h1
          simp [hs, h1, h2, Ne.symm hs]
        · have h2 : Op.bytesLess s'.toList s.toList = true := Classical.byContradiction fun h2 => h1 (this.2 h2)
          simp [hs, h1, h2, Ne.symm hs]
    · by_cases hl : n < n'
      · simp [hn, Ne.symm hn, hl, show ¬ n' < n by omega]
      · simp [hn, Ne.symm hn, hl, show n' < n by omega]
  · by_cases hl : k < k'
    · simp [hk, Ne.symm hk, hl, show ¬ k' < k by omega]
    · simp [hk, Ne.symm hk, hl, show k' < k by omega]
theorem ord_range (k n : Int) (s : ByteArray) (k' n' : Int) (s' : ByteArray) : ord k n s k' n' s' = -1 ∨ ord k n s k' n' s' = 0 ∨ ord k n s k' n' s' = 1 := by
  unfold ord
  repeat' split
  all_goals simp
theorem ord_lt {k n : Int} {s : ByteArray} {k' n' : Int} {s' : ByteArray} : ord k n s k' n' s' < 0 ↔ (k < k' ∨ (k = k' ∧ (n < n' ∨ (n = n' ∧ s.toList < s'.toList)))) := by
  unfold ord
  by_cases hk : k = k'
  · subst hk
    by_cases hn : n = n'
    · subst hn
      by_cases hs : s.toList = s'.toList
      · simp [hs]
      · simp only [if_true, if_neg hs, bytesLess_eq, decide_eq_true_eq]
        by_cases h1 : s.toList < s'.toList <;> simp [h1]
    · by_cases hl : n < n' <;> simp [hn, hl]
  · by_cases hl : k < k' <;> simp [hk, hl]
theorem ord_trans {k n : Int} {s : ByteArray} {k' n' : Int} {s' : ByteArray} {k2 n2 : Int} {s2 : ByteArray} (h : ord k n s k' n' s' < 0) (h' : ord k' n' s' k2 n2 s2 < 0) : ord k n s k2 n2 s2 < 0 := by
  rw [ord_lt] at h h' ⊢
  rcases h with h | ⟨rfl, h⟩
  · rcases h' with h' | ⟨rfl, _⟩
    · left; omega
    · left; exact h
  · rcases h' with h' | ⟨rfl, h'⟩
    · left; exact h'
    · right
      refine ⟨rfl, ?_⟩
      rcases h with h | ⟨rfl, h⟩
      · rcases h' with h' | ⟨rfl, _⟩
        · left; omega
        · left; exact h
      · rcases h' with h' | ⟨rfl, h'⟩
        · left; exact h'
        · exact .inr ⟨rfl, List.lt_trans h h'⟩
end Go.Proofs.Ytegehjfbdmbfpaa.G
