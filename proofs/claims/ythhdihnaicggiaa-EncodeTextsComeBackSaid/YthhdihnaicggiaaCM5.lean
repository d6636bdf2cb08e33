/- Numbers and packed bits, in plain Lean: what the program and the reference write. No conditions beyond those in each theorem. -/
import Derived.Test.YthhdihnaicggiaaCM1
namespace Go.Proofs.Ythhdihnaicggiaa.C
open Go.RowKit Go.Proofs.YthhdihnaicggiaaW.PrintWords Go.Proofs.YthhdihnaicggiaaW.PrintLast Go.Proofs.YthhdihnaicggiaaW.PrintMore
set_option linter.unusedVariables false
set_option linter.unusedSimpArgs false

/-! ### numbers -/
/-- A number's count. -/
def zig (v : Int) : Nat := if v < 0 then (2 * (-v) - 1).toNat else (2 * v).toNat
/-- A number's bytes. -/
def num (v : Int) : List Int := cnt (zig v)
theorem zig_neg {v : Int} (h : v < 0) : ((zig v : Nat) : Int) = 2 * (-v) - 1 := by unfold zig; rw [if_pos h]; omega
theorem zig_pos {v : Int} (h : ¬ v < 0) : ((zig v : Nat) : Int) = 2 * v := by unfold zig; rw [if_neg h]; omega
theorem zig_lt {v : Int} (h0 : -4000000000000000 ≤ v) (h1 : v ≤ 4000000000000000) : zig v < 72057594037927936 := by unfold zig; split <;> omega
theorem num_len {v : Int} (h0 : -4000000000000000 ≤ v) (h1 : v ≤ 4000000000000000) : (num v).length ≤ 10 := cnt_len10 (Nat.lt_trans (zig_lt h0 h1) (by decide))
theorem num_byte (v : Int) : ∀ x ∈ num v, 0 ≤ x ∧ x ≤ 255 := cnt_byte _
theorem num_pos (v : Int) : 0 < (num v).length := cnt_pos _
theorem number_ev {v : Int} {l : List Int} (h0 : -4000000000000000 ≤ v) (h1 : v ≤ 4000000000000000) (hl : l.length ≤ 140737488000000) : Ev (fun k => encode_number.f k l v) (l ++ num v) := by
  unfold encode_number.f
  have hz := zig_lt h0 h1
  by_cases h : v < 0
  · refine ev_pos h (Ev.bind ?_ (ev_some _))
    have e : IntKind.u64.wrap (IntKind.u64.wrap (2 * IntKind.u64.wrap (wrap64 (-v))) - 1) = ((zig v : Nat) : Int) := by
      rw [zig_neg h, u64w, u64w, u64w, w64 (by omega) (by omega)]
      omega
    rw [e]
    exact count_ev (by omega) hl
  · refine ev_neg h (Ev.bind ?_ (ev_some _))
    have e : IntKind.u64.wrap (2 * IntKind.u64.wrap v) = ((zig v : Nat) : Int) := by
      rw [zig_pos h, u64w, u64w]
      omega
    rw [e]
    exact count_ev (by omega) hl
/-! ### packed bits -/
/-- A number's bits, the highest first. -/
def bitsOf (v : Int) : Nat → List Int
  | 0 => []
  | w + 1 => (v / 2 ^ w % 2) :: bitsOf v w
def byteN (bs : List Int) (i : Nat) : Int :=
  bs.getD (8 * i) 0 * 128 + bs.getD (8 * i + 1) 0 * 64 + bs.getD (8 * i + 2) 0 * 32 + bs.getD (8 * i + 3) 0 * 16 + bs.getD (8 * i + 4) 0 * 8 + bs.getD (8 * i + 5) 0 * 4 + bs.getD (8 * i + 6) 0 * 2 + bs.getD (8 * i + 7) 0
/-- Bits as bytes. -/
def pb (bs : List Int) : List Int := (List.range ((bs.length + 7) / 8)).map (byteN bs)
theorem bitsOf_len (v : Int) (w : Nat) : (bitsOf v w).length = w := by
  induction w with
  | zero => rfl
  | succ w ih => simp [bitsOf, ih]
theorem bitsOf_bit (v : Int) (w : Nat) : ∀ b ∈ bitsOf v w, 0 ≤ b ∧ b ≤ 1 := by
  induction w with
  | zero => simp [bitsOf]
  | succ w ih =>
    intro b hb
    rcases List.mem_cons.1 hb with rfl | hb
    · omega
    · exact ih b hb
theorem pb_len (bs : List Int) : (pb bs).length = (bs.length + 7) / 8 := by simp [pb]
theorem getD_bit {bs : List Int} (h : ∀ b ∈ bs, 0 ≤ b ∧ b ≤ 1) (q : Nat) : 0 ≤ bs.getD q 0 ∧ bs.getD q 0 ≤ 1 := by
  by_cases hq : q < bs.length
  · have := h (bs[q]) (List.getElem_mem hq)
    simpa [List.getD, hq] using this
  · simp [List.getD, List.getElem?_eq_none (Nat.le_of_not_lt hq)]
theorem getD_out {bs : List Int} {q : Nat} (h : bs.length ≤ q) : bs.getD q 0 = 0 := by simp [List.getD, List.getElem?_eq_none h]
theorem getD_snoc {bs : List Int} {b : Int} {q : Nat} (h : q < bs.length) : (bs ++ [b]).getD q 0 = bs.getD q 0 := by
  simp [List.getD, List.getElem?_append_left h]
theorem getD_last {bs : List Int} {b : Int} : (bs ++ [b]).getD bs.length 0 = b := by simp [List.getD]
theorem byteN_byte {bs : List Int} (h : ∀ b ∈ bs, 0 ≤ b ∧ b ≤ 1) (i : Nat) : 0 ≤ byteN bs i ∧ byteN bs i ≤ 255 := by
  have h0 := getD_bit h (8 * i)
  have h1 := getD_bit h (8 * i + 1)
  have h2 := getD_bit h (8 * i + 2)
  have h3 := getD_bit h (8 * i + 3)
  have h4 := getD_bit h (8 * i + 4)
  have h5 := getD_bit h (8 * i + 5)
  have h6 := getD_bit h (8 * i + 6)
  have h7 := getD_bit h (8 * i + 7)
  unfold byteN
  omega
theorem pb_byte {bs : List Int} (h : ∀ b ∈ bs, 0 ≤ b ∧ b ≤ 1) : ∀ x ∈ pb bs, 0 ≤ x ∧ x ≤ 255 := by
  intro x hx
  obtain ⟨i, _, rfl⟩ := List.mem_map.1 hx
  exact byteN_byte h i
theorem byteN_old {bs : List Int} {b : Int} {i : Nat} (h : i < bs.length / 8) : byteN (bs ++ [b]) i = byteN bs i := by
  unfold byteN
  rw [getD_snoc (by omega), getD_snoc (by omega), getD_snoc (by omega), getD_snoc (by omega), getD_snoc (by omega), getD_snoc (by omega), getD_snoc (by omega), getD_snoc (by omega)]
theorem byteN_new {bs : List Int} {b : Int} : byteN (bs ++ [b]) (bs.length / 8) = byteN bs (bs.length / 8) + b * 2 ^ (7 - bs.length % 8) := by
  have hr : bs.length % 8 < 8 := Nat.mod_lt _ (by omega)
  have hq : bs.length = 8 * (bs.length / 8) + bs.length % 8 := by omega
  have out : ∀ q, bs.length < q → (bs ++ [b]).getD q 0 = bs.getD q 0 := fun q h => by rw [getD_out (by simp; omega), getD_out (by omega)]
  have at_ : (bs ++ [b]).getD (8 * (bs.length / 8) + bs.length % 8) 0 = b := by rw [← hq]; exact getD_last
  have old : bs.getD (8 * (bs.length / 8) + bs.length % 8) 0 = 0 := getD_out (by omega)
  have hc : bs.length % 8 = 0 ∨ bs.length % 8 = 1 ∨ bs.length % 8 = 2 ∨ bs.length % 8 = 3 ∨ bs.length % 8 = 4 ∨ bs.length % 8 = 5 ∨ bs.length % 8 = 6 ∨ bs.length % 8 = 7 := by omega
  have same : ∀ j, j ≠ bs.length % 8 → (bs ++ [b]).getD (8 * (bs.length / 8) + j) 0 = bs.getD (8 * (bs.length / 8) + j) 0 := fun j hj => by
    by_cases h : 8 * (bs.length / 8) + j < bs.length
    · exact getD_snoc h
    · exact out _ (by omega)
  unfold byteN
  generalize hI : bs.length / 8 = I at *
  generalize hR : bs.length % 8 = R at *
  rcases hc with rfl | rfl | rfl | rfl | rfl | rfl | rfl | rfl
  · rw [Nat.add_zero] at at_ old
    have s1 := same 1 (by omega)
    have s2 := same 2 (by omega)
    have s3 := same 3 (by omega)
    have s4 := same 4 (by omega)
    have s5 := same 5 (by omega)
    have s6 := same 6 (by omega)
    have s7 := same 7 (by omega)
    rw [at_, old, s1, s2, s3, s4, s5, s6, s7]
    omega
  · have s0 := same 0 (by omega); rw [Nat.add_zero] at s0
    have s2 := same 2 (by omega)
    have s3 := same 3 (by omega)
    have s4 := same 4 (by omega)
    have s5 := same 5 (by omega)
    have s6 := same 6 (by omega)
    have s7 := same 7 (by omega)
    rw [at_, old, s0, s2, s3, s4, s5, s6, s7]
    omega
  · have s0 := same 0 (by omega); rw [Nat.add_zero] at s0
    have s1 := same 1 (by omega)
    have s3 := same 3 (by omega)
    have s4 := same 4 (by omega)
    have s5 := same 5 (by omega)
    have s6 := same 6 (by omega)
    have s7 := same 7 (by omega)
    rw [at_, old, s0, s1, s3, s4, s5, s6, s7]
    omega
  · have s0 := same 0 (by omega); rw [Nat.add_zero] at s0
    have s1 := same 1 (by omega)
    have s2 := same 2 (by omega)
    have s4 := same 4 (by omega)
    have s5 := same 5 (by omega)
    have s6 := same 6 (by omega)
    have s7 := same 7 (by omega)
    rw [at_, old, s0, s1, s2, s4, s5, s6, s7]
    omega
  · have s0 := same 0 (by omega); rw [Nat.add_zero] at s0
    have s1 := same 1 (by omega)
    have s2 := same 2 (by omega)
    have s3 := same 3 (by omega)
    have s5 := same 5 (by omega)
    have s6 := same 6 (by omega)
    have s7 := same 7 (by omega)
    rw [at_, old, s0, s1, s2, s3, s5, s6, s7]
    omega
  · have s0 := same 0 (by omega); rw [Nat.add_zero] at s0
    have s1 := same 1 (by omega)
    have s2 := same 2 (by omega)
    have s3 := same 3 (by omega)
    have s4 := same 4 (by omega)
    have s6 := same 6 (by omega)
    have s7 := same 7 (by omega)
    rw [at_, old, s0, s1, s2, s3, s4, s6, s7]
    omega
  · have s0 := same 0 (by omega); rw [Nat.add_zero] at s0
    have s1 := same 1 (by omega)
    have s2 := same 2 (by omega)
    have s3 := same 3 (by omega)
    have s4 := same 4 (by omega)
    have s5 := same 5 (by omega)
    have s7 := same 7 (by omega)
    rw [at_, old, s0, s1, s2, s3, s4, s5, s7]
    omega
  · have s0 := same 0 (by omega); rw [Nat.add_zero] at s0
    have s1 := same 1 (by omega)
    have s2 := same 2 (by omega)
    have s3 := same 3 (by omega)
    have s4 := same 4 (by omega)
    have s5 := same 5 (by omega)
    have s6 := same 6 (by omega)
    rw [at_, old, s0, s1, s2, s3, s4, s5, s6]
    omega
/-- The bits from one on are 0. -/
theorem byteN_dvd (bs : List Int) : byteN bs (bs.length / 8) % 2 ^ (8 - bs.length % 8) = 0 ∧ (bs.length % 8 = 0 → byteN bs (bs.length / 8) = 0) := by
  have hr : bs.length % 8 < 8 := Nat.mod_lt _ (by omega)
  have hq : bs.length = 8 * (bs.length / 8) + bs.length % 8 := by omega
  have old : ∀ j, bs.length % 8 ≤ j → bs.getD (8 * (bs.length / 8) + j) 0 = 0 := fun j h => getD_out (by omega)
  have hc : bs.length % 8 = 0 ∨ bs.length % 8 = 1 ∨ bs.length % 8 = 2 ∨ bs.length % 8 = 3 ∨ bs.length % 8 = 4 ∨ bs.length % 8 = 5 ∨ bs.length % 8 = 6 ∨ bs.length % 8 = 7 := by omega
  unfold byteN
  generalize hI : bs.length / 8 = I at *
  generalize hR : bs.length % 8 = R at *
  have o7 := old 7 (by omega)
  rcases hc with rfl | rfl | rfl | rfl | rfl | rfl | rfl | rfl
  · have o0 := old 0 (by omega); rw [Nat.add_zero] at o0
    rw [o0, old 1 (by omega), old 2 (by omega), old 3 (by omega), old 4 (by omega), old 5 (by omega), old 6 (by omega), o7]
    exact ⟨by omega, fun _ => by omega⟩
  · rw [old 1 (by omega), old 2 (by omega), old 3 (by omega), old 4 (by omega), old 5 (by omega), old 6 (by omega), o7]
    exact ⟨by omega, fun h => by omega⟩
  · rw [old 2 (by omega), old 3 (by omega), old 4 (by omega), old 5 (by omega), old 6 (by omega), o7]
    exact ⟨by omega, fun h => by omega⟩
  · rw [old 3 (by omega), old 4 (by omega), old 5 (by omega), old 6 (by omega), o7]
    exact ⟨by omega, fun h => by omega⟩
  · rw [old 4 (by omega), old 5 (by omega), old 6 (by omega), o7]
    exact ⟨by omega, fun h => by omega⟩
  · rw [old 5 (by omega), old 6 (by omega), o7]
    exact ⟨by omega, fun h => by omega⟩
  · rw [old 6 (by omega), o7]
    exact ⟨by omega, fun h => by omega⟩
  · rw [o7]
    exact ⟨by omega, fun h => by omega⟩
theorem pb_get {bs : List Int} {i : Nat} (h : i < (bs.length + 7) / 8) : (pb bs)[i]? = some (byteN bs i) := by simp [pb, h]
/-- One more bit. -/
theorem pb_snoc (bs : List Int) (b : Int) : pb (bs ++ [b]) = (if bs.length % 8 = 0 then pb bs ++ [0] else pb bs).set (bs.length / 8) (byteN bs (bs.length / 8) + b * 2 ^ (7 - bs.length % 8)) := by
  have hd := (byteN_dvd bs).2
  refine List.ext_getElem? fun i => ?_
  rw [List.getElem?_set]
  have hln : ((bs ++ [b]).length + 7) / 8 = bs.length / 8 + 1 := by simp; omega
  have hl2 : (if bs.length % 8 = 0 then pb bs ++ [0] else pb bs).length = bs.length / 8 + 1 := by
    split
    · rw [List.length_append, pb_len, List.length_singleton]; omega
    · rw [pb_len]; omega
  by_cases hi : bs.length / 8 = i
  · subst hi
    rw [if_pos rfl, if_pos (by rw [hl2]; omega), pb_get (by omega), byteN_new]
  · rw [if_neg hi]
    by_cases hlt : i < bs.length / 8
    · rw [pb_get (by omega), byteN_old hlt]
      split
      · rw [List.getElem?_append_left (by rw [pb_len]; omega), pb_get (by omega)]
      · rw [pb_get (by omega)]
    · rw [List.getElem?_eq_none (by rw [pb_len]; omega), List.getElem?_eq_none (by rw [hl2]; omega)]
end Go.Proofs.Ythhdihnaicggiaa.C
