/- Reading of counts, numbers and packed bits by the program's reader, in plain Lean. No conditions beyond those in each theorem. -/
import Derived.Test.YthhdihnaicggiaaCM3
import Derived.Test.YthhdihnaicggiaaCM8
namespace Go.Proofs.Ythhdihnaicggiaa.C
open Go.RowKit Go.Proofs.YthhdihnaicggiaaW.PrintWords Go.Proofs.YthhdihnaicggiaaW.PrintLast Go.Proofs.YthhdihnaicggiaaW.PrintMore
set_option linter.unusedVariables false
set_option linter.unusedSimpArgs false

/-- Bytes. -/
def Byt (s : List Int) : Prop := ∀ x ∈ s, 0 ≤ x ∧ x ≤ 255
theorem Byt.drop {s : List Int} (h : Byt s) (n : Nat) : Byt (s.drop n) := fun x hx => h x (List.mem_of_mem_drop hx)
theorem Byt.rc {s : List Int} (h : Byt s) : Byt (rc 8 0 0 s).2.1 := by
  obtain ⟨m, hm, _⟩ := rc_suf 8 0 0 s
  rw [hm]
  exact h.drop m
theorem rc_le (s : List Int) : (rc 8 0 0 s).2.1.length ≤ s.length := by
  obtain ⟨m, hm, _⟩ := rc_suf 8 0 0 s
  rw [hm, List.length_drop]
  omega
theorem byteB (s : List Int) (bad : Bool) (h : Byt s) : encode_reader_byte.f s bad = some (s.headD 0, s.tail, bad || s.isEmpty) := by
  cases s with
  | nil => simp [encode_reader_byte.f, wrap64]
  | cons b t =>
    have hb := h b (List.mem_cons_self ..)
    simp [encode_reader_byte.f, w64 (show -9223372036854775808 ≤ b by omega) (show b ≤ 9223372036854775807 by omega)]
theorem rcB_ev (bad : Bool) (m : Nat) : ∀ (i : Nat) (v : Int) (s : List Int), i + m = 8 → 0 ≤ v → v < 128 ^ i → Byt s → Ev (fun k => encode_reader_count.l0 k v (i : Int) s bad) ((rc m i v s).1, (rc m i v s).2.1, bad || (rc m i v s).2.2) := by
  induction m with
  | zero =>
    intro i v s hi h0 hv hs
    refine Ev.step (fun k => by rw [encode_reader_count.l0]) (ev_neg (by omega) ?_)
    exact ev_eq (ev_some _) (by simp [rc])
  | succ m ih =>
    intro i v s hi h0 hv hs
    have e7 : wrap64 (7 * (i : Int)) = ((7 * i : Nat) : Int) := by rw [w64 (by omega) (by omega)]; omega
    refine Ev.step (fun k => by rw [encode_reader_count.l0]) (ev_pos (by omega) ?_)
    rw [byteB s bad hs, e7]
    cases s with
    | nil =>
      refine Ev.bind (ev_some _) (ev_pos (by omega) (ev_pos (show (0 : Int) < 128 by omega) ?_))
      show Ev (fun k => some (Go.bits .or .i64 v (shl .i64 (Go.bits .and .i64 0 127) ((7 * i : Nat) : Int)), ([] : List Int), bad || true)) (v, [], bad || true)
      rw [orshl0 h0 hv (by omega)]
      exact ev_some _
    | cons b t =>
      have hb := hs b (List.mem_cons_self ..)
      refine Ev.bind (ev_some _) (ev_pos (by omega) ?_)
      show Ev (fun k => if b < 128 then some (Go.bits .or .i64 v (shl .i64 (Go.bits .and .i64 b 127) ((7 * i : Nat) : Int)), t, bad || false) else encode_reader_count.l0 k (Go.bits .or .i64 v (shl .i64 (Go.bits .and .i64 b 127) ((7 * i : Nat) : Int))) (wrap64 ((i : Int) + 1)) t (bad || false)) ((rc (m + 1) i v (b :: t)).1, (rc (m + 1) i v (b :: t)).2.1, bad || (rc (m + 1) i v (b :: t)).2.2)
      rw [orshl h0 hv hb.1 hb.2 (by omega), Bool.or_false]
      by_cases hlt : b < 128
      · exact ev_pos hlt (ev_eq (ev_some _) (by rw [rc, if_pos hlt]; simp))
      · refine ev_neg hlt ?_
        rw [rc, if_neg hlt, w64 (by omega) (by omega)]
        have hst := v_step (b := b) h0 hv
        exact ih (i + 1) _ t (by omega) hst.1 hst.2 (fun x hx => hs x (List.mem_cons_of_mem _ hx))
/-- What a count leaves. -/
def ct (s : List Int) (bad : Bool) : Int × List Int × Bool := ((rc 8 0 0 s).1, (rc 8 0 0 s).2.1, bad || (rc 8 0 0 s).2.2)
theorem ct_ev {s : List Int} (bad : Bool) (hs : Byt s) : Ev (fun k => encode_reader_count.f k s bad) (ct s bad) :=
  rcB_ev bad 8 0 0 s rfl (by omega) (by simp) hs
theorem ct_val (s : List Int) (bad : Bool) : 0 ≤ (ct s bad).1 ∧ (ct s bad).1 < 72057594037927936 := by
  have := rc_val 8 0 0 s (by omega) (by simp)
  exact ⟨this.1, by show (rc 8 0 0 s).1 < _; omega⟩
theorem ct_byt {s : List Int} {bad : Bool} (h : Byt s) : Byt (ct s bad).2.1 := h.rc
theorem ct_bad (s : List Int) : (ct s true).2.2 = true := rfl
theorem ct_cnt {n : Nat} (rest : List Int) (hn : n < 72057594037927936) : ct (cnt n ++ rest) false = ((n : Int), rest, false) := by
  unfold ct
  rw [rc_cnt8 rest hn]
  rfl
/-- What a length leaves. -/
def lt_ (s : List Int) (bad : Bool) : Int × List Int × Bool := if (ct s bad).1 > 2000 then (0, (ct s bad).2.1, true) else ct s bad
theorem lt_ev {s : List Int} (bad : Bool) (hs : Byt s) : Ev (fun k => encode_reader_long.f k s bad) (lt_ s bad) := by
  unfold encode_reader_long.f lt_
  refine Ev.bind (ct_ev bad hs) ?_
  by_cases h : (ct s bad).1 > 2000
  · rw [if_pos h, if_pos h]; exact ev_some _
  · rw [if_neg h, if_neg h]; exact ev_some _
theorem lt_val (s : List Int) (bad : Bool) : 0 ≤ (lt_ s bad).1 ∧ (lt_ s bad).1 ≤ 2000 := by
  have := ct_val s bad
  unfold lt_
  split
  · exact ⟨by simp, by simp⟩
  · exact ⟨this.1, by omega⟩
theorem lt_byt {s : List Int} {bad : Bool} (h : Byt s) : Byt (lt_ s bad).2.1 := by
  unfold lt_
  split
  · exact ct_byt (bad := bad) h
  · exact ct_byt (bad := bad) h
theorem lt_cnt {n : Nat} (rest : List Int) (hn : n ≤ 2000) : lt_ (cnt n ++ rest) false = ((n : Int), rest, false) := by
  unfold lt_
  rw [ct_cnt rest (by omega), if_neg (by simp; omega)]

/-! ### packed bits, read -/
def bitN (s : List Int) (p : Nat) : Int := s.getD (p / 8) 0 / 2 ^ (7 - p % 8) % 2
/-- The number of j bits from bit p on. -/
def bv (s : List Int) (p : Nat) : Nat → Int
  | 0 => 0
  | j + 1 => 2 * bv s p j + bitN s (p + j)
theorem bv_bound (s : List Int) (p j : Nat) : 0 ≤ bv s p j ∧ bv s p j < 2 ^ j := by
  induction j with
  | zero => simp [bv]
  | succ j ih =>
    have h : 0 ≤ bitN s (p + j) ∧ bitN s (p + j) ≤ 1 := by unfold bitN; omega
    rw [bv, Int.pow_succ]
    omega
theorem bit_eq {s : List Int} (h : Byt s) (p : Nat) : wrap64 (Go.bits .and .u8 (shr .u8 (rd s ((p / 8 : Nat) : Int)) ((7 - p % 8 : Nat) : Int)) 1) = bitN s p := by
  rw [rdD]
  unfold shr bitN
  have hb : 0 ≤ s.getD (p / 8) 0 ∧ s.getD (p / 8) 0 ≤ 255 := by
    by_cases hl : p / 8 < s.length
    · exact h _ (mem_getD hl)
    · rw [getD_out (by omega)]; omega
  rw [Int.toNat_natCast, Nat.min_eq_left (show 7 - p % 8 ≤ IntKind.u8.bits by show 7 - p % 8 ≤ 8; omega)]
  have hp : (0 : Int) < 2 ^ (7 - p % 8) := Int.pow_pos (by omega)
  have h2 : 0 ≤ s.getD (p / 8) 0 / 2 ^ (7 - p % 8) := Int.ediv_nonneg hb.1 (by omega)
  have h3 : s.getD (p / 8) 0 / 2 ^ (7 - p % 8) ≤ s.getD (p / 8) 0 := Int.ediv_le_self _ hb.1
  rw [show Go.bits .and .u8 (s.getD (p / 8) 0 / 2 ^ (7 - p % 8)) 1 = s.getD (p / 8) 0 / 2 ^ (7 - p % 8) % 2 from bits_mask .u8 8 (by decide) wraps_u8 1 (by decide) _ h2 (by omega)]
  rw [w64 (by omega) (by omega)]
theorem td8 (n : Nat) (h : n ≤ 1000000000) : wrap64 (Int.tdiv (n : Int) 8) = ((n / 8 : Nat) : Int) := by
  rw [Int.tdiv_eq_ediv_of_nonneg (by omega), w64 (by omega) (by omega)]
  omega
theorem tm8 (n : Nat) : wrap64 (7 - Int.tmod (n : Int) 8) = ((7 - n % 8 : Nat) : Int) := by
  rw [tmod8, w64 (by omega) (by omega)]
  omega
/-- So many numbers of so many bits. -/
def ups (s : List Int) (m w : Nat) : List Int := (List.range m).map fun i => bv s (i * w) w
theorem ups_len (s : List Int) (m w : Nat) : (ups s m w).length = m := by simp [ups]
theorem pk_l1 {s : List Int} (hs : Byt s) (bad : Bool) (w : Nat) (hw : w ≤ 60) (x27 x28 : Int) (i : Nat) (p : Nat) (hp : p + w ≤ 1000000) (hl : p + w ≤ 8 * s.length) (r : List Int × List Int × Bool) (d : Nat) : ∀ (j : Nat) (row : List Int), j + d = w → i < row.length → row.length ≤ 100000 → row.getD i 0 = bv s p j →
    Ev (fun k => encode_reader_packed.l0 k (w : Int) (row.set i (bv s p w)) ((p + w : Nat) : Int) x27 (wrap64 (x28 + 1)) s bad) r →
    Ev (fun k => encode_reader_packed.l1 k (w : Int) row ((p + j : Nat) : Int) (i : Int) x27 x28 (w : Int) (j : Int) s bad) r := by
  induction d with
  | zero =>
    intro j row hj hi hr hv h
    obtain rfl : j = w := by omega
    refine Ev.step (fun k => by rw [encode_reader_packed.l1]) (ev_neg (by omega) ?_)
    have e : row.set i (bv s p j) = row := by
      rw [← hv]
      refine List.ext_getElem? fun q => ?_
      rw [List.getElem?_set]
      by_cases hq : i = q
      · subst hq
        rw [if_pos rfl, if_pos hi]
        simp [List.getD, hi]
      · rw [if_neg hq]
    rw [e] at h
    exact h
  | succ d ih =>
    intro j row hj hi hr hv h
    have hb := bv_bound s p j
    have h60 : (2 : Int) ^ j ≤ 2 ^ 60 := by
      have := Nat.pow_le_pow_right (n := 2) (by omega) (show j ≤ 60 by omega)
      exact_mod_cast this
    have hbit : 0 ≤ bitN s (p + j) ∧ bitN s (p + j) ≤ 1 := by unfold bitN; omega
    refine Ev.step (fun k => by rw [encode_reader_packed.l1]) ?_
    rw [td8 (p + j) (by omega), tm8, bit_eq hs, rdD, hv, w64 (n := 2 * bv s p j) (by omega) (by omega), w64 (n := 2 * bv s p j + bitN s (p + j)) (by omega) (by omega), w64 (n := ((p + j : Nat) : Int) + 1) (by omega) (by omega), w64 (n := (j : Int) + 1) (by omega) (by omega)]
    refine ev_pos (by omega) (ev_pos (by omega) (ev_pos (by omega) (ev_pos (by omega) (ev_pos (by omega) (ev_pos (by omega) ?_)))))
    rw [Int.toNat_natCast]
    have := ih (j + 1) (row.set i (2 * bv s p j + bitN s (p + j))) (by omega) (by simpa using hi) (by simpa using hr) (by simp [List.getD, hi, bv]) (by rw [List.set_set]; exact h)
    exact this
theorem pk_ev {s : List Int} (hs : Byt s) (bad : Bool) {m w : Nat} (hm : m ≤ 2000) (hw : w ≤ 60) : Ev (fun k => encode_reader_packed.f k s bad (m : Int) (w : Int)) (if s.length = (m * w + 7) / 8 then (ups s m w, [], bad) else ([], s, true)) := by
  have hmul : m * w ≤ 2000 * 60 := Nat.mul_le_mul hm hw
  have hT : wrap64 (Int.tdiv (wrap64 (wrap64 ((m : Int) * (w : Int)) + 7)) 8) = (((m * w + 7) / 8 : Nat) : Int) := by
    rw [show (m : Int) * (w : Int) = ((m * w : Nat) : Int) by rw [Int.natCast_mul], w64 (n := ((m * w : Nat) : Int)) (by omega) (by omega), w64 (n := ((m * w : Nat) : Int) + 7) (by omega) (by omega), Int.tdiv_eq_ediv_of_nonneg (by omega), w64 (by omega) (by omega)]
    omega
  unfold encode_reader_packed.f
  rw [hT]
  by_cases hl : s.length = (m * w + 7) / 8
  · rw [if_pos hl]
    refine ev_pos (by omega) (ev_pos (by omega) (ev_pos (by omega) (Ev.bind (ev_some _) ?_)))
    rw [Int.toNat_natCast, List.length_replicate]
    have key : ∀ d i, i ≤ m → m - i ≤ d → Ev (fun k => encode_reader_packed.l0 k (w : Int) (((List.range i).map fun q => bv s (q * w) w) ++ List.replicate (m - i) 0) ((i * w : Nat) : Int) (m : Int) (i : Int) s bad) (ups s m w, [], bad) := by
      intro d
      induction d with
      | zero =>
        intro i hi hd
        refine Ev.step (fun k => by rw [encode_reader_packed.l0]) (ev_neg (by omega) ?_)
        rw [show m - i = 0 by omega, List.replicate_zero, List.append_nil, show i = m by omega]
        exact ev_some _
      | succ d ih =>
        intro i hi hd
        refine Ev.step (fun k => by rw [encode_reader_packed.l0]) ?_
        by_cases hlt : i < m
        · refine ev_pos (by omega) ?_
          have hmul2 : (i + 1) * w ≤ m * w := Nat.mul_le_mul (by omega) (Nat.le_refl _)
          rw [Nat.add_mul, Nat.one_mul] at hmul2
          have hlen : (((List.range i).map fun q => bv s (q * w) w) ++ List.replicate (m - i) 0).length = m := by simp; omega
          have := pk_l1 hs bad w hw (m : Int) (i : Int) i (i * w) (by omega) (by omega) (ups s m w, [], bad) w 0 (((List.range i).map fun q => bv s (q * w) w) ++ List.replicate (m - i) 0) (by omega) (by omega) (by omega) ?_ ?_
          · exact this
          · rw [List.getD, List.getElem?_append_right (by simp), List.getElem?_replicate, bv]
            split <;> rfl
          · rw [w64 (by omega) (by omega)]
            have hn := ih (i + 1) (by omega) (by omega)
            rw [Nat.add_mul, Nat.one_mul] at hn
            have e : (((List.range i).map fun q => bv s (q * w) w) ++ List.replicate (m - i) 0).set i (bv s (i * w) w) = ((List.range (i + 1)).map fun q => bv s (q * w) w) ++ List.replicate (m - (i + 1)) 0 := by
              rw [List.set_append_right _ _ (by simp), List.range_succ, List.map_append, show m - i = (m - (i + 1)) + 1 by omega, List.replicate_succ]
              simp
            rw [e]
            exact hn
        · refine ev_neg (by omega) ?_
          rw [show m - i = 0 by omega, List.replicate_zero, List.append_nil, show i = m by omega]
          exact ev_some _
    have := key m 0 (by omega) (by omega)
    simpa using this
  · rw [if_neg hl]
    exact ev_neg (by omega) (ev_some _)
theorem ups_range {s : List Int} {m w : Nat} : ∀ v ∈ ups s m w, 0 ≤ v ∧ v < 2 ^ w := by
  intro v hv
  obtain ⟨i, _, rfl⟩ := List.mem_map.1 hv
  exact bv_bound _ _ _
/-- What was packed is read. -/
theorem bitN_pb {bs : List Int} (hb : ∀ b ∈ bs, 0 ≤ b ∧ b ≤ 1) {p : Nat} (hp : p < bs.length) : bitN (pb bs) p = bs.getD p 0 := by
  have e : (pb bs).getD (p / 8) 0 = byteN bs (p / 8) := by simp [List.getD, pb_get (show p / 8 < (bs.length + 7) / 8 by omega)]
  unfold bitN
  rw [e]
  have hq : p = 8 * (p / 8) + p % 8 := by omega
  have h0 := getD_bit hb (8 * (p / 8))
  have h1 := getD_bit hb (8 * (p / 8) + 1)
  have h2 := getD_bit hb (8 * (p / 8) + 2)
  have h3 := getD_bit hb (8 * (p / 8) + 3)
  have h4 := getD_bit hb (8 * (p / 8) + 4)
  have h5 := getD_bit hb (8 * (p / 8) + 5)
  have h6 := getD_bit hb (8 * (p / 8) + 6)
  have h7 := getD_bit hb (8 * (p / 8) + 7)
  have hc : p % 8 = 0 ∨ p % 8 = 1 ∨ p % 8 = 2 ∨ p % 8 = 3 ∨ p % 8 = 4 ∨ p % 8 = 5 ∨ p % 8 = 6 ∨ p % 8 = 7 := by omega
  rw [show bs.getD p 0 = bs.getD (8 * (p / 8) + p % 8) 0 by rw [← hq]]
  unfold byteN
  generalize p / 8 = I at *
  rcases hc with h | h | h | h | h | h | h | h <;> rw [h] <;> (try simp only [Nat.add_zero]) <;> omega
theorem allbits_get {l : List Int} {w i j : Nat} (hi : i < l.length) (hj : j < w) : (allbits l w).getD (i * w + j) 0 = l.getD i 0 / 2 ^ (w - 1 - j) % 2 := by
  have hb : ∀ (v : Int) (w j : Nat), j < w → (bitsOf v w).getD j 0 = v / 2 ^ (w - 1 - j) % 2 := by
    intro v w
    induction w with
    | zero => intro j h; omega
    | succ w ih =>
      intro j h
      cases j with
      | zero => simp [bitsOf, List.getD]
      | succ j =>
        have := ih j (by omega)
        rw [show w + 1 - 1 - (j + 1) = w - 1 - j by omega, ← this]
        simp [bitsOf, List.getD]
  induction l generalizing i with
  | nil => simp at hi
  | cons v l ih =>
    unfold allbits
    rw [List.flatMap_cons]
    cases i with
    | zero =>
      rw [Nat.zero_mul, Nat.zero_add, List.getD, List.getElem?_append_left (by rw [bitsOf_len]; exact hj)]
      have := hb v w j hj
      rw [List.getD] at this
      simpa using this
    | succ i =>
      have := ih (i := i) (by simpa using hi)
      rw [List.getD, List.getElem?_append_right (by rw [bitsOf_len, Nat.add_mul]; omega), bitsOf_len, show (i + 1) * w + j - w = i * w + j by rw [Nat.add_mul]; omega]
      rw [List.getD] at this
      simpa [allbits] using this
theorem ups_pb {l : List Int} {w : Nat} (hv : ∀ v ∈ l, 0 ≤ v ∧ v < 2 ^ w) : ups (pb (allbits l w)) l.length w = l := by
  refine List.ext_getElem? fun i => ?_
  by_cases hi : i < l.length
  · have hm : i * w + w ≤ l.length * w := by
      have : (i + 1) * w ≤ l.length * w := Nat.mul_le_mul (by omega) (Nat.le_refl _)
      rwa [Nat.add_mul, Nat.one_mul] at this
    have hvi := hv _ (mem_getD hi)
    have key : ∀ j, j ≤ w → bv (pb (allbits l w)) (i * w) j = l.getD i 0 / 2 ^ (w - j) := by
      intro j
      induction j with
      | zero =>
        intro _
        rw [bv, Nat.sub_zero, Int.ediv_eq_zero_of_lt hvi.1 hvi.2]
      | succ j ih =>
        intro hj
        rw [bv, ih (by omega), bitN_pb (allbits_bits _ _) (by rw [allbits_len]; omega), allbits_get hi (by omega)]
        rw [show w - j = (w - (j + 1)) + 1 by omega, Int.pow_succ, show w - 1 - j = w - (j + 1) by omega]
        have hp : (0 : Int) < 2 ^ (w - (j + 1)) := Int.pow_pos (by omega)
        rw [← Int.ediv_ediv_of_nonneg (by omega)]
        omega
    have h2 := key w (Nat.le_refl _)
    rw [Nat.sub_self, Int.pow_zero, Int.ediv_one] at h2
    simp only [ups, List.getElem?_map, List.getElem?_range hi, Option.map_some, h2]
    simp [List.getD, hi]
  · rw [List.getElem?_eq_none (by rw [ups_len]; omega), List.getElem?_eq_none (by omega)]
end Go.Proofs.Ythhdihnaicggiaa.C
