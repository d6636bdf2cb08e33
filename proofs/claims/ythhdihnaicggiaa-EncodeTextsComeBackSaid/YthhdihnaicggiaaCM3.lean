/- Reading counts and runs of bools, in plain Lean. No conditions beyond those in each theorem. -/
import Derived.Test.YthhdihnaicggiaaCM1
import Derived.Lib.Bytes
namespace Go.Proofs.Ythhdihnaicggiaa.C
open Go.RowKit Go.Proofs.YthhdihnaicggiaaW.PrintWords Go.Proofs.YthhdihnaicggiaaW.PrintLast Go.Proofs.YthhdihnaicggiaaW.PrintMore
set_option linter.unusedVariables false
set_option linter.unusedSimpArgs false

/-! ### bytes that are equal -/
theorem bytesOf_inj : ∀ {a b : List Int}, (∀ x ∈ a, 0 ≤ x ∧ x ≤ 255) → (∀ x ∈ b, 0 ≤ x ∧ x ≤ 255) → Lib.bytesOf a = Lib.bytesOf b → a = b
  | [], [], _, _, _ => rfl
  | [], _ :: _, _, _, h => by simp [Lib.bytesOf] at h
  | _ :: _, [], _, _, h => by simp [Lib.bytesOf] at h
  | x :: a, y :: b, ha, hb, h => by
    simp only [Lib.bytesOf, List.map_cons, List.cons.injEq] at h
    have h1 := ha x (List.mem_cons_self ..)
    have h2 := hb y (List.mem_cons_self ..)
    have h3 := congrArg UInt8.toNat h.1
    simp only [UInt8.toNat_ofNat'] at h3
    have h4 := bytesOf_inj (fun z hz => ha z (List.mem_cons_of_mem _ hz)) (fun z hz => hb z (List.mem_cons_of_mem _ hz)) h.2
    rw [h4, show x = y by omega]
theorem bytesEqual_eq {a b : List Int} (ha : ∀ x ∈ a, 0 ≤ x ∧ x ≤ 255) (hb : ∀ x ∈ b, 0 ≤ x ∧ x ≤ 255) : bytes_Equal.f a b = some (decide (a = b)) := by
  unfold bytes_Equal.f
  rw [Lib.strOfNums_toList, Lib.strOfNums_toList]
  by_cases h : a = b
  · subst h
    simp
  · have h' : Lib.bytesOf a ≠ Lib.bytesOf b := fun h' => h (bytesOf_inj ha hb h')
    simp [h, h']

theorem eqB_l0 (x y : List Int) (hl : x.length = y.length) (hb : x.length ≤ 140737488355328) (d : Nat) : ∀ i : Nat, i ≤ x.length → x.length - i ≤ d → Ev (fun k => slices_Equal_byte_byte.l0 k x y (x.length : Int) (i : Int)) (decide (x.drop i = y.drop i)) := by
  induction d with
  | zero =>
    intro i hi hd
    refine Ev.step (fun k => by rw [slices_Equal_byte_byte.l0]) (ev_neg (by omega) ?_)
    rw [List.drop_eq_nil_of_le (show x.length ≤ i by omega), List.drop_eq_nil_of_le (show y.length ≤ i by omega)]
    exact ev_some _
  | succ d ih =>
    intro i hi hd
    refine Ev.step (fun k => by rw [slices_Equal_byte_byte.l0]) ?_
    by_cases h : i < x.length
    · refine ev_pos (by omega) (ev_pos (by omega) (ev_pos (by omega) (ev_pos (by omega) ?_)))
      rw [rdD, rdD, getD_drop_head (d := 0) h, getD_drop_head (d := 0) (show i < y.length by omega)]
      by_cases e : x.getD i 0 = y.getD i 0
      · refine ev_pos e ?_
        rw [w64 (by omega) (by omega)]
        exact ev_eq (ih (i + 1) (by omega) (by omega)) (by rw [e]; simp)
      · exact ev_neg e (ev_eq (ev_some _) (by simp only [List.cons.injEq, e, false_and, decide_false]))
    · refine ev_neg (by omega) ?_
      rw [List.drop_eq_nil_of_le (show x.length ≤ i by omega), List.drop_eq_nil_of_le (show y.length ≤ i by omega)]
      exact ev_some _
theorem eqB_ev {x y : List Int} (hb : x.length ≤ 140737488355328) : Ev (fun k => slices_Equal_byte_byte.f k x y) (decide (x = y)) := by
  unfold slices_Equal_byte_byte.f
  by_cases hl : x.length = y.length
  · exact ev_pos (by omega) (eqB_l0 x y hl hb _ 0 (by omega) (Nat.le_refl _))
  · exact ev_neg (by omega) (ev_eq (ev_some _) (by
      have : x ≠ y := fun h => hl (by rw [h])
      simp [this]))
/-! ### reading a count -/
/-- What a count's bytes are, read: at most m more of them, i read. -/
def rc : Nat → Nat → Int → List Int → Int × List Int × Bool
  | 0, _, _, s => (0, s, true)
  | _ + 1, _, v, [] => (v, [], true)
  | m + 1, i, v, b :: t => if b < 128 then (v + b % 128 * 128 ^ i, t, false) else rc m (i + 1) (v + b % 128 * 128 ^ i) t
theorem pw7 (i : Nat) : (128 : Nat) ^ i = 2 ^ (7 * i) := by rw [Nat.pow_mul]
theorem orshl {v b : Int} {i : Nat} (h0 : 0 ≤ v) (hv : v < 128 ^ i) (b0 : 0 ≤ b) (b1 : b ≤ 255) (hi : i < 8) : Go.bits .or .i64 v (shl .i64 (Go.bits .and .i64 b 127) ((7 * i : Nat) : Int)) = v + b % 128 * 128 ^ i := by
  rw [and127 b0 (by omega)]
  obtain ⟨a, rfl⟩ := Int.eq_ofNat_of_zero_le h0
  obtain ⟨c, hc⟩ := Int.eq_ofNat_of_zero_le (show 0 ≤ b % 128 by omega)
  have hc1 : c < 128 := by omega
  rw [hc]
  have ha : a < 2 ^ (7 * i) := by
    rw [← pw7]
    exact_mod_cast hv
  have hp : (2 : Nat) ^ (7 * i) ≤ 2 ^ 49 := Nat.pow_le_pow_right (by omega) (by omega)
  have hm : 2 ^ (7 * i) * c ≤ 2 ^ 49 * 127 := Nat.mul_le_mul hp (by omega)
  have e : shl .i64 ((c : Nat) : Int) ((7 * i : Nat) : Int) = ((2 ^ (7 * i) * c : Nat) : Int) := by
    unfold shl
    rw [Int.toNat_natCast, Nat.min_eq_left (by show 7 * i ≤ 64; omega)]
    have e2 : (c : Int) * 2 ^ (7 * i) = ((2 ^ (7 * i) * c : Nat) : Int) := by
      rw [Int.natCast_mul, Int.natCast_pow, Int.mul_comm]
      rfl
    rw [e2, IntKind.wrap_i64]
    omega
  rw [e, (bits_nat .i64 63 (by decide) (fun n a b => by rw [IntKind.wrap_i64]; omega) a _ (by omega) (by omega)).2, Nat.or_comm, ← Nat.two_pow_add_eq_or_of_lt ha c]
  rw [show (128 : Int) ^ i = ((2 ^ (7 * i) : Nat) : Int) by rw [← pw7, Int.natCast_pow]; rfl]
  rw [Int.natCast_add, Int.natCast_mul, Int.mul_comm, Int.add_comm]
theorem v_step {v b : Int} {i : Nat} (h0 : 0 ≤ v) (hv : v < 128 ^ i) : 0 ≤ v + b % 128 * 128 ^ i ∧ v + b % 128 * 128 ^ i < 128 ^ (i + 1) := by
  have hp : (0 : Int) < 128 ^ i := Int.pow_pos (by omega)
  have h1 : (0 : Int) ≤ b % 128 * 128 ^ i := Int.mul_nonneg (by omega) (by omega)
  have h2 : b % 128 * 128 ^ i ≤ 127 * 128 ^ i := Int.mul_le_mul_of_nonneg_right (by omega) (by omega)
  rw [Int.pow_succ]
  omega
theorem byte_nil : encode_reader_byte.f [] false = some (0, [], true) := by simp [encode_reader_byte.f, wrap64]
theorem byte_cons {b : Int} {t : List Int} (h0 : 0 ≤ b) (h1 : b ≤ 255) : encode_reader_byte.f (b :: t) false = some (b, t, false) := by
  simp [encode_reader_byte.f, w64 (show -9223372036854775808 ≤ b by omega) (show b ≤ 9223372036854775807 by omega)]
theorem orshl0 {v : Int} {i : Nat} (h0 : 0 ≤ v) (hv : v < 128 ^ i) (hi : i < 8) : Go.bits .or .i64 v (shl .i64 (Go.bits .and .i64 0 127) ((7 * i : Nat) : Int)) = v := by
  rw [orshl h0 hv (by omega) (by omega) hi]; simp
theorem rc_ev (m : Nat) : ∀ (i : Nat) (v : Int) (s : List Int), i + m = 8 → 0 ≤ v → v < 128 ^ i → (∀ x ∈ s, 0 ≤ x ∧ x ≤ 255) → Ev (fun k => encode_reader_count.l0 k v (i : Int) s false) (rc m i v s) := by
  induction m with
  | zero =>
    intro i v s hi h0 hv hs
    refine Ev.step (fun k => by rw [encode_reader_count.l0]) (ev_neg (by omega) ?_)
    exact ev_some _
  | succ m ih =>
    intro i v s hi h0 hv hs
    have e7 : wrap64 (7 * (i : Int)) = ((7 * i : Nat) : Int) := by rw [w64 (by omega) (by omega)]; omega
    refine Ev.step (fun k => by rw [encode_reader_count.l0]) (ev_pos (by omega) ?_)
    cases s with
    | nil =>
      rw [byte_nil, e7]
      refine Ev.bind (ev_some _) (ev_pos (by omega) (ev_pos (show (0 : Int) < 128 by omega) ?_))
      show Ev (fun k => some (Go.bits .or .i64 v (shl .i64 (Go.bits .and .i64 0 127) ((7 * i : Nat) : Int)), ([] : List Int), true)) (rc (m + 1) i v [])
      rw [orshl0 h0 hv (by omega)]
      exact ev_some _
    | cons b t =>
      have hb := hs b (List.mem_cons_self ..)
      rw [byte_cons hb.1 hb.2, e7]
      refine Ev.bind (ev_some _) (ev_pos (by omega) ?_)
      show Ev (fun k => if b < 128 then some (Go.bits .or .i64 v (shl .i64 (Go.bits .and .i64 b 127) ((7 * i : Nat) : Int)), t, false) else encode_reader_count.l0 k (Go.bits .or .i64 v (shl .i64 (Go.bits .and .i64 b 127) ((7 * i : Nat) : Int))) (wrap64 ((i : Int) + 1)) t false) (rc (m + 1) i v (b :: t))
      rw [orshl h0 hv hb.1 hb.2 (by omega)]
      by_cases hlt : b < 128
      · exact ev_pos hlt (ev_eq (ev_some _) (by rw [rc, if_pos hlt]))
      · refine ev_neg hlt ?_
        rw [rc, if_neg hlt, w64 (by omega) (by omega)]
        have hst := v_step (b := b) h0 hv
        exact ih (i + 1) _ t (by omega) hst.1 hst.2 (fun x hx => hs x (List.mem_cons_of_mem _ hx))
theorem icount_ev {s : List Int} (hs : ∀ x ∈ s, 0 ≤ x ∧ x ≤ 255) : Ev (fun k => encode_reader_count.f k s false) (rc 8 0 0 s) :=
  rc_ev 8 0 0 s rfl (by omega) (by simp) hs
theorem rc_val (m : Nat) : ∀ (i : Nat) (v : Int) (s : List Int), 0 ≤ v → v < 128 ^ i → 0 ≤ (rc m i v s).1 ∧ (rc m i v s).1 < 128 ^ (i + m) := by
  induction m with
  | zero =>
    intro i v s h0 hv
    rw [rc]
    exact ⟨by omega, Int.pow_pos (by omega)⟩
  | succ m ih =>
    intro i v s h0 hv
    have up : ∀ j : Nat, i ≤ j → (128 : Int) ^ i ≤ 128 ^ j := fun j hj => by
      have := Nat.pow_le_pow_right (n := 128) (by omega) hj
      exact_mod_cast this
    cases s with
    | nil =>
      rw [rc]
      have := up (i + (m + 1)) (by omega)
      exact ⟨h0, by show v < _; omega⟩
    | cons b t =>
      have hst := v_step (b := b) h0 hv
      rw [rc]
      split
      · have h2 : (128 : Int) ^ (i + 1) ≤ 128 ^ (i + (m + 1)) := by
          have := Nat.pow_le_pow_right (n := 128) (by omega) (show i + 1 ≤ i + (m + 1) by omega)
          exact_mod_cast this
        exact ⟨hst.1, by show _ < _; omega⟩
      · have := ih (i + 1) _ t hst.1 hst.2
        rw [show i + (m + 1) = i + 1 + m by omega]
        exact this
theorem rc_suf (m : Nat) : ∀ (i : Nat) (v : Int) (s : List Int), ∃ n, (rc m i v s).2.1 = s.drop n ∧ (0 < m → s ≠ [] → 0 < n ∧ (s.drop n).length < s.length) := by
  induction m with
  | zero => exact fun i v s => ⟨0, by simp [rc], fun h => by omega⟩
  | succ m ih =>
    intro i v s
    cases s with
    | nil => exact ⟨0, by simp [rc], fun _ h => absurd rfl h⟩
    | cons b t =>
      rw [rc]
      split
      · exact ⟨1, by simp, fun _ _ => by simp⟩
      · obtain ⟨n, h, _⟩ := ih (i + 1) (v + b % 128 * 128 ^ i) t
        exact ⟨n + 1, by rw [h]; simp, fun _ _ => by simp; omega⟩
theorem rc_cnt (m : Nat) : ∀ (i : Nat) (v : Int) (n : Nat) (rest : List Int), n < 128 ^ (m + 1) → rc (m + 1) i v (cnt n ++ rest) = (v + n * 128 ^ i, rest, false) := by
  induction m with
  | zero =>
    intro i v n rest hn
    rw [cnt_small (by omega), List.singleton_append, rc, if_pos (by omega), Int.emod_eq_of_lt (by omega) (by omega)]
  | succ m ih =>
    intro i v n rest hn
    by_cases h : n > 127
    · rw [cnt_big h, List.cons_append, rc, if_neg (by omega)]
      have hd : n / 128 < 128 ^ (m + 1) := Nat.div_lt_of_lt_mul (by rw [Nat.pow_succ, Nat.mul_comm] at hn; exact hn)
      rw [ih (i + 1) _ (n / 128) rest hd]
      have e1 : ((n % 128 + 128 : Nat) : Int) % 128 = ((n % 128 : Nat) : Int) := by omega
      rw [e1, Int.pow_succ, ← Int.mul_assoc, Int.mul_right_comm, Int.add_assoc, ← Int.add_mul]
      rw [show ((n % 128 : Nat) : Int) + ((n / 128 : Nat) : Int) * 128 = (n : Int) by omega]
    · rw [cnt_small h, List.singleton_append, rc, if_pos (by omega), Int.emod_eq_of_lt (by omega) (by omega)]
theorem rc_cnt8 {n : Nat} (rest : List Int) (hn : n < 72057594037927936) : rc 8 0 0 (cnt n ++ rest) = ((n : Int), rest, false) := by
  rw [rc_cnt 7 0 0 n rest (by omega)]
  simp
end Go.Proofs.Ythhdihnaicggiaa.C
