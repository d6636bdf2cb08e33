/- Counts, numbers and runs of bools in plain Lean: what the program and the reference write and read. No conditions beyond those in each theorem. -/
import Derived.Test.YthhdihnaicggiaaC1
import Derived.Test.YthhdihnaicggiaaC2
import Derived.Test.YthhdihnaicggiaaC3
import Derived.Test.YthhdihnaicggiaaC4
import Derived.Test.YthhdihnaicggiaaC5
import Derived.Test.YthhdihnaicggiaaC6
import Derived.Test.YthhdihnaicggiaaC7
import Derived.Test.YthhdihnaicggiaaC8
import Derived.Test.YthhdihnaicggiaaC9
import Derived.Test.YthhdihnaicggiaaC10
import Derived.Test.YthhdihnaicggiaaC11
import Derived.Test.YthhdihnaicggiaaC12
import Derived.Laws.BitsLemmas
namespace Go.Proofs.Ythhdihnaicggiaa.C
open Go.RowKit Go.Proofs.YthhdihnaicggiaaW.PrintWords Go.Proofs.YthhdihnaicggiaaW.PrintLast Go.Proofs.YthhdihnaicggiaaW.PrintMore
set_option linter.unusedVariables false
set_option linter.unusedSimpArgs false

/-! ### rounds -/
theorem ev_uniq {α : Type} {g : Nat → Option α} {a b : α} (h : Ev g a) (h' : Ev g b) : a = b := by
  obtain ⟨K, h⟩ := h
  obtain ⟨K', h'⟩ := h'
  have h1 := h (max K K') (by omega)
  have h2 := h' (max K K') (by omega)
  exact Option.some.inj (h1.symm.trans h2)
theorem ev_pos {α : Type} {c : Prop} [Decidable c] {A B : Nat → Option α} {r : α} (hc : c) (h : Ev A r) : Ev (fun k => if c then A k else B k) r := h.congr (fun k => by rw [if_pos hc])
theorem ev_neg {α : Type} {c : Prop} [Decidable c] {A B : Nat → Option α} {r : α} (hc : ¬ c) (h : Ev B r) : Ev (fun k => if c then A k else B k) r := h.congr (fun k => by rw [if_neg hc])
theorem ev_some {α : Type} (r : α) : Ev (fun _ => some r) r := Ev.now r
theorem ev_eq {α : Type} {g : Nat → Option α} {a b : α} (h : Ev g a) (e : a = b) : Ev g b := e ▸ h

/-! ### whole numbers -/
theorem w64 {n : Int} (h0 : -9223372036854775808 ≤ n) (h1 : n ≤ 9223372036854775807) : wrap64 n = n := by unfold wrap64; omega
theorem u64w (n : Int) : IntKind.u64.wrap n = n % 18446744073709551616 := by simp [IntKind.wrap, IntKind.bits, IntKind.signed]
theorem and127 {x : Int} (h0 : 0 ≤ x) (h1 : x < 9223372036854775808) : Go.bits .and .i64 x 127 = x % 128 :=
  bits_mask .i64 63 (by decide) (fun n a b => by rw [IntKind.wrap_i64]; omega) 7 (by decide) x h0 h1
theorem and127u {x : Int} (h0 : 0 ≤ x) (h1 : x < 18446744073709551616) : Go.bits .and .u64 x 127 = x % 128 :=
  bits_mask .u64 64 (by decide) (fun n a b => by rw [u64w]; omega) 7 (by decide) x h0 h1
theorem or128u {x : Int} (h0 : 0 ≤ x) (h1 : x < 128) : Go.bits .or .u64 x 128 = x + 128 := by
  obtain ⟨a, rfl⟩ := Int.eq_ofNat_of_zero_le h0
  have ha : a < 2 ^ 7 := by omega
  have := (bits_nat .u64 64 (by decide) (fun n a b => by rw [u64w]; omega) a 128 (by omega) (by decide)).2
  have h2 : 128 + a = 128 ||| a := by
    have := Nat.two_pow_add_eq_or_of_lt ha 1
    simpa using this
  rw [show ((128 : Int)) = ((128 : Nat) : Int) from rfl, this, Nat.or_comm, ← h2]
  omega
theorem or128i {x : Int} (h0 : 0 ≤ x) (h1 : x < 128) : Go.bits .or .i64 x 128 = x + 128 := by
  obtain ⟨a, rfl⟩ := Int.eq_ofNat_of_zero_le h0
  have ha : a < 2 ^ 7 := by omega
  have := (bits_nat .i64 63 (by decide) (fun n a b => by rw [IntKind.wrap_i64]; omega) a 128 (by omega) (by decide)).2
  have h2 : 128 + a = 128 ||| a := by
    have := Nat.two_pow_add_eq_or_of_lt ha 1
    simpa using this
  rw [show ((128 : Int)) = ((128 : Nat) : Int) from rfl, this, Nat.or_comm, ← h2]
  omega

/-! ### counts -/
/-- A count's bytes. -/
def cnt (n : Nat) : List Int := if h : n > 127 then ((n % 128 + 128 : Nat) : Int) :: cnt (n / 128) else [(n : Int)]
termination_by n
decreasing_by omega
theorem cnt_big {n : Nat} (h : n > 127) : cnt n = ((n % 128 + 128 : Nat) : Int) :: cnt (n / 128) := by rw [cnt]; simp [h]
theorem cnt_small {n : Nat} (h : ¬ n > 127) : cnt n = [(n : Int)] := by rw [cnt]; simp [h]
theorem cnt_pos (n : Nat) : 0 < (cnt n).length := by
  by_cases h : n > 127
  · rw [cnt_big h]; simp
  · rw [cnt_small h]; simp
theorem cnt_len (m : Nat) : ∀ n, n < 128 ^ (m + 1) → (cnt n).length ≤ m + 1 := by
  induction m with
  | zero =>
    intro n hn
    rw [cnt_small (by omega)]
    simp
  | succ m ih =>
    intro n hn
    by_cases h : n > 127
    · rw [cnt_big h, List.length_cons]
      have : n / 128 < 128 ^ (m + 1) := Nat.div_lt_of_lt_mul (by rw [Nat.pow_succ, Nat.mul_comm] at hn; exact hn)
      have := ih _ this
      omega
    · rw [cnt_small h]; simp
theorem cnt_len10 {n : Nat} (h : n < 18446744073709551616) : (cnt n).length ≤ 10 := cnt_len 9 n (Nat.lt_of_lt_of_le h (by decide))
theorem cnt_byte (n : Nat) : ∀ x ∈ cnt n, 0 ≤ x ∧ x ≤ 255 := by
  induction n using Nat.strongRecOn with
  | _ n ih =>
    by_cases h : n > 127
    · rw [cnt_big h]
      intro x hx
      rcases List.mem_cons.1 hx with rfl | hx
      · omega
      · exact ih (n / 128) (by omega) x hx
    · rw [cnt_small h]
      intro x hx
      rw [List.mem_singleton.1 hx]
      omega
theorem count_l0 (m : Nat) : ∀ (n : Nat) (l : List Int), n < 128 ^ (m + 1) → n < 18446744073709551616 → l.length + m + 1 ≤ 140737488355328 → Ev (fun k => encode_count.l0 k l (n : Int)) (l ++ cnt n) := by
  induction m with
  | zero =>
    intro n l hn hb hl
    refine Ev.step (fun k => by rw [encode_count.l0]) ?_
    refine ev_neg (by omega) (ev_pos (by omega) ?_)
    rw [cnt_small (by omega), Int.emod_eq_of_lt (by omega) (by omega)]
    exact ev_some _
  | succ m ih =>
    intro n l hn hb hl
    refine Ev.step (fun k => by rw [encode_count.l0]) ?_
    by_cases h : n > 127
    · refine ev_pos (by omega) (ev_pos (by omega) ?_)
      rw [and127u (by omega) (by omega), or128u (by omega) (by omega), cnt_big h]
      have hd : n / 128 < 128 ^ (m + 1) := Nat.div_lt_of_lt_mul (by rw [Nat.pow_succ, Nat.mul_comm] at hn; exact hn)
      have e1 : ((n : Int) % 128 + 128) % 256 = ((n % 128 + 128 : Nat) : Int) := by omega
      have e2 : (n : Int) / 128 = ((n / 128 : Nat) : Int) := by omega
      rw [e1, e2]
      have := ih (n / 128) (l ++ [((n % 128 + 128 : Nat) : Int)]) hd (by omega) (by simp; omega)
      simpa using this
    · refine ev_neg (by omega) (ev_pos (by omega) ?_)
      rw [cnt_small h, Int.emod_eq_of_lt (by omega) (by omega)]
      exact ev_some _
theorem count_ev {n : Nat} {l : List Int} (hn : n < 18446744073709551616) (hl : l.length ≤ 140737488000000) : Ev (fun k => encode_count.f k l (n : Int)) (l ++ cnt n) :=
  count_l0 9 n l (Nat.lt_of_lt_of_le hn (by decide)) hn (by omega)
/-! ### cells of rows -/
theorem rdD (x : List Int) (i : Nat) : rd x (i : Int) = x.getD i 0 := by simp [rd]
theorem getD_drop_head {α : Type} {x : List α} {i : Nat} {d : α} (h : i < x.length) : x.drop i = x.getD i d :: x.drop (i + 1) := by
  rw [List.drop_eq_getElem_cons h]
  simp [List.getD, h]
end Go.Proofs.Ythhdihnaicggiaa.C
